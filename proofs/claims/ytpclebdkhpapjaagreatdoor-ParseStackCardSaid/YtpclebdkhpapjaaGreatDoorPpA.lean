/- Proved here: a plain parser. Conditions: those of each theorem; no statement of the seat is proved in this text. -/
import Derived.Test.YtpclebdkhpapjaaGreatDoorAbF
/- The parser of queries,plain. Conditions: none. -/
set_option linter.unusedSimpArgs false
set_option linter.unusedVariables false
set_option linter.unusedSectionVars false
namespace Go.Ab.PP
structure Tk where
 kind:Int
 text:List UInt8
 n:Int
 pos:Int
structure Nd where
 op:Int
 n:Int
 col:List UInt8
deriving DecidableEq
abbrev Fl:=Int × Int
abbrev R (α:Type):=Except Fl (α × Nat)
abbrev Lvl:=List (List UInt8 × Int)
def opN (o:Int):Nd:=⟨o,0,[]⟩
def look (l:Lvl)(s:List UInt8):Option Int:=(l.find? fun p=>p.1=s).map (·.2)
section
variable (ts:List Tk)(en:Int)
def atP (i:Nat):Int:=match ts[i]? with | some t=>t.pos | none=>en
def txt (i:Nat):List UInt8:=match ts[i]? with | some t=>if t.kind=2∨t.kind=5 then t.text else [] | none=>[]
def sgn (i:Nat):List UInt8:=match ts[i]? with | some t=>if t.kind=5 then t.text else [] | none=>[]
def isK (k:Int)(i:Nat):Bool:=match ts[i]? with | some t=>t.kind=k | none=>false
def sees (s:List UInt8)(i:Nat):Bool:=match ts[i]? with | some t=>(t.kind=2∨t.kind=5)∧t.text=s | none=>false
def syn {α:Type}(i:Nat):R α:=.error (11,atP ts en i)
def must (s:List UInt8)(i:Nat):R Unit:=if sees ts s i then .ok ((),i+1) else syn ts en i
def jhr (k:Int)(i:Nat):R Tk:=match ts[i]? with | some t=>if t.kind=k then .ok (t,i+1) else syn ts en i | none=>syn ts en i
def jfA (i:Nat):R (List UInt8):=match jhr ts en 1 i with | .ok (t,j)=>.ok (t.text,j) | .error e=>.error e
def numP (i:Nat):R Int:=match jhr ts en 3 i with | .ok (t,j)=>.ok (t.n,j) | .error e=>.error e
def intP (i:Nat):R Int:=if sees ts [45] i then (match numP ts en (i+1) with | .ok (n,j)=>.ok (-n,j) | .error e=>.error e) else numP ts en i
def posP (i:Nat):R Int:=match numP ts en i with | .ok (n,j)=>if n=0 then .error (2,atP ts en i) else .ok (n,j) | .error e=>.error e
def jeJ (sub:Nat→Option (R (List Nd)))(lv:Lvl):Nat→List Nd→Nat→Option (R (List Nd))
 | 0,_,_=>none
 | m+1,out,i=>match look lv (txt ts i) with
  | none=>some (.ok (out,i))
  | some op=>match sub (i+1) with
   | none=>none
   | some (.error e)=>some (.error e)
   | some (.ok (r,j))=>jeJ sub lv m (out++r++[opN op]) j
def jcL (operand:Nat→Option (R (List Nd))):List Lvl→Nat→Option (R (List Nd))
 | [],i=>operand i
 | lv::ls,i=>match jcL operand ls i with
  | none=>none
  | some (.error e)=>some (.error e)
  | some (.ok (out,j))=>jeJ ts (jcL operand ls) lv (ts.length+1) out j
def sumL:List Lvl:=[[([43],4),([45],5)],[([42],6)]]
def jgO:List Lvl:=[[([111,114],16)],[([97,110,100],15)]]
def cmpL:Lvl:=[([61],9),([33,61],10),([60],11),([60,61],12),([62],13),([62,61],14)]
def wIf:List UInt8:=[105,102]
def jtA:List UInt8:=[116,104,101,110]
def jtB:List UInt8:=[101,108,115,101]
def wNot:List UInt8:=[110,111,116]
def long {α:Type}(i:Nat):R α:=.error (4,atP ts en i)
inductive Sy where
 | expr | unary | cond | neg | compare
def go:Nat→Sy→Nat→Nat→Option (R (List Nd))
  | 0,_,_,_=>none
  | f+1,.expr,o,i =>
    if sees ts wIf i then
      if 50≤o then some (long ts en i) else
      match go f .cond (o+1) (i+1) with
      | none=>none
      | some (.error e)=>some (.error e)
      | some (.ok (c,j))=>match must ts en jtA j with
        | .error e=>some (.error e)
        | .ok (_,j)=>match go f .expr (o+1) j with
          | none=>none
          | some (.error e)=>some (.error e)
          | some (.ok (a,j))=>match must ts en jtB j with
            | .error e=>some (.error e)
            | .ok (_,j)=>match go f .expr (o+1) j with
              | none=>none
              | some (.error e)=>some (.error e)
              | some (.ok (b,j))=>some (.ok (c++a++b++[opN 8],j))
    else jcL ts (go f .unary o) sumL i
  | f+1,.unary,o,i =>
    if sees ts [45] i then
      if 50≤o then some (long ts en i) else
      match go f .unary (o+1) (i+1) with
      | none=>none
      | some (.error e)=>some (.error e)
      | some (.ok (a,j))=>some (.ok (a++[opN 7],j))
    else if sees ts [40] i then
      if 50≤o then some (long ts en i) else
      match go f .expr (o+1) (i+1) with
      | none=>none
      | some (.error e)=>some (.error e)
      | some (.ok (a,j))=>match must ts en [41] j with
        | .error e=>some (.error e)
        | .ok (_,j)=>some (.ok (a,j))
    else match ts[i]? with
      | some t=>if t.kind=3 then some (.ok ([⟨1,t.n,[]⟩],i+1)) else if t.kind=1 then some (.ok ([⟨2,0,t.text⟩],i+1)) else some (syn ts en i)
      | none=>some (syn ts en i)
  | f+1,.cond,o,i=>jcL ts (go f .neg o) jgO i
  | f+1,.neg,o,i =>
    if sees ts wNot i then
      if 50≤o then some (long ts en i) else
      match go f .neg (o+1) (i+1) with
      | none=>none
      | some (.error e)=>some (.error e)
      | some (.ok (a,j))=>some (.ok (a++[opN 17],j))
    else if sees ts [91] i then
      if 50≤o then some (long ts en i) else
      match go f .cond (o+1) (i+1) with
      | none=>none
      | some (.error e)=>some (.error e)
      | some (.ok (a,j))=>match must ts en [93] j with
        | .error e=>some (.error e)
        | .ok (_,j)=>some (.ok (a,j))
    else go f .compare o i
  | f+1,.compare,o,i =>
    match go f .expr o i with
    | none=>none
    | some (.error e)=>some (.error e)
    | some (.ok (a,j))=>match look cmpL (sgn ts j) with
      | none=>some (syn ts en j)
      | some op=>match ts[j+1]? with
        | some t=>if t.kind=4∧(isK ts 1 i=true∧j=i+1)∧(op=9∨op=10) then some (.ok (a++[⟨3,0,t.text⟩,opN op],j+2)) else
          (match go f .expr o (j+1) with
            | none=>none
            | some (.error e)=>some (.error e)
            | some (.ok (b,k))=>some (.ok (a++b++[opN op],k)))
        | none=>(match go f .expr o (j+1) with
            | none=>none
            | some (.error e)=>some (.error e)
            | some (.ok (b,k))=>some (.ok (a++b++[opN op],k)))
end
section
variable {ts:List Tk}{en:Int}
theorem jcd {s:List UInt8}{i:Nat}(h:sees ts s i=true):i<ts.length:=by
 unfold sees at h
 split at h
 ·rename_i t ht; exact (Kz.1 ht).1
 ·simp at h
theorem jdz {s:List UInt8}{i j:Nat}{u:Unit}(h:must ts en s i=.ok (u,j)):j=i+1∧sees ts s i=true:=by
 unfold must at h
 split at h
 ·simp only [Except.ok.injEq,Kh,true_and] at h
  exact ⟨h.symm,by assumption⟩
 ·simp [syn] at h
def Adv (ts:List Tk)(f:Nat→Option (R (List Nd))):Prop:=∀ i out j,f i=some (.ok (out,j))→i<j∧j≤ts.length
theorem jhs {sub:Nat→Option (R (List Nd))}(hs:Adv ts sub)(lv:Lvl):∀ m out i r j,jeJ ts sub lv m out i=some (.ok (r,j))→i≤j∧(j=i∨j≤ts.length)
 | 0,out,i,r,j,h=>by simp [jeJ] at h
 | m+1,out,i,r,j,h=>by
  unfold jeJ at h
  split at h
  ·simp only [Kg,Except.ok.injEq,Kh] at h
   omega
  ·split at h
   ·simp at h
   ·simp at h
   ·rename_i r1 j1 he
    have h1:=hs _ _ _ he
    have h2:=jhs hs lv m _ _ _ _ h
    omega
theorem jde {op:Nat→Option (R (List Nd))}(ho:Adv ts op):∀ ls,Adv ts (jcL ts op ls)
 | [],i,out,j,h=>ho i out j h
 | lv::ls,i,out,j,h=>by
  unfold jcL at h
  split at h
  ·simp at h
  ·simp at h
  ·rename_i r1 j1 he
   have h1:=jde ho ls _ _ _ he
   have h2:=jhs (jde ho ls) lv _ _ _ _ _ h
   omega
theorem jgP {i:Nat}{t:Tk}(h:ts[i]? = some t):i<ts.length:=(Kz.1 h).1
theorem jpz {lv:Lvl}{i:Nat}{o:Int}(hl:look lv []=none)(h:look lv (txt ts i)=some o):i<ts.length:=by
 unfold txt at h
 split at h
 ·rename_i t ht; exact jgP ht
 ·rw [hl] at h; cases h
theorem jdY:∀ f sy o,Adv ts (go ts en f sy o)
 | 0,sy,o,i,out,j,h=>by simp [go] at h
 | f+1,.expr,o,i,out,j,h=>by
  unfold go at h
  split at h
  ·split at h
   ·simp [long] at h
   split at h
   ·simp at h
   ·simp at h
   rename_i c j1 h1
   have a1:=jdY f .cond (o+1) _ _ _ h1
   split at h
   ·simp at h
   rename_i j2 h2
   have a2:=jdz h2
   split at h
   ·simp at h
   ·simp at h
   rename_i a j3 h3
   have a3:=jdY f .expr (o+1) _ _ _ h3
   split at h
   ·simp at h
   rename_i j4 h4
   have a4:=jdz h4
   split at h
   ·simp at h
   ·simp at h
   rename_i b j5 h5
   have a5:=jdY f .expr (o+1) _ _ _ h5
   simp only [Kg,Except.ok.injEq,Kh] at h
   omega
  ·exact jde (jdY f .unary o) _ _ _ _ h
 | f+1,.unary,o,i,out,j,h=>by
  unfold go at h
  split at h
  ·split at h
   ·simp [long] at h
   split at h
   ·simp at h
   ·simp at h
   rename_i a j1 h1
   have a1:=jdY f .unary (o+1) _ _ _ h1
   simp only [Kg,Except.ok.injEq,Kh] at h
   omega
  split at h
  ·split at h
   ·simp [long] at h
   split at h
   ·simp at h
   ·simp at h
   rename_i a j1 h1
   have a1:=jdY f .expr (o+1) _ _ _ h1
   split at h
   ·simp at h
   rename_i j2 h2
   have a2:=jdz h2
   have:=jcd a2.2
   simp only [Kg,Except.ok.injEq,Kh] at h
   omega
  split at h
  ·rename_i t ht
   have:=jgP ht
   split at h
   ·simp only [Kg,Except.ok.injEq,Kh] at h
    omega
   split at h
   ·simp only [Kg,Except.ok.injEq,Kh] at h
    omega
   ·simp [syn] at h
  ·simp [syn] at h
 | f+1,.cond,o,i,out,j,h=>by
  unfold go at h
  exact jde (jdY f .neg o) _ _ _ _ h
 | f+1,.neg,o,i,out,j,h=>by
  unfold go at h
  split at h
  ·split at h
   ·simp [long] at h
   split at h
   ·simp at h
   ·simp at h
   rename_i a j1 h1
   have a1:=jdY f .neg (o+1) _ _ _ h1
   simp only [Kg,Except.ok.injEq,Kh] at h
   omega
  split at h
  ·split at h
   ·simp [long] at h
   split at h
   ·simp at h
   ·simp at h
   rename_i a j1 h1
   have a1:=jdY f .cond (o+1) _ _ _ h1
   split at h
   ·simp at h
   rename_i j2 h2
   have a2:=jdz h2
   have:=jcd a2.2
   simp only [Kg,Except.ok.injEq,Kh] at h
   omega
  ·exact jdY f .compare o _ _ _ h
 | f+1,.compare,o,i,out,j,h=>by
  unfold go at h
  split at h
  ·simp at h
  ·simp at h
  rename_i a j1 h1
  have a1:=jdY f .expr o _ _ _ h1
  split at h
  ·simp [syn] at h
  split at h
  ·rename_i t ht
   have:=jgP ht
   split at h
   ·simp only [Kg,Except.ok.injEq,Kh] at h
    omega
   split at h
   ·simp at h
   ·simp at h
   rename_i b k h2
   have a2:=jdY f .expr o _ _ _ h2
   simp only [Kg,Except.ok.injEq,Kh] at h
   omega
  ·split at h
   ·simp at h
   ·simp at h
   rename_i b k h2
   have a2:=jdY f .expr o _ _ _ h2
   simp only [Kg,Except.ok.injEq,Kh] at h
   omega
theorem jjB {sub:Nat→Option (R (List Nd))}(hs:Adv ts sub)(ht:∀ i,(sub i).isSome){lv:Lvl}(hl:look lv []=none):∀ m out i,ts.length<m+i∨ts.length<i→0<m→(jeJ ts sub lv m out i).isSome
 | 0,out,i,hm,h0=>by omega
 | m+1,out,i,hm,h0=>by
  unfold jeJ
  split
  ·rfl
  ·rename_i o ho
   have hi:=jpz hl ho
   have h1:=ht (i+1)
   split
   ·rename_i he; rw [he] at h1; simp at h1
   ·rfl
   ·rename_i r j he
    have h2:=hs _ _ _ he
    exact jjB hs ht hl m _ _ (by omega) (by omega)
theorem jfV {op:Nat→Option (R (List Nd))}(ha:Adv ts op)(ht:∀ i,(op i).isSome):∀ ls:List Lvl,(∀ lv∈ls,look lv []=none)→∀ i,(jcL ts op ls i).isSome
 | [],_,i=>ht i
 | lv::ls,hl,i=>by
  have ih:=jfV ha ht ls fun l h=>hl l (by simp [h])
  unfold jcL
  have h1:=ih i
  split
  ·rename_i he; rw [he] at h1; simp at h1
  ·rfl
  ·rename_i r j he
   exact jjB (jde ha ls) ih (hl lv (by simp)) _ _ _ (by omega) (by omega)
def rank:Sy→Nat
 | .unary=>1
 | .expr=>2
 | .compare=>3
 | .neg=>4
 | .cond=>5
theorem jsb:∀ lv∈sumL,look lv []=none:=by decide
theorem jpA:∀ lv∈jgO,look lv []=none:=by decide
theorem jcC:∀ f sy o,o≤50→5 * (50 - o)+rank sy≤f→∀ i,(go ts en f sy o i).isSome
 | 0,sy,o,ho,hf,i=>by cases sy <;> simp [rank] at hf
 | f+1,.expr,o,ho,hf,i=>by
  simp only [rank] at hf
  unfold go
  split
  ·split
   ·rfl
   have g1:=jcC f .cond (o+1) (by omega) (by simp only [rank]; omega) (i+1)
   split
   ·rename_i he; rw [he] at g1; simp at g1
   ·rfl
   split
   ·rfl
   rename_i j2 h2
   have g2:=jcC f .expr (o+1) (by omega) (by simp only [rank]; omega) j2
   split
   ·rename_i he; rw [he] at g2; simp at g2
   ·rfl
   split
   ·rfl
   rename_i j4 h4
   have g3:=jcC f .expr (o+1) (by omega) (by simp only [rank]; omega) j4
   split
   ·rename_i he; rw [he] at g3; simp at g3
   ·rfl
   ·rfl
  ·exact jfV (jdY f .unary o) (jcC f .unary o ho (by simp only [rank]; omega)) _ jsb i
 | f+1,.unary,o,ho,hf,i=>by
  simp only [rank] at hf
  unfold go
  split
  ·split
   ·rfl
   have g1:=jcC f .unary (o+1) (by omega) (by simp only [rank]; omega) (i+1)
   split
   ·rename_i he; rw [he] at g1; simp at g1
   ·rfl
   ·rfl
  split
  ·split
   ·rfl
   have g1:=jcC f .expr (o+1) (by omega) (by simp only [rank]; omega) (i+1)
   split
   ·rename_i he; rw [he] at g1; simp at g1
   ·rfl
   split <;> rfl
  split
  ·split
   ·rfl
   ·split <;> rfl
  ·rfl
 | f+1,.cond,o,ho,hf,i=>by
  simp only [rank] at hf
  unfold go
  exact jfV (jdY f .neg o) (jcC f .neg o ho (by simp only [rank]; omega)) _ jpA i
 | f+1,.neg,o,ho,hf,i=>by
  simp only [rank] at hf
  unfold go
  split
  ·split
   ·rfl
   have g1:=jcC f .neg (o+1) (by omega) (by simp only [rank]; omega) (i+1)
   split
   ·rename_i he; rw [he] at g1; simp at g1
   ·rfl
   ·rfl
  split
  ·split
   ·rfl
   have g1:=jcC f .cond (o+1) (by omega) (by simp only [rank]; omega) (i+1)
   split
   ·rename_i he; rw [he] at g1; simp at g1
   ·rfl
   split <;> rfl
  ·exact jcC f .compare o ho (by simp only [rank]; omega) i
 | f+1,.compare,o,ho,hf,i=>by
  simp only [rank] at hf
  unfold go
  have g1:=jcC f .expr o ho (by simp only [rank]; omega) i
  split
  ·rename_i he; rw [he] at g1; simp at g1
  ·rfl
  rename_i a j h1
  have g2:=jcC f .expr o ho (by simp only [rank]; omega) (j+1)
  split
  ·rfl
  split
  ·split
   ·rfl
   split
   ·rename_i he; rw [he] at g2; simp at g2
   ·rfl
   ·rfl
  ·split
   ·rename_i he; rw [he] at g2; simp at g2
   ·rfl
   ·rfl
end
structure Qry where
 kind:Int
 expr:List Nd
 lo:Int
 hi:Int
 p:Int
 q:Int
 column:List UInt8
 bound:Int
 ranges:List (Int × Int)
 strategy:Int
 consistent:Bool
 table:List UInt8
 keep:Int
 other:List UInt8
 left:List UInt8
 right:List UInt8
 limit:Int
 wher:List Nd
 factor:List UInt8
 bits:Int
def Qry.zero:Qry:=⟨0,[],0,0,0,0,[],0,[],0,false,[],0,[],[],[],0,[],[],0⟩
def andThen {α β:Type}(x:R α)(f:α→Nat→R β):R β:=match x with
 | .ok (a,j)=>f a j
 | .error e=>.error e
section
variable (ts:List Tk)(en:Int)(itoa:Int→List UInt8)(mk:Int→Int→List UInt8)
def deep:Nat:=260
def jmP (sy:Sy)(i:Nat):R (List Nd):=(go ts en deep sy 0 i).getD (.error (0,0))
def jdF (sy:Sy)(i:Nat):R (List Nd):=andThen (jmP ts en sy i) fun out j=>if 200<out.length then .error (4,atP ts en i) else .ok (out,j)
def jlI:List UInt8:=[98,101,116,119,101,101,110]
def wAnd:List UInt8:=[97,110,100]
def jej (k:Int)(q:Qry)(i:Nat):R Qry :=
 andThen (jdF ts en .expr i) fun e j=>andThen (must ts en jlI j) fun _ j=>andThen (intP ts en j) fun lo j=>andThen (must ts en wAnd j) fun _ j=>andThen (intP ts en j) fun hi j=>.ok ({ q with kind:=k,expr:=e,lo:=lo,hi:=hi },j)
def jcq (k:Int)(q:Qry)(i:Nat):R Qry:=andThen (jfA ts en i) fun c j=>.ok ({ q with kind:=k,column:=c },j)
def jfm:Nat→List (Int × Int)→Nat→R (List (Int × Int))
 | 0,_,_=>.error (0,0)
 | m+1,out,i =>
  if 64≤out.length then .error (4,atP ts en i) else
  andThen (intP ts en i) fun lo j=>andThen (must ts en [46,46] j) fun _ j=>andThen (intP ts en j) fun hi j =>
   if sees ts [44] j then jfm m (out++[(lo,hi)]) (j+1) else .ok (out++[(lo,hi)],j)
def jsc:List UInt8:=[117,115,105,110,103]
def jeZ:List UInt8:=[105,100,101,110,116,105,116,121]
def jjC:List UInt8:=[112,114,101,102,105,120]
def jtC:List UInt8:=[116,114,101,101]
def jcV (i:Nat):R Int:=if sees ts jeZ i then .ok (0,i+1) else if sees ts jjC i then .ok (1,i+1) else if sees ts jtC i then .ok (2,i+1) else syn ts en i
def jpB (q:Qry)(i:Nat):R Qry :=
 andThen (jcq ts en 10 q i) fun q j=>andThen (jfm ts en 65 [] j) fun rs j=>andThen (must ts en jsc j) fun _ j=>andThen (jcV ts en j) fun s j=>.ok ({ q with ranges:=rs,strategy:=s },j)
def wBy:List UInt8:=[98,121]
def wOf:List UInt8:=[111,102]
def jpC (q:Qry)(i:Nat):R Qry:=andThen (jej ts en 4 q i) fun q j=>andThen (must ts en wBy j) fun _ j=>andThen (jfA ts en j) fun c j=>.ok ({ q with column:=c },j)
def jht (q:Qry)(i:Nat):R Qry:=andThen (numP ts en i) fun p j=>andThen (must ts en [47] j) fun _ j=>andThen (numP ts en j) fun r j=>andThen (must ts en wOf j) fun _ j=>jej ts en 5 { q with p:=p,q:=r } j
def jpD (q:Qry)(i:Nat):R Qry:=andThen (intP ts en i) fun b j=>jcq ts en 7 { q with bound:=b } j
def jek:List (List UInt8 × Int):=[([99,111,117,110,116],1),([115,117,109],2),([104,105,115,116,111,103,114,97,109],3),([116,111,116,97,108],4),([113,117,97,110,116,105,108,101],5),([109,111,100,101],6),([97,98,111,118,101],7),([112,101,97,107],8),([114,117,110,110,105,110,103],9),([98,97,116,99,104],10)]
def keyT (i:Nat):List UInt8:=match ts[i]? with | some t=>if t.kind=2 then t.text else [] | none=>[]
def jh6 (k:Int)(q:Qry)(i:Nat):R Qry :=
 if k=1 then .ok ({ q with kind:=1 },i) else if k=2 then jej ts en 2 q i else if k=3 then jcq ts en 3 q i else if k=4 then jpC ts en q i else if k=5 then jht ts en q i
 else if k=6 then jcq ts en 6 q i else if k=7 then jpD ts en q i else if k=8 then jcq ts en 8 q i else if k=9 then jcq ts en 9 q i else jpB ts en q i
def jw9:List UInt8:=[102,114,111,109]
def jvQ:List UInt8:=[107,101,101,112]
def jvR:List UInt8:=[106,111,105,110]
def wOn:List UInt8:=[111,110]
def ju9:List UInt8:=[108,105,109,105,116]
def jsd:List UInt8:=[119,104,101,114,101]
def jse (q:Qry)(i:Nat):R Qry:=if sees ts jvQ i then andThen (posP ts en (i+1)) fun n j=>.ok ({ q with keep:=n },j) else .ok (q,i)
def jog (q:Qry)(i:Nat):R Qry:=if sees ts jvR i then
  andThen (jfA ts en (i+1)) fun o j=>andThen (must ts en wOn j) fun _ j=>andThen (jfA ts en j) fun l j=>andThen (must ts en [61] j) fun _ j=>andThen (jfA ts en j) fun r j=>andThen (must ts en ju9 j) fun _ j=>andThen (posP ts en j) fun n j=>.ok ({ q with other:=o,left:=l,right:=r,limit:=n },j)
 else .ok (q,i)
def jiw (q:Qry)(i:Nat):R Qry:=if sees ts jsd i then andThen (jdF ts en .cond (i+1)) fun w j=>.ok ({ q with wher:=w },j) else .ok (q,i)
def jc2 (q:Qry)(i:Nat):R Qry :=
 andThen (must ts en jw9 i) fun _ j=>andThen (jfA ts en j) fun t j=>andThen (jse ts en { q with table:=t } j) fun q j=>andThen (jog ts en q j) fun q j=>jiw ts en q j
def jxa:List UInt8:=[119,105,116,104]
def jsf:List UInt8:=[102,97,99,116,111,114]
def jtD:List UInt8:=[98,105,116,115]
def jc3:List UInt8:=[99,111,110,115,105,115,116,101,110,116]
def joh (i:Nat):R (List UInt8):=andThen (numP ts en i) fun n j =>
 if sees ts [47] j then andThen (numP ts en (j+1)) fun d k=>if d=0 then .error (6,atP ts en (j+1)) else .ok (mk n d,k) else .ok (itoa n,j)
def jhu (q:Qry)(i:Nat):R Qry :=
 andThen (must ts en jxa i) fun _ j=>andThen (must ts en jsf j) fun _ j=>andThen (joh ts en itoa mk j) fun f j=>andThen (must ts en jtD j) fun _ j=>andThen (posP ts en j) fun b j =>
  let c:=q.kind=3∧sees ts jc3 j=true
  let j:=if c then j+1 else j
  if j<ts.length then syn ts en j else .ok ({ q with factor:=f,bits:=b,consistent:=if c then true else q.consistent },j)
def je0:Except Fl Qry :=
 match look jek (keyT ts 0) with
 | none=>.error (11,atP ts en 0)
 | some k=>match andThen (jh6 ts en k Qry.zero 1) fun q j=>andThen (jc2 ts en q j) fun q j=>jhu ts en itoa mk q j with
  | .ok (q,_)=>.ok q
  | .error e=>.error e
end
def ar (o:Int):Nat:=if o=1∨o=2∨o=3 then 0 else if o=7∨o=17 then 1 else if o=8 then 3 else 2
def hgt:List Nd→Nat→Option Nat
 | [],h=>some h
 | x::l,h=>if h<ar x.op then none else hgt l (h - ar x.op+1)
theorem jdA:∀ (a b:List Nd) (h:Nat),hgt (a++b) h=(hgt a h).bind (hgt b)
 | [],b,h=>rfl
 | x::a,b,h=>by
  simp only [J8,hgt]
  split
  ·rfl
  ·exact jdA a b _
def WdN (l:List Nd):Prop:=∀ (i:Nat) (x:Nd),l[i]? = some x→x.op=3→∃ y z,0<i∧l[i - 1]? = some y∧y.op=2∧l[i+1]? = some z∧(z.op=9∨z.op=10)
structure St (l:List Nd):Prop where
 one:∀ h,hgt l h=some (h+1)
 wd:WdN l
theorem WdN.append {a b:List Nd}(ha:WdN a)(hb:WdN b):WdN (a++b):=by
 intro i x hx ho
 by_cases h:i<a.length
 ·rw [K0 h] at hx
  obtain ⟨y,z,h0,hy,hy2,hz,hz2⟩:=ha i x hx ho
  have:=(Kz.1 hz).1
  exact ⟨y,z,h0,by rw [K0 (by omega)]; exact hy,hy2,by rw [K0 (by omega)]; exact hz,hz2⟩
 ·rw [Qz (by omega)] at hx
  obtain ⟨y,z,h0,hy,hy2,hz,hz2⟩:=hb _ x hx ho
  refine ⟨y,z,by omega,?_,hy2,?_,hz2⟩
  ·rw [Qz (by omega),show i - 1 - a.length=i - a.length - 1 by omega]; exact hy
  ·rw [Qz (by omega),show i+1 - a.length=i - a.length+1 by omega]; exact hz
theorem WdN.single {x:Nd}(h:x.op ≠ 3):WdN [x]:=by
 intro i y hy ho
 rcases i with _ | i
 ·simp only [Qs,Kg] at hy; rw [← hy] at ho; exact absurd ho h
 ·simp at hy
theorem St.leaf {x:Nd}(h:x.op=1∨x.op=2):St [x]:=by
 refine ⟨fun n => ?_,WdN.single (by omega)⟩
 have h0:ar x.op=0:=by unfold ar; rw [Km (by omega)]
 simp only [hgt,h0]
 rw [Kn (by omega)]
 rfl
theorem St.un {a:List Nd}{o:Int}(ha:St a)(ho:o=7∨o=17):St (a++[opN o]):=by
 refine ⟨fun n => ?_,ha.wd.append (WdN.single (by simp only [opN]; omega))⟩
 rw [jdA,ha.one]
 have h0:ar o=1:=by unfold ar; rw [Kn (by omega),Km (by omega)]
 simp only [Kk,hgt,opN,h0]
 rw [Kn (by omega)]
 rfl
theorem St.bin {a b:List Nd}{o:Int}(ha:St a)(hb:St b)(ho:ar o=2):St (a++b++[opN o]):=by
 refine ⟨fun n => ?_,(ha.wd.append hb.wd).append (WdN.single ?_)⟩
 ·rw [jdA,jdA,ha.one,Kk,hb.one]
  simp only [Kk,hgt,opN,ho]
  rw [Kn (by omega)]
  rfl
 ·intro h; simp only [opN] at h; rw [h] at ho; simp [ar] at ho
theorem St.iff {a b c:List Nd}(ha:St a)(hb:St b)(hc:St c):St (a++b++c++[opN 8]):=by
 refine ⟨fun n => ?_,((ha.wd.append hb.wd).append hc.wd).append (WdN.single (by simp [opN]))⟩
 rw [jdA,jdA,jdA,ha.one,Kk,hb.one,Kk,hc.one]
 have h0:ar 8=3:=rfl
 simp only [Kk,hgt,opN,h0]
 rw [Kn (by omega)]
 rfl
theorem St.word {s w:List UInt8}{o:Int}(ho:o=9∨o=10):St ([⟨2,0,s⟩]++[⟨3,0,w⟩,opN o]):=by
 refine ⟨fun n => ?_,?_⟩
 ·have h0:ar o=2:=by unfold ar; rw [Kn (by omega),Kn (by omega),Kn (by omega)]
  have h2:ar 2=0:=rfl
  have h3:ar 3=0:=rfl
  simp only [J8,J2,hgt,opN,h0,h2,h3]
  rw [Kn (by omega),Kn (by omega),Kn (by omega)]
  rfl
 ·intro i x hx hx3
  rcases i with _ | _ | _ | i
  ·simp at hx; rw [← hx] at hx3; simp at hx3
  ·exact ⟨⟨2,0,s⟩,opN o,by omega,rfl,rfl,rfl,ho⟩
  ·simp [opN] at hx; rw [← hx] at hx3; simp at hx3; omega
  ·simp at hx
section
variable {ts:List Tk}{en:Int}
def Sts (f:Nat→Option (R (List Nd))):Prop:=∀ i out j,f i=some (.ok (out,j))→St out
theorem jpE {sub:Nat→Option (R (List Nd))}(hs:Sts sub){lv:Lvl}(hl:∀ s o,look lv s=some o→ar o=2):∀ m out i r j,St out→jeJ ts sub lv m out i=some (.ok (r,j))→St r
 | 0,out,i,r,j,_,h=>by simp [jeJ] at h
 | m+1,out,i,r,j,ho,h=>by
  unfold jeJ at h
  split at h
  ·simp only [Kg,Except.ok.injEq,Kh] at h
   rw [← h.1]; exact ho
  ·rename_i o hlo
   split at h
   ·simp at h
   ·simp at h
   ·rename_i r1 j1 he
    exact jpE hs hl m _ _ _ _ (St.bin ho (hs _ _ _ he) (hl _ _ hlo)) h
theorem jjD {op:Nat→Option (R (List Nd))}(ho:Sts op):∀ ls:List Lvl,(∀ lv∈ls,∀ s o,look lv s=some o→ar o=2)→Sts (jcL ts op ls)
 | [],_,i,out,j,h=>ho i out j h
 | lv::ls,hl,i,out,j,h=>by
  unfold jcL at h
  have ih:=jjD ho ls fun l hm=>hl l (by simp [hm])
  split at h
  ·simp at h
  ·simp at h
  ·rename_i r1 j1 he
   exact jpE ih (hl lv (by simp)) _ _ _ _ _ (ih _ _ _ he) h
theorem jiU {l:Lvl}{s:List UInt8}{o:Int}(h:look l s=some o):o∈l.map (·.2):=by
 unfold look at h
 rw [Ko] at h
 obtain ⟨p,hp,ho⟩:=h
 exact J7.2 ⟨p,List.mem_of_find?_eq_some hp,ho⟩
theorem jvS:∀ lv∈sumL,∀ s o,look lv s=some o→ar o=2:=by
 intro lv hlv s o h
 have:=jiU h
 simp only [sumL,Q8,Jw,or_false] at hlv
 rcases hlv with rfl | rfl <;> simp at this <;> rcases this with rfl | rfl <;> rfl
theorem jtE:∀ lv∈jgO,∀ s o,look lv s=some o→ar o=2:=by
 intro lv hlv s o h
 have:=jiU h
 simp only [jgO,Q8,Jw,or_false] at hlv
 rcases hlv with rfl | rfl <;> simp at this <;> subst this <;> rfl
theorem jvT {s:List UInt8}{o:Int}(h:look cmpL s=some o):ar o=2:=by
 have:=jiU h
 simp only [cmpL,Ji,List.map_nil,Q8,Jw,or_false] at this
 rcases this with rfl | rfl | rfl | rfl | rfl | rfl <;> rfl
theorem jqu {sub:Nat→Option (R (List Nd))}(hs:Adv ts sub){lv:Lvl}{m:Nat}{out r:List Nd}{i:Nat}(h:jeJ ts sub lv m out i=some (.ok (r,i))):r=out:=by
 rcases m with _ | m
 ·simp [jeJ] at h
 unfold jeJ at h
 split at h
 ·simp only [Kg,Except.ok.injEq,Kh] at h
  exact h.1.symm
 ·split at h
  ·simp at h
  ·simp at h
  ·rename_i r1 j1 he
   have h1:=hs _ _ _ he
   have h2:=jhs hs lv _ _ _ _ _ h
   omega
theorem jjE {op:Nat→Option (R (List Nd))}(ha:Adv ts op){a:List Nd}{i:Nat}(h0:op i=some (.ok (a,i+1))):∀ ls r,jcL ts op ls i=some (.ok (r,i+1))→r=a
 | [],r,h=>by
  unfold jcL at h
  rw [h0] at h
  simp only [Kg,Except.ok.injEq,Kh,and_true] at h
  exact h.symm
 | lv::ls,r,h=>by
  unfold jcL at h
  split at h
  ·simp at h
  ·simp at h
  ·rename_i r1 j1 he
   have h1:=jde ha ls _ _ _ he
   have h2:=jhs (jde ha ls) lv _ _ _ _ _ h
   have hj:j1=i+1:=by omega
   subst hj
   rw [jqu (jde ha ls) h]
   exact jjE ha h0 ls _ he
theorem jvU {k:Int}{i:Nat}(h:isK ts k i=true):∃ t,ts[i]? = some t∧t.kind=k:=by
 unfold isK at h
 split at h
 ·rename_i t ht; exact ⟨t,ht,by simpa using h⟩
 ·simp at h
theorem jjF {i:Nat}{t:Tk}(ht:ts[i]? = some t)(hk:t.kind=1)(s:List UInt8):sees ts s i=false:=by
 unfold sees
 rw [ht]
 simp [hk]
theorem joi {f o i:Nat}{a:List Nd}(h:go ts en f .expr o i=some (.ok (a,i+1)))(hk:isK ts 1 i=true):∃ s,a=[⟨2,0,s⟩]:=by
 obtain ⟨t,ht,hk⟩:=jvU hk
 rcases f with _ | f
 ·simp [go] at h
 unfold go at h
 rw [Kn (by simp [jjF ht hk])] at h
 rcases f with _ | f
 ·have:∀ ls,jcL ts (go ts en 0 .unary o) ls i=none:=by
   intro ls
   induction ls with
   | nil=>simp [jcL,go]
   | cons l ls ih=>simp [jcL,ih]
  rw [this] at h; cases h
 have h0:go ts en (f+1) .unary o i=some (.ok ([⟨2,0,t.text⟩],i+1)):=by
  unfold go
  rw [Kn (by simp [jjF ht hk]),Kn (by simp [jjF ht hk]),ht]
  simp [hk]
 exact ⟨t.text,jjE (jdY _ .unary o) h0 _ _ h⟩
theorem jhv:∀ f sy o,Sts (go ts en f sy o)
 | 0,sy,o,i,out,j,h=>by simp [go] at h
 | f+1,.expr,o,i,out,j,h=>by
  unfold go at h
  split at h
  ·split at h
   ·simp [long] at h
   split at h
   ·simp at h
   ·simp at h
   rename_i c j1 h1
   have a1:=jhv f .cond (o+1) _ _ _ h1
   split at h
   ·simp at h
   split at h
   ·simp at h
   ·simp at h
   rename_i a j3 h3
   have a3:=jhv f .expr (o+1) _ _ _ h3
   split at h
   ·simp at h
   split at h
   ·simp at h
   ·simp at h
   rename_i b j5 h5
   have a5:=jhv f .expr (o+1) _ _ _ h5
   simp only [Kg,Except.ok.injEq,Kh] at h
   rw [← h.1]; exact St.iff a1 a3 a5
  ·exact jjD (jhv f .unary o) _ jvS _ _ _ h
 | f+1,.unary,o,i,out,j,h=>by
  unfold go at h
  split at h
  ·split at h
   ·simp [long] at h
   split at h
   ·simp at h
   ·simp at h
   rename_i a j1 h1
   have a1:=jhv f .unary (o+1) _ _ _ h1
   simp only [Kg,Except.ok.injEq,Kh] at h
   rw [← h.1]; exact a1.un (.inl rfl)
  split at h
  ·split at h
   ·simp [long] at h
   split at h
   ·simp at h
   ·simp at h
   rename_i a j1 h1
   have a1:=jhv f .expr (o+1) _ _ _ h1
   split at h
   ·simp at h
   simp only [Kg,Except.ok.injEq,Kh] at h
   rw [← h.1]; exact a1
  split at h
  ·split at h
   ·simp only [Kg,Except.ok.injEq,Kh] at h
    rw [← h.1]; exact St.leaf (.inl rfl)
   split at h
   ·simp only [Kg,Except.ok.injEq,Kh] at h
    rw [← h.1]; exact St.leaf (.inr rfl)
   ·simp [syn] at h
  ·simp [syn] at h
 | f+1,.cond,o,i,out,j,h=>by
  unfold go at h
  exact jjD (jhv f .neg o) _ jtE _ _ _ h
 | f+1,.neg,o,i,out,j,h=>by
  unfold go at h
  split at h
  ·split at h
   ·simp [long] at h
   split at h
   ·simp at h
   ·simp at h
   rename_i a j1 h1
   have a1:=jhv f .neg (o+1) _ _ _ h1
   simp only [Kg,Except.ok.injEq,Kh] at h
   rw [← h.1]; exact a1.un (.inr rfl)
  split at h
  ·split at h
   ·simp [long] at h
   split at h
   ·simp at h
   ·simp at h
   rename_i a j1 h1
   have a1:=jhv f .cond (o+1) _ _ _ h1
   split at h
   ·simp at h
   simp only [Kg,Except.ok.injEq,Kh] at h
   rw [← h.1]; exact a1
  ·exact jhv f .compare o _ _ _ h
 | f+1,.compare,o,i,out,j,h=>by
  unfold go at h
  split at h
  ·simp at h
  ·simp at h
  rename_i a j1 h1
  have a1:=jhv f .expr o _ _ _ h1
  split at h
  ·simp [syn] at h
  rename_i op hop
  have hop2:=jvT hop
  split at h
  ·rename_i t ht
   split at h
   ·rename_i hw
    simp only [Kg,Except.ok.injEq,Kh] at h
    rw [← h.1]
    obtain ⟨_,⟨hk,hj⟩,ho⟩:=hw
    rw [hj] at h1
    obtain ⟨s,rfl⟩:=joi h1 hk
    exact St.word ho
   split at h
   ·simp at h
   ·simp at h
   rename_i b k h2
   have a2:=jhv f .expr o _ _ _ h2
   simp only [Kg,Except.ok.injEq,Kh] at h
   rw [← h.1]; exact a1.bin a2 hop2
  ·split at h
   ·simp at h
   ·simp at h
   rename_i b k h2
   have a2:=jhv f .expr o _ _ _ h2
   simp only [Kg,Except.ok.injEq,Kh] at h
   rw [← h.1]; exact a1.bin a2 hop2
end
def Bad (en:Int)(e:Fl):Prop:=e.1 ≠ 0∧0≤e.2∧e.2≤en
def Rs {α:Type}(en:Int)(P:α→Prop):R α→Prop
 | .ok (a,_)=>P a
 | .error e=>Bad en e
theorem Rs.mono {α:Type}{en:Int}{P Q:α→Prop}{x:R α}(h:Rs en P x)(hq:∀ a,P a→Q a):Rs en Q x:=by
 match x,h with
 | .ok (a,_),h=>exact hq _ h
 | .error e,h=>exact h
theorem Rs.andThen {α β:Type}{en:Int}{P:α→Prop}{Q:β→Prop}{x:R α}{f:α→Nat→R β}(h:Rs en P x)(hf:∀ a j,P a→Rs en Q (f a j)):Rs en Q (PP.andThen x f):=by
 match x,h with
 | .ok (a,j),h=>exact hf a j h
 | .error e,h=>exact h
section
variable {ts:List Tk}{en:Int}
structure TsOK (ts:List Tk) (en:Int):Prop where
 en0:0≤en
 pos:∀ t∈ts,0≤t.pos∧t.pos≤en
 name:∀ t∈ts,t.kind=1→t.text ≠ []
 num:∀ t∈ts,t.kind=3→0≤t.n
theorem jxb (hT:TsOK ts en)(i:Nat):0≤atP ts en i∧atP ts en i≤en:=by
 unfold atP
 split
 ·rename_i t ht; exact hT.pos t (Jv ht)
 ·exact ⟨hT.en0,Int.le_refl _⟩
theorem jeC (hT:TsOK ts en){c:Int}(hc:c ≠ 0)(i:Nat):Bad en (c,atP ts en i):=⟨hc,jxb hT i⟩
theorem jmQ (hT:TsOK ts en){α:Type}{P:α→Prop}(i:Nat):Rs en P (syn ts en i):=jeC hT (by decide) i
theorem jc4 (hT:TsOK ts en)(s:List UInt8)(i:Nat):Rs en (fun _=>True) (must ts en s i):=by
 unfold must
 split
 ·trivial
 ·exact jmQ hT i
theorem jsg (hT:TsOK ts en)(k:Int)(i:Nat):Rs en (fun t=>t∈ts∧t.kind=k) (jhr ts en k i):=by
 unfold jhr
 split
 ·rename_i t ht
  split
  ·rename_i hk; exact ⟨Jv ht,hk⟩
  ·exact jmQ hT i
 ·exact jmQ hT i
theorem jh7 (hT:TsOK ts en)(i:Nat):Rs en (fun s=>s ≠ []) (jfA ts en i):=by
 unfold jfA
 have h:=jsg hT 1 i
 split
 ·rename_i t j he; rw [he] at h; exact hT.name t h.1 h.2
 ·rename_i e he; rw [he] at h; exact h
theorem jjG (hT:TsOK ts en)(i:Nat):Rs en (fun n=>0≤n) (numP ts en i):=by
 unfold numP
 have h:=jsg hT 3 i
 split
 ·rename_i t j he; rw [he] at h; exact hT.num t h.1 h.2
 ·rename_i e he; rw [he] at h; exact h
theorem jmR (hT:TsOK ts en)(i:Nat):Rs en (fun _=>True) (intP ts en i):=by
 unfold intP
 have h1:=jjG hT (i+1)
 split
 ·split
  ·trivial
  ·rename_i e he; rw [he] at h1; exact h1
 ·exact (jjG hT i).mono fun _ _=>trivial
theorem jsh (hT:TsOK ts en)(i:Nat):Rs en (fun n=>0<n) (posP ts en i):=by
 unfold posP
 have h:=jjG hT i
 split
 ·rename_i n j he
  rw [he] at h
  split
  ·exact jeC hT (by decide) i
  ·have:0≤n:=h
   show 0<n
   omega
 ·rename_i e he; rw [he] at h; exact h
def Ro {α:Type}(en:Int)(x:Option (R α)):Prop:=∀ e,x=some (.error e)→Bad en e
theorem jiV (hT:TsOK ts en){s:List UInt8}{i:Nat}{e:Fl}(h:must ts en s i=.error e):Bad en e:=by
 have:=jc4 hT s i; rw [h] at this; exact this
theorem jpF {sub:Nat→Option (R (List Nd))}(hs:∀ i,Ro en (sub i))(lv:Lvl):∀ m out i,Ro en (jeJ ts sub lv m out i)
 | 0,out,i,e,h=>by simp [jeJ] at h
 | m+1,out,i,e,h=>by
  unfold jeJ at h
  split at h
  ·simp at h
  ·split at h
   ·simp at h
   ·rename_i e1 he
    simp only [Kg,Except.error.injEq] at h
    rw [← h]; exact hs _ _ he
   ·exact jpF hs lv m _ _ e h
theorem jjH {op:Nat→Option (R (List Nd))}(ho:∀ i,Ro en (op i)):∀ ls i,Ro en (jcL ts op ls i)
 | [],i,e,h=>ho i e h
 | lv::ls,i,e,h=>by
  unfold jcL at h
  have ih:=jjH ho ls
  split at h
  ·simp at h
  ·rename_i e1 he
   simp only [Kg,Except.error.injEq] at h
   rw [← h]; exact ih _ _ he
  ·exact jpF ih lv _ _ _ e h
theorem jhw (hT:TsOK ts en):∀ f sy o i,Ro en (go ts en f sy o i)
 | 0,sy,o,i,e,h=>by simp [go] at h
 | f+1,.expr,o,i,e,h=>by
  unfold go at h
  split at h
  ·split at h
   ·simp only [long,Kg,Except.error.injEq] at h
    rw [← h]; exact jeC hT (by decide) i
   split at h
   ·simp at h
   ·rename_i e1 he
    simp only [Kg,Except.error.injEq] at h
    rw [← h]; exact jhw hT f _ _ _ _ he
   split at h
   ·rename_i e1 he
    simp only [Kg,Except.error.injEq] at h
    rw [← h]; exact jiV hT he
   split at h
   ·simp at h
   ·rename_i e1 he
    simp only [Kg,Except.error.injEq] at h
    rw [← h]; exact jhw hT f _ _ _ _ he
   split at h
   ·rename_i e1 he
    simp only [Kg,Except.error.injEq] at h
    rw [← h]; exact jiV hT he
   split at h
   ·simp at h
   ·rename_i e1 he
    simp only [Kg,Except.error.injEq] at h
    rw [← h]; exact jhw hT f _ _ _ _ he
   ·simp at h
  ·exact jjH (jhw hT f .unary o) _ _ _ h
 | f+1,.unary,o,i,e,h=>by
  unfold go at h
  split at h
  ·split at h
   ·simp only [long,Kg,Except.error.injEq] at h
    rw [← h]; exact jeC hT (by decide) i
   split at h
   ·simp at h
   ·rename_i e1 he
    simp only [Kg,Except.error.injEq] at h
    rw [← h]; exact jhw hT f _ _ _ _ he
   ·simp at h
  split at h
  ·split at h
   ·simp only [long,Kg,Except.error.injEq] at h
    rw [← h]; exact jeC hT (by decide) i
   split at h
   ·simp at h
   ·rename_i e1 he
    simp only [Kg,Except.error.injEq] at h
    rw [← h]; exact jhw hT f _ _ _ _ he
   split at h
   ·rename_i e1 he
    simp only [Kg,Except.error.injEq] at h
    rw [← h]; exact jiV hT he
   ·simp at h
  split at h
  ·split at h
   ·simp at h
   split at h
   ·simp at h
   ·simp only [syn,Kg,Except.error.injEq] at h
    rw [← h]; exact jeC hT (by decide) i
  ·simp only [syn,Kg,Except.error.injEq] at h
   rw [← h]; exact jeC hT (by decide) i
 | f+1,.cond,o,i,e,h=>by
  unfold go at h
  exact jjH (jhw hT f .neg o) _ _ _ h
 | f+1,.neg,o,i,e,h=>by
  unfold go at h
  split at h
  ·split at h
   ·simp only [long,Kg,Except.error.injEq] at h
    rw [← h]; exact jeC hT (by decide) i
   split at h
   ·simp at h
   ·rename_i e1 he
    simp only [Kg,Except.error.injEq] at h
    rw [← h]; exact jhw hT f _ _ _ _ he
   ·simp at h
  split at h
  ·split at h
   ·simp only [long,Kg,Except.error.injEq] at h
    rw [← h]; exact jeC hT (by decide) i
   split at h
   ·simp at h
   ·rename_i e1 he
    simp only [Kg,Except.error.injEq] at h
    rw [← h]; exact jhw hT f _ _ _ _ he
   split at h
   ·rename_i e1 he
    simp only [Kg,Except.error.injEq] at h
    rw [← h]; exact jiV hT he
   ·simp at h
  ·exact jhw hT f .compare o _ _ h
 | f+1,.compare,o,i,e,h=>by
  unfold go at h
  split at h
  ·simp at h
  ·rename_i e1 he
   simp only [Kg,Except.error.injEq] at h
   rw [← h]; exact jhw hT f _ _ _ _ he
  rename_i a j1 h1
  split at h
  ·simp only [syn,Kg,Except.error.injEq] at h
   rw [← h]; exact jeC hT (by decide) j1
  split at h
  ·split at h
   ·simp at h
   split at h
   ·simp at h
   ·rename_i e1 he
    simp only [Kg,Except.error.injEq] at h
    rw [← h]; exact jhw hT f _ _ _ _ he
   ·simp at h
  ·split at h
   ·simp at h
   ·rename_i e1 he
    simp only [Kg,Except.error.injEq] at h
    rw [← h]; exact jhw hT f _ _ _ _ he
   ·simp at h
theorem jvV (hT:TsOK ts en)(sy:Sy)(i:Nat):Rs en St (jmP ts en sy i):=by
 unfold jmP
 have h:=jcC (ts:=ts) (en:=en) deep sy 0 (by omega) (by cases sy <;> simp [deep,rank]) i
 match he:go ts en deep sy 0 i with
 | none=>rw [he] at h; simp at h
 | some (.error e)=>exact jhw hT _ _ _ _ _ he
 | some (.ok (a,j))=>exact jhv _ _ _ _ _ _ he
def StL (l:List Nd):Prop:=St l∧l.length≤200
theorem jkY (hT:TsOK ts en)(sy:Sy)(i:Nat):Rs en StL (jdF ts en sy i):=by
 unfold jdF
 refine (jvV hT sy i).andThen fun a j ha => ?_
 split
 ·exact jeC hT (by decide) i
 ·exact ⟨ha,by omega⟩
def Kq (q:Qry):Prop:=((q.kind=2∨q.kind=4∨q.kind=5)∧StL q.expr∨¬ (q.kind=2∨q.kind=4∨q.kind=5)∧q.expr=[])∧(1≤q.kind∧q.kind≤10)∧q.wher=[]∧q.ranges.length≤64
theorem jjI (hT:TsOK ts en){k:Int}(hk:k=2∨k=4∨k=5){q:Qry}(hq:q.wher=[])(hr:q.ranges.length≤64)(i:Nat):Rs en (fun r=>Kq r∧r.kind=k) (jej ts en k q i):=by
 unfold jej
 refine (jkY hT .expr i).andThen fun e j he => ?_
 refine (jc4 hT _ j).andThen fun _ j _ => ?_
 refine (jmR hT j).andThen fun lo j _ => ?_
 refine (jc4 hT _ j).andThen fun _ j _ => ?_
 refine (jmR hT j).andThen fun hi j _ => ?_
 exact ⟨⟨.inl ⟨hk,he⟩,by show 1≤k∧k≤10; omega,hq,hr⟩,rfl⟩
theorem je1 (hT:TsOK ts en){k:Int}(hk:¬ (k=2∨k=4∨k=5))(hk2:1≤k∧k≤10){q:Qry}(hq:q.wher=[])(he:q.expr=[])(hr:q.ranges.length≤64)(i:Nat):Rs en Kq (jcq ts en k q i):=by
 unfold jcq
 refine (jh7 hT i).andThen fun c j _ => ?_
 exact ⟨.inr ⟨hk,he⟩,hk2,hq,hr⟩
theorem jmS (hT:TsOK ts en):∀ m out i,m+out.length=65→out.length≤64→Rs en (fun rs=>rs.length≤64) (jfm ts en m out i)
 | 0,out,i,hm,hl=>by omega
 | m+1,out,i,hm,hl=>by
  unfold jfm
  split
  ·exact jeC hT (by decide) i
  refine (jmR hT i).andThen fun lo j _ => ?_
  refine (jc4 hT _ j).andThen fun _ j _ => ?_
  refine (jmR hT j).andThen fun hi j _ => ?_
  split
  ·exact jmS hT m _ _ (by simp only [Ku,K1,K5]; omega) (by simp only [Ku,K1,K5]; omega)
  ·show (out++[(lo,hi)]).length≤64
   simp only [Ku,K1,K5]; omega
theorem joj (hT:TsOK ts en)(i:Nat):Rs en (fun _=>True) (jcV ts en i):=by
 unfold jcV
 split
 ·trivial
 split
 ·trivial
 split
 ·trivial
 ·exact jmQ hT i
theorem jtF (hT:TsOK ts en){k:Int}(hk:1≤k∧k≤10)(i:Nat):Rs en Kq (jh6 ts en k Qry.zero i):=by
 unfold jh6
 split
 ·exact ⟨.inr ⟨by show ¬ ((1:Int)=2∨(1:Int)=4∨(1:Int)=5); decide,rfl⟩,by show (1:Int)≤1∧(1:Int)≤10; decide,rfl,Ql _⟩
 split
 ·exact (jjI hT (by decide) rfl (Ql _) i).mono fun _ h=>h.1
 split
 ·exact je1 hT (by decide) (by decide) rfl rfl (Ql _) i
 split
 ·unfold jpC
  refine (jjI hT (by decide) rfl (Ql _) i).andThen fun q j hq => ?_
  refine (jc4 hT _ j).andThen fun _ j _ => ?_
  exact (jh7 hT j).andThen fun c j _=>hq.1
 split
 ·unfold jht
  refine (jjG hT i).andThen fun p j _ => ?_
  refine (jc4 hT _ j).andThen fun _ j _ => ?_
  refine (jjG hT j).andThen fun r j _ => ?_
  refine (jc4 hT _ j).andThen fun _ j _ => ?_
  exact (jjI hT (by decide) rfl (Ql _) j).mono fun _ h=>h.1
 split
 ·exact je1 hT (by decide) (by decide) rfl rfl (Ql _) i
 split
 ·unfold jpD
  refine (jmR hT i).andThen fun b j _ => ?_
  exact je1 hT (by decide) (by decide) rfl rfl (Ql _) j
 split
 ·exact je1 hT (by decide) (by decide) rfl rfl (Ql _) i
 split
 ·exact je1 hT (by decide) (by decide) rfl rfl (Ql _) i
 ·unfold jpB
  refine (je1 hT (k:=10) (by decide) (by decide) rfl rfl (Ql _) i).andThen fun q j hq => ?_
  refine (jmS hT 65 [] j rfl (by simp)).andThen fun rs j hrs => ?_
  refine (jc4 hT _ j).andThen fun _ j _ => ?_
  exact (joj hT j).andThen fun s j _=>⟨hq.1,hq.2.1,hq.2.2.1,hrs⟩
def Sq (q:Qry):Prop:=((q.kind=2∨q.kind=4∨q.kind=5)∧StL q.expr∨¬ (q.kind=2∨q.kind=4∨q.kind=5)∧q.expr=[])∧(1≤q.kind∧q.kind≤10)∧(q.wher=[]∨StL q.wher)∧q.table ≠ []∧q.ranges.length≤64
theorem jsi (hT:TsOK ts en){q:Qry}(hq:Kq q)(i:Nat):Rs en Sq (jc2 ts en q i):=by
 unfold jc2
 refine (jc4 hT _ i).andThen fun _ j _ => ?_
 refine (jh7 hT j).andThen fun t j ht => ?_
 refine Rs.andThen (P:=fun r=>Kq r∧r.table ≠ []) ?_ fun r j hr => ?_
 ·unfold jse
  split
  ·exact (jsh hT _).andThen fun n j _=>⟨hq,ht⟩
  ·exact ⟨hq,ht⟩
 refine Rs.andThen (P:=fun r=>Kq r∧r.table ≠ []) ?_ fun r j hr => ?_
 ·unfold jog
  split
  ·refine (jh7 hT _).andThen fun _ j _ => ?_
   refine (jc4 hT _ j).andThen fun _ j _ => ?_
   refine (jh7 hT j).andThen fun _ j _ => ?_
   refine (jc4 hT _ j).andThen fun _ j _ => ?_
   refine (jh7 hT j).andThen fun _ j _ => ?_
   refine (jc4 hT _ j).andThen fun _ j _ => ?_
   exact (jsh hT j).andThen fun _ j _=>hr
  ·exact hr
 unfold jiw
 split
 ·exact (jkY hT .cond _).andThen fun w j hw=>⟨hr.1.1,hr.1.2.1,.inr hw,hr.2,hr.1.2.2.2⟩
 ·exact ⟨hr.1.1,hr.1.2.1,.inl hr.1.2.2.1,hr.2,hr.1.2.2.2⟩
theorem jvW (hT:TsOK ts en)(itoa:Int→List UInt8)(mk:Int→Int→List UInt8){q:Qry}(hq:Sq q)(i:Nat):Rs en (fun r=>Sq r∧0<r.bits) (jhu ts en itoa mk q i):=by
 unfold jhu
 refine (jc4 hT _ i).andThen fun _ j _ => ?_
 refine (jc4 hT _ j).andThen fun _ j _ => ?_
 refine Rs.andThen (P:=fun _=>True) ?_ fun f j _ => ?_
 ·unfold joh
  refine (jjG hT j).andThen fun n j _ => ?_
  split
  ·refine (jjG hT _).andThen fun d k _ => ?_
   split
   ·exact jeC hT (by decide) _
   ·trivial
  ·trivial
 refine (jc4 hT _ j).andThen fun _ j _ => ?_
 refine (jsh hT j).andThen fun b j hb => ?_
 extract_lets c j1
 split
 ·exact jmQ hT _
 ·exact ⟨hq,hb⟩
theorem jmT {s:List UInt8}{k:Int}(h:look jek s=some k):1≤k∧k≤10:=by
 have:=jiU h
 simp only [jek,Ji,List.map_nil,Q8,Jw,or_false] at this
 omega
theorem jtG (hT:TsOK ts en)(itoa:Int→List UInt8)(mk:Int→Int→List UInt8):match je0 ts en itoa mk with
  | .ok q=>Sq q∧0<q.bits
  | .error e=>Bad en e:=by
 unfold je0
 cases hk:look jek (keyT ts 0) with
 | none=>exact jeC hT (by decide) 0
 | some k =>
  dsimp only
  have h:Rs en (fun r=>Sq r∧0<r.bits) (PP.andThen (jh6 ts en k Qry.zero 1) fun q j=>PP.andThen (jc2 ts en q j) fun q j=>jhu ts en itoa mk q j) :=
   (jtF hT (jmT hk) 1).andThen fun q j hq=>(jsi hT hq j).andThen fun q j hq=>jvW hT itoa mk hq j
  generalize (PP.andThen (jh6 ts en k Qry.zero 1) fun q j=>PP.andThen (jc2 ts en q j) fun q j=>jhu ts en itoa mk q j)=r at h
  match r,h with
  | .ok (q,j),h=>exact h
  | .error e,h=>exact h
end
def jsj (t:Tk):Int × List UInt8 × Int:=(t.kind,t.text,t.n)
def Eqv (ts us:List Tk):Prop:=ts.map jsj=us.map jsj
def Rq {α:Type}:R α→R α→Prop
 | .ok a,.ok b=>a=b
 | .error _,.error _=>True
 | _,_=>False
def Ro2 {α:Type}:Option (R α)→Option (R α)→Prop
 | some x,some y=>Rq x y
 | none,none=>True
 | _,_=>False
theorem Ro2.cases {α:Type}{x y:Option (R α)}(h:Ro2 x y):(x=none∧y=none)∨(∃ e e',x=some (.error e)∧y=some (.error e'))∨∃ r j,x=some (.ok (r,j))∧y=some (.ok (r,j)):=by
 match x,y,h with
 | none,none,_=>exact .inl ⟨rfl,rfl⟩
 | some (.error e),some (.error e'),_=>exact .inr (.inl ⟨e,e',rfl,rfl⟩)
 | some (.ok (r,j)),some (.ok b),h =>
  have h:(r,j)=b:=h
  exact .inr (.inr ⟨r,j,rfl,by rw [← h]⟩)
theorem Rq.cases {α:Type}{x y:R α}(h:Rq x y):(∃ e e',x=.error e∧y=.error e')∨∃ r j,x=.ok (r,j)∧y=.ok (r,j):=by
 match x,y,h with
 | .error e,.error e',_=>exact .inl ⟨e,e',rfl,rfl⟩
 | .ok (r,j),.ok b,h =>
  have h:(r,j)=b:=h
  exact .inr ⟨r,j,rfl,by rw [← h]⟩
theorem Rq.refl {α:Type}(x:R α):Rq x x:=by
 match x with
 | .ok a=>exact (rfl:a=a)
 | .error e=>trivial
theorem Ro2.refl {α:Type}(x:Option (R α)):Ro2 x x:=by
 match x with
 | some x=>exact Rq.refl x
 | none=>trivial
theorem Rq.andThen {α β:Type}{x y:R α}{f g:α→Nat→R β}(h:Rq x y)(hf:∀ a j,Rq (f a j) (g a j)):Rq (PP.andThen x f) (PP.andThen y g):=by
 rcases h.cases with ⟨e,e',rfl,rfl⟩ | ⟨r,j,rfl,rfl⟩
 ·trivial
 ·exact hf r j
section
variable {ts us:List Tk}{en en':Int}(hE:Eqv ts us)
include hE
end
section
variable (ts us:List Tk)(d:Nat)
def Agr (i:Nat):Prop:=(ts[i]?).map jsj=(us[i+d]?).map jsj
def Stop (k:Nat):Prop:=(∀ lv∈sumL,look lv (txt us k)=none)∧∀ lv∈jgO,look lv (txt us k)=none
end
section
variable {ts us:List Tk}{d:Nat}
theorem Agr.cases {i:Nat}(h:Agr ts us d i):(ts[i]? = none∧us[i+d]? = none)∨∃ t u,ts[i]? = some t∧us[i+d]? = some u∧t.kind=u.kind∧t.text=u.text∧t.n=u.n:=by
 unfold Agr at h
 cases h1:ts[i]? with
 | none =>
  cases h2:us[i+d]? with
  | none=>exact .inl ⟨rfl,rfl⟩
  | some u=>rw [h1,h2] at h; simp at h
 | some t =>
  cases h2:us[i+d]? with
  | none=>rw [h1,h2] at h; simp at h
  | some u =>
   rw [h1,h2] at h
   simp only [Kw,jsj,Kg,Kh] at h
   exact .inr ⟨t,u,rfl,rfl,h⟩
theorem Agr.sees {i:Nat}(h:Agr ts us d i)(s:List UInt8):sees us s (i+d)=sees ts s i:=by
 unfold PP.sees
 rcases h.cases with ⟨h1,h2⟩ | ⟨t,u,h1,h2,a,b,c⟩
 ·rw [h1,h2]
 ·rw [h1,h2]; simp only [a,b]
theorem Agr.txt {i:Nat}(h:Agr ts us d i):txt us (i+d)=txt ts i:=by
 unfold PP.txt
 rcases h.cases with ⟨h1,h2⟩ | ⟨t,u,h1,h2,a,b,c⟩
 ·rw [h1,h2]
 ·rw [h1,h2]; simp only [a,b]
theorem Agr.sgn {i:Nat}(h:Agr ts us d i):sgn us (i+d)=sgn ts i:=by
 unfold PP.sgn
 rcases h.cases with ⟨h1,h2⟩ | ⟨t,u,h1,h2,a,b,c⟩
 ·rw [h1,h2]
 ·rw [h1,h2]; simp only [a,b]
theorem Agr.isK {i:Nat}(h:Agr ts us d i)(k:Int):isK us k (i+d)=isK ts k i:=by
 unfold PP.isK
 rcases h.cases with ⟨h1,h2⟩ | ⟨t,u,h1,h2,a,b,c⟩
 ·rw [h1,h2]
 ·rw [h1,h2]; simp only [a]
variable (ts us d)
variable {ts us d}
end
section
variable {ts:List Tk}{en:Int}
def Len (ts:List Tk)(f:Nat→Option (R (List Nd))):Prop:=∀ i out j,f i=some (.ok (out,j))→i<j∧j≤ts.length∧out.length≤j - i
theorem jmU {sub:Nat→Option (R (List Nd))}(hs:Len ts sub)(lv:Lvl):∀ m out i r j,jeJ ts sub lv m out i=some (.ok (r,j))→i≤j∧(j=i∨j≤ts.length)∧r.length≤out.length+(j - i)
 | 0,out,i,r,j,h=>by simp [jeJ] at h
 | m+1,out,i,r,j,h=>by
  unfold jeJ at h
  split at h
  ·simp only [Kg,Except.ok.injEq,Kh] at h
   obtain ⟨rfl,rfl⟩:=h
   omega
  ·split at h
   ·simp at h
   ·simp at h
   ·rename_i r1 j1 he
    have h1:=hs _ _ _ he
    have h2:=jmU hs lv m _ _ _ _ h
    simp only [Ku,K1,K5] at h2
    omega
theorem je2 {op:Nat→Option (R (List Nd))}(ho:Len ts op):∀ ls,Len ts (jcL ts op ls)
 | [],i,out,j,h=>ho i out j h
 | lv::ls,i,out,j,h=>by
  unfold jcL at h
  split at h
  ·simp at h
  ·simp at h
  ·rename_i r1 j1 he
   have h1:=je2 ho ls _ _ _ he
   have h2:=jmU (je2 ho ls) lv _ _ _ _ _ h
   omega
theorem jcb:∀ f sy o,Len ts (go ts en f sy o)
 | 0,sy,o,i,out,j,h=>by simp [go] at h
 | f+1,.expr,o,i,out,j,h=>by
  unfold go at h
  split at h
  ·split at h
   ·simp [long] at h
   split at h
   ·simp at h
   ·simp at h
   rename_i c j1 h1
   have a1:=jcb f .cond (o+1) _ _ _ h1
   split at h
   ·simp at h
   rename_i j2 h2
   have a2:=jdz h2
   split at h
   ·simp at h
   ·simp at h
   rename_i a j3 h3
   have a3:=jcb f .expr (o+1) _ _ _ h3
   split at h
   ·simp at h
   rename_i j4 h4
   have a4:=jdz h4
   split at h
   ·simp at h
   ·simp at h
   rename_i b j5 h5
   have a5:=jcb f .expr (o+1) _ _ _ h5
   simp only [Kg,Except.ok.injEq,Kh] at h
   obtain ⟨h8,h9⟩:=h
   have h8:=congrArg List.length h8
   try simp only [Ku,K1,K5] at h8
   omega
  ·exact je2 (jcb f .unary o) _ _ _ _ h
 | f+1,.unary,o,i,out,j,h=>by
  unfold go at h
  split at h
  ·split at h
   ·simp [long] at h
   split at h
   ·simp at h
   ·simp at h
   rename_i a j1 h1
   have a1:=jcb f .unary (o+1) _ _ _ h1
   simp only [Kg,Except.ok.injEq,Kh] at h
   obtain ⟨h8,h9⟩:=h
   have h8:=congrArg List.length h8
   try simp only [Ku,K1,K5] at h8
   omega
  split at h
  ·split at h
   ·simp [long] at h
   split at h
   ·simp at h
   ·simp at h
   rename_i a j1 h1
   have a1:=jcb f .expr (o+1) _ _ _ h1
   split at h
   ·simp at h
   rename_i j2 h2
   have a2:=jdz h2
   have:=jcd a2.2
   simp only [Kg,Except.ok.injEq,Kh] at h
   obtain ⟨h8,h9⟩:=h
   have h8:=congrArg List.length h8
   try simp only [Ku,K1,K5] at h8
   omega
  split at h
  ·rename_i t ht
   have:=jgP ht
   split at h
   ·simp only [Kg,Except.ok.injEq,Kh] at h
    obtain ⟨h8,h9⟩:=h
    have h8:=congrArg List.length h8
    try simp only [Ku,K1,K5] at h8
    omega
   split at h
   ·simp only [Kg,Except.ok.injEq,Kh] at h
    obtain ⟨h8,h9⟩:=h
    have h8:=congrArg List.length h8
    try simp only [Ku,K1,K5] at h8
    omega
   ·simp [syn] at h
  ·simp [syn] at h
 | f+1,.cond,o,i,out,j,h=>by
  unfold go at h
  exact je2 (jcb f .neg o) _ _ _ _ h
 | f+1,.neg,o,i,out,j,h=>by
  unfold go at h
  split at h
  ·split at h
   ·simp [long] at h
   split at h
   ·simp at h
   ·simp at h
   rename_i a j1 h1
   have a1:=jcb f .neg (o+1) _ _ _ h1
   simp only [Kg,Except.ok.injEq,Kh] at h
   obtain ⟨h8,h9⟩:=h
   have h8:=congrArg List.length h8
   try simp only [Ku,K1,K5] at h8
   omega
  split at h
  ·split at h
   ·simp [long] at h
   split at h
   ·simp at h
   ·simp at h
   rename_i a j1 h1
   have a1:=jcb f .cond (o+1) _ _ _ h1
   split at h
   ·simp at h
   rename_i j2 h2
   have a2:=jdz h2
   have:=jcd a2.2
   simp only [Kg,Except.ok.injEq,Kh] at h
   obtain ⟨h8,h9⟩:=h
   have h8:=congrArg List.length h8
   try simp only [Ku,K1,K5] at h8
   omega
  ·exact jcb f .compare o _ _ _ h
 | f+1,.compare,o,i,out,j,h=>by
  unfold go at h
  split at h
  ·simp at h
  ·simp at h
  rename_i a j1 h1
  have a1:=jcb f .expr o _ _ _ h1
  split at h
  ·simp [syn] at h
  split at h
  ·rename_i t ht
   have:=jgP ht
   split at h
   ·simp only [Kg,Except.ok.injEq,Kh] at h
    obtain ⟨h8,h9⟩:=h
    have h8:=congrArg List.length h8
    try simp only [Ku,K1,K5] at h8
    omega
   split at h
   ·simp at h
   ·simp at h
   rename_i b k h2
   have a2:=jcb f .expr o _ _ _ h2
   simp only [Kg,Except.ok.injEq,Kh] at h
   obtain ⟨h8,h9⟩:=h
   have h8:=congrArg List.length h8
   try simp only [Ku,K1,K5] at h8
   omega
  ·split at h
   ·simp at h
   ·simp at h
   rename_i b k h2
   have a2:=jcb f .expr o _ _ _ h2
   simp only [Kg,Except.ok.injEq,Kh] at h
   obtain ⟨h8,h9⟩:=h
   have h8:=congrArg List.length h8
   try simp only [Ku,K1,K5] at h8
   omega
end
end Go.Ab.PP
