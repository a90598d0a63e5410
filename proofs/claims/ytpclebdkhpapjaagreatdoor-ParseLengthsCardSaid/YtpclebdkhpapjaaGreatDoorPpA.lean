/- Proved here: a plain parser. Conditions: those of each theorem; no statement of the seat is proved in this text. -/
import Derived.Test.YtpclebdkhpapjaaGreatDoorAbF
/- The parser of queries,plain. Conditions: none. -/
set_option linter.unusedSimpArgs false
set_option linter.unusedVariables false
set_option linter.unusedSectionVars false
namespace Go.Ab.PP
structure Tk where
 kind:Int
 text:List UInt8
 n:Int
 pos:Int
structure Nd where
 op:Int
 n:Int
 col:List UInt8
deriving DecidableEq
abbrev Fl:=Int × Int
abbrev R (α:Type):=Except Fl (α × Nat)
abbrev Lvl:=List (List UInt8 × Int)
def opN (o:Int):Nd:=⟨o,0,[]⟩
def look (l:Lvl)(s:List UInt8):Option Int:=(l.find? fun p=>p.1=s).map (·.2)
section
variable (ts:List Tk)(en:Int)
def atP (i:Nat):Int:=match ts[i]? with | some t=>t.pos | none=>en
def txt (i:Nat):List UInt8:=match ts[i]? with | some t=>if t.kind=2∨t.kind=5 then t.text else [] | none=>[]
def sgn (i:Nat):List UInt8:=match ts[i]? with | some t=>if t.kind=5 then t.text else [] | none=>[]
def isK (k:Int)(i:Nat):Bool:=match ts[i]? with | some t=>t.kind=k | none=>false
def sees (s:List UInt8)(i:Nat):Bool:=match ts[i]? with | some t=>(t.kind=2∨t.kind=5)∧t.text=s | none=>false
def syn {α:Type}(i:Nat):R α:=.error (11,atP ts en i)
def must (s:List UInt8)(i:Nat):R Unit:=if sees ts s i then .ok ((),i+1) else syn ts en i
def jhN (k:Int)(i:Nat):R Tk:=match ts[i]? with | some t=>if t.kind=k then .ok (t,i+1) else syn ts en i | none=>syn ts en i
def jfN (i:Nat):R (List UInt8):=match jhN ts en 1 i with | .ok (t,j)=>.ok (t.text,j) | .error e=>.error e
def numP (i:Nat):R Int:=match jhN ts en 3 i with | .ok (t,j)=>.ok (t.n,j) | .error e=>.error e
def intP (i:Nat):R Int:=if sees ts [45] i then (match numP ts en (i+1) with | .ok (n,j)=>.ok (-n,j) | .error e=>.error e) else numP ts en i
def posP (i:Nat):R Int:=match numP ts en i with | .ok (n,j)=>if n=0 then .error (2,atP ts en i) else .ok (n,j) | .error e=>.error e
def jhO (sub:Nat→Option (R (List Nd)))(lv:Lvl):Nat→List Nd→Nat→Option (R (List Nd))
 | 0,_,_=>none
 | m+1,out,i=>match look lv (txt ts i) with
  | none=>some (.ok (out,i))
  | some op=>match sub (i+1) with
   | none=>none
   | some (.error e)=>some (.error e)
   | some (.ok (r,j))=>jhO sub lv m (out++r++[opN op]) j
def jeD (operand:Nat→Option (R (List Nd))):List Lvl→Nat→Option (R (List Nd))
 | [],i=>operand i
 | lv::ls,i=>match jeD operand ls i with
  | none=>none
  | some (.error e)=>some (.error e)
  | some (.ok (out,j))=>jhO ts (jeD operand ls) lv (ts.length+1) out j
def sumL:List Lvl:=[[([43],4),([45],5)],[([42],6)]]
def jhk:List Lvl:=[[([111,114],16)],[([97,110,100],15)]]
def cmpL:Lvl:=[([61],9),([33,61],10),([60],11),([60,61],12),([62],13),([62,61],14)]
def wIf:List UInt8:=[105,102]
def jru:List UInt8:=[116,104,101,110]
def jrv:List UInt8:=[101,108,115,101]
def wNot:List UInt8:=[110,111,116]
def long {α:Type}(i:Nat):R α:=.error (4,atP ts en i)
inductive Sy where
 | expr | unary | cond | neg | compare
def go:Nat→Sy→Nat→Nat→Option (R (List Nd))
  | 0,_,_,_=>none
  | f+1,.expr,o,i =>
    if sees ts wIf i then
      if 50≤o then some (long ts en i) else
      match go f .cond (o+1) (i+1) with
      | none=>none
      | some (.error e)=>some (.error e)
      | some (.ok (c,j))=>match must ts en jru j with
        | .error e=>some (.error e)
        | .ok (_,j)=>match go f .expr (o+1) j with
          | none=>none
          | some (.error e)=>some (.error e)
          | some (.ok (a,j))=>match must ts en jrv j with
            | .error e=>some (.error e)
            | .ok (_,j)=>match go f .expr (o+1) j with
              | none=>none
              | some (.error e)=>some (.error e)
              | some (.ok (b,j))=>some (.ok (c++a++b++[opN 8],j))
    else jeD ts (go f .unary o) sumL i
  | f+1,.unary,o,i =>
    if sees ts [45] i then
      if 50≤o then some (long ts en i) else
      match go f .unary (o+1) (i+1) with
      | none=>none
      | some (.error e)=>some (.error e)
      | some (.ok (a,j))=>some (.ok (a++[opN 7],j))
    else if sees ts [40] i then
      if 50≤o then some (long ts en i) else
      match go f .expr (o+1) (i+1) with
      | none=>none
      | some (.error e)=>some (.error e)
      | some (.ok (a,j))=>match must ts en [41] j with
        | .error e=>some (.error e)
        | .ok (_,j)=>some (.ok (a,j))
    else match ts[i]? with
      | some t=>if t.kind=3 then some (.ok ([⟨1,t.n,[]⟩],i+1)) else if t.kind=1 then some (.ok ([⟨2,0,t.text⟩],i+1)) else some (syn ts en i)
      | none=>some (syn ts en i)
  | f+1,.cond,o,i=>jeD ts (go f .neg o) jhk i
  | f+1,.neg,o,i =>
    if sees ts wNot i then
      if 50≤o then some (long ts en i) else
      match go f .neg (o+1) (i+1) with
      | none=>none
      | some (.error e)=>some (.error e)
      | some (.ok (a,j))=>some (.ok (a++[opN 17],j))
    else if sees ts [91] i then
      if 50≤o then some (long ts en i) else
      match go f .cond (o+1) (i+1) with
      | none=>none
      | some (.error e)=>some (.error e)
      | some (.ok (a,j))=>match must ts en [93] j with
        | .error e=>some (.error e)
        | .ok (_,j)=>some (.ok (a,j))
    else go f .compare o i
  | f+1,.compare,o,i =>
    match go f .expr o i with
    | none=>none
    | some (.error e)=>some (.error e)
    | some (.ok (a,j))=>match look cmpL (sgn ts j) with
      | none=>some (syn ts en j)
      | some op=>match ts[j+1]? with
        | some t=>if t.kind=4∧(isK ts 1 i=true∧j=i+1)∧(op=9∨op=10) then some (.ok (a++[⟨3,0,t.text⟩,opN op],j+2)) else
          (match go f .expr o (j+1) with
            | none=>none
            | some (.error e)=>some (.error e)
            | some (.ok (b,k))=>some (.ok (a++b++[opN op],k)))
        | none=>(match go f .expr o (j+1) with
            | none=>none
            | some (.error e)=>some (.error e)
            | some (.ok (b,k))=>some (.ok (a++b++[opN op],k)))
end
section
variable {ts:List Tk}{en:Int}
theorem jb7 {s:List UInt8}{i:Nat}(h:sees ts s i=true):i<ts.length:=by
 unfold sees at h
 split at h
 ·rename_i t ht; exact (Kv.1 ht).1
 ·simp at h
theorem jdm {s:List UInt8}{i j:Nat}{u:Unit}(h:must ts en s i=.ok (u,j)):j=i+1∧sees ts s i=true:=by
 unfold must at h
 split at h
 ·simp only [Except.ok.injEq,Ki,true_and] at h
  exact ⟨h.symm,by assumption⟩
 ·simp [syn] at h
def Adv (ts:List Tk)(f:Nat→Option (R (List Nd))):Prop:=∀ i out j,f i=some (.ok (out,j))→i<j∧j≤ts.length
theorem jlx {sub:Nat→Option (R (List Nd))}(hs:Adv ts sub)(lv:Lvl):∀ m out i r j,jhO ts sub lv m out i=some (.ok (r,j))→i≤j∧(j=i∨j≤ts.length)
 | 0,out,i,r,j,h=>by simp [jhO] at h
 | m+1,out,i,r,j,h=>by
  unfold jhO at h
  split at h
  ·simp only [Kf,Except.ok.injEq,Ki] at h
   omega
  ·split at h
   ·simp at h
   ·simp at h
   ·rename_i r1 j1 he
    have h1:=hs _ _ _ he
    have h2:=jlx hs lv m _ _ _ _ h
    omega
theorem jeE {op:Nat→Option (R (List Nd))}(ho:Adv ts op):∀ ls,Adv ts (jeD ts op ls)
 | [],i,out,j,h=>ho i out j h
 | lv::ls,i,out,j,h=>by
  unfold jeD at h
  split at h
  ·simp at h
  ·simp at h
  ·rename_i r1 j1 he
   have h1:=jeE ho ls _ _ _ he
   have h2:=jlx (jeE ho ls) lv _ _ _ _ _ h
   omega
theorem jgb {i:Nat}{t:Tk}(h:ts[i]? = some t):i<ts.length:=(Kv.1 h).1
theorem jn0 {lv:Lvl}{i:Nat}{o:Int}(hl:look lv []=none)(h:look lv (txt ts i)=some o):i<ts.length:=by
 unfold txt at h
 split at h
 ·rename_i t ht; exact jgb ht
 ·rw [hl] at h; cases h
theorem jd4:∀ f sy o,Adv ts (go ts en f sy o)
 | 0,sy,o,i,out,j,h=>by simp [go] at h
 | f+1,.expr,o,i,out,j,h=>by
  unfold go at h
  split at h
  ·split at h
   ·simp [long] at h
   split at h
   ·simp at h
   ·simp at h
   rename_i c j1 h1
   have a1:=jd4 f .cond (o+1) _ _ _ h1
   split at h
   ·simp at h
   rename_i j2 h2
   have a2:=jdm h2
   split at h
   ·simp at h
   ·simp at h
   rename_i a j3 h3
   have a3:=jd4 f .expr (o+1) _ _ _ h3
   split at h
   ·simp at h
   rename_i j4 h4
   have a4:=jdm h4
   split at h
   ·simp at h
   ·simp at h
   rename_i b j5 h5
   have a5:=jd4 f .expr (o+1) _ _ _ h5
   simp only [Kf,Except.ok.injEq,Ki] at h
   omega
  ·exact jeE (jd4 f .unary o) _ _ _ _ h
 | f+1,.unary,o,i,out,j,h=>by
  unfold go at h
  split at h
  ·split at h
   ·simp [long] at h
   split at h
   ·simp at h
   ·simp at h
   rename_i a j1 h1
   have a1:=jd4 f .unary (o+1) _ _ _ h1
   simp only [Kf,Except.ok.injEq,Ki] at h
   omega
  split at h
  ·split at h
   ·simp [long] at h
   split at h
   ·simp at h
   ·simp at h
   rename_i a j1 h1
   have a1:=jd4 f .expr (o+1) _ _ _ h1
   split at h
   ·simp at h
   rename_i j2 h2
   have a2:=jdm h2
   have:=jb7 a2.2
   simp only [Kf,Except.ok.injEq,Ki] at h
   omega
  split at h
  ·rename_i t ht
   have:=jgb ht
   split at h
   ·simp only [Kf,Except.ok.injEq,Ki] at h
    omega
   split at h
   ·simp only [Kf,Except.ok.injEq,Ki] at h
    omega
   ·simp [syn] at h
  ·simp [syn] at h
 | f+1,.cond,o,i,out,j,h=>by
  unfold go at h
  exact jeE (jd4 f .neg o) _ _ _ _ h
 | f+1,.neg,o,i,out,j,h=>by
  unfold go at h
  split at h
  ·split at h
   ·simp [long] at h
   split at h
   ·simp at h
   ·simp at h
   rename_i a j1 h1
   have a1:=jd4 f .neg (o+1) _ _ _ h1
   simp only [Kf,Except.ok.injEq,Ki] at h
   omega
  split at h
  ·split at h
   ·simp [long] at h
   split at h
   ·simp at h
   ·simp at h
   rename_i a j1 h1
   have a1:=jd4 f .cond (o+1) _ _ _ h1
   split at h
   ·simp at h
   rename_i j2 h2
   have a2:=jdm h2
   have:=jb7 a2.2
   simp only [Kf,Except.ok.injEq,Ki] at h
   omega
  ·exact jd4 f .compare o _ _ _ h
 | f+1,.compare,o,i,out,j,h=>by
  unfold go at h
  split at h
  ·simp at h
  ·simp at h
  rename_i a j1 h1
  have a1:=jd4 f .expr o _ _ _ h1
  split at h
  ·simp [syn] at h
  split at h
  ·rename_i t ht
   have:=jgb ht
   split at h
   ·simp only [Kf,Except.ok.injEq,Ki] at h
    omega
   split at h
   ·simp at h
   ·simp at h
   rename_i b k h2
   have a2:=jd4 f .expr o _ _ _ h2
   simp only [Kf,Except.ok.injEq,Ki] at h
   omega
  ·split at h
   ·simp at h
   ·simp at h
   rename_i b k h2
   have a2:=jd4 f .expr o _ _ _ h2
   simp only [Kf,Except.ok.injEq,Ki] at h
   omega
theorem jiI {sub:Nat→Option (R (List Nd))}(hs:Adv ts sub)(ht:∀ i,(sub i).isSome){lv:Lvl}(hl:look lv []=none):∀ m out i,ts.length<m+i∨ts.length<i→0<m→(jhO ts sub lv m out i).isSome
 | 0,out,i,hm,h0=>by omega
 | m+1,out,i,hm,h0=>by
  unfold jhO
  split
  ·rfl
  ·rename_i o ho
   have hi:=jn0 hl ho
   have h1:=ht (i+1)
   split
   ·rename_i he; rw [he] at h1; simp at h1
   ·rfl
   ·rename_i r j he
    have h2:=hs _ _ _ he
    exact jiI hs ht hl m _ _ (by omega) (by omega)
theorem jfp {op:Nat→Option (R (List Nd))}(ha:Adv ts op)(ht:∀ i,(op i).isSome):∀ ls:List Lvl,(∀ lv∈ls,look lv []=none)→∀ i,(jeD ts op ls i).isSome
 | [],_,i=>ht i
 | lv::ls,hl,i=>by
  have ih:=jfp ha ht ls fun l h=>hl l (by simp [h])
  unfold jeD
  have h1:=ih i
  split
  ·rename_i he; rw [he] at h1; simp at h1
  ·rfl
  ·rename_i r j he
   exact jiI (jeE ha ls) ih (hl lv (by simp)) _ _ _ (by omega) (by omega)
def rank:Sy→Nat
 | .unary=>1
 | .expr=>2
 | .compare=>3
 | .neg=>4
 | .cond=>5
theorem jqi:∀ lv∈sumL,look lv []=none:=by decide
theorem jn1:∀ lv∈jhk,look lv []=none:=by decide
theorem jcJ:∀ f sy o,o≤50→5 * (50 - o)+rank sy≤f→∀ i,(go ts en f sy o i).isSome
 | 0,sy,o,ho,hf,i=>by cases sy <;> simp [rank] at hf
 | f+1,.expr,o,ho,hf,i=>by
  simp only [rank] at hf
  unfold go
  split
  ·split
   ·rfl
   have g1:=jcJ f .cond (o+1) (by omega) (by simp only [rank]; omega) (i+1)
   split
   ·rename_i he; rw [he] at g1; simp at g1
   ·rfl
   split
   ·rfl
   rename_i j2 h2
   have g2:=jcJ f .expr (o+1) (by omega) (by simp only [rank]; omega) j2
   split
   ·rename_i he; rw [he] at g2; simp at g2
   ·rfl
   split
   ·rfl
   rename_i j4 h4
   have g3:=jcJ f .expr (o+1) (by omega) (by simp only [rank]; omega) j4
   split
   ·rename_i he; rw [he] at g3; simp at g3
   ·rfl
   ·rfl
  ·exact jfp (jd4 f .unary o) (jcJ f .unary o ho (by simp only [rank]; omega)) _ jqi i
 | f+1,.unary,o,ho,hf,i=>by
  simp only [rank] at hf
  unfold go
  split
  ·split
   ·rfl
   have g1:=jcJ f .unary (o+1) (by omega) (by simp only [rank]; omega) (i+1)
   split
   ·rename_i he; rw [he] at g1; simp at g1
   ·rfl
   ·rfl
  split
  ·split
   ·rfl
   have g1:=jcJ f .expr (o+1) (by omega) (by simp only [rank]; omega) (i+1)
   split
   ·rename_i he; rw [he] at g1; simp at g1
   ·rfl
   split <;> rfl
  split
  ·split
   ·rfl
   ·split <;> rfl
  ·rfl
 | f+1,.cond,o,ho,hf,i=>by
  simp only [rank] at hf
  unfold go
  exact jfp (jd4 f .neg o) (jcJ f .neg o ho (by simp only [rank]; omega)) _ jn1 i
 | f+1,.neg,o,ho,hf,i=>by
  simp only [rank] at hf
  unfold go
  split
  ·split
   ·rfl
   have g1:=jcJ f .neg (o+1) (by omega) (by simp only [rank]; omega) (i+1)
   split
   ·rename_i he; rw [he] at g1; simp at g1
   ·rfl
   ·rfl
  split
  ·split
   ·rfl
   have g1:=jcJ f .cond (o+1) (by omega) (by simp only [rank]; omega) (i+1)
   split
   ·rename_i he; rw [he] at g1; simp at g1
   ·rfl
   split <;> rfl
  ·exact jcJ f .compare o ho (by simp only [rank]; omega) i
 | f+1,.compare,o,ho,hf,i=>by
  simp only [rank] at hf
  unfold go
  have g1:=jcJ f .expr o ho (by simp only [rank]; omega) i
  split
  ·rename_i he; rw [he] at g1; simp at g1
  ·rfl
  rename_i a j h1
  have g2:=jcJ f .expr o ho (by simp only [rank]; omega) (j+1)
  split
  ·rfl
  split
  ·split
   ·rfl
   split
   ·rename_i he; rw [he] at g2; simp at g2
   ·rfl
   ·rfl
  ·split
   ·rename_i he; rw [he] at g2; simp at g2
   ·rfl
   ·rfl
end
structure Qry where
 kind:Int
 expr:List Nd
 lo:Int
 hi:Int
 p:Int
 q:Int
 column:List UInt8
 bound:Int
 ranges:List (Int × Int)
 strategy:Int
 consistent:Bool
 table:List UInt8
 keep:Int
 other:List UInt8
 left:List UInt8
 right:List UInt8
 limit:Int
 wher:List Nd
 factor:List UInt8
 bits:Int
def Qry.zero:Qry:=⟨0,[],0,0,0,0,[],0,[],0,false,[],0,[],[],[],0,[],[],0⟩
def andThen {α β:Type}(x:R α)(f:α→Nat→R β):R β:=match x with
 | .ok (a,j)=>f a j
 | .error e=>.error e
section
variable (ts:List Tk)(en:Int)(itoa:Int→List UInt8)(mk:Int→Int→List UInt8)
def deep:Nat:=260
def joE (sy:Sy)(i:Nat):R (List Nd):=(go ts en deep sy 0 i).getD (.error (0,0))
def jek (sy:Sy)(i:Nat):R (List Nd):=andThen (joE ts en sy i) fun out j=>if 200<out.length then .error (4,atP ts en i) else .ok (out,j)
def jkx:List UInt8:=[98,101,116,119,101,101,110]
def wAnd:List UInt8:=[97,110,100]
def jeZ (k:Int)(q:Qry)(i:Nat):R Qry :=
 andThen (jek ts en .expr i) fun e j=>andThen (must ts en jkx j) fun _ j=>andThen (intP ts en j) fun lo j=>andThen (must ts en wAnd j) fun _ j=>andThen (intP ts en j) fun hi j=>.ok ({ q with kind:=k,expr:=e,lo:=lo,hi:=hi },j)
def jcE (k:Int)(q:Qry)(i:Nat):R Qry:=andThen (jfN ts en i) fun c j=>.ok ({ q with kind:=k,column:=c },j)
def jgc:Nat→List (Int × Int)→Nat→R (List (Int × Int))
 | 0,_,_=>.error (0,0)
 | m+1,out,i =>
  if 64≤out.length then .error (4,atP ts en i) else
  andThen (intP ts en i) fun lo j=>andThen (must ts en [46,46] j) fun _ j=>andThen (intP ts en j) fun hi j =>
   if sees ts [44] j then jgc m (out++[(lo,hi)]) (j+1) else .ok (out++[(lo,hi)],j)
def jqj:List UInt8:=[117,115,105,110,103]
def jeF:List UInt8:=[105,100,101,110,116,105,116,121]
def jiJ:List UInt8:=[112,114,101,102,105,120]
def jrw:List UInt8:=[116,114,101,101]
def jdE (i:Nat):R Int:=if sees ts jeF i then .ok (0,i+1) else if sees ts jiJ i then .ok (1,i+1) else if sees ts jrw i then .ok (2,i+1) else syn ts en i
def jqk (q:Qry)(i:Nat):R Qry :=
 andThen (jcE ts en 10 q i) fun q j=>andThen (jgc ts en 65 [] j) fun rs j=>andThen (must ts en jqj j) fun _ j=>andThen (jdE ts en j) fun s j=>.ok ({ q with ranges:=rs,strategy:=s },j)
def wBy:List UInt8:=[98,121]
def wOf:List UInt8:=[111,102]
def jql (q:Qry)(i:Nat):R Qry:=andThen (jeZ ts en 4 q i) fun q j=>andThen (must ts en wBy j) fun _ j=>andThen (jfN ts en j) fun c j=>.ok ({ q with column:=c },j)
def jiK (q:Qry)(i:Nat):R Qry:=andThen (numP ts en i) fun p j=>andThen (must ts en [47] j) fun _ j=>andThen (numP ts en j) fun r j=>andThen (must ts en wOf j) fun _ j=>jeZ ts en 5 { q with p:=p,q:=r } j
def jqm (q:Qry)(i:Nat):R Qry:=andThen (intP ts en i) fun b j=>jcE ts en 7 { q with bound:=b } j
def jel:List (List UInt8 × Int):=[([99,111,117,110,116],1),([115,117,109],2),([104,105,115,116,111,103,114,97,109],3),([116,111,116,97,108],4),([113,117,97,110,116,105,108,101],5),([109,111,100,101],6),([97,98,111,118,101],7),([112,101,97,107],8),([114,117,110,110,105,110,103],9),([98,97,116,99,104],10)]
def keyT (i:Nat):List UInt8:=match ts[i]? with | some t=>if t.kind=2 then t.text else [] | none=>[]
def jky (k:Int)(q:Qry)(i:Nat):R Qry :=
 if k=1 then .ok ({ q with kind:=1 },i) else if k=2 then jeZ ts en 2 q i else if k=3 then jcE ts en 3 q i else if k=4 then jql ts en q i else if k=5 then jiK ts en q i
 else if k=6 then jcE ts en 6 q i else if k=7 then jqm ts en q i else if k=8 then jcE ts en 8 q i else if k=9 then jcE ts en 9 q i else jqk ts en q i
def juq:List UInt8:=[102,114,111,109]
def jtk:List UInt8:=[107,101,101,112]
def jtl:List UInt8:=[106,111,105,110]
def wOn:List UInt8:=[111,110]
def jsJ:List UInt8:=[108,105,109,105,116]
def jqn:List UInt8:=[119,104,101,114,101]
def jrx (q:Qry)(i:Nat):R Qry:=if sees ts jtk i then andThen (posP ts en (i+1)) fun n j=>.ok ({ q with keep:=n },j) else .ok (q,i)
def joF (q:Qry)(i:Nat):R Qry:=if sees ts jtl i then
  andThen (jfN ts en (i+1)) fun o j=>andThen (must ts en wOn j) fun _ j=>andThen (jfN ts en j) fun l j=>andThen (must ts en [61] j) fun _ j=>andThen (jfN ts en j) fun r j=>andThen (must ts en jsJ j) fun _ j=>andThen (posP ts en j) fun n j=>.ok ({ q with other:=o,left:=l,right:=r,limit:=n },j)
 else .ok (q,i)
def jiL (q:Qry)(i:Nat):R Qry:=if sees ts jqn i then andThen (jek ts en .cond (i+1)) fun w j=>.ok ({ q with wher:=w },j) else .ok (q,i)
def jd5 (q:Qry)(i:Nat):R Qry :=
 andThen (must ts en juq i) fun _ j=>andThen (jfN ts en j) fun t j=>andThen (jrx ts en { q with table:=t } j) fun q j=>andThen (joF ts en q j) fun q j=>jiL ts en q j
def jur:List UInt8:=[119,105,116,104]
def jqo:List UInt8:=[102,97,99,116,111,114]
def jry:List UInt8:=[98,105,116,115]
def jcV:List UInt8:=[99,111,110,115,105,115,116,101,110,116]
def jqp (i:Nat):R (List UInt8):=andThen (numP ts en i) fun n j =>
 if sees ts [47] j then andThen (numP ts en (j+1)) fun d k=>if d=0 then .error (6,atP ts en (j+1)) else .ok (mk n d,k) else .ok (itoa n,j)
def jja (q:Qry)(i:Nat):R Qry :=
 andThen (must ts en jur i) fun _ j=>andThen (must ts en jqo j) fun _ j=>andThen (jqp ts en itoa mk j) fun f j=>andThen (must ts en jry j) fun _ j=>andThen (posP ts en j) fun b j =>
  let c:=q.kind=3∧sees ts jcV j=true
  let j:=if c then j+1 else j
  if j<ts.length then syn ts en j else .ok ({ q with factor:=f,bits:=b,consistent:=if c then true else q.consistent },j)
def parseP:Except Fl Qry :=
 match look jel (keyT ts 0) with
 | none=>.error (11,atP ts en 0)
 | some k=>match andThen (jky ts en k Qry.zero 1) fun q j=>andThen (jd5 ts en q j) fun q j=>jja ts en itoa mk q j with
  | .ok (q,_)=>.ok q
  | .error e=>.error e
end
def ar (o:Int):Nat:=if o=1∨o=2∨o=3 then 0 else if o=7∨o=17 then 1 else if o=8 then 3 else 2
def hgt:List Nd→Nat→Option Nat
 | [],h=>some h
 | x::l,h=>if h<ar x.op then none else hgt l (h - ar x.op+1)
def WdN (l:List Nd):Prop:=∀ (i:Nat) (x:Nd),l[i]? = some x→x.op=3→∃ y z,0<i∧l[i - 1]? = some y∧y.op=2∧l[i+1]? = some z∧(z.op=9∨z.op=10)
structure St (l:List Nd):Prop where
 one:∀ h,hgt l h=some (h+1)
 wd:WdN l
theorem WdN.append {a b:List Nd}(ha:WdN a)(hb:WdN b):WdN (a++b):=by
 intro i x hx ho
 by_cases h:i<a.length
 ·rw [Kw h] at hx
  obtain ⟨y,z,h0,hy,hy2,hz,hz2⟩:=ha i x hx ho
  have:=(Kv.1 hz).1
  exact ⟨y,z,h0,by rw [Kw (by omega)]; exact hy,hy2,by rw [Kw (by omega)]; exact hz,hz2⟩
 ·rw [Qr (by omega)] at hx
  obtain ⟨y,z,h0,hy,hy2,hz,hz2⟩:=hb _ x hx ho
  refine ⟨y,z,by omega,?_,hy2,?_,hz2⟩
  ·rw [Qr (by omega),show i - 1 - a.length=i - a.length - 1 by omega]; exact hy
  ·rw [Qr (by omega),show i+1 - a.length=i - a.length+1 by omega]; exact hz
theorem WdN.single {x:Nd}(h:x.op ≠ 3):WdN [x]:=by
 intro i y hy ho
 rcases i with _ | i
 ·simp only [Qq,Kf] at hy; rw [← hy] at ho; exact absurd ho h
 ·simp at hy
theorem St.leaf {x:Nd}(h:x.op=1∨x.op=2):St [x]:=by
 refine ⟨fun n => ?_,WdN.single (by omega)⟩
 have h0:ar x.op=0:=by unfold ar; rw [Kp (by omega)]
 simp only [hgt,h0]
 rw [Kq (by omega)]
 rfl
section
variable {ts:List Tk}{en:Int}
theorem jrz {l:Lvl}{s:List UInt8}{o:Int}(h:look l s=some o):o∈l.map (·.2):=by
 unfold look at h
 rw [Km] at h
 obtain ⟨p,hp,ho⟩:=h
 exact Xm.2 ⟨p,List.mem_of_find?_eq_some hp,ho⟩
end
def Bad (en:Int)(e:Fl):Prop:=e.1 ≠ 0∧0≤e.2∧e.2≤en
def Rs {α:Type}(en:Int)(P:α→Prop):R α→Prop
 | .ok (a,_)=>P a
 | .error e=>Bad en e
theorem Rs.mono {α:Type}{en:Int}{P Q:α→Prop}{x:R α}(h:Rs en P x)(hq:∀ a,P a→Q a):Rs en Q x:=by
 match x,h with
 | .ok (a,_),h=>exact hq _ h
 | .error e,h=>exact h
theorem Rs.andThen {α β:Type}{en:Int}{P:α→Prop}{Q:β→Prop}{x:R α}{f:α→Nat→R β}(h:Rs en P x)(hf:∀ a j,P a→Rs en Q (f a j)):Rs en Q (PP.andThen x f):=by
 match x,h with
 | .ok (a,j),h=>exact hf a j h
 | .error e,h=>exact h
section
variable {ts:List Tk}{en:Int}
structure TsOK (ts:List Tk) (en:Int):Prop where
 en0:0≤en
 pos:∀ t∈ts,0≤t.pos∧t.pos≤en
 name:∀ t∈ts,t.kind=1→t.text ≠ []
 num:∀ t∈ts,t.kind=3→0≤t.n
theorem jqq {s:List UInt8}{k:Int}(h:look jel s=some k):1≤k∧k≤10:=by
 have:=jrz h
 simp only [jel,Je,List.map_nil,Jb,Xi,or_false] at this
 omega
end
def jqr (t:Tk):Int × List UInt8 × Int:=(t.kind,t.text,t.n)
def Eqv (ts us:List Tk):Prop:=ts.map jqr=us.map jqr
def Rq {α:Type}:R α→R α→Prop
 | .ok a,.ok b=>a=b
 | .error _,.error _=>True
 | _,_=>False
def Ro2 {α:Type}:Option (R α)→Option (R α)→Prop
 | some x,some y=>Rq x y
 | none,none=>True
 | _,_=>False
theorem Ro2.cases {α:Type}{x y:Option (R α)}(h:Ro2 x y):(x=none∧y=none)∨(∃ e e',x=some (.error e)∧y=some (.error e'))∨∃ r j,x=some (.ok (r,j))∧y=some (.ok (r,j)):=by
 match x,y,h with
 | none,none,_=>exact .inl ⟨rfl,rfl⟩
 | some (.error e),some (.error e'),_=>exact .inr (.inl ⟨e,e',rfl,rfl⟩)
 | some (.ok (r,j)),some (.ok b),h =>
  have h:(r,j)=b:=h
  exact .inr (.inr ⟨r,j,rfl,by rw [← h]⟩)
theorem Rq.cases {α:Type}{x y:R α}(h:Rq x y):(∃ e e',x=.error e∧y=.error e')∨∃ r j,x=.ok (r,j)∧y=.ok (r,j):=by
 match x,y,h with
 | .error e,.error e',_=>exact .inl ⟨e,e',rfl,rfl⟩
 | .ok (r,j),.ok b,h =>
  have h:(r,j)=b:=h
  exact .inr ⟨r,j,rfl,by rw [← h]⟩
theorem Rq.refl {α:Type}(x:R α):Rq x x:=by
 match x with
 | .ok a=>exact (rfl:a=a)
 | .error e=>trivial
theorem Ro2.refl {α:Type}(x:Option (R α)):Ro2 x x:=by
 match x with
 | some x=>exact Rq.refl x
 | none=>trivial
theorem Rq.andThen {α β:Type}{x y:R α}{f g:α→Nat→R β}(h:Rq x y)(hf:∀ a j,Rq (f a j) (g a j)):Rq (PP.andThen x f) (PP.andThen y g):=by
 rcases h.cases with ⟨e,e',rfl,rfl⟩ | ⟨r,j,rfl,rfl⟩
 ·trivial
 ·exact hf r j
section
variable {ts us:List Tk}{en en':Int}(hE:Eqv ts us)
include hE
end
section
variable (ts us:List Tk)(d:Nat)
def Agr (i:Nat):Prop:=(ts[i]?).map jqr=(us[i+d]?).map jqr
def Stop (k:Nat):Prop:=(∀ lv∈sumL,look lv (txt us k)=none)∧∀ lv∈jhk,look lv (txt us k)=none
end
section
variable {ts us:List Tk}{d:Nat}
theorem Agr.cases {i:Nat}(h:Agr ts us d i):(ts[i]? = none∧us[i+d]? = none)∨∃ t u,ts[i]? = some t∧us[i+d]? = some u∧t.kind=u.kind∧t.text=u.text∧t.n=u.n:=by
 unfold Agr at h
 cases h1:ts[i]? with
 | none =>
  cases h2:us[i+d]? with
  | none=>exact .inl ⟨rfl,rfl⟩
  | some u=>rw [h1,h2] at h; simp at h
 | some t =>
  cases h2:us[i+d]? with
  | none=>rw [h1,h2] at h; simp at h
  | some u =>
   rw [h1,h2] at h
   simp only [Kz,jqr,Kf,Ki] at h
   exact .inr ⟨t,u,rfl,rfl,h⟩
theorem Agr.sees {i:Nat}(h:Agr ts us d i)(s:List UInt8):sees us s (i+d)=sees ts s i:=by
 unfold PP.sees
 rcases h.cases with ⟨h1,h2⟩ | ⟨t,u,h1,h2,a,b,c⟩
 ·rw [h1,h2]
 ·rw [h1,h2]; simp only [a,b]
theorem Agr.txt {i:Nat}(h:Agr ts us d i):txt us (i+d)=txt ts i:=by
 unfold PP.txt
 rcases h.cases with ⟨h1,h2⟩ | ⟨t,u,h1,h2,a,b,c⟩
 ·rw [h1,h2]
 ·rw [h1,h2]; simp only [a,b]
theorem Agr.sgn {i:Nat}(h:Agr ts us d i):sgn us (i+d)=sgn ts i:=by
 unfold PP.sgn
 rcases h.cases with ⟨h1,h2⟩ | ⟨t,u,h1,h2,a,b,c⟩
 ·rw [h1,h2]
 ·rw [h1,h2]; simp only [a,b]
theorem Agr.isK {i:Nat}(h:Agr ts us d i)(k:Int):isK us k (i+d)=isK ts k i:=by
 unfold PP.isK
 rcases h.cases with ⟨h1,h2⟩ | ⟨t,u,h1,h2,a,b,c⟩
 ·rw [h1,h2]
 ·rw [h1,h2]; simp only [a]
variable (ts us d)
variable {ts us d}
end
section
variable {ts:List Tk}{en:Int}
def Len (ts:List Tk)(f:Nat→Option (R (List Nd))):Prop:=∀ i out j,f i=some (.ok (out,j))→i<j∧j≤ts.length∧out.length≤j - i
theorem jly {sub:Nat→Option (R (List Nd))}(hs:Len ts sub)(lv:Lvl):∀ m out i r j,jhO ts sub lv m out i=some (.ok (r,j))→i≤j∧(j=i∨j≤ts.length)∧r.length≤out.length+(j - i)
 | 0,out,i,r,j,h=>by simp [jhO] at h
 | m+1,out,i,r,j,h=>by
  unfold jhO at h
  split at h
  ·simp only [Kf,Except.ok.injEq,Ki] at h
   obtain ⟨rfl,rfl⟩:=h
   omega
  ·split at h
   ·simp at h
   ·simp at h
   ·rename_i r1 j1 he
    have h1:=hs _ _ _ he
    have h2:=jly hs lv m _ _ _ _ h
    simp only [Ks,K0,K6] at h2
    omega
theorem jeG {op:Nat→Option (R (List Nd))}(ho:Len ts op):∀ ls,Len ts (jeD ts op ls)
 | [],i,out,j,h=>ho i out j h
 | lv::ls,i,out,j,h=>by
  unfold jeD at h
  split at h
  ·simp at h
  ·simp at h
  ·rename_i r1 j1 he
   have h1:=jeG ho ls _ _ _ he
   have h2:=jly (jeG ho ls) lv _ _ _ _ _ h
   omega
theorem jb3:∀ f sy o,Len ts (go ts en f sy o)
 | 0,sy,o,i,out,j,h=>by simp [go] at h
 | f+1,.expr,o,i,out,j,h=>by
  unfold go at h
  split at h
  ·split at h
   ·simp [long] at h
   split at h
   ·simp at h
   ·simp at h
   rename_i c j1 h1
   have a1:=jb3 f .cond (o+1) _ _ _ h1
   split at h
   ·simp at h
   rename_i j2 h2
   have a2:=jdm h2
   split at h
   ·simp at h
   ·simp at h
   rename_i a j3 h3
   have a3:=jb3 f .expr (o+1) _ _ _ h3
   split at h
   ·simp at h
   rename_i j4 h4
   have a4:=jdm h4
   split at h
   ·simp at h
   ·simp at h
   rename_i b j5 h5
   have a5:=jb3 f .expr (o+1) _ _ _ h5
   simp only [Kf,Except.ok.injEq,Ki] at h
   obtain ⟨h8,h9⟩:=h
   have h8:=congrArg List.length h8
   try simp only [Ks,K0,K6] at h8
   omega
  ·exact jeG (jb3 f .unary o) _ _ _ _ h
 | f+1,.unary,o,i,out,j,h=>by
  unfold go at h
  split at h
  ·split at h
   ·simp [long] at h
   split at h
   ·simp at h
   ·simp at h
   rename_i a j1 h1
   have a1:=jb3 f .unary (o+1) _ _ _ h1
   simp only [Kf,Except.ok.injEq,Ki] at h
   obtain ⟨h8,h9⟩:=h
   have h8:=congrArg List.length h8
   try simp only [Ks,K0,K6] at h8
   omega
  split at h
  ·split at h
   ·simp [long] at h
   split at h
   ·simp at h
   ·simp at h
   rename_i a j1 h1
   have a1:=jb3 f .expr (o+1) _ _ _ h1
   split at h
   ·simp at h
   rename_i j2 h2
   have a2:=jdm h2
   have:=jb7 a2.2
   simp only [Kf,Except.ok.injEq,Ki] at h
   obtain ⟨h8,h9⟩:=h
   have h8:=congrArg List.length h8
   try simp only [Ks,K0,K6] at h8
   omega
  split at h
  ·rename_i t ht
   have:=jgb ht
   split at h
   ·simp only [Kf,Except.ok.injEq,Ki] at h
    obtain ⟨h8,h9⟩:=h
    have h8:=congrArg List.length h8
    try simp only [Ks,K0,K6] at h8
    omega
   split at h
   ·simp only [Kf,Except.ok.injEq,Ki] at h
    obtain ⟨h8,h9⟩:=h
    have h8:=congrArg List.length h8
    try simp only [Ks,K0,K6] at h8
    omega
   ·simp [syn] at h
  ·simp [syn] at h
 | f+1,.cond,o,i,out,j,h=>by
  unfold go at h
  exact jeG (jb3 f .neg o) _ _ _ _ h
 | f+1,.neg,o,i,out,j,h=>by
  unfold go at h
  split at h
  ·split at h
   ·simp [long] at h
   split at h
   ·simp at h
   ·simp at h
   rename_i a j1 h1
   have a1:=jb3 f .neg (o+1) _ _ _ h1
   simp only [Kf,Except.ok.injEq,Ki] at h
   obtain ⟨h8,h9⟩:=h
   have h8:=congrArg List.length h8
   try simp only [Ks,K0,K6] at h8
   omega
  split at h
  ·split at h
   ·simp [long] at h
   split at h
   ·simp at h
   ·simp at h
   rename_i a j1 h1
   have a1:=jb3 f .cond (o+1) _ _ _ h1
   split at h
   ·simp at h
   rename_i j2 h2
   have a2:=jdm h2
   have:=jb7 a2.2
   simp only [Kf,Except.ok.injEq,Ki] at h
   obtain ⟨h8,h9⟩:=h
   have h8:=congrArg List.length h8
   try simp only [Ks,K0,K6] at h8
   omega
  ·exact jb3 f .compare o _ _ _ h
 | f+1,.compare,o,i,out,j,h=>by
  unfold go at h
  split at h
  ·simp at h
  ·simp at h
  rename_i a j1 h1
  have a1:=jb3 f .expr o _ _ _ h1
  split at h
  ·simp [syn] at h
  split at h
  ·rename_i t ht
   have:=jgb ht
   split at h
   ·simp only [Kf,Except.ok.injEq,Ki] at h
    obtain ⟨h8,h9⟩:=h
    have h8:=congrArg List.length h8
    try simp only [Ks,K0,K6] at h8
    omega
   split at h
   ·simp at h
   ·simp at h
   rename_i b k h2
   have a2:=jb3 f .expr o _ _ _ h2
   simp only [Kf,Except.ok.injEq,Ki] at h
   obtain ⟨h8,h9⟩:=h
   have h8:=congrArg List.length h8
   try simp only [Ks,K0,K6] at h8
   omega
  ·split at h
   ·simp at h
   ·simp at h
   rename_i b k h2
   have a2:=jb3 f .expr o _ _ _ h2
   simp only [Kf,Except.ok.injEq,Ki] at h
   obtain ⟨h8,h9⟩:=h
   have h8:=congrArg List.length h8
   try simp only [Ks,K0,K6] at h8
   omega
end
end Go.Ab.PP
