/- Proved here: a plain parser. Conditions: those of each theorem; no statement of the seat is proved in this text. -/
import Derived.Test.YtpclebdkhpapjaaGreatDoorAbF
/- The parser of queries,plain. Conditions: none. -/
set_option linter.unusedSimpArgs false
set_option linter.unusedVariables false
set_option linter.unusedSectionVars false
namespace Go.Ab.PP
structure Tk where
 kind:Int
 text:List UInt8
 n:Int
 pos:Int
structure Nd where
 op:Int
 n:Int
 col:List UInt8
deriving DecidableEq
abbrev Fl:=Int × Int
abbrev R(α:Type):=Except Fl (α × Nat)
abbrev Lvl:=List (List UInt8 × Int)
def opN(o:Int):Nd:=⟨o,0,[]⟩
def look(l:Lvl)(s:List UInt8):Option Int:=(l.find? λp=>p.1=s).map (·.2)
section
variable (ts:List Tk)(en:Int)
def atP(i:Nat):Int:=match ts[i]? with|some t=>t.pos|none=>en
def txt(i:Nat):List UInt8:=match ts[i]? with|some t=>if t.kind=2\/t.kind=5 then t.text else []|none=>[]
def sgn(i:Nat):List UInt8:=match ts[i]? with|some t=>if t.kind=5 then t.text else []|none=>[]
def isK(k:Int)(i:Nat):Bool:=match ts[i]? with|some t=>t.kind=k|none=>false
def sees(s:List UInt8)(i:Nat):Bool:=match ts[i]? with|some t=>(t.kind=2\/t.kind=5)/\t.text=s|none=>false
def syn {α:Type}(i:Nat):R α:=.error (11,atP ts en i)
def must(s:List UInt8)(i:Nat):R Unit:=if sees ts s i then .ok ((),i+1)else syn ts en i
def jgL(k:Int)(i:Nat):R Tk:=match ts[i]? with|some t=>if t.kind=k then .ok (t,i+1)else syn ts en i|none=>syn ts en i
def jeX(i:Nat):R (List UInt8):=match jgL ts en 1 i with| .ok (t,j)=>.ok (t.text,j)| .error e=>.error e
def numP(i:Nat):R Int:=match jgL ts en 3 i with| .ok (t,j)=>.ok (t.n,j)| .error e=>.error e
def intP(i:Nat):R Int:=if sees ts [45] i then(match numP ts en (i+1)with| .ok (n,j)=>.ok (-n,j)| .error e=>.error e)else numP ts en i
def posP(i:Nat):R Int:=match numP ts en i with| .ok (n,j)=>if n=0 then .error (2,atP ts en i)else .ok (n,j)| .error e=>.error e
def jek(sub:Nat->Option (R (List Nd)))(lv:Lvl):Nat->List Nd->Nat->Option (R (List Nd))
 |0,_,_=>none
 | m+1,out,i=>match look lv (txt ts i)with
  |none=>some (.ok (out,i))
  |some op=>match sub (i+1)with
   |none=>none
   |some (.error e)=>some (.error e)
   |some (.ok (r,j))=>jek sub lv m (out++r++[opN op]) j
def jcu(operand:Nat->Option (R (List Nd))):List Lvl->Nat->Option (R (List Nd))
 | [],i=>operand i
 |lv::ls,i=>match jcu operand ls i with
  |none=>none
  |some (.error e)=>some (.error e)
  |some (.ok (out,j))=>jek ts (jcu operand ls) lv (ts.length+1) out j
def sumL:List Lvl:=[[([43],4),([45],5)],[([42],6)]]
def jhc:List Lvl:=[[([111,114],16)],[([97,110,100],15)]]
def cmpL:Lvl:=[([61],9),([33,61],10),([60],11),([60,61],12),([62],13),([62,61],14)]
def wIf:List UInt8:=[105,102]
def jsV:List UInt8:=[116,104,101,110]
def jsW:List UInt8:=[101,108,115,101]
def wNot:List UInt8:=[110,111,116]
def long {α:Type}(i:Nat):R α:=.error (4,atP ts en i)
inductive Sy where
 |expr|unary|cond|neg|compare
def go:Nat→Sy→Nat->Nat->Option (R (List Nd))
  |0,_,_,_=>none
  | f+1,.expr,o,i =>
    if sees ts wIf i then
      if 50<=o then some (long ts en i)else
      match go f .cond (o+1) (i+1)with
      |none=>none
      |some (.error e)=>some (.error e)
      | some (.ok (c,j))=>match must ts en jsV j with
        | .error e=>some (.error e)
        | .ok (_,j)=>match go f .expr (o+1) j with
          |none=>none
          |some (.error e)=>some (.error e)
          | some (.ok (a,j))=>match must ts en jsW j with
            | .error e=>some (.error e)
            | .ok (_,j)=>match go f .expr (o+1) j with
              |none=>none
              |some (.error e)=>some (.error e)
              |some (.ok (b,j))=>some (.ok (c++a++b++[opN 8],j))
    else jcu ts (go f .unary o) sumL i
  | f+1,.unary,o,i =>
    if sees ts [45] i then
      if 50<=o then some (long ts en i)else
      match go f .unary (o+1) (i+1)with
      |none=>none
      |some (.error e)=>some (.error e)
      |some (.ok (a,j))=>some (.ok (a++[opN 7],j))
    else if sees ts [40] i then
      if 50<=o then some (long ts en i)else
      match go f .expr (o+1) (i+1)with
      |none=>none
      |some (.error e)=>some (.error e)
      | some (.ok (a,j))=>match must ts en [41] j with
        | .error e=>some (.error e)
        | .ok (_,j)=>some (.ok (a,j))
    else match ts[i]? with
      |some t=>if t.kind=3 then some (.ok ([⟨1,t.n,[]⟩],i+1))else if t.kind=1 then some (.ok ([⟨2,0,t.text⟩],i+1))else some (syn ts en i)
      |none=>some (syn ts en i)
  |f+1,.cond,o,i=>jcu ts (go f .neg o) jhc i
  | f+1,.neg,o,i =>
    if sees ts wNot i then
      if 50<=o then some (long ts en i)else
      match go f .neg (o+1) (i+1)with
      |none=>none
      |some (.error e)=>some (.error e)
      |some (.ok (a,j))=>some (.ok (a++[opN 17],j))
    else if sees ts [91] i then
      if 50<=o then some (long ts en i)else
      match go f .cond (o+1) (i+1)with
      |none=>none
      |some (.error e)=>some (.error e)
      | some (.ok (a,j))=>match must ts en [93] j with
        | .error e=>some (.error e)
        | .ok (_,j)=>some (.ok (a,j))
    else go f .compare o i
  | f+1,.compare,o,i =>
    match go f .expr o i with
    |none=>none
    |some (.error e)=>some (.error e)
    | some (.ok (a,j))=>match look cmpL (sgn ts j)with
      |none=>some (syn ts en j)
      | some op=>match ts[j+1]? with
        | some t=>if t.kind=4/\(isK ts 1 i=true/\j=i+1)/\(op=9\/op=10)then some (.ok (a++[⟨3,0,t.text⟩,opN op],j+2))else
          (match go f .expr o (j+1)with
            |none=>none
            |some (.error e)=>some (.error e)
            |some (.ok (b,k))=>some (.ok (a++b++[opN op],k)))
        | none=>(match go f .expr o (j+1)with
            |none=>none
            |some (.error e)=>some (.error e)
            |some (.ok (b,k))=>some (.ok (a++b++[opN op],k)))
end
section
variable {ts:List Tk}{en:Int}
theorem jcg {s:List UInt8}{i:Nat}(h:sees ts s i=true):i<ts.length:=by
 unfold sees at h
 split at h
 ·rename_i t ht;exact(Kz.1 ht).1
 ·simp at h
theorem jdK {s:List UInt8}{i j:Nat}{u:Unit}(h:must ts en s i=.ok (u,j)):j=i+1/\sees ts s i=true:=by
 unfold must at h
 split at h
 ·simp only[Except.ok.injEq,Kh,true_and]at h
  exact⟨h.symm,by assumption⟩
 ·simp[syn]at h
def Adv(ts:List Tk)(f:Nat->Option (R (List Nd))):Prop:=∀i out j,f i=some (.ok (out,j))->i<j/\j<=ts.length
theorem jhR {sub:Nat->Option (R (List Nd))}(hs:Adv ts sub)(lv:Lvl):∀m out i r j,jek ts sub lv m out i=some (.ok (r,j))->i<=j/\(j=i\/j<=ts.length)
 |0,out,i,r,j,h=>by simp[jek]at h
 | m+1,out,i,r,j,h=>by
  unfold jek at h
  split at h
  ·simp only[Kg,Except.ok.injEq,Kh]at h
   omega
  ·split at h
   ·simp at h
   ·simp at h
   ·rename_i r1 j1 he
    have h1:=hs _ _ _ he
    have h2:=jhR hs lv m _ _ _ _ h
    omega
theorem jdn {op:Nat->Option (R (List Nd))}(ho:Adv ts op):∀ls,Adv ts (jcu ts op ls)
 | [],i,out,j,h=>ho i out j h
 | lv::ls,i,out,j,h=>by
  unfold jcu at h
  split at h
  ·simp at h
  ·simp at h
  ·rename_i r1 j1 he
   have h1:=jdn ho ls _ _ _ he
   have h2:=jhR (jdn ho ls) lv _ _ _ _ _ h
   omega
theorem jhd {i:Nat}{t:Tk}(h:ts[i]? = some t):i<ts.length:=(Kz.1 h).1
theorem jqe {lv:Lvl}{i:Nat}{o:Int}(hl:look lv []=none)(h:look lv (txt ts i)=some o):i<ts.length:=by
 unfold txt at h
 split at h
 ·rename_i t ht;exact jhd ht
 ·rw[hl]at h;cases h
theorem jec:∀f sy o,Adv ts (go ts en f sy o)
 |0,sy,o,i,out,j,h=>by simp[go]at h
 | f+1,.expr,o,i,out,j,h=>by
  unfold go at h
  split at h
  ·split at h
   ·simp[long]at h
   split at h
   ·simp at h
   ·simp at h
   rename_i c j1 h1
   have a1:=jec f .cond (o+1) _ _ _ h1
   split at h
   ·simp at h
   rename_i j2 h2
   have a2:=jdK h2
   split at h
   ·simp at h
   ·simp at h
   rename_i a j3 h3
   have a3:=jec f .expr (o+1) _ _ _ h3
   split at h
   ·simp at h
   rename_i j4 h4
   have a4:=jdK h4
   split at h
   ·simp at h
   ·simp at h
   rename_i b j5 h5
   have a5:=jec f .expr (o+1) _ _ _ h5
   simp only[Kg,Except.ok.injEq,Kh]at h
   omega
  ·exact jdn (jec f .unary o) _ _ _ _ h
 | f+1,.unary,o,i,out,j,h=>by
  unfold go at h
  split at h
  ·split at h
   ·simp[long]at h
   split at h
   ·simp at h
   ·simp at h
   rename_i a j1 h1
   have a1:=jec f .unary (o+1) _ _ _ h1
   simp only[Kg,Except.ok.injEq,Kh]at h
   omega
  split at h
  ·split at h
   ·simp[long]at h
   split at h
   ·simp at h
   ·simp at h
   rename_i a j1 h1
   have a1:=jec f .expr (o+1) _ _ _ h1
   split at h
   ·simp at h
   rename_i j2 h2
   have a2:=jdK h2
   have:=jcg a2.2
   simp only[Kg,Except.ok.injEq,Kh]at h
   omega
  split at h
  ·rename_i t ht
   have:=jhd ht
   split at h
   ·simp only[Kg,Except.ok.injEq,Kh]at h
    omega
   split at h
   ·simp only[Kg,Except.ok.injEq,Kh]at h
    omega
   ·simp[syn]at h
  ·simp[syn]at h
 |f+1,.cond,o,i,out,j,h=>by
  unfold go at h
  exact jdn (jec f .neg o) _ _ _ _ h
 | f+1,.neg,o,i,out,j,h=>by
  unfold go at h
  split at h
  ·split at h
   ·simp[long]at h
   split at h
   ·simp at h
   ·simp at h
   rename_i a j1 h1
   have a1:=jec f .neg (o+1) _ _ _ h1
   simp only[Kg,Except.ok.injEq,Kh]at h
   omega
  split at h
  ·split at h
   ·simp[long]at h
   split at h
   ·simp at h
   ·simp at h
   rename_i a j1 h1
   have a1:=jec f .cond (o+1) _ _ _ h1
   split at h
   ·simp at h
   rename_i j2 h2
   have a2:=jdK h2
   have:=jcg a2.2
   simp only[Kg,Except.ok.injEq,Kh]at h
   omega
  ·exact jec f .compare o _ _ _ h
 | f+1,.compare,o,i,out,j,h=>by
  unfold go at h
  split at h
  ·simp at h
  ·simp at h
  rename_i a j1 h1
  have a1:=jec f .expr o _ _ _ h1
  split at h
  ·simp[syn]at h
  split at h
  ·rename_i t ht
   have:=jhd ht
   split at h
   ·simp only[Kg,Except.ok.injEq,Kh]at h
    omega
   split at h
   ·simp at h
   ·simp at h
   rename_i b k h2
   have a2:=jec f .expr o _ _ _ h2
   simp only[Kg,Except.ok.injEq,Kh]at h
   omega
  ·split at h
   ·simp at h
   ·simp at h
   rename_i b k h2
   have a2:=jec f .expr o _ _ _ h2
   simp only[Kg,Except.ok.injEq,Kh]at h
   omega
theorem jjZ {sub:Nat->Option (R (List Nd))}(hs:Adv ts sub)(ht:∀i,(sub i).isSome){lv:Lvl}(hl:look lv []=none):∀m out i,ts.length<m+i\/ts.length<i->0<m->(jek ts sub lv m out i).isSome
 |0,out,i,hm,h0=>by omega
 | m+1,out,i,hm,h0=>by
  unfold jek
  split
  ·rfl
  ·rename_i o ho
   have hi:=jqe hl ho
   have h1:=ht (i+1)
   split
   ·rename_i he;rw[he]at h1;simp at h1
   ·rfl
   ·rename_i r j he
    have h2:=hs _ _ _ he
    exact jjZ hs ht hl m _ _ (by omega) (by omega)
theorem jgf {op:Nat->Option (R (List Nd))}(ha:Adv ts op)(ht:∀i,(op i).isSome):∀ls:List Lvl,(∀lv∈ls,look lv []=none)->∀i,(jcu ts op ls i).isSome
 | [],_,i=>ht i
 | lv::ls,hl,i=>by
  have ih:=jgf ha ht ls λl h=>hl l (by simp[h])
  unfold jcu
  have h1:=ih i
  split
  ·rename_i he;rw[he]at h1;simp at h1
  ·rfl
  ·rename_i r j he
   exact jjZ (jdn ha ls) ih (hl lv (by simp)) _ _ _ (by omega) (by omega)
def rank:Sy->Nat
 | .unary=>1
 | .expr=>2
 | .compare=>3
 | .neg=>4
 | .cond=>5
theorem jsX:∀lv∈sumL,look lv []=none:=by decide
theorem jqf:∀lv∈jhc,look lv []=none:=by decide
theorem jcL:∀f sy o,o<=50->5*(50-o)+rank sy<=f->∀i,(go ts en f sy o i).isSome
 |0,sy,o,ho,hf,i=>by cases sy<;>simp[rank]at hf
 | f+1,.expr,o,ho,hf,i=>by
  simp only[rank]at hf
  unfold go
  split
  ·split
   ·rfl
   have g1:=jcL f .cond (o+1) (by omega) (by simp only[rank];omega) (i+1)
   split
   ·rename_i he;rw[he]at g1;simp at g1
   ·rfl
   split
   ·rfl
   rename_i j2 h2
   have g2:=jcL f .expr (o+1) (by omega) (by simp only[rank];omega) j2
   split
   ·rename_i he;rw[he]at g2;simp at g2
   ·rfl
   split
   ·rfl
   rename_i j4 h4
   have g3:=jcL f .expr (o+1) (by omega) (by simp only[rank];omega) j4
   split
   ·rename_i he;rw[he]at g3;simp at g3
   ·rfl
   ·rfl
  ·exact jgf (jec f .unary o) (jcL f .unary o ho (by simp only[rank];omega)) _ jsX i
 | f+1,.unary,o,ho,hf,i=>by
  simp only[rank]at hf
  unfold go
  split
  ·split
   ·rfl
   have g1:=jcL f .unary (o+1) (by omega) (by simp only[rank];omega) (i+1)
   split
   ·rename_i he;rw[he]at g1;simp at g1
   ·rfl
   ·rfl
  split
  ·split
   ·rfl
   have g1:=jcL f .expr (o+1) (by omega) (by simp only[rank];omega) (i+1)
   split
   ·rename_i he;rw[he]at g1;simp at g1
   ·rfl
   split<;>rfl
  split
  ·split
   ·rfl
   ·split<;>rfl
  ·rfl
 |f+1,.cond,o,ho,hf,i=>by
  simp only[rank]at hf
  unfold go
  exact jgf (jec f .neg o) (jcL f .neg o ho (by simp only[rank];omega)) _ jqf i
 | f+1,.neg,o,ho,hf,i=>by
  simp only[rank]at hf
  unfold go
  split
  ·split
   ·rfl
   have g1:=jcL f .neg (o+1) (by omega) (by simp only[rank];omega) (i+1)
   split
   ·rename_i he;rw[he]at g1;simp at g1
   ·rfl
   ·rfl
  split
  ·split
   ·rfl
   have g1:=jcL f .cond (o+1) (by omega) (by simp only[rank];omega) (i+1)
   split
   ·rename_i he;rw[he]at g1;simp at g1
   ·rfl
   split<;>rfl
  ·exact jcL f .compare o ho (by simp only[rank];omega) i
 | f+1,.compare,o,ho,hf,i=>by
  simp only[rank]at hf
  unfold go
  have g1:=jcL f .expr o ho (by simp only[rank];omega) i
  split
  ·rename_i he;rw[he]at g1;simp at g1
  ·rfl
  rename_i a j h1
  have g2:=jcL f .expr o ho (by simp only[rank];omega) (j+1)
  split
  ·rfl
  split
  ·split
   ·rfl
   split
   ·rename_i he;rw[he]at g2;simp at g2
   ·rfl
   ·rfl
  ·split
   ·rename_i he;rw[he]at g2;simp at g2
   ·rfl
   ·rfl
end
structure Qry where
 kind:Int
 expr:List Nd
 lo:Int
 hi:Int
 p:Int
 q:Int
 column:List UInt8
 bound:Int
 ranges:List (Int × Int)
 strategy:Int
 consistent:Bool
 table:List UInt8
 keep:Int
 other:List UInt8
 left:List UInt8
 right:List UInt8
 limit:Int
 wher:List Nd
 factor:List UInt8
 bits:Int
def Qry.zero:Qry:=⟨0,[],0,0,0,0,[],0,[],0,false,[],0,[],[],[],0,[],[],0⟩
def andThen {α β:Type}(x:R α)(f:α->Nat->R β):R β:=match x with
 | .ok (a,j)=>f a j
 | .error e=>.error e
section
variable (ts:List Tk)(en:Int)(itoa:Int->List UInt8)(mk:Int->Int->List UInt8)
def deep:Nat:=260
def jj0(sy:Sy)(i:Nat):R (List Nd):=(go ts en deep sy 0 i).getD (.error (0,0))
def jcV(sy:Sy)(i:Nat):R (List Nd):=andThen (jj0 ts en sy i) λout j=>if 200<out.length then .error (4,atP ts en i)else .ok (out,j)
def jmc:List UInt8:=[98,101,116,119,101,101,110]
def wAnd:List UInt8:=[97,110,100]
def jdC(k:Int)(q:Qry)(i:Nat):R Qry :=
 andThen (jcV ts en .expr i) λe j=>andThen (must ts en jmc j) λ_ j=>andThen (intP ts en j) λlo j=>andThen (must ts en wAnd j) λ_ j=>andThen (intP ts en j) λhi j=>.ok ({ q with kind:=k,expr:=e,lo:=lo,hi:=hi },j)
def jcb(k:Int)(q:Qry)(i:Nat):R Qry:=andThen (jeX ts en i) λc j=>.ok ({ q with kind:=k,column:=c },j)
def jd7:Nat->List (Int × Int)->Nat->R (List (Int × Int))
 |0,_,_=>.error (0,0)
 | m+1,out,i =>
  if 64<=out.length then .error (4,atP ts en i)else
  andThen (intP ts en i) λlo j=>andThen (must ts en [46,46] j) λ_ j=>andThen (intP ts en j) λhi j =>
   if sees ts [44] j then jd7 m (out++[(lo,hi)]) (j+1)else .ok (out++[(lo,hi)],j)
def jsY:List UInt8:=[117,115,105,110,103]
def jfd:List UInt8:=[105,100,101,110,116,105,116,121]
def jj1:List UInt8:=[112,114,101,102,105,120]
def jut:List UInt8:=[116,114,101,101]
def jcr(i:Nat):R Int:=if sees ts jfd i then .ok (0,i+1)else if sees ts jj1 i then .ok (1,i+1)else if sees ts jut i then .ok (2,i+1)else syn ts en i
def jno(q:Qry)(i:Nat):R Qry :=
 andThen (jcb ts en 10 q i) λq j=>andThen (jd7 ts en 65 [] j) λrs j=>andThen (must ts en jsY j) λ_ j=>andThen (jcr ts en j) λs j=>.ok ({ q with ranges:=rs,strategy:=s },j)
def wBy:List UInt8:=[98,121]
def wOf:List UInt8:=[111,102]
def jnp(q:Qry)(i:Nat):R Qry:=andThen (jdC ts en 4 q i) λq j=>andThen (must ts en wBy j) λ_ j=>andThen (jeX ts en j) λc j=>.ok ({ q with column:=c },j)
def jgg(q:Qry)(i:Nat):R Qry:=andThen (numP ts en i) λp j=>andThen (must ts en [47] j) λ_ j=>andThen (numP ts en j) λr j=>andThen (must ts en wOf j) λ_ j=>jdC ts en 5 { q with p:=p,q:=r } j
def jnq(q:Qry)(i:Nat):R Qry:=andThen (intP ts en i) λb j=>jcb ts en 7 { q with bound:=b } j
def jed:List (List UInt8 × Int):=[([99,111,117,110,116],1),([115,117,109],2),([104,105,115,116,111,103,114,97,109],3),([116,111,116,97,108],4),([113,117,97,110,116,105,108,101],5),([109,111,100,101],6),([97,98,111,118,101],7),([112,101,97,107],8),([114,117,110,110,105,110,103],9),([98,97,116,99,104],10)]
def keyT(i:Nat):List UInt8:=match ts[i]? with|some t=>if t.kind=2 then t.text else []|none=>[]
def jfU(k:Int)(q:Qry)(i:Nat):R Qry :=
 if k=1 then .ok ({ q with kind:=1 },i)else if k=2 then jdC ts en 2 q i else if k=3 then jcb ts en 3 q i else if k=4 then jnp ts en q i else if k=5 then jgg ts en q i
 else if k=6 then jcb ts en 6 q i else if k=7 then jnq ts en q i else if k=8 then jcb ts en 8 q i else if k=9 then jcb ts en 9 q i else jno ts en q i
def jya:List UInt8:=[102,114,111,109]
def jwM:List UInt8:=[107,101,101,112]
def jwN:List UInt8:=[106,111,105,110]
def wOn:List UInt8:=[111,110]
def jv5:List UInt8:=[108,105,109,105,116]
def jsZ:List UInt8:=[119,104,101,114,101]
def jq9(q:Qry)(i:Nat):R Qry:=if sees ts jwM i then andThen (posP ts en (i+1)) λn j=>.ok ({ q with keep:=n },j)else .ok (q,i)
def jnr(q:Qry)(i:Nat):R Qry:=if sees ts jwN i then
  andThen (jeX ts en (i+1)) λo j=>andThen (must ts en wOn j) λ_ j=>andThen (jeX ts en j) λl j=>andThen (must ts en [61] j) λ_ j=>andThen (jeX ts en j) λr j=>andThen (must ts en jv5 j) λ_ j=>andThen (posP ts en j) λn j=>.ok ({ q with other:=o,left:=l,right:=r,limit:=n },j)
 else .ok (q,i)
def jhS(q:Qry)(i:Nat):R Qry:=if sees ts jsZ i then andThen (jcV ts en .cond (i+1)) λw j=>.ok ({ q with wher:=w },j)else .ok (q,i)
def jcs(q:Qry)(i:Nat):R Qry :=
 andThen (must ts en jya i) λ_ j=>andThen (jeX ts en j) λt j=>andThen (jq9 ts en { q with table:=t } j) λq j=>andThen (jnr ts en q j) λq j=>jhS ts en q j
def jyb:List UInt8:=[119,105,116,104]
def js0:List UInt8:=[102,97,99,116,111,114]
def juu:List UInt8:=[98,105,116,115]
def jdc:List UInt8:=[99,111,110,115,105,115,116,101,110,116]
def jmd(i:Nat):R (List UInt8):=andThen (numP ts en i) λn j =>
 if sees ts [47] j then andThen (numP ts en (j+1)) λd k=>if d=0 then .error (6,atP ts en (j+1))else .ok (mk n d,k)else .ok (itoa n,j)
def jfF(q:Qry)(i:Nat):R Qry :=
 andThen (must ts en jyb i) λ_ j=>andThen (must ts en js0 j) λ_ j=>andThen (jmd ts en itoa mk j) λf j=>andThen (must ts en juu j) λ_ j=>andThen (posP ts en j) λb j =>
  let c:=q.kind=3/\sees ts jdc j=true
  let j:=if c then j+1 else j
  if j<ts.length then syn ts en j else .ok ({ q with factor:=f,bits:=b,consistent:=if c then true else q.consistent },j)
def jdD:Except Fl Qry :=
 match look jed (keyT ts 0)with
 |none=>.error (11,atP ts en 0)
 |some k=>match andThen (jfU ts en k Qry.zero 1) λq j=>andThen (jcs ts en q j) λq j=>jfF ts en itoa mk q j with
  | .ok (q,_)=>.ok q
  | .error e=>.error e
end
def ar(o:Int):Nat:=if o=1\/o=2\/o=3 then 0 else if o=7\/o=17 then 1 else if o=8 then 3 else 2
def hgt:List Nd->Nat->Option Nat
 | [],h=>some h
 |x::l,h=>if h<ar x.op then none else hgt l (h-ar x.op+1)
theorem jdL:∀(a b:List Nd) (h:Nat),hgt (a++b) h=(hgt a h).bind (hgt b)
 | [],b,h=>rfl
 |x::a,b,h=>by
  simp only[Xb,hgt]
  split
  ·rfl
  ·exact jdL a b _
def WdN(l:List Nd):Prop:=∀(i:Nat) (x:Nd),l[i]? = some x->x.op=3->∃y z,0<i/\l[i-1]? = some y/\y.op=2/\l[i+1]? = some z/\(z.op=9\/z.op=10)
structure St (l:List Nd):Prop where
 one:∀h,hgt l h=some (h+1)
 wd:WdN l
theorem WdN.append {a b:List Nd}(ha:WdN a)(hb:WdN b):WdN (a++b):=by
 intro i x hx ho
 by_cases h:i<a.length
 ·rw[K0 h]at hx
  obtain⟨y,z,h0,hy,hy2,hz,hz2⟩:=ha i x hx ho
  have:=(Kz.1 hz).1
  exact⟨y,z,h0,by rw[K0 (by omega)];exact hy,hy2,by rw[K0 (by omega)];exact hz,hz2⟩
 ·rw[Qx (by omega)]at hx
  obtain⟨y,z,h0,hy,hy2,hz,hz2⟩:=hb _ x hx ho
  refine⟨y,z,by omega,?_,hy2,?_,hz2⟩
  ·rw[Qx (by omega),show i-1-a.length=i-a.length-1 by omega];exact hy
  ·rw[Qx (by omega),show i+1-a.length=i-a.length+1 by omega];exact hz
theorem WdN.single {x:Nd}(h:x.op ≠ 3):WdN [x]:=by
 intro i y hy ho
 rcases i with _|i
 ·simp only[Qk,Kg]at hy;rw[<- hy]at ho;exact absurd ho h
 ·simp at hy
theorem St.leaf {x:Nd}(h:x.op=1\/x.op=2):St [x]:=by
 refine⟨λn => ?_,WdN.single (by omega)⟩
 have h0:ar x.op=0:=by unfold ar;rw[Kk (by omega)]
 simp only[hgt,h0]
 rw[Km (by omega)]
 rfl
theorem St.un {a:List Nd}{o:Int}(ha:St a)(ho:o=7\/o=17):St (a++[opN o]):=by
 refine⟨λn => ?_,ha.wd.append (WdN.single (by simp only[opN];omega))⟩
 rw[jdL,ha.one]
 have h0:ar o=1:=by unfold ar;rw[Km (by omega),Kk (by omega)]
 simp only[Kj,hgt,opN,h0]
 rw[Km (by omega)]
 rfl
theorem St.bin {a b:List Nd}{o:Int}(ha:St a)(hb:St b)(ho:ar o=2):St (a++b++[opN o]):=by
 refine⟨λn => ?_,(ha.wd.append hb.wd).append (WdN.single ?_)⟩
 ·rw[jdL,jdL,ha.one,Kj,hb.one]
  simp only[Kj,hgt,opN,ho]
  rw[Km (by omega)]
  rfl
 ·intro h;simp only[opN]at h;rw[h]at ho;simp[ar]at ho
theorem St.iff {a b c:List Nd}(ha:St a)(hb:St b)(hc:St c):St (a++b++c++[opN 8]):=by
 refine⟨λn => ?_,((ha.wd.append hb.wd).append hc.wd).append (WdN.single (by simp[opN]))⟩
 rw[jdL,jdL,jdL,ha.one,Kj,hb.one,Kj,hc.one]
 have h0:ar 8=3:=rfl
 simp only[Kj,hgt,opN,h0]
 rw[Km (by omega)]
 rfl
theorem St.word {s w:List UInt8}{o:Int}(ho:o=9\/o=10):St ([⟨2,0,s⟩]++[⟨3,0,w⟩,opN o]):=by
 refine⟨λn => ?_,?_⟩
 ·have h0:ar o=2:=by unfold ar;rw[Km (by omega),Km (by omega),Km (by omega)]
  have h2:ar 2=0:=rfl
  have h3:ar 3=0:=rfl
  simp only[Xb,Jv,hgt,opN,h0,h2,h3]
  rw[Km (by omega),Km (by omega),Km (by omega)]
  rfl
 ·intro i x hx hx3
  rcases i with _|_|_|i
  ·simp at hx;rw[<- hx]at hx3;simp at hx3
  ·exact⟨⟨2,0,s⟩,opN o,by omega,rfl,rfl,rfl,ho⟩
  ·simp[opN]at hx;rw[<- hx]at hx3;simp at hx3;omega
  ·simp at hx
section
variable {ts:List Tk}{en:Int}
def Sts(f:Nat->Option (R (List Nd))):Prop:=∀i out j,f i=some (.ok (out,j))->St out
theorem jqg {sub:Nat->Option (R (List Nd))}(hs:Sts sub){lv:Lvl}(hl:∀s o,look lv s=some o->ar o=2):∀m out i r j,St out->jek ts sub lv m out i=some (.ok (r,j))->St r
 |0,out,i,r,j,_,h=>by simp[jek]at h
 | m+1,out,i,r,j,ho,h=>by
  unfold jek at h
  split at h
  ·simp only[Kg,Except.ok.injEq,Kh]at h
   rw[<- h.1];exact ho
  ·rename_i o hlo
   split at h
   ·simp at h
   ·simp at h
   ·rename_i r1 j1 he
    exact jqg hs hl m _ _ _ _ (St.bin ho (hs _ _ _ he) (hl _ _ hlo)) h
theorem jj2 {op:Nat->Option (R (List Nd))}(ho:Sts op):∀ls:List Lvl,(∀lv∈ls,∀s o,look lv s=some o->ar o=2)->Sts (jcu ts op ls)
 | [],_,i,out,j,h=>ho i out j h
 | lv::ls,hl,i,out,j,h=>by
  unfold jcu at h
  have ih:=jj2 ho ls λl hm=>hl l (by simp[hm])
  split at h
  ·simp at h
  ·simp at h
  ·rename_i r1 j1 he
   exact jqg ih (hl lv (by simp)) _ _ _ _ _ (ih _ _ _ he) h
theorem jjh {l:Lvl}{s:List UInt8}{o:Int}(h:look l s=some o):o∈l.map (·.2):=by
 unfold look at h
 rw[Ko]at h
 obtain⟨p,hp,ho⟩:=h
 exact Xa.2 ⟨p,List.mem_of_find?_eq_some hp,ho⟩
theorem jwO:∀lv∈sumL,∀s o,look lv s=some o->ar o=2:=by
 intro lv hlv s o h
 have:=jjh h
 simp only[sumL,Qy,Jz,or_false]at hlv
 rcases hlv with rfl|rfl<;>simp at this<;>rcases this with rfl|rfl<;>rfl
theorem juv:∀lv∈jhc,∀s o,look lv s=some o->ar o=2:=by
 intro lv hlv s o h
 have:=jjh h
 simp only[jhc,Qy,Jz,or_false]at hlv
 rcases hlv with rfl|rfl<;>simp at this<;>subst this<;>rfl
theorem jwP {s:List UInt8}{o:Int}(h:look cmpL s=some o):ar o=2:=by
 have:=jjh h
 simp only[cmpL,Ja,List.map_nil,Qy,Jz,or_false]at this
 rcases this with rfl|rfl|rfl|rfl|rfl|rfl<;>rfl
theorem jra {sub:Nat->Option (R (List Nd))}(hs:Adv ts sub){lv:Lvl}{m:Nat}{out r:List Nd}{i:Nat}(h:jek ts sub lv m out i=some (.ok (r,i))):r=out:=by
 rcases m with _|m
 ·simp[jek]at h
 unfold jek at h
 split at h
 ·simp only[Kg,Except.ok.injEq,Kh]at h
  exact h.1.symm
 ·split at h
  ·simp at h
  ·simp at h
  ·rename_i r1 j1 he
   have h1:=hs _ _ _ he
   have h2:=jhR hs lv _ _ _ _ _ h
   omega
theorem jj3 {op:Nat->Option (R (List Nd))}(ha:Adv ts op){a:List Nd}{i:Nat}(h0:op i=some (.ok (a,i+1))):∀ls r,jcu ts op ls i=some (.ok (r,i+1))->r=a
 | [],r,h=>by
  unfold jcu at h
  rw[h0]at h
  simp only[Kg,Except.ok.injEq,Kh,and_true]at h
  exact h.symm
 | lv::ls,r,h=>by
  unfold jcu at h
  split at h
  ·simp at h
  ·simp at h
  ·rename_i r1 j1 he
   have h1:=jdn ha ls _ _ _ he
   have h2:=jhR (jdn ha ls) lv _ _ _ _ _ h
   have hj:j1=i+1:=by omega
   subst hj
   rw[jra (jdn ha ls) h]
   exact jj3 ha h0 ls _ he
theorem jwQ {k:Int}{i:Nat}(h:isK ts k i=true):∃t,ts[i]? = some t/\t.kind=k:=by
 unfold isK at h
 split at h
 ·rename_i t ht;exact⟨t,ht,by simpa using h⟩
 ·simp at h
theorem jj4 {i:Nat}{t:Tk}(ht:ts[i]? = some t)(hk:t.kind=1)(s:List UInt8):sees ts s i=false:=by
 unfold sees
 rw[ht]
 simp[hk]
theorem joV {f o i:Nat}{a:List Nd}(h:go ts en f .expr o i=some (.ok (a,i+1)))(hk:isK ts 1 i=true):∃s,a=[⟨2,0,s⟩]:=by
 obtain⟨t,ht,hk⟩:=jwQ hk
 rcases f with _|f
 ·simp[go]at h
 unfold go at h
 rw[Km (by simp[jj4 ht hk])]at h
 rcases f with _|f
 ·have:∀ls,jcu ts (go ts en 0 .unary o) ls i=none:=by
   intro ls
   induction ls with
   |nil=>simp[jcu,go]
   |cons l ls ih=>simp[jcu,ih]
  rw[this]at h;cases h
 have h0:go ts en (f+1) .unary o i=some (.ok ([⟨2,0,t.text⟩],i+1)):=by
  unfold go
  rw[Km (by simp[jj4 ht hk]),Km (by simp[jj4 ht hk]),ht]
  simp[hk]
 exact⟨t.text,jj3 (jec _ .unary o) h0 _ _ h⟩
theorem jhT:∀f sy o,Sts (go ts en f sy o)
 |0,sy,o,i,out,j,h=>by simp[go]at h
 | f+1,.expr,o,i,out,j,h=>by
  unfold go at h
  split at h
  ·split at h
   ·simp[long]at h
   split at h
   ·simp at h
   ·simp at h
   rename_i c j1 h1
   have a1:=jhT f .cond (o+1) _ _ _ h1
   split at h
   ·simp at h
   split at h
   ·simp at h
   ·simp at h
   rename_i a j3 h3
   have a3:=jhT f .expr (o+1) _ _ _ h3
   split at h
   ·simp at h
   split at h
   ·simp at h
   ·simp at h
   rename_i b j5 h5
   have a5:=jhT f .expr (o+1) _ _ _ h5
   simp only[Kg,Except.ok.injEq,Kh]at h
   rw[<- h.1];exact St.iff a1 a3 a5
  ·exact jj2 (jhT f .unary o) _ jwO _ _ _ h
 | f+1,.unary,o,i,out,j,h=>by
  unfold go at h
  split at h
  ·split at h
   ·simp[long]at h
   split at h
   ·simp at h
   ·simp at h
   rename_i a j1 h1
   have a1:=jhT f .unary (o+1) _ _ _ h1
   simp only[Kg,Except.ok.injEq,Kh]at h
   rw[<- h.1];exact a1.un (.inl rfl)
  split at h
  ·split at h
   ·simp[long]at h
   split at h
   ·simp at h
   ·simp at h
   rename_i a j1 h1
   have a1:=jhT f .expr (o+1) _ _ _ h1
   split at h
   ·simp at h
   simp only[Kg,Except.ok.injEq,Kh]at h
   rw[<- h.1];exact a1
  split at h
  ·split at h
   ·simp only[Kg,Except.ok.injEq,Kh]at h
    rw[<- h.1];exact St.leaf (.inl rfl)
   split at h
   ·simp only[Kg,Except.ok.injEq,Kh]at h
    rw[<- h.1];exact St.leaf (.inr rfl)
   ·simp[syn]at h
  ·simp[syn]at h
 |f+1,.cond,o,i,out,j,h=>by
  unfold go at h
  exact jj2 (jhT f .neg o) _ juv _ _ _ h
 | f+1,.neg,o,i,out,j,h=>by
  unfold go at h
  split at h
  ·split at h
   ·simp[long]at h
   split at h
   ·simp at h
   ·simp at h
   rename_i a j1 h1
   have a1:=jhT f .neg (o+1) _ _ _ h1
   simp only[Kg,Except.ok.injEq,Kh]at h
   rw[<- h.1];exact a1.un (.inr rfl)
  split at h
  ·split at h
   ·simp[long]at h
   split at h
   ·simp at h
   ·simp at h
   rename_i a j1 h1
   have a1:=jhT f .cond (o+1) _ _ _ h1
   split at h
   ·simp at h
   simp only[Kg,Except.ok.injEq,Kh]at h
   rw[<- h.1];exact a1
  ·exact jhT f .compare o _ _ _ h
 | f+1,.compare,o,i,out,j,h=>by
  unfold go at h
  split at h
  ·simp at h
  ·simp at h
  rename_i a j1 h1
  have a1:=jhT f .expr o _ _ _ h1
  split at h
  ·simp[syn]at h
  rename_i op hop
  have hop2:=jwP hop
  split at h
  ·rename_i t ht
   split at h
   ·rename_i hw
    simp only[Kg,Except.ok.injEq,Kh]at h
    rw[<- h.1]
    obtain⟨_,⟨hk,hj⟩,ho⟩:=hw
    rw[hj]at h1
    obtain⟨s,rfl⟩:=joV h1 hk
    exact St.word ho
   split at h
   ·simp at h
   ·simp at h
   rename_i b k h2
   have a2:=jhT f .expr o _ _ _ h2
   simp only[Kg,Except.ok.injEq,Kh]at h
   rw[<- h.1];exact a1.bin a2 hop2
  ·split at h
   ·simp at h
   ·simp at h
   rename_i b k h2
   have a2:=jhT f .expr o _ _ _ h2
   simp only[Kg,Except.ok.injEq,Kh]at h
   rw[<- h.1];exact a1.bin a2 hop2
end
def Bad(en:Int)(e:Fl):Prop:=e.1 ≠ 0/\0<=e.2/\e.2<=en
def Rs {α:Type}(en:Int)(P:α->Prop):R α->Prop
 | .ok (a,_)=>P a
 | .error e=>Bad en e
theorem Rs.mono {α:Type}{en:Int}{P Q:α->Prop}{x:R α}(h:Rs en P x)(hq:∀a,P a->Q a):Rs en Q x:=by
 match x,h with
 | .ok (a,_),h=>exact hq _ h
 | .error e,h=>exact h
theorem Rs.andThen {α β:Type}{en:Int}{P:α->Prop}{Q:β->Prop}{x:R α}{f:α->Nat->R β}(h:Rs en P x)(hf:∀a j,P a->Rs en Q (f a j)):Rs en Q (PP.andThen x f):=by
 match x,h with
 | .ok (a,j),h=>exact hf a j h
 | .error e,h=>exact h
section
variable {ts:List Tk}{en:Int}
structure TsOK (ts:List Tk) (en:Int):Prop where
 en0:0<=en
 pos:∀t∈ts,0<=t.pos/\t.pos<=en
 name:∀t∈ts,t.kind=1->t.text ≠ []
 num:∀t∈ts,t.kind=3->0<=t.n
theorem jyc(hT:TsOK ts en)(i:Nat):0<=atP ts en i/\atP ts en i<=en:=by
 unfold atP
 split
 ·rename_i t ht;exact hT.pos t (Jy ht)
 ·exact⟨hT.en0,Int.le_refl _⟩
theorem jeQ(hT:TsOK ts en){c:Int}(hc:c ≠ 0)(i:Nat):Bad en (c,atP ts en i):=⟨hc,jyc hT i⟩
theorem jns(hT:TsOK ts en){α:Type}{P:α->Prop}(i:Nat):Rs en P (syn ts en i):=jeQ hT (by decide) i
theorem jdd(hT:TsOK ts en)(s:List UInt8)(i:Nat):Rs en (λ_=>True) (must ts en s i):=by
 unfold must
 split
 ·trivial
 ·exact jns hT i
theorem js1(hT:TsOK ts en)(k:Int)(i:Nat):Rs en (λt=>t∈ts/\t.kind=k) (jgL ts en k i):=by
 unfold jgL
 split
 ·rename_i t ht
  split
  ·rename_i hk;exact⟨Jy ht,hk⟩
  ·exact jns hT i
 ·exact jns hT i
theorem jiv(hT:TsOK ts en)(i:Nat):Rs en (λs=>s ≠ []) (jeX ts en i):=by
 unfold jeX
 have h:=js1 hT 1 i
 split
 ·rename_i t j he;rw[he]at h;exact hT.name t h.1 h.2
 ·rename_i e he;rw[he]at h;exact h
theorem jj5(hT:TsOK ts en)(i:Nat):Rs en (λn=>0<=n) (numP ts en i):=by
 unfold numP
 have h:=js1 hT 3 i
 split
 ·rename_i t j he;rw[he]at h;exact hT.num t h.1 h.2
 ·rename_i e he;rw[he]at h;exact h
theorem jnt(hT:TsOK ts en)(i:Nat):Rs en (λ_=>True) (intP ts en i):=by
 unfold intP
 have h1:=jj5 hT (i+1)
 split
 ·split
  ·trivial
  ·rename_i e he;rw[he]at h1;exact h1
 ·exact(jj5 hT i).mono λ_ _=>trivial
theorem js2(hT:TsOK ts en)(i:Nat):Rs en (λn=>0<n) (posP ts en i):=by
 unfold posP
 have h:=jj5 hT i
 split
 ·rename_i n j he
  rw[he]at h
  split
  ·exact jeQ hT (by decide) i
  ·have:0<=n:=h
   show 0<n
   omega
 ·rename_i e he;rw[he]at h;exact h
def Ro {α:Type}(en:Int)(x:Option (R α)):Prop:=∀e,x=some (.error e)->Bad en e
theorem jji(hT:TsOK ts en){s:List UInt8}{i:Nat}{e:Fl}(h:must ts en s i=.error e):Bad en e:=by
 have:=jdd hT s i;rw[h]at this;exact this
theorem jqh {sub:Nat->Option (R (List Nd))}(hs:∀i,Ro en (sub i))(lv:Lvl):∀m out i,Ro en (jek ts sub lv m out i)
 |0,out,i,e,h=>by simp[jek]at h
 | m+1,out,i,e,h=>by
  unfold jek at h
  split at h
  ·simp at h
  ·split at h
   ·simp at h
   ·rename_i e1 he
    simp only[Kg,Except.error.injEq]at h
    rw[<- h];exact hs _ _ he
   ·exact jqh hs lv m _ _ e h
theorem jj6 {op:Nat->Option (R (List Nd))}(ho:∀i,Ro en (op i)):∀ls i,Ro en (jcu ts op ls i)
 | [],i,e,h=>ho i e h
 | lv::ls,i,e,h=>by
  unfold jcu at h
  have ih:=jj6 ho ls
  split at h
  ·simp at h
  ·rename_i e1 he
   simp only[Kg,Except.error.injEq]at h
   rw[<- h];exact ih _ _ he
  ·exact jqh ih lv _ _ _ e h
theorem jhU(hT:TsOK ts en):∀f sy o i,Ro en (go ts en f sy o i)
 |0,sy,o,i,e,h=>by simp[go]at h
 | f+1,.expr,o,i,e,h=>by
  unfold go at h
  split at h
  ·split at h
   ·simp only[long,Kg,Except.error.injEq]at h
    rw[<- h];exact jeQ hT (by decide) i
   split at h
   ·simp at h
   ·rename_i e1 he
    simp only[Kg,Except.error.injEq]at h
    rw[<- h];exact jhU hT f _ _ _ _ he
   split at h
   ·rename_i e1 he
    simp only[Kg,Except.error.injEq]at h
    rw[<- h];exact jji hT he
   split at h
   ·simp at h
   ·rename_i e1 he
    simp only[Kg,Except.error.injEq]at h
    rw[<- h];exact jhU hT f _ _ _ _ he
   split at h
   ·rename_i e1 he
    simp only[Kg,Except.error.injEq]at h
    rw[<- h];exact jji hT he
   split at h
   ·simp at h
   ·rename_i e1 he
    simp only[Kg,Except.error.injEq]at h
    rw[<- h];exact jhU hT f _ _ _ _ he
   ·simp at h
  ·exact jj6 (jhU hT f .unary o) _ _ _ h
 | f+1,.unary,o,i,e,h=>by
  unfold go at h
  split at h
  ·split at h
   ·simp only[long,Kg,Except.error.injEq]at h
    rw[<- h];exact jeQ hT (by decide) i
   split at h
   ·simp at h
   ·rename_i e1 he
    simp only[Kg,Except.error.injEq]at h
    rw[<- h];exact jhU hT f _ _ _ _ he
   ·simp at h
  split at h
  ·split at h
   ·simp only[long,Kg,Except.error.injEq]at h
    rw[<- h];exact jeQ hT (by decide) i
   split at h
   ·simp at h
   ·rename_i e1 he
    simp only[Kg,Except.error.injEq]at h
    rw[<- h];exact jhU hT f _ _ _ _ he
   split at h
   ·rename_i e1 he
    simp only[Kg,Except.error.injEq]at h
    rw[<- h];exact jji hT he
   ·simp at h
  split at h
  ·split at h
   ·simp at h
   split at h
   ·simp at h
   ·simp only[syn,Kg,Except.error.injEq]at h
    rw[<- h];exact jeQ hT (by decide) i
  ·simp only[syn,Kg,Except.error.injEq]at h
   rw[<- h];exact jeQ hT (by decide) i
 |f+1,.cond,o,i,e,h=>by
  unfold go at h
  exact jj6 (jhU hT f .neg o) _ _ _ h
 | f+1,.neg,o,i,e,h=>by
  unfold go at h
  split at h
  ·split at h
   ·simp only[long,Kg,Except.error.injEq]at h
    rw[<- h];exact jeQ hT (by decide) i
   split at h
   ·simp at h
   ·rename_i e1 he
    simp only[Kg,Except.error.injEq]at h
    rw[<- h];exact jhU hT f _ _ _ _ he
   ·simp at h
  split at h
  ·split at h
   ·simp only[long,Kg,Except.error.injEq]at h
    rw[<- h];exact jeQ hT (by decide) i
   split at h
   ·simp at h
   ·rename_i e1 he
    simp only[Kg,Except.error.injEq]at h
    rw[<- h];exact jhU hT f _ _ _ _ he
   split at h
   ·rename_i e1 he
    simp only[Kg,Except.error.injEq]at h
    rw[<- h];exact jji hT he
   ·simp at h
  ·exact jhU hT f .compare o _ _ h
 | f+1,.compare,o,i,e,h=>by
  unfold go at h
  split at h
  ·simp at h
  ·rename_i e1 he
   simp only[Kg,Except.error.injEq]at h
   rw[<- h];exact jhU hT f _ _ _ _ he
  rename_i a j1 h1
  split at h
  ·simp only[syn,Kg,Except.error.injEq]at h
   rw[<- h];exact jeQ hT (by decide) j1
  split at h
  ·split at h
   ·simp at h
   split at h
   ·simp at h
   ·rename_i e1 he
    simp only[Kg,Except.error.injEq]at h
    rw[<- h];exact jhU hT f _ _ _ _ he
   ·simp at h
  ·split at h
   ·simp at h
   ·rename_i e1 he
    simp only[Kg,Except.error.injEq]at h
    rw[<- h];exact jhU hT f _ _ _ _ he
   ·simp at h
theorem jwR(hT:TsOK ts en)(sy:Sy)(i:Nat):Rs en St (jj0 ts en sy i):=by
 unfold jj0
 have h:=jcL (ts:=ts) (en:=en) deep sy 0 (by omega) (by cases sy<;>simp[deep,rank]) i
 match he:go ts en deep sy 0 i with
 |none=>rw[he]at h;simp at h
 |some (.error e)=>exact jhU hT _ _ _ _ _ he
 |some (.ok (a,j))=>exact jhT _ _ _ _ _ _ he
def StL(l:List Nd):Prop:=St l/\l.length<=200
theorem jlr(hT:TsOK ts en)(sy:Sy)(i:Nat):Rs en StL (jcV ts en sy i):=by
 unfold jcV
 refine(jwR hT sy i).andThen λa j ha => ?_
 split
 ·exact jeQ hT (by decide) i
 ·exact⟨ha,by omega⟩
def Kq(q:Qry):Prop:=((q.kind=2\/q.kind=4\/q.kind=5)/\StL q.expr\/¬(q.kind=2\/q.kind=4\/q.kind=5)/\q.expr=[])/\(1<=q.kind/\q.kind<=10)/\q.wher=[]/\q.ranges.length<=64
theorem jj7(hT:TsOK ts en){k:Int}(hk:k=2\/k=4\/k=5){q:Qry}(hq:q.wher=[])(hr:q.ranges.length<=64)(i:Nat):Rs en (λr=>Kq r/\r.kind=k) (jdC ts en k q i):=by
 unfold jdC
 refine(jlr hT .expr i).andThen λe j he => ?_
 refine(jdd hT _ j).andThen λ_ j _ => ?_
 refine(jnt hT j).andThen λlo j _ => ?_
 refine(jdd hT _ j).andThen λ_ j _ => ?_
 refine(jnt hT j).andThen λhi j _ => ?_
 exact⟨⟨.inl ⟨hk,he⟩,by show 1<=k/\k<=10;omega,hq,hr⟩,rfl⟩
theorem jfe(hT:TsOK ts en){k:Int}(hk:¬(k=2\/k=4\/k=5))(hk2:1<=k/\k<=10){q:Qry}(hq:q.wher=[])(he:q.expr=[])(hr:q.ranges.length<=64)(i:Nat):Rs en Kq (jcb ts en k q i):=by
 unfold jcb
 refine(jiv hT i).andThen λc j _ => ?_
 exact⟨.inr ⟨hk,he⟩,hk2,hq,hr⟩
theorem jnu(hT:TsOK ts en):∀m out i,m+out.length=65->out.length<=64->Rs en (λrs=>rs.length<=64) (jd7 ts en m out i)
 |0,out,i,hm,hl=>by omega
 | m+1,out,i,hm,hl=>by
  unfold jd7
  split
  ·exact jeQ hT (by decide) i
  refine(jnt hT i).andThen λlo j _ => ?_
  refine(jdd hT _ j).andThen λ_ j _ => ?_
  refine(jnt hT j).andThen λhi j _ => ?_
  split
  ·exact jnu hT m _ _ (by simp only[Ks,K2,K5];omega) (by simp only[Ks,K2,K5];omega)
  ·show(out++[(lo,hi)]).length<=64
   simp only[Ks,K2,K5];omega
theorem joW(hT:TsOK ts en)(i:Nat):Rs en (λ_=>True) (jcr ts en i):=by
 unfold jcr
 split
 ·trivial
 split
 ·trivial
 split
 ·trivial
 ·exact jns hT i
theorem juw(hT:TsOK ts en){k:Int}(hk:1<=k/\k<=10)(i:Nat):Rs en Kq (jfU ts en k Qry.zero i):=by
 unfold jfU
 split
 ·exact⟨.inr ⟨by show ¬((1:Int)=2\/(1:Int)=4\/(1:Int)=5);decide,rfl⟩,by show(1:Int)<=1/\(1:Int)<=10;decide,rfl,Qm _⟩
 split
 ·exact(jj7 hT (by decide) rfl (Qm _) i).mono λ_ h=>h.1
 split
 ·exact jfe hT (by decide) (by decide) rfl rfl (Qm _) i
 split
 ·unfold jnp
  refine(jj7 hT (by decide) rfl (Qm _) i).andThen λq j hq => ?_
  refine(jdd hT _ j).andThen λ_ j _ => ?_
  exact(jiv hT j).andThen λc j _=>hq.1
 split
 ·unfold jgg
  refine(jj5 hT i).andThen λp j _ => ?_
  refine(jdd hT _ j).andThen λ_ j _ => ?_
  refine(jj5 hT j).andThen λr j _ => ?_
  refine(jdd hT _ j).andThen λ_ j _ => ?_
  exact(jj7 hT (by decide) rfl (Qm _) j).mono λ_ h=>h.1
 split
 ·exact jfe hT (by decide) (by decide) rfl rfl (Qm _) i
 split
 ·unfold jnq
  refine(jnt hT i).andThen λb j _ => ?_
  exact jfe hT (by decide) (by decide) rfl rfl (Qm _) j
 split
 ·exact jfe hT (by decide) (by decide) rfl rfl (Qm _) i
 split
 ·exact jfe hT (by decide) (by decide) rfl rfl (Qm _) i
 ·unfold jno
  refine(jfe hT (k:=10) (by decide) (by decide) rfl rfl (Qm _) i).andThen λq j hq => ?_
  refine(jnu hT 65 [] j rfl (by simp)).andThen λrs j hrs => ?_
  refine(jdd hT _ j).andThen λ_ j _ => ?_
  exact(joW hT j).andThen λs j _=>⟨hq.1,hq.2.1,hq.2.2.1,hrs⟩
def Sq(q:Qry):Prop:=((q.kind=2\/q.kind=4\/q.kind=5)/\StL q.expr\/¬(q.kind=2\/q.kind=4\/q.kind=5)/\q.expr=[])/\(1<=q.kind/\q.kind<=10)/\(q.wher=[]\/StL q.wher)/\q.table ≠ []/\q.ranges.length<=64
theorem js3(hT:TsOK ts en){q:Qry}(hq:Kq q)(i:Nat):Rs en Sq (jcs ts en q i):=by
 unfold jcs
 refine(jdd hT _ i).andThen λ_ j _ => ?_
 refine(jiv hT j).andThen λt j ht => ?_
 refine Rs.andThen (P:=λr=>Kq r/\r.table ≠ []) ?_ λr j hr => ?_
 ·unfold jq9
  split
  ·exact(js2 hT _).andThen λn j _=>⟨hq,ht⟩
  ·exact⟨hq,ht⟩
 refine Rs.andThen (P:=λr=>Kq r/\r.table ≠ []) ?_ λr j hr => ?_
 ·unfold jnr
  split
  ·refine(jiv hT _).andThen λ_ j _ => ?_
   refine(jdd hT _ j).andThen λ_ j _ => ?_
   refine(jiv hT j).andThen λ_ j _ => ?_
   refine(jdd hT _ j).andThen λ_ j _ => ?_
   refine(jiv hT j).andThen λ_ j _ => ?_
   refine(jdd hT _ j).andThen λ_ j _ => ?_
   exact(js2 hT j).andThen λ_ j _=>hr
  ·exact hr
 unfold jhS
 split
 ·exact(jlr hT .cond _).andThen λw j hw=>⟨hr.1.1,hr.1.2.1,.inr hw,hr.2,hr.1.2.2.2⟩
 ·exact⟨hr.1.1,hr.1.2.1,.inl hr.1.2.2.1,hr.2,hr.1.2.2.2⟩
theorem jwS(hT:TsOK ts en)(itoa:Int->List UInt8)(mk:Int->Int->List UInt8){q:Qry}(hq:Sq q)(i:Nat):Rs en (λr=>Sq r/\0<r.bits) (jfF ts en itoa mk q i):=by
 unfold jfF
 refine(jdd hT _ i).andThen λ_ j _ => ?_
 refine(jdd hT _ j).andThen λ_ j _ => ?_
 refine Rs.andThen (P:=λ_=>True) ?_ λf j _ => ?_
 ·unfold jmd
  refine(jj5 hT j).andThen λn j _ => ?_
  split
  ·refine(jj5 hT _).andThen λd k _ => ?_
   split
   ·exact jeQ hT (by decide) _
   ·trivial
  ·trivial
 refine(jdd hT _ j).andThen λ_ j _ => ?_
 refine(js2 hT j).andThen λb j hb => ?_
 extract_lets c j1
 split
 ·exact jns hT _
 ·exact⟨hq,hb⟩
theorem jnv {s:List UInt8}{k:Int}(h:look jed s=some k):1<=k/\k<=10:=by
 have:=jjh h
 simp only[jed,Ja,List.map_nil,Qy,Jz,or_false]at this
 omega
theorem jux(hT:TsOK ts en)(itoa:Int->List UInt8)(mk:Int->Int->List UInt8):match jdD ts en itoa mk with
  | .ok q=>Sq q/\0<q.bits
  | .error e=>Bad en e:=by
 unfold jdD
 cases hk:look jed (keyT ts 0)with
 |none=>exact jeQ hT (by decide) 0
 | some k =>
  dsimp only
  have h:Rs en (λr=>Sq r/\0<r.bits) (PP.andThen (jfU ts en k Qry.zero 1) λq j=>PP.andThen (jcs ts en q j) λq j=>jfF ts en itoa mk q j) :=
   (juw hT (jnv hk) 1).andThen λq j hq=>(js3 hT hq j).andThen λq j hq=>jwS hT itoa mk hq j
  generalize (PP.andThen (jfU ts en k Qry.zero 1) λq j=>PP.andThen (jcs ts en q j) λq j=>jfF ts en itoa mk q j)=r at h
  match r,h with
  | .ok (q,j),h=>exact h
  | .error e,h=>exact h
end
def joX(t:Tk):Int × List UInt8 × Int:=(t.kind,t.text,t.n)
def Eqv(ts us:List Tk):Prop:=ts.map joX=us.map joX
def Rq {α:Type}:R α->R α->Prop
 | .ok a,.ok b=>a=b
 | .error _,.error _=>True
 |_,_=>False
def Ro2 {α:Type}:Option (R α)->Option (R α)->Prop
 |some x,some y=>Rq x y
 |none,none=>True
 |_,_=>False
theorem Ro2.cases {α:Type}{x y:Option (R α)}(h:Ro2 x y):(x=none/\y=none)\/(∃e e',x=some (.error e)/\y=some (.error e'))\/∃r j,x=some (.ok (r,j))/\y=some (.ok (r,j)):=by
 match x,y,h with
 |none,none,_=>exact .inl ⟨rfl,rfl⟩
 |some (.error e),some (.error e'),_=>exact .inr (.inl ⟨e,e',rfl,rfl⟩)
 |some (.ok (r,j)),some (.ok b),h =>
  have h:(r,j)=b:=h
  exact .inr (.inr ⟨r,j,rfl,by rw[<- h]⟩)
theorem Rq.cases {α:Type}{x y:R α}(h:Rq x y):(∃e e',x=.error e/\y=.error e')\/∃r j,x=.ok (r,j)/\y=.ok (r,j):=by
 match x,y,h with
 | .error e,.error e',_=>exact .inl ⟨e,e',rfl,rfl⟩
 | .ok (r,j),.ok b,h =>
  have h:(r,j)=b:=h
  exact .inr ⟨r,j,rfl,by rw[<- h]⟩
theorem Rq.refl {α:Type}(x:R α):Rq x x:=by
 match x with
 | .ok a=>exact(rfl:a=a)
 | .error e=>trivial
theorem Ro2.refl {α:Type}(x:Option (R α)):Ro2 x x:=by
 match x with
 |some x=>exact Rq.refl x
 |none=>trivial
theorem Rq.andThen {α β:Type}{x y:R α}{f g:α->Nat->R β}(h:Rq x y)(hf:∀a j,Rq (f a j) (g a j)):Rq (PP.andThen x f) (PP.andThen y g):=by
 rcases h.cases with⟨e,e',rfl,rfl⟩|⟨r,j,rfl,rfl⟩
 ·trivial
 ·exact hf r j
section
variable {ts us:List Tk}{en en':Int}(hE:Eqv ts us)
include hE
theorem jv6:ts.length=us.length:=by
 have:=congrArg List.length hE
 simpa using this
theorem jhV(i:Nat):(ts[i]? = none/\us[i]? = none)\/∃t u,ts[i]? = some t/\us[i]? = some u/\t.kind=u.kind/\t.text=u.text/\t.n=u.n:=by
 have h:=congrArg (λl:List (Int × List UInt8 × Int)=>l[i]?) hE
 simp only[Xe]at h
 cases h1:ts[i]? with
 |none =>
  cases h2:us[i]? with
  |none=>exact .inl ⟨rfl,rfl⟩
  |some u=>rw[h1,h2]at h;simp at h
 | some t =>
  cases h2:us[i]? with
  |none=>rw[h1,h2]at h;simp at h
  |some u =>
   rw[h1,h2]at h
   simp only[Kw,joX,Kg,Kh]at h
   exact .inr ⟨t,u,rfl,rfl,h⟩
theorem jc0(s:List UInt8)(i:Nat):sees ts s i=sees us s i:=by
 unfold sees
 rcases jhV hE i with⟨h1,h2⟩|⟨t,u,h1,h2,a,b,c⟩
 ·rw[h1,h2]
 ·rw[h1,h2];simp only[a,b]
theorem jyd(i:Nat):txt ts i=txt us i:=by
 unfold txt
 rcases jhV hE i with⟨h1,h2⟩|⟨t,u,h1,h2,a,b,c⟩
 ·rw[h1,h2]
 ·rw[h1,h2];simp only[a,b]
theorem jye(i:Nat):sgn ts i=sgn us i:=by
 unfold sgn
 rcases jhV hE i with⟨h1,h2⟩|⟨t,u,h1,h2,a,b,c⟩
 ·rw[h1,h2]
 ·rw[h1,h2];simp only[a,b]
theorem jyf(k:Int)(i:Nat):isK ts k i=isK us k i:=by
 unfold isK
 rcases jhV hE i with⟨h1,h2⟩|⟨t,u,h1,h2,a,b,c⟩
 ·rw[h1,h2]
 ·rw[h1,h2];simp only[a]
theorem jwT(i:Nat):keyT ts i=keyT us i:=by
 unfold keyT
 rcases jhV hE i with⟨h1,h2⟩|⟨t,u,h1,h2,a,b,c⟩
 ·rw[h1,h2]
 ·rw[h1,h2];simp only[a,b]
theorem jcH(s:List UInt8)(i:Nat):Rq (must ts en s i) (must us en' s i):=by
 unfold must
 rw[jc0 hE]
 split
 ·exact Rq.refl _
 ·trivial
theorem jiw(i:Nat):Rq (jeX ts en i) (jeX us en' i):=by
 unfold jeX jgL
 rcases jhV hE i with⟨h1,h2⟩|⟨t,u,h1,h2,a,b,c⟩
 ·rw[h1,h2];trivial
 ·rw[h1,h2]
  dsimp only
  by_cases hk:t.kind=1
  ·rw[Kk hk,Kk (by omega)];exact(by rw[b]:(t.text,i+1)=(u.text,i+1))
  ·rw[Km hk,Km (by omega)];trivial
theorem jj8(i:Nat):Rq (numP ts en i) (numP us en' i):=by
 unfold numP jgL
 rcases jhV hE i with⟨h1,h2⟩|⟨t,u,h1,h2,a,b,c⟩
 ·rw[h1,h2];trivial
 ·rw[h1,h2]
  dsimp only
  by_cases hk:t.kind=3
  ·rw[Kk hk,Kk (by omega)];exact(by rw[c]:(t.n,i+1)=(u.n,i+1))
  ·rw[Km hk,Km (by omega)];trivial
theorem jnw(i:Nat):Rq (intP ts en i) (intP us en' i):=by
 unfold intP
 rw[jc0 hE]
 split
 ·rcases(jj8 (en:=en) (en':=en') hE (i+1)).cases with⟨e,e',h1,h2⟩|⟨r,j,h1,h2⟩
  ·rw[h1,h2];trivial
  ·rw[h1,h2];exact Rq.refl _
 ·exact jj8 hE i
theorem js4(i:Nat):Rq (posP ts en i) (posP us en' i):=by
 unfold posP
 rcases(jj8 (en:=en) (en':=en') hE i).cases with⟨e,e',h1,h2⟩|⟨r,j,h1,h2⟩
 ·rw[h1,h2];trivial
 ·rw[h1,h2]
  dsimp only
  split
  ·trivial
  ·exact Rq.refl _
theorem jqi {sub sub':Nat->Option (R (List Nd))}(hs:∀i,Ro2 (sub i) (sub' i))(lv:Lvl):∀m out i,Ro2 (jek ts sub lv m out i) (jek us sub' lv m out i)
 |0,out,i=>trivial
 | m+1,out,i=>by
  unfold jek
  rw[jyd hE]
  split
  ·exact Ro2.refl _
  ·rcases(hs (i+1)).cases with⟨h1,h2⟩|⟨e,e',h1,h2⟩|⟨r,j,h1,h2⟩
   ·rw[h1,h2];trivial
   ·rw[h1,h2];trivial
   ·rw[h1,h2];exact jqi hs lv m _ _
theorem jj9 {op op':Nat->Option (R (List Nd))}(ho:∀i,Ro2 (op i) (op' i)):∀ls i,Ro2 (jcu ts op ls i) (jcu us op' ls i)
 | [],i=>ho i
 | lv::ls,i=>by
  unfold jcu
  have ih:=jj9 ho ls
  rcases(ih i).cases with⟨h1,h2⟩|⟨e,e',h1,h2⟩|⟨r,j,h1,h2⟩
  ·rw[h1,h2];trivial
  ·rw[h1,h2];trivial
  ·rw[h1,h2]
   dsimp only
   rw[jv6 hE]
   exact jqi hE ih lv _ _ _
theorem jhW:∀f sy o i,Ro2 (go ts en f sy o i) (go us en' f sy o i)
 |0,sy,o,i=>by cases sy<;>trivial
 | f+1,.expr,o,i=>by
  unfold go
  rw[jc0 hE]
  split
  ·split
   ·trivial
   rcases(jhW f .cond (o+1) (i+1)).cases with⟨h1,h2⟩|⟨e,e',h1,h2⟩|⟨r,j,h1,h2⟩
   ·rw[h1,h2];trivial
   ·rw[h1,h2];trivial
   rw[h1,h2]
   dsimp only
   rcases(jcH (en:=en) (en':=en') hE jsV j).cases with⟨e,e',h1,h2⟩|⟨u,j,h1,h2⟩
   ·rw[h1,h2];trivial
   rw[h1,h2]
   dsimp only
   rcases(jhW f .expr (o+1) j).cases with⟨h1,h2⟩|⟨e,e',h1,h2⟩|⟨r,j,h1,h2⟩
   ·rw[h1,h2];trivial
   ·rw[h1,h2];trivial
   rw[h1,h2]
   dsimp only
   rcases(jcH (en:=en) (en':=en') hE jsW j).cases with⟨e,e',h1,h2⟩|⟨u,j,h1,h2⟩
   ·rw[h1,h2];trivial
   rw[h1,h2]
   dsimp only
   rcases(jhW f .expr (o+1) j).cases with⟨h1,h2⟩|⟨e,e',h1,h2⟩|⟨r,j,h1,h2⟩
   ·rw[h1,h2];trivial
   ·rw[h1,h2];trivial
   rw[h1,h2]
   exact Ro2.refl _
  ·exact jj9 hE (jhW f .unary o) _ _
 | f+1,.unary,o,i=>by
  unfold go
  rw[jc0 hE,jc0 hE]
  split
  ·split
   ·trivial
   rcases(jhW f .unary (o+1) (i+1)).cases with⟨h1,h2⟩|⟨e,e',h1,h2⟩|⟨r,j,h1,h2⟩
   ·rw[h1,h2];trivial
   ·rw[h1,h2];trivial
   rw[h1,h2]
   exact Ro2.refl _
  split
  ·split
   ·trivial
   rcases(jhW f .expr (o+1) (i+1)).cases with⟨h1,h2⟩|⟨e,e',h1,h2⟩|⟨r,j,h1,h2⟩
   ·rw[h1,h2];trivial
   ·rw[h1,h2];trivial
   rw[h1,h2]
   dsimp only
   rcases(jcH (en:=en) (en':=en') hE [41] j).cases with⟨e,e',h1,h2⟩|⟨u,j,h1,h2⟩
   ·rw[h1,h2];trivial
   rw[h1,h2]
   exact Ro2.refl _
  rcases jhV hE i with⟨h1,h2⟩|⟨t,u,h1,h2,a,b,c⟩
  ·rw[h1,h2];trivial
  ·rw[h1,h2]
   dsimp only
   rw[a,b,c]
   split
   ·exact Ro2.refl _
   split
   ·exact Ro2.refl _
   ·trivial
 |f+1,.cond,o,i=>by
  unfold go
  exact jj9 hE (jhW f .neg o) _ _
 | f+1,.neg,o,i=>by
  unfold go
  rw[jc0 hE,jc0 hE]
  split
  ·split
   ·trivial
   rcases(jhW f .neg (o+1) (i+1)).cases with⟨h1,h2⟩|⟨e,e',h1,h2⟩|⟨r,j,h1,h2⟩
   ·rw[h1,h2];trivial
   ·rw[h1,h2];trivial
   rw[h1,h2]
   exact Ro2.refl _
  split
  ·split
   ·trivial
   rcases(jhW f .cond (o+1) (i+1)).cases with⟨h1,h2⟩|⟨e,e',h1,h2⟩|⟨r,j,h1,h2⟩
   ·rw[h1,h2];trivial
   ·rw[h1,h2];trivial
   rw[h1,h2]
   dsimp only
   rcases(jcH (en:=en) (en':=en') hE [93] j).cases with⟨e,e',h1,h2⟩|⟨u,j,h1,h2⟩
   ·rw[h1,h2];trivial
   rw[h1,h2]
   exact Ro2.refl _
  ·exact jhW f .compare o i
 | f+1,.compare,o,i=>by
  unfold go
  rcases(jhW f .expr o i).cases with⟨h1,h2⟩|⟨e,e',h1,h2⟩|⟨r,j,h1,h2⟩
  ·rw[h1,h2];trivial
  ·rw[h1,h2];trivial
  rw[h1,h2]
  dsimp only
  rw[jye hE]
  split
  ·trivial
  rename_i op _
  rcases jhV hE (j+1)with⟨h3,h4⟩|⟨t,u,h3,h4,a,b,c⟩
  ·rw[h3,h4]
   dsimp only
   rcases(jhW f .expr o (j+1)).cases with⟨h1,h2⟩|⟨e,e',h1,h2⟩|⟨r,j,h1,h2⟩
   ·rw[h1,h2];trivial
   ·rw[h1,h2];trivial
   rw[h1,h2]
   exact Ro2.refl _
  ·rw[h3,h4]
   dsimp only
   rw[a,b,jyf hE]
   split
   ·exact Ro2.refl _
   rcases(jhW f .expr o (j+1)).cases with⟨h1,h2⟩|⟨e,e',h1,h2⟩|⟨r,j,h1,h2⟩
   ·rw[h1,h2];trivial
   ·rw[h1,h2];trivial
   rw[h1,h2]
   exact Ro2.refl _
theorem jwU(sy:Sy)(i:Nat):Rq (jj0 ts en sy i) (jj0 us en' sy i):=by
 unfold jj0
 rcases(jhW (en:=en) (en':=en') hE deep sy 0 i).cases with⟨h1,h2⟩|⟨e,e',h1,h2⟩|⟨r,j,h1,h2⟩
 ·rw[h1,h2];trivial
 ·rw[h1,h2];trivial
 ·rw[h1,h2];exact Rq.refl _
theorem jls(sy:Sy)(i:Nat):Rq (jcV ts en sy i) (jcV us en' sy i):=by
 unfold jcV
 refine(jwU hE sy i).andThen λa j => ?_
 split
 ·trivial
 ·exact Rq.refl _
theorem jka(k:Int)(q:Qry)(i:Nat):Rq (jdC ts en k q i) (jdC us en' k q i):=by
 unfold jdC
 refine(jls hE .expr i).andThen λ_ j => ?_
 refine(jcH hE _ j).andThen λ_ j => ?_
 refine(jnw hE j).andThen λ_ j => ?_
 refine(jcH hE _ j).andThen λ_ j => ?_
 exact(jnw hE j).andThen λ_ j=>Rq.refl _
theorem jff(k:Int)(q:Qry)(i:Nat):Rq (jcb ts en k q i) (jcb us en' k q i):=by
 unfold jcb
 exact(jiw hE i).andThen λ_ j=>Rq.refl _
theorem jnx:∀m out i,Rq (jd7 ts en m out i) (jd7 us en' m out i)
 |0,out,i=>trivial
 |m+1,out,i=>by
  unfold jd7
  split
  ·trivial
  refine(jnw hE i).andThen λ_ j => ?_
  refine(jcH hE _ j).andThen λ_ j => ?_
  refine(jnw hE j).andThen λ_ j => ?_
  rw[jc0 hE]
  split
  ·exact jnx m _ _
  ·exact Rq.refl _
theorem joY(i:Nat):Rq (jcr ts en i) (jcr us en' i):=by
 unfold jcr
 rw[jc0 hE,jc0 hE,jc0 hE]
 split
 ·exact Rq.refl _
 split
 ·exact Rq.refl _
 split
 ·exact Rq.refl _
 ·trivial
theorem juy(k:Int)(q:Qry)(i:Nat):Rq (jfU ts en k q i) (jfU us en' k q i):=by
 unfold jfU
 repeat' split
 ·exact Rq.refl _
 ·exact jka hE _ _ _
 ·exact jff hE _ _ _
 ·unfold jnp
  refine(jka hE _ _ i).andThen λ_ j => ?_
  refine(jcH hE _ j).andThen λ_ j => ?_
  exact(jiw hE j).andThen λ_ j=>Rq.refl _
 ·unfold jgg
  refine(jj8 hE i).andThen λ_ j => ?_
  refine(jcH hE _ j).andThen λ_ j => ?_
  refine(jj8 hE j).andThen λ_ j => ?_
  refine(jcH hE _ j).andThen λ_ j => ?_
  exact jka hE _ _ _
 ·exact jff hE _ _ _
 ·unfold jnq
  exact(jnw hE i).andThen λ_ j=>jff hE _ _ _
 ·exact jff hE _ _ _
 ·exact jff hE _ _ _
 ·unfold jno
  refine(jff hE _ _ i).andThen λ_ j => ?_
  refine(jnx hE _ _ j).andThen λ_ j => ?_
  refine(jcH hE _ j).andThen λ_ j => ?_
  exact(joY hE j).andThen λ_ j=>Rq.refl _
theorem js5(q:Qry)(i:Nat):Rq (jcs ts en q i) (jcs us en' q i):=by
 unfold jcs
 refine(jcH hE _ i).andThen λ_ j => ?_
 refine(jiw hE j).andThen λ_ j => ?_
 refine Rq.andThen ?_ λ_ j => ?_
 ·unfold jq9
  rw[jc0 hE]
  split
  ·exact(js4 hE _).andThen λ_ j=>Rq.refl _
  ·exact Rq.refl _
 refine Rq.andThen ?_ λ_ j => ?_
 ·unfold jnr
  rw[jc0 hE]
  split
  ·refine(jiw hE _).andThen λ_ j => ?_
   refine(jcH hE _ j).andThen λ_ j => ?_
   refine(jiw hE j).andThen λ_ j => ?_
   refine(jcH hE _ j).andThen λ_ j => ?_
   refine(jiw hE j).andThen λ_ j => ?_
   refine(jcH hE _ j).andThen λ_ j => ?_
   exact(js4 hE j).andThen λ_ j=>Rq.refl _
  ·exact Rq.refl _
 unfold jhS
 rw[jc0 hE]
 split
 ·exact(jls hE _ _).andThen λ_ j=>Rq.refl _
 ·exact Rq.refl _
theorem jwV(itoa:Int->List UInt8)(mk:Int->Int->List UInt8)(q:Qry)(i:Nat):Rq (jfF ts en itoa mk q i) (jfF us en' itoa mk q i):=by
 unfold jfF
 refine(jcH hE _ i).andThen λ_ j => ?_
 refine(jcH hE _ j).andThen λ_ j => ?_
 refine Rq.andThen ?_ λ_ j => ?_
 ·unfold jmd
  refine(jj8 hE j).andThen λ_ j => ?_
  rw[jc0 hE]
  split
  ·refine(jj8 hE _).andThen λ_ k => ?_
   split
   ·trivial
   ·exact Rq.refl _
  ·exact Rq.refl _
 refine(jcH hE _ j).andThen λ_ j => ?_
 refine(js4 hE j).andThen λ_ j => ?_
 rw[jc0 hE,jv6 hE]
 extract_lets c j1
 split
 ·trivial
 ·exact Rq.refl _
theorem js6(itoa:Int->List UInt8)(mk:Int->Int->List UInt8){q:Qry}(h:jdD ts en itoa mk=.ok q):jdD us en' itoa mk=.ok q:=by
 unfold jdD at h ⊢
 rw[jwT hE]at h
 cases hk:look jed (keyT us 0)with
 |none=>rw[hk]at h;cases h
 | some k =>
  rw[hk]at h
  dsimp only at h ⊢
  have hr:Rq (PP.andThen (jfU ts en k Qry.zero 1) λq j=>PP.andThen (jcs ts en q j) λq j=>jfF ts en itoa mk q j) (PP.andThen (jfU us en' k Qry.zero 1) λq j=>PP.andThen (jcs us en' q j) λq j=>jfF us en' itoa mk q j) :=
   (juy hE k _ 1).andThen λq j=>(js5 hE q j).andThen λq j=>jwV hE itoa mk q j
  rcases hr.cases with⟨e,e',h1,h2⟩|⟨r,j,h1,h2⟩
  ·rw[h1]at h;cases h
  ·rw[h1]at h;rw[h2];exact h
end
section
variable (ts us:List Tk)(d:Nat)
def Agr(i:Nat):Prop:=(ts[i]?).map joX=(us[i+d]?).map joX
def Stop(k:Nat):Prop:=(∀lv∈sumL,look lv (txt us k)=none)/\∀lv∈jhc,look lv (txt us k)=none
end
section
variable {ts us:List Tk}{d:Nat}
theorem Agr.cases {i:Nat}(h:Agr ts us d i):(ts[i]? = none/\us[i+d]? = none)\/∃t u,ts[i]? = some t/\us[i+d]? = some u/\t.kind=u.kind/\t.text=u.text/\t.n=u.n:=by
 unfold Agr at h
 cases h1:ts[i]? with
 |none =>
  cases h2:us[i+d]? with
  |none=>exact .inl ⟨rfl,rfl⟩
  |some u=>rw[h1,h2]at h;simp at h
 | some t =>
  cases h2:us[i+d]? with
  |none=>rw[h1,h2]at h;simp at h
  |some u =>
   rw[h1,h2]at h
   simp only[Kw,joX,Kg,Kh]at h
   exact .inr ⟨t,u,rfl,rfl,h⟩
theorem Agr.sees {i:Nat}(h:Agr ts us d i)(s:List UInt8):sees us s (i+d)=sees ts s i:=by
 unfold PP.sees
 rcases h.cases with⟨h1,h2⟩|⟨t,u,h1,h2,a,b,c⟩
 ·rw[h1,h2]
 ·rw[h1,h2];simp only[a,b]
theorem Agr.txt {i:Nat}(h:Agr ts us d i):txt us (i+d)=txt ts i:=by
 unfold PP.txt
 rcases h.cases with⟨h1,h2⟩|⟨t,u,h1,h2,a,b,c⟩
 ·rw[h1,h2]
 ·rw[h1,h2];simp only[a,b]
theorem Agr.sgn {i:Nat}(h:Agr ts us d i):sgn us (i+d)=sgn ts i:=by
 unfold PP.sgn
 rcases h.cases with⟨h1,h2⟩|⟨t,u,h1,h2,a,b,c⟩
 ·rw[h1,h2]
 ·rw[h1,h2];simp only[a,b]
theorem Agr.isK {i:Nat}(h:Agr ts us d i)(k:Int):isK us k (i+d)=isK ts k i:=by
 unfold PP.isK
 rcases h.cases with⟨h1,h2⟩|⟨t,u,h1,h2,a,b,c⟩
 ·rw[h1,h2]
 ·rw[h1,h2];simp only[a]
variable (ts us d)
variable {ts us d}
end
section
variable {ts:List Tk}{en:Int}
def Len(ts:List Tk)(f:Nat->Option (R (List Nd))):Prop:=∀i out j,f i=some (.ok (out,j))->i<j/\j<=ts.length/\out.length<=j-i
theorem jny {sub:Nat->Option (R (List Nd))}(hs:Len ts sub)(lv:Lvl):∀m out i r j,jek ts sub lv m out i=some (.ok (r,j))->i<=j/\(j=i\/j<=ts.length)/\r.length<=out.length+(j-i)
 |0,out,i,r,j,h=>by simp[jek]at h
 | m+1,out,i,r,j,h=>by
  unfold jek at h
  split at h
  ·simp only[Kg,Except.ok.injEq,Kh]at h
   obtain⟨rfl,rfl⟩:=h
   omega
  ·split at h
   ·simp at h
   ·simp at h
   ·rename_i r1 j1 he
    have h1:=hs _ _ _ he
    have h2:=jny hs lv m _ _ _ _ h
    simp only[Ks,K2,K5]at h2
    omega
theorem jfg {op:Nat->Option (R (List Nd))}(ho:Len ts op):∀ls,Len ts (jcu ts op ls)
 | [],i,out,j,h=>ho i out j h
 | lv::ls,i,out,j,h=>by
  unfold jcu at h
  split at h
  ·simp at h
  ·simp at h
  ·rename_i r1 j1 he
   have h1:=jfg ho ls _ _ _ he
   have h2:=jny (jfg ho ls) lv _ _ _ _ _ h
   omega
theorem jcf:∀f sy o,Len ts (go ts en f sy o)
 |0,sy,o,i,out,j,h=>by simp[go]at h
 | f+1,.expr,o,i,out,j,h=>by
  unfold go at h
  split at h
  ·split at h
   ·simp[long]at h
   split at h
   ·simp at h
   ·simp at h
   rename_i c j1 h1
   have a1:=jcf f .cond (o+1) _ _ _ h1
   split at h
   ·simp at h
   rename_i j2 h2
   have a2:=jdK h2
   split at h
   ·simp at h
   ·simp at h
   rename_i a j3 h3
   have a3:=jcf f .expr (o+1) _ _ _ h3
   split at h
   ·simp at h
   rename_i j4 h4
   have a4:=jdK h4
   split at h
   ·simp at h
   ·simp at h
   rename_i b j5 h5
   have a5:=jcf f .expr (o+1) _ _ _ h5
   simp only[Kg,Except.ok.injEq,Kh]at h
   obtain⟨h8,h9⟩:=h
   have h8:=congrArg List.length h8
   try simp only[Ks,K2,K5]at h8
   omega
  ·exact jfg (jcf f .unary o) _ _ _ _ h
 | f+1,.unary,o,i,out,j,h=>by
  unfold go at h
  split at h
  ·split at h
   ·simp[long]at h
   split at h
   ·simp at h
   ·simp at h
   rename_i a j1 h1
   have a1:=jcf f .unary (o+1) _ _ _ h1
   simp only[Kg,Except.ok.injEq,Kh]at h
   obtain⟨h8,h9⟩:=h
   have h8:=congrArg List.length h8
   try simp only[Ks,K2,K5]at h8
   omega
  split at h
  ·split at h
   ·simp[long]at h
   split at h
   ·simp at h
   ·simp at h
   rename_i a j1 h1
   have a1:=jcf f .expr (o+1) _ _ _ h1
   split at h
   ·simp at h
   rename_i j2 h2
   have a2:=jdK h2
   have:=jcg a2.2
   simp only[Kg,Except.ok.injEq,Kh]at h
   obtain⟨h8,h9⟩:=h
   have h8:=congrArg List.length h8
   try simp only[Ks,K2,K5]at h8
   omega
  split at h
  ·rename_i t ht
   have:=jhd ht
   split at h
   ·simp only[Kg,Except.ok.injEq,Kh]at h
    obtain⟨h8,h9⟩:=h
    have h8:=congrArg List.length h8
    try simp only[Ks,K2,K5]at h8
    omega
   split at h
   ·simp only[Kg,Except.ok.injEq,Kh]at h
    obtain⟨h8,h9⟩:=h
    have h8:=congrArg List.length h8
    try simp only[Ks,K2,K5]at h8
    omega
   ·simp[syn]at h
  ·simp[syn]at h
 |f+1,.cond,o,i,out,j,h=>by
  unfold go at h
  exact jfg (jcf f .neg o) _ _ _ _ h
 | f+1,.neg,o,i,out,j,h=>by
  unfold go at h
  split at h
  ·split at h
   ·simp[long]at h
   split at h
   ·simp at h
   ·simp at h
   rename_i a j1 h1
   have a1:=jcf f .neg (o+1) _ _ _ h1
   simp only[Kg,Except.ok.injEq,Kh]at h
   obtain⟨h8,h9⟩:=h
   have h8:=congrArg List.length h8
   try simp only[Ks,K2,K5]at h8
   omega
  split at h
  ·split at h
   ·simp[long]at h
   split at h
   ·simp at h
   ·simp at h
   rename_i a j1 h1
   have a1:=jcf f .cond (o+1) _ _ _ h1
   split at h
   ·simp at h
   rename_i j2 h2
   have a2:=jdK h2
   have:=jcg a2.2
   simp only[Kg,Except.ok.injEq,Kh]at h
   obtain⟨h8,h9⟩:=h
   have h8:=congrArg List.length h8
   try simp only[Ks,K2,K5]at h8
   omega
  ·exact jcf f .compare o _ _ _ h
 | f+1,.compare,o,i,out,j,h=>by
  unfold go at h
  split at h
  ·simp at h
  ·simp at h
  rename_i a j1 h1
  have a1:=jcf f .expr o _ _ _ h1
  split at h
  ·simp[syn]at h
  split at h
  ·rename_i t ht
   have:=jhd ht
   split at h
   ·simp only[Kg,Except.ok.injEq,Kh]at h
    obtain⟨h8,h9⟩:=h
    have h8:=congrArg List.length h8
    try simp only[Ks,K2,K5]at h8
    omega
   split at h
   ·simp at h
   ·simp at h
   rename_i b k h2
   have a2:=jcf f .expr o _ _ _ h2
   simp only[Kg,Except.ok.injEq,Kh]at h
   obtain⟨h8,h9⟩:=h
   have h8:=congrArg List.length h8
   try simp only[Ks,K2,K5]at h8
   omega
  ·split at h
   ·simp at h
   ·simp at h
   rename_i b k h2
   have a2:=jcf f .expr o _ _ _ h2
   simp only[Kg,Except.ok.injEq,Kh]at h
   obtain⟨h8,h9⟩:=h
   have h8:=congrArg List.length h8
   try simp only[Ks,K2,K5]at h8
   omega
end
end Go.Ab.PP
