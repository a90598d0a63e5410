/- Proved here: a plain parser. Conditions: those of each theorem; no statement of the seat is proved in this text. -/
import Derived.Test.YtpclebdkhpapjaaGreatDoorAbF
/- The parser of queries,plain. Conditions: none. -/
set_option linter.unusedSimpArgs false
set_option linter.unusedVariables false
set_option linter.unusedSectionVars false
namespace Go.Ab.PP
structure Tk where
 kind:Int
 text:List UInt8
 n:Int
 pos:Int
structure Nd where
 op:Int
 n:Int
 col:List UInt8
deriving DecidableEq
abbrev Fl:=Int × Int
abbrev R(α:Type):=Except Fl (α × Nat)
abbrev Lvl:=List (List UInt8 × Int)
def opN(o:Int):Nd:=⟨o,0,[]⟩
def look(l:Lvl)(s:List UInt8):Option Int:=(l.find? λp=>p.1=s).map (·.2)
section
variable (ts:List Tk)(en:Int)
def atP(i:Nat):Int:=match ts[i]? with|some t=>t.pos|none=>en
def txt(i:Nat):List UInt8:=match ts[i]? with|some t=>if t.kind=2\/t.kind=5 then t.text else []|none=>[]
def sgn(i:Nat):List UInt8:=match ts[i]? with|some t=>if t.kind=5 then t.text else []|none=>[]
def isK(k:Int)(i:Nat):Bool:=match ts[i]? with|some t=>t.kind=k|none=>false
def sees(s:List UInt8)(i:Nat):Bool:=match ts[i]? with|some t=>(t.kind=2\/t.kind=5)/\t.text=s|none=>false
def syn {α:Type}(i:Nat):R α:=.error (11,atP ts en i)
def must(s:List UInt8)(i:Nat):R Unit:=if sees ts s i then .ok ((),i+1)else syn ts en i
def jfJ(k:Int)(i:Nat):R Tk:=match ts[i]? with|some t=>if t.kind=k then .ok (t,i+1)else syn ts en i|none=>syn ts en i
def jeA(i:Nat):R (List UInt8):=match jfJ ts en 1 i with| .ok (t,j)=>.ok (t.text,j)| .error e=>.error e
def numP(i:Nat):R Int:=match jfJ ts en 3 i with| .ok (t,j)=>.ok (t.n,j)| .error e=>.error e
def intP(i:Nat):R Int:=if sees ts [45] i then(match numP ts en (i+1)with| .ok (n,j)=>.ok (-n,j)| .error e=>.error e)else numP ts en i
def posP(i:Nat):R Int:=match numP ts en i with| .ok (n,j)=>if n=0 then .error (2,atP ts en i)else .ok (n,j)| .error e=>.error e
def jd7(sub:Nat->Option (R (List Nd)))(lv:Lvl):Nat->List Nd->Nat->Option (R (List Nd))
 |0,_,_=>none
 | m+1,out,i=>match look lv (txt ts i)with
  |none=>some (.ok (out,i))
  |some op=>match sub (i+1)with
   |none=>none
   |some (.error e)=>some (.error e)
   |some (.ok (r,j))=>jd7 sub lv m (out++r++[opN op]) j
def jcK(operand:Nat->Option (R (List Nd))):List Lvl->Nat->Option (R (List Nd))
 | [],i=>operand i
 |lv::ls,i=>match jcK operand ls i with
  |none=>none
  |some (.error e)=>some (.error e)
  |some (.ok (out,j))=>jd7 ts (jcK operand ls) lv (ts.length+1) out j
def sumL:List Lvl:=[[([43],4),([45],5)],[([42],6)]]
def jeB:List Lvl:=[[([111,114],16)],[([97,110,100],15)]]
def cmpL:Lvl:=[([61],9),([33,61],10),([60],11),([60,61],12),([62],13),([62,61],14)]
def wIf:List UInt8:=[105,102]
def js5:List UInt8:=[116,104,101,110]
def js6:List UInt8:=[101,108,115,101]
def wNot:List UInt8:=[110,111,116]
def long {α:Type}(i:Nat):R α:=.error (4,atP ts en i)
inductive Sy where
 |expr|unary|cond|neg|compare
def go:Nat→Sy→Nat->Nat->Option (R (List Nd))
  |0,_,_,_=>none
  | f+1,.expr,o,i =>
    if sees ts wIf i then
      if 50<=o then some (long ts en i)else
      match go f .cond (o+1) (i+1)with
      |none=>none
      |some (.error e)=>some (.error e)
      | some (.ok (c,j))=>match must ts en js5 j with
        | .error e=>some (.error e)
        | .ok (_,j)=>match go f .expr (o+1) j with
          |none=>none
          |some (.error e)=>some (.error e)
          | some (.ok (a,j))=>match must ts en js6 j with
            | .error e=>some (.error e)
            | .ok (_,j)=>match go f .expr (o+1) j with
              |none=>none
              |some (.error e)=>some (.error e)
              |some (.ok (b,j))=>some (.ok (c++a++b++[opN 8],j))
    else jcK ts (go f .unary o) sumL i
  | f+1,.unary,o,i =>
    if sees ts [45] i then
      if 50<=o then some (long ts en i)else
      match go f .unary (o+1) (i+1)with
      |none=>none
      |some (.error e)=>some (.error e)
      |some (.ok (a,j))=>some (.ok (a++[opN 7],j))
    else if sees ts [40] i then
      if 50<=o then some (long ts en i)else
      match go f .expr (o+1) (i+1)with
      |none=>none
      |some (.error e)=>some (.error e)
      | some (.ok (a,j))=>match must ts en [41] j with
        | .error e=>some (.error e)
        | .ok (_,j)=>some (.ok (a,j))
    else match ts[i]? with
      |some t=>if t.kind=3 then some (.ok ([⟨1,t.n,[]⟩],i+1))else if t.kind=1 then some (.ok ([⟨2,0,t.text⟩],i+1))else some (syn ts en i)
      |none=>some (syn ts en i)
  |f+1,.cond,o,i=>jcK ts (go f .neg o) jeB i
  | f+1,.neg,o,i =>
    if sees ts wNot i then
      if 50<=o then some (long ts en i)else
      match go f .neg (o+1) (i+1)with
      |none=>none
      |some (.error e)=>some (.error e)
      |some (.ok (a,j))=>some (.ok (a++[opN 17],j))
    else if sees ts [91] i then
      if 50<=o then some (long ts en i)else
      match go f .cond (o+1) (i+1)with
      |none=>none
      |some (.error e)=>some (.error e)
      | some (.ok (a,j))=>match must ts en [93] j with
        | .error e=>some (.error e)
        | .ok (_,j)=>some (.ok (a,j))
    else go f .compare o i
  | f+1,.compare,o,i =>
    match go f .expr o i with
    |none=>none
    |some (.error e)=>some (.error e)
    | some (.ok (a,j))=>match look cmpL (sgn ts j)with
      |none=>some (syn ts en j)
      | some op=>match ts[j+1]? with
        | some t=>if t.kind=4/\(isK ts 1 i=true/\j=i+1)/\(op=9\/op=10)then some (.ok (a++[⟨3,0,t.text⟩,opN op],j+2))else
          (match go f .expr o (j+1)with
            |none=>none
            |some (.error e)=>some (.error e)
            |some (.ok (b,k))=>some (.ok (a++b++[opN op],k)))
        | none=>(match go f .expr o (j+1)with
            |none=>none
            |some (.error e)=>some (.error e)
            |some (.ok (b,k))=>some (.ok (a++b++[opN op],k)))
end
section
variable {ts:List Tk}{en:Int}
theorem jcb {s:List UInt8}{i:Nat}(h:sees ts s i=true):i<ts.length:=by
 unfold sees at h;split at h
 ·rename_i t ht;exact(Kz.1 ht).1
 ·simp at h
theorem jco {s:List UInt8}{i j:Nat}{u:Unit}(h:must ts en s i=.ok (u,j)):j=i+1/\sees ts s i=true:=by
 unfold must at h;split at h
 ·simp only[Except.ok.injEq,Kh,true_and]at h;exact⟨h.symm,by assumption⟩
 ·simp[syn]at h
def Adv(ts:List Tk)(f:Nat->Option (R (List Nd))):Prop:=∀i out j,f i=some (.ok (out,j))->i<j/\j<=ts.length
theorem jhU {sub:Nat->Option (R (List Nd))}(hs:Adv ts sub)(lv:Lvl):∀m out i r j,jd7 ts sub lv m out i=some (.ok (r,j))->i<=j/\(j=i\/j<=ts.length)
 |0,out,i,r,j,h=>by simp[jd7]at h
 | m+1,out,i,r,j,h=>by
  unfold jd7 at h;split at h
  ·simp only[Kg,Except.ok.injEq,Kh]at h;omega
  ·split at h
   ·simp at h
   ·simp at h
   ·rename_i r1 j1 he;have h1:=hs _ _ _ he;have h2:=jhU hs lv m _ _ _ _ h;omega
theorem jds {op:Nat->Option (R (List Nd))}(ho:Adv ts op):∀ls,Adv ts (jcK ts op ls)
 | [],i,out,j,h=>ho i out j h
 | lv::ls,i,out,j,h=>by
  unfold jcK at h;split at h
  ·simp at h
  ·simp at h
  ·rename_i r1 j1 he;have h1:=jds ho ls _ _ _ he;have h2:=jhU (jds ho ls) lv _ _ _ _ _ h;omega
theorem jhf {i:Nat}{t:Tk}(h:ts[i]? = some t):i<ts.length:=(Kz.1 h).1
theorem jqr {lv:Lvl}{i:Nat}{o:Int}(hl:look lv []=none)(h:look lv (txt ts i)=some o):i<ts.length:=by
 unfold txt at h;split at h
 ·rename_i t ht;exact jhf ht
 ·rw[hl]at h;cases h
theorem jb7:∀f sy o,Adv ts (go ts en f sy o)
 |0,sy,o,i,out,j,h=>by simp[go]at h
 | f+1,.expr,o,i,out,j,h=>by
  unfold go at h;split at h
  ·split at h
   ·simp[long]at h
   split at h
   ·simp at h
   ·simp at h
   rename_i c j1 h1;have a1:=jb7 f .cond (o+1) _ _ _ h1;split at h
   ·simp at h
   rename_i j2 h2;have a2:=jco h2;split at h
   ·simp at h
   ·simp at h
   rename_i a j3 h3;have a3:=jb7 f .expr (o+1) _ _ _ h3;split at h
   ·simp at h
   rename_i j4 h4;have a4:=jco h4;split at h
   ·simp at h
   ·simp at h
   rename_i b j5 h5;have a5:=jb7 f .expr (o+1) _ _ _ h5;simp only[Kg,Except.ok.injEq,Kh]at h;omega
  ·exact jds (jb7 f .unary o) _ _ _ _ h
 | f+1,.unary,o,i,out,j,h=>by
  unfold go at h;split at h
  ·split at h
   ·simp[long]at h
   split at h
   ·simp at h
   ·simp at h
   rename_i a j1 h1;have a1:=jb7 f .unary (o+1) _ _ _ h1;simp only[Kg,Except.ok.injEq,Kh]at h;omega
  split at h
  ·split at h
   ·simp[long]at h
   split at h
   ·simp at h
   ·simp at h
   rename_i a j1 h1;have a1:=jb7 f .expr (o+1) _ _ _ h1;split at h
   ·simp at h
   rename_i j2 h2;have a2:=jco h2;have:=jcb a2.2;simp only[Kg,Except.ok.injEq,Kh]at h;omega
  split at h
  ·rename_i t ht;have:=jhf ht;split at h
   ·simp only[Kg,Except.ok.injEq,Kh]at h;omega
   split at h
   ·simp only[Kg,Except.ok.injEq,Kh]at h;omega
   ·simp[syn]at h
  ·simp[syn]at h
 |f+1,.cond,o,i,out,j,h=>by
  unfold go at h;exact jds (jb7 f .neg o) _ _ _ _ h
 | f+1,.neg,o,i,out,j,h=>by
  unfold go at h;split at h
  ·split at h
   ·simp[long]at h
   split at h
   ·simp at h
   ·simp at h
   rename_i a j1 h1;have a1:=jb7 f .neg (o+1) _ _ _ h1;simp only[Kg,Except.ok.injEq,Kh]at h;omega
  split at h
  ·split at h
   ·simp[long]at h
   split at h
   ·simp at h
   ·simp at h
   rename_i a j1 h1;have a1:=jb7 f .cond (o+1) _ _ _ h1;split at h
   ·simp at h
   rename_i j2 h2;have a2:=jco h2;have:=jcb a2.2;simp only[Kg,Except.ok.injEq,Kh]at h;omega
  ·exact jb7 f .compare o _ _ _ h
 | f+1,.compare,o,i,out,j,h=>by
  unfold go at h;split at h
  ·simp at h
  ·simp at h
  rename_i a j1 h1;have a1:=jb7 f .expr o _ _ _ h1;split at h
  ·simp[syn]at h
  split at h
  ·rename_i t ht;have:=jhf ht;split at h
   ·simp only[Kg,Except.ok.injEq,Kh]at h;omega
   split at h
   ·simp at h
   ·simp at h
   rename_i b k h2;have a2:=jb7 f .expr o _ _ _ h2;simp only[Kg,Except.ok.injEq,Kh]at h;omega
  ·split at h
   ·simp at h
   ·simp at h
   rename_i b k h2;have a2:=jb7 f .expr o _ _ _ h2;simp only[Kg,Except.ok.injEq,Kh]at h;omega
theorem jkc {sub:Nat->Option (R (List Nd))}(hs:Adv ts sub)(ht:∀i,(sub i).isSome){lv:Lvl}(hl:look lv []=none):∀m out i,ts.length<m+i\/ts.length<i->0<m->(jd7 ts sub lv m out i).isSome
 |0,out,i,hm,h0=>by omega
 | m+1,out,i,hm,h0=>by
  unfold jd7;split
  ·rfl
  ·rename_i o ho;have hi:=jqr hl ho;have h1:=ht (i+1);split
   ·rename_i he;rw[he]at h1;simp at h1
   ·rfl
   ·rename_i r j he;have h2:=hs _ _ _ he;exact jkc hs ht hl m _ _ (by omega) (by omega)
theorem jgn {op:Nat->Option (R (List Nd))}(ha:Adv ts op)(ht:∀i,(op i).isSome):∀ls:List Lvl,(∀lv∈ls,look lv []=none)->∀i,(jcK ts op ls i).isSome
 | [],_,i=>ht i
 | lv::ls,hl,i=>by
  have ih:=jgn ha ht ls λl h=>hl l (by simp[h])
  unfold jcK;have h1:=ih i;split
  ·rename_i he;rw[he]at h1;simp at h1
  ·rfl
  ·rename_i r j he;exact jkc (jds ha ls) ih (hl lv (by simp)) _ _ _ (by omega) (by omega)
def rank:Sy->Nat
 | .unary=>1
 | .expr=>2
 | .compare=>3
 | .neg=>4
 | .cond=>5
theorem jo6:∀lv∈sumL,look lv []=none:=by decide
theorem jmo:∀lv∈jeB,look lv []=none:=by decide
theorem jcQ:∀f sy o,o<=50->5*(50-o)+rank sy<=f->∀i,(go ts en f sy o i).isSome
 |0,sy,o,ho,hf,i=>by cases sy<;>simp[rank]at hf
 | f+1,.expr,o,ho,hf,i=>by
  simp only[rank]at hf;unfold go;split
  ·split
   ·rfl
   have g1:=jcQ f .cond (o+1) (by omega) (by simp only[rank];omega) (i+1);split
   ·rename_i he;rw[he]at g1;simp at g1
   ·rfl
   split
   ·rfl
   rename_i j2 h2;have g2:=jcQ f .expr (o+1) (by omega) (by simp only[rank];omega) j2;split
   ·rename_i he;rw[he]at g2;simp at g2
   ·rfl
   split
   ·rfl
   rename_i j4 h4;have g3:=jcQ f .expr (o+1) (by omega) (by simp only[rank];omega) j4;split
   ·rename_i he;rw[he]at g3;simp at g3
   ·rfl
   ·rfl
  ·exact jgn (jb7 f .unary o) (jcQ f .unary o ho (by simp only[rank];omega)) _ jo6 i
 | f+1,.unary,o,ho,hf,i=>by
  simp only[rank]at hf;unfold go;split
  ·split
   ·rfl
   have g1:=jcQ f .unary (o+1) (by omega) (by simp only[rank];omega) (i+1);split
   ·rename_i he;rw[he]at g1;simp at g1
   ·rfl
   ·rfl
  split
  ·split
   ·rfl
   have g1:=jcQ f .expr (o+1) (by omega) (by simp only[rank];omega) (i+1);split
   ·rename_i he;rw[he]at g1;simp at g1
   ·rfl
   split<;>rfl
  split
  ·split
   ·rfl
   ·split<;>rfl
  ·rfl
 |f+1,.cond,o,ho,hf,i=>by
  simp only[rank]at hf;unfold go;exact jgn (jb7 f .neg o) (jcQ f .neg o ho (by simp only[rank];omega)) _ jmo i
 | f+1,.neg,o,ho,hf,i=>by
  simp only[rank]at hf;unfold go;split
  ·split
   ·rfl
   have g1:=jcQ f .neg (o+1) (by omega) (by simp only[rank];omega) (i+1);split
   ·rename_i he;rw[he]at g1;simp at g1
   ·rfl
   ·rfl
  split
  ·split
   ·rfl
   have g1:=jcQ f .cond (o+1) (by omega) (by simp only[rank];omega) (i+1);split
   ·rename_i he;rw[he]at g1;simp at g1
   ·rfl
   split<;>rfl
  ·exact jcQ f .compare o ho (by simp only[rank];omega) i
 | f+1,.compare,o,ho,hf,i=>by
  simp only[rank]at hf;unfold go;have g1:=jcQ f .expr o ho (by simp only[rank];omega) i;split
  ·rename_i he;rw[he]at g1;simp at g1
  ·rfl
  rename_i a j h1;have g2:=jcQ f .expr o ho (by simp only[rank];omega) (j+1);split
  ·rfl
  split
  ·split
   ·rfl
   split
   ·rename_i he;rw[he]at g2;simp at g2
   ·rfl
   ·rfl
  ·split
   ·rename_i he;rw[he]at g2;simp at g2
   ·rfl
   ·rfl
end
structure Qry where
 kind:Int
 expr:List Nd
 lo:Int
 hi:Int
 p:Int
 q:Int
 column:List UInt8
 bound:Int
 ranges:List (Int × Int)
 strategy:Int
 consistent:Bool
 table:List UInt8
 keep:Int
 other:List UInt8
 left:List UInt8
 right:List UInt8
 limit:Int
 wher:List Nd
 factor:List UInt8
 bits:Int
def Qry.zero:Qry:=⟨0,[],0,0,0,0,[],0,[],0,false,[],0,[],[],[],0,[],[],0⟩
def andThen {α β:Type}(x:R α)(f:α->Nat->R β):R β:=match x with
 | .ok (a,j)=>f a j
 | .error e=>.error e
section
variable (ts:List Tk)(en:Int)(itoa:Int->List UInt8)(mk:Int->Int->List UInt8)
def deep:Nat:=260
def jhV(sy:Sy)(i:Nat):R (List Nd):=(go ts en deep sy 0 i).getD (.error (0,0))
def jcd(sy:Sy)(i:Nat):R (List Nd):=andThen (jhV ts en sy i) λout j=>if 200<out.length then .error (4,atP ts en i)else .ok (out,j)
def jdF:List UInt8:=[98,101,116,119,101,101,110]
def wAnd:List UInt8:=[97,110,100]
def jcD(k:Int)(q:Qry)(i:Nat):R Qry :=
 andThen (jcd ts en .expr i) λe j=>andThen (must ts en jdF j) λ_ j=>andThen (intP ts en j) λlo j=>andThen (must ts en wAnd j) λ_ j=>andThen (intP ts en j) λhi j=>.ok ({ q with kind:=k,expr:=e,lo:=lo,hi:=hi },j)
def jcE(k:Int)(q:Qry)(i:Nat):R Qry:=andThen (jeA ts en i) λc j=>.ok ({ q with kind:=k,column:=c },j)
def jfK:Nat->List (Int × Int)->Nat->R (List (Int × Int))
 |0,_,_=>.error (0,0)
 | m+1,out,i =>
  if 64<=out.length then .error (4,atP ts en i)else
  andThen (intP ts en i) λlo j=>andThen (must ts en [46,46] j) λ_ j=>andThen (intP ts en j) λhi j =>
   if sees ts [44] j then jfK m (out++[(lo,hi)]) (j+1)else .ok (out++[(lo,hi)],j)
def js7:List UInt8:=[117,115,105,110,103]
def jfl:List UInt8:=[105,100,101,110,116,105,116,121]
def jkd:List UInt8:=[112,114,101,102,105,120]
def juD:List UInt8:=[116,114,101,101]
def jc7(i:Nat):R Int:=if sees ts jfl i then .ok (0,i+1)else if sees ts jkd i then .ok (1,i+1)else if sees ts juD i then .ok (2,i+1)else syn ts en i
def jqs(q:Qry)(i:Nat):R Qry :=
 andThen (jcE ts en 10 q i) λq j=>andThen (jfK ts en 65 [] j) λrs j=>andThen (must ts en js7 j) λ_ j=>andThen (jc7 ts en j) λs j=>.ok ({ q with ranges:=rs,strategy:=s },j)
def wBy:List UInt8:=[98,121]
def wOf:List UInt8:=[111,102]
def jqt(q:Qry)(i:Nat):R Qry:=andThen (jcD ts en 4 q i) λq j=>andThen (must ts en wBy j) λ_ j=>andThen (jeA ts en j) λc j=>.ok ({ q with column:=c },j)
def jhW(q:Qry)(i:Nat):R Qry:=andThen (numP ts en i) λp j=>andThen (must ts en [47] j) λ_ j=>andThen (numP ts en j) λr j=>andThen (must ts en wOf j) λ_ j=>jcD ts en 5 { q with p:=p,q:=r } j
def jqu(q:Qry)(i:Nat):R Qry:=andThen (intP ts en i) λb j=>jcE ts en 7 { q with bound:=b } j
def jdK:List (List UInt8 × Int):=[([99,111,117,110,116],1),([115,117,109],2),([104,105,115,116,111,103,114,97,109],3),([116,111,116,97,108],4),([113,117,97,110,116,105,108,101],5),([109,111,100,101],6),([97,98,111,118,101],7),([112,101,97,107],8),([114,117,110,110,105,110,103],9),([98,97,116,99,104],10)]
def keyT(i:Nat):List UInt8:=match ts[i]? with|some t=>if t.kind=2 then t.text else []|none=>[]
def jfL(k:Int)(q:Qry)(i:Nat):R Qry :=
 if k=1 then .ok ({ q with kind:=1 },i)else if k=2 then jcD ts en 2 q i else if k=3 then jcE ts en 3 q i else if k=4 then jqt ts en q i else if k=5 then jhW ts en q i
 else if k=6 then jcE ts en 6 q i else if k=7 then jqu ts en q i else if k=8 then jcE ts en 8 q i else if k=9 then jcE ts en 9 q i else jqs ts en q i
def jnz:List UInt8:=[102,114,111,109]
def juE:List UInt8:=[107,101,101,112]
def juF:List UInt8:=[106,111,105,110]
def wOn:List UInt8:=[111,110]
def js8:List UInt8:=[108,105,109,105,116]
def jgo:List UInt8:=[119,104,101,114,101]
def jmp(q:Qry)(i:Nat):R Qry:=if sees ts juE i then andThen (posP ts en (i+1)) λn j=>.ok ({ q with keep:=n },j)else .ok (q,i)
def jke(q:Qry)(i:Nat):R Qry:=if sees ts juF i then
  andThen (jeA ts en (i+1)) λo j=>andThen (must ts en wOn j) λ_ j=>andThen (jeA ts en j) λl j=>andThen (must ts en [61] j) λ_ j=>andThen (jeA ts en j) λr j=>andThen (must ts en js8 j) λ_ j=>andThen (posP ts en j) λn j=>.ok ({ q with other:=o,left:=l,right:=r,limit:=n },j)
 else .ok (q,i)
def jfX(q:Qry)(i:Nat):R Qry:=if sees ts jgo i then andThen (jcd ts en .cond (i+1)) λw j=>.ok ({ q with wher:=w },j)else .ok (q,i)
def jb5(q:Qry)(i:Nat):R Qry :=
 andThen (must ts en jnz i) λ_ j=>andThen (jeA ts en j) λt j=>andThen (jmp ts en { q with table:=t } j) λq j=>andThen (jke ts en q j) λq j=>jfX ts en q j
def jhX:List UInt8:=[119,105,116,104]
def jiE:List UInt8:=[102,97,99,116,111,114]
def jmq:List UInt8:=[98,105,116,115]
def jbK:List UInt8:=[99,111,110,115,105,115,116,101,110,116]
def jhg(i:Nat):R (List UInt8):=andThen (numP ts en i) λn j =>
 if sees ts [47] j then andThen (numP ts en (j+1)) λd k=>if d=0 then .error (6,atP ts en (j+1))else .ok (mk n d,k)else .ok (itoa n,j)
def jeK(q:Qry)(i:Nat):R Qry :=
 andThen (must ts en jhX i) λ_ j=>andThen (must ts en jiE j) λ_ j=>andThen (jhg ts en itoa mk j) λf j=>andThen (must ts en jmq j) λ_ j=>andThen (posP ts en j) λb j =>
  let c:=q.kind=3/\sees ts jbK j=true
  let j:=if c then j+1 else j
  if j<ts.length then syn ts en j else .ok ({ q with factor:=f,bits:=b,consistent:=if c then true else q.consistent },j)
def jck:Except Fl Qry :=
 match look jdK (keyT ts 0)with
 |none=>.error (11,atP ts en 0)
 |some k=>match andThen (jfL ts en k Qry.zero 1) λq j=>andThen (jb5 ts en q j) λq j=>jeK ts en itoa mk q j with
  | .ok (q,_)=>.ok q
  | .error e=>.error e
end
def ar(o:Int):Nat:=if o=1\/o=2\/o=3 then 0 else if o=7\/o=17 then 1 else if o=8 then 3 else 2
def hgt:List Nd->Nat->Option Nat
 | [],h=>some h
 |x::l,h=>if h<ar x.op then none else hgt l (h-ar x.op+1)
def St(l:List Nd):Prop:=l=l
section
variable {ts:List Tk}{en:Int}
def Sts(f:Nat->Option (R (List Nd))):Prop:=∀i out j,f i=some (.ok (out,j))->St out
theorem juG {l:Lvl}{s:List UInt8}{o:Int}(h:look l s=some o):o∈l.map (·.2):=by
 unfold look at h;rw[Ko]at h;obtain⟨p,hp,ho⟩:=h;exact Xc.2 ⟨p,List.mem_of_find?_eq_some hp,ho⟩
theorem jzW(f:Nat)(sy:Sy)(o:Nat):Sts (go ts en f sy o):=λ_ _ _ _=>rfl
end
def Bad(en:Int)(e:Fl):Prop:=e.1 ≠ 0/\0<=e.2/\e.2<=en
def Rs {α:Type}(en:Int)(P:α->Prop):R α->Prop
 | .ok (a,_)=>P a
 | .error e=>Bad en e
theorem Rs.mono {α:Type}{en:Int}{P Q:α->Prop}{x:R α}(h:Rs en P x)(hq:∀a,P a->Q a):Rs en Q x:=by
 match x,h with
 | .ok (a,_),h=>exact hq _ h
 | .error e,h=>exact h
theorem Rs.andThen {α β:Type}{en:Int}{P:α->Prop}{Q:β->Prop}{x:R α}{f:α->Nat->R β}(h:Rs en P x)(hf:∀a j,P a->Rs en Q (f a j)):Rs en Q (PP.andThen x f):=by
 match x,h with
 | .ok (a,j),h=>exact hf a j h
 | .error e,h=>exact h
section
variable {ts:List Tk}{en:Int}
structure TsOK (ts:List Tk) (en:Int):Prop where
 en0:0<=en
 pos:∀t∈ts,0<=t.pos/\t.pos<=en
 name:∀t∈ts,t.kind=1->t.text ≠ []
 num:∀t∈ts,t.kind=3->0<=t.n
theorem jyj(hT:TsOK ts en)(i:Nat):0<=atP ts en i/\atP ts en i<=en:=by
 unfold atP;split
 ·rename_i t ht;exact hT.pos t (J5 ht)
 ·exact⟨hT.en0,Int.le_refl _⟩
theorem jeW(hT:TsOK ts en){c:Int}(hc:c ≠ 0)(i:Nat):Bad en (c,atP ts en i):=⟨hc,jyj hT i⟩
theorem jnA(hT:TsOK ts en){α:Type}{P:α->Prop}(i:Nat):Rs en P (syn ts en i):=jeW hT (by decide) i
theorem jdh(hT:TsOK ts en)(s:List UInt8)(i:Nat):Rs en (λ_=>True) (must ts en s i):=by
 unfold must;split
 ·trivial
 ·exact jnA hT i
theorem js9(hT:TsOK ts en)(k:Int)(i:Nat):Rs en (λt=>t∈ts/\t.kind=k) (jfJ ts en k i):=by
 unfold jfJ;split
 ·rename_i t ht;split
  ·rename_i hk;exact⟨J5 ht,hk⟩
  ·exact jnA hT i
 ·exact jnA hT i
theorem jiF(hT:TsOK ts en)(i:Nat):Rs en (λs=>s ≠ []) (jeA ts en i):=by
 unfold jeA;have h:=js9 hT 1 i;split
 ·rename_i t j he;rw[he]at h;exact hT.name t h.1 h.2
 ·rename_i e he;rw[he]at h;exact h
theorem jkf(hT:TsOK ts en)(i:Nat):Rs en (λn=>0<=n) (numP ts en i):=by
 unfold numP;have h:=js9 hT 3 i;split
 ·rename_i t j he;rw[he]at h;exact hT.num t h.1 h.2
 ·rename_i e he;rw[he]at h;exact h
theorem jnB(hT:TsOK ts en)(i:Nat):Rs en (λ_=>True) (intP ts en i):=by
 unfold intP;have h1:=jkf hT (i+1);split
 ·split
  ·trivial
  ·rename_i e he;rw[he]at h1;exact h1
 ·exact(jkf hT i).mono λ_ _=>trivial
theorem jta(hT:TsOK ts en)(i:Nat):Rs en (λn=>0<n) (posP ts en i):=by
 unfold posP;have h:=jkf hT i;split
 ·rename_i n j he;rw[he]at h;split
  ·exact jeW hT (by decide) i
  ·have:0<=n:=h;show 0<n;omega
 ·rename_i e he;rw[he]at h;exact h
def Ro {α:Type}(en:Int)(x:Option (R α)):Prop:=∀e,x=some (.error e)->Bad en e
theorem jju(hT:TsOK ts en){s:List UInt8}{i:Nat}{e:Fl}(h:must ts en s i=.error e):Bad en e:=by
 have:=jdh hT s i;rw[h]at this;exact this
theorem jqv {sub:Nat->Option (R (List Nd))}(hs:∀i,Ro en (sub i))(lv:Lvl):∀m out i,Ro en (jd7 ts sub lv m out i)
 |0,out,i,e,h=>by simp[jd7]at h
 | m+1,out,i,e,h=>by
  unfold jd7 at h;split at h
  ·simp at h
  ·split at h
   ·simp at h
   ·rename_i e1 he;simp only[Kg,Except.error.injEq]at h;rw[<- h];exact hs _ _ he
   ·exact jqv hs lv m _ _ e h
theorem jkg {op:Nat->Option (R (List Nd))}(ho:∀i,Ro en (op i)):∀ls i,Ro en (jcK ts op ls i)
 | [],i,e,h=>ho i e h
 | lv::ls,i,e,h=>by
  unfold jcK at h;have ih:=jkg ho ls;split at h
  ·simp at h
  ·rename_i e1 he;simp only[Kg,Except.error.injEq]at h;rw[<- h];exact ih _ _ he
  ·exact jqv ih lv _ _ _ e h
theorem jhY(hT:TsOK ts en):∀f sy o i,Ro en (go ts en f sy o i)
 |0,sy,o,i,e,h=>by simp[go]at h
 | f+1,.expr,o,i,e,h=>by
  unfold go at h;split at h
  ·split at h
   ·simp only[long,Kg,Except.error.injEq]at h;rw[<- h];exact jeW hT (by decide) i
   split at h
   ·simp at h
   ·rename_i e1 he;simp only[Kg,Except.error.injEq]at h;rw[<- h];exact jhY hT f _ _ _ _ he
   split at h
   ·rename_i e1 he;simp only[Kg,Except.error.injEq]at h;rw[<- h];exact jju hT he
   split at h
   ·simp at h
   ·rename_i e1 he;simp only[Kg,Except.error.injEq]at h;rw[<- h];exact jhY hT f _ _ _ _ he
   split at h
   ·rename_i e1 he;simp only[Kg,Except.error.injEq]at h;rw[<- h];exact jju hT he
   split at h
   ·simp at h
   ·rename_i e1 he;simp only[Kg,Except.error.injEq]at h;rw[<- h];exact jhY hT f _ _ _ _ he
   ·simp at h
  ·exact jkg (jhY hT f .unary o) _ _ _ h
 | f+1,.unary,o,i,e,h=>by
  unfold go at h;split at h
  ·split at h
   ·simp only[long,Kg,Except.error.injEq]at h;rw[<- h];exact jeW hT (by decide) i
   split at h
   ·simp at h
   ·rename_i e1 he;simp only[Kg,Except.error.injEq]at h;rw[<- h];exact jhY hT f _ _ _ _ he
   ·simp at h
  split at h
  ·split at h
   ·simp only[long,Kg,Except.error.injEq]at h;rw[<- h];exact jeW hT (by decide) i
   split at h
   ·simp at h
   ·rename_i e1 he;simp only[Kg,Except.error.injEq]at h;rw[<- h];exact jhY hT f _ _ _ _ he
   split at h
   ·rename_i e1 he;simp only[Kg,Except.error.injEq]at h;rw[<- h];exact jju hT he
   ·simp at h
  split at h
  ·split at h
   ·simp at h
   split at h
   ·simp at h
   ·simp only[syn,Kg,Except.error.injEq]at h;rw[<- h];exact jeW hT (by decide) i
  ·simp only[syn,Kg,Except.error.injEq]at h;rw[<- h];exact jeW hT (by decide) i
 |f+1,.cond,o,i,e,h=>by
  unfold go at h;exact jkg (jhY hT f .neg o) _ _ _ h
 | f+1,.neg,o,i,e,h=>by
  unfold go at h;split at h
  ·split at h
   ·simp only[long,Kg,Except.error.injEq]at h;rw[<- h];exact jeW hT (by decide) i
   split at h
   ·simp at h
   ·rename_i e1 he;simp only[Kg,Except.error.injEq]at h;rw[<- h];exact jhY hT f _ _ _ _ he
   ·simp at h
  split at h
  ·split at h
   ·simp only[long,Kg,Except.error.injEq]at h;rw[<- h];exact jeW hT (by decide) i
   split at h
   ·simp at h
   ·rename_i e1 he;simp only[Kg,Except.error.injEq]at h;rw[<- h];exact jhY hT f _ _ _ _ he
   split at h
   ·rename_i e1 he;simp only[Kg,Except.error.injEq]at h;rw[<- h];exact jju hT he
   ·simp at h
  ·exact jhY hT f .compare o _ _ h
 | f+1,.compare,o,i,e,h=>by
  unfold go at h;split at h
  ·simp at h
  ·rename_i e1 he;simp only[Kg,Except.error.injEq]at h;rw[<- h];exact jhY hT f _ _ _ _ he
  rename_i a j1 h1;split at h
  ·simp only[syn,Kg,Except.error.injEq]at h;rw[<- h];exact jeW hT (by decide) j1
  split at h
  ·split at h
   ·simp at h
   split at h
   ·simp at h
   ·rename_i e1 he;simp only[Kg,Except.error.injEq]at h;rw[<- h];exact jhY hT f _ _ _ _ he
   ·simp at h
  ·split at h
   ·simp at h
   ·rename_i e1 he;simp only[Kg,Except.error.injEq]at h;rw[<- h];exact jhY hT f _ _ _ _ he
   ·simp at h
theorem jwW(hT:TsOK ts en)(sy:Sy)(i:Nat):Rs en St (jhV ts en sy i):=by
 unfold jhV;have h:=jcQ (ts:=ts) (en:=en) deep sy 0 (by omega) (by cases sy<;>simp[deep,rank]) i
 match he:go ts en deep sy 0 i with
 |none=>rw[he]at h;simp at h
 |some (.error e)=>exact jhY hT _ _ _ _ _ he
 |some (.ok (a,j))=>exact jzW _ _ _ _ _ _ he
def StL(l:List Nd):Prop:=St l/\l.length<=200
theorem jlA(hT:TsOK ts en)(sy:Sy)(i:Nat):Rs en StL (jcd ts en sy i):=by
 unfold jcd;refine(jwW hT sy i).andThen λa j ha => ?_
 split
 ·exact jeW hT (by decide) i
 ·exact⟨ha,by omega⟩
def Kq(q:Qry):Prop:=((q.kind=2\/q.kind=4\/q.kind=5)/\StL q.expr\/¬(q.kind=2\/q.kind=4\/q.kind=5)/\q.expr=[])/\(1<=q.kind/\q.kind<=10)/\q.wher=[]/\q.ranges.length<=64
theorem jkh(hT:TsOK ts en){k:Int}(hk:k=2\/k=4\/k=5){q:Qry}(hq:q.wher=[])(hr:q.ranges.length<=64)(i:Nat):Rs en (λr=>Kq r/\r.kind=k) (jcD ts en k q i):=by
 unfold jcD;refine(jlA hT .expr i).andThen λe j he => ?_
 refine(jdh hT _ j).andThen λ_ j _ => ?_
 refine(jnB hT j).andThen λlo j _ => ?_
 refine(jdh hT _ j).andThen λ_ j _ => ?_
 refine(jnB hT j).andThen λhi j _ => ?_
 exact⟨⟨.inl ⟨hk,he⟩,by show 1<=k/\k<=10;omega,hq,hr⟩,rfl⟩
theorem jfm(hT:TsOK ts en){k:Int}(hk:¬(k=2\/k=4\/k=5))(hk2:1<=k/\k<=10){q:Qry}(hq:q.wher=[])(he:q.expr=[])(hr:q.ranges.length<=64)(i:Nat):Rs en Kq (jcE ts en k q i):=by
 unfold jcE;refine(jiF hT i).andThen λc j _ => ?_
 exact⟨.inr ⟨hk,he⟩,hk2,hq,hr⟩
theorem jnC(hT:TsOK ts en):∀m out i,m+out.length=65->out.length<=64->Rs en (λrs=>rs.length<=64) (jfK ts en m out i)
 |0,out,i,hm,hl=>by omega
 | m+1,out,i,hm,hl=>by
  unfold jfK;split
  ·exact jeW hT (by decide) i
  refine(jnB hT i).andThen λlo j _ => ?_
  refine(jdh hT _ j).andThen λ_ j _ => ?_
  refine(jnB hT j).andThen λhi j _ => ?_
  split
  ·exact jnC hT m _ _ (by simp only[Kr,K0,K6];omega) (by simp only[Kr,K0,K6];omega)
  ·show(out++[(lo,hi)]).length<=64;simp only[Kr,K0,K6];omega
theorem jo7(hT:TsOK ts en)(i:Nat):Rs en (λ_=>True) (jc7 ts en i):=by
 unfold jc7;split
 ·trivial
 split
 ·trivial
 split
 ·trivial
 ·exact jnA hT i
theorem juH(hT:TsOK ts en){k:Int}(hk:1<=k/\k<=10)(i:Nat):Rs en Kq (jfL ts en k Qry.zero i):=by
 unfold jfL;split
 ·exact⟨.inr ⟨by show ¬((1:Int)=2\/(1:Int)=4\/(1:Int)=5);decide,rfl⟩,by show(1:Int)<=1/\(1:Int)<=10;decide,rfl,Qk _⟩
 split
 ·exact(jkh hT (by decide) rfl (Qk _) i).mono λ_ h=>h.1
 split
 ·exact jfm hT (by decide) (by decide) rfl rfl (Qk _) i
 split
 ·unfold jqt;refine(jkh hT (by decide) rfl (Qk _) i).andThen λq j hq => ?_
  refine(jdh hT _ j).andThen λ_ j _ => ?_
  exact(jiF hT j).andThen λc j _=>hq.1
 split
 ·unfold jhW;refine(jkf hT i).andThen λp j _ => ?_
  refine(jdh hT _ j).andThen λ_ j _ => ?_
  refine(jkf hT j).andThen λr j _ => ?_
  refine(jdh hT _ j).andThen λ_ j _ => ?_
  exact(jkh hT (by decide) rfl (Qk _) j).mono λ_ h=>h.1
 split
 ·exact jfm hT (by decide) (by decide) rfl rfl (Qk _) i
 split
 ·unfold jqu;refine(jnB hT i).andThen λb j _ => ?_
  exact jfm hT (by decide) (by decide) rfl rfl (Qk _) j
 split
 ·exact jfm hT (by decide) (by decide) rfl rfl (Qk _) i
 split
 ·exact jfm hT (by decide) (by decide) rfl rfl (Qk _) i
 ·unfold jqs;refine(jfm hT (k:=10) (by decide) (by decide) rfl rfl (Qk _) i).andThen λq j hq => ?_
  refine(jnC hT 65 [] j rfl (by simp)).andThen λrs j hrs => ?_
  refine(jdh hT _ j).andThen λ_ j _ => ?_
  exact(jo7 hT j).andThen λs j _=>⟨hq.1,hq.2.1,hq.2.2.1,hrs⟩
def Sq(q:Qry):Prop:=((q.kind=2\/q.kind=4\/q.kind=5)/\StL q.expr\/¬(q.kind=2\/q.kind=4\/q.kind=5)/\q.expr=[])/\(1<=q.kind/\q.kind<=10)/\(q.wher=[]\/StL q.wher)/\q.table ≠ []/\q.ranges.length<=64
theorem jtb(hT:TsOK ts en){q:Qry}(hq:Kq q)(i:Nat):Rs en Sq (jb5 ts en q i):=by
 unfold jb5;refine(jdh hT _ i).andThen λ_ j _ => ?_
 refine(jiF hT j).andThen λt j ht => ?_
 refine Rs.andThen (P:=λr=>Kq r/\r.table ≠ []) ?_ λr j hr => ?_
 ·unfold jmp;split
  ·exact(jta hT _).andThen λn j _=>⟨hq,ht⟩
  ·exact⟨hq,ht⟩
 refine Rs.andThen (P:=λr=>Kq r/\r.table ≠ []) ?_ λr j hr => ?_
 ·unfold jke;split
  ·refine(jiF hT _).andThen λ_ j _ => ?_
   refine(jdh hT _ j).andThen λ_ j _ => ?_
   refine(jiF hT j).andThen λ_ j _ => ?_
   refine(jdh hT _ j).andThen λ_ j _ => ?_
   refine(jiF hT j).andThen λ_ j _ => ?_
   refine(jdh hT _ j).andThen λ_ j _ => ?_
   exact(jta hT j).andThen λ_ j _=>hr
  ·exact hr
 unfold jfX;split
 ·exact(jlA hT .cond _).andThen λw j hw=>⟨hr.1.1,hr.1.2.1,.inr hw,hr.2,hr.1.2.2.2⟩
 ·exact⟨hr.1.1,hr.1.2.1,.inl hr.1.2.2.1,hr.2,hr.1.2.2.2⟩
theorem jwX(hT:TsOK ts en)(itoa:Int->List UInt8)(mk:Int->Int->List UInt8){q:Qry}(hq:Sq q)(i:Nat):Rs en (λr=>Sq r/\0<r.bits) (jeK ts en itoa mk q i):=by
 unfold jeK;refine(jdh hT _ i).andThen λ_ j _ => ?_
 refine(jdh hT _ j).andThen λ_ j _ => ?_
 refine Rs.andThen (P:=λ_=>True) ?_ λf j _ => ?_
 ·unfold jhg;refine(jkf hT j).andThen λn j _ => ?_
  split
  ·refine(jkf hT _).andThen λd k _ => ?_
   split
   ·exact jeW hT (by decide) _
   ·trivial
  ·trivial
 refine(jdh hT _ j).andThen λ_ j _ => ?_
 refine(jta hT j).andThen λb j hb => ?_
 extract_lets c j1
 split
 ·exact jnA hT _
 ·exact⟨hq,hb⟩
theorem jnD {s:List UInt8}{k:Int}(h:look jdK s=some k):1<=k/\k<=10:=by
 have:=juG h;simp only[jdK,Jf,List.map_nil,Qv,Jj,or_false]at this;omega
theorem juI(hT:TsOK ts en)(itoa:Int->List UInt8)(mk:Int->Int->List UInt8):match jck ts en itoa mk with
  | .ok q=>Sq q/\0<q.bits
  | .error e=>Bad en e:=by
 unfold jck;cases hk:look jdK (keyT ts 0)with
 |none=>exact jeW hT (by decide) 0
 | some k =>
  dsimp only
  have h:Rs en (λr=>Sq r/\0<r.bits) (PP.andThen (jfL ts en k Qry.zero 1) λq j=>PP.andThen (jb5 ts en q j) λq j=>jeK ts en itoa mk q j) :=
   (juH hT (jnD hk) 1).andThen λq j hq=>(jtb hT hq j).andThen λq j hq=>jwX hT itoa mk hq j
  generalize (PP.andThen (jfL ts en k Qry.zero 1) λq j=>PP.andThen (jb5 ts en q j) λq j=>jeK ts en itoa mk q j)=r at h
  match r,h with
  | .ok (q,j),h=>exact h
  | .error e,h=>exact h
end
def jcy(t:Tk):Int × List UInt8 × Int:=(t.kind,t.text,t.n)
def Eqv(ts us:List Tk):Prop:=ts.map jcy=us.map jcy
def Rq {α:Type}:R α->R α->Prop
 | .ok a,.ok b=>a=b
 | .error _,.error _=>True
 |_,_=>False
def Ro2 {α:Type}:Option (R α)->Option (R α)->Prop
 |some x,some y=>Rq x y
 |none,none=>True
 |_,_=>False
theorem Ro2.cases {α:Type}{x y:Option (R α)}(h:Ro2 x y):(x=none/\y=none)\/(∃e e',x=some (.error e)/\y=some (.error e'))\/∃r j,x=some (.ok (r,j))/\y=some (.ok (r,j)):=by
 match x,y,h with
 |none,none,_=>exact .inl ⟨rfl,rfl⟩
 |some (.error e),some (.error e'),_=>exact .inr (.inl ⟨e,e',rfl,rfl⟩)
 |some (.ok (r,j)),some (.ok b),h =>
  have h:(r,j)=b:=h;exact .inr (.inr ⟨r,j,rfl,by rw[<- h]⟩)
theorem Rq.cases {α:Type}{x y:R α}(h:Rq x y):(∃e e',x=.error e/\y=.error e')\/∃r j,x=.ok (r,j)/\y=.ok (r,j):=by
 match x,y,h with
 | .error e,.error e',_=>exact .inl ⟨e,e',rfl,rfl⟩
 | .ok (r,j),.ok b,h =>
  have h:(r,j)=b:=h;exact .inr ⟨r,j,rfl,by rw[<- h]⟩
theorem Rq.refl {α:Type}(x:R α):Rq x x:=by
 match x with
 | .ok a=>exact(rfl:a=a)
 | .error e=>trivial
theorem Ro2.refl {α:Type}(x:Option (R α)):Ro2 x x:=by
 match x with
 |some x=>exact Rq.refl x
 |none=>trivial
theorem Rq.andThen {α β:Type}{x y:R α}{f g:α->Nat->R β}(h:Rq x y)(hf:∀a j,Rq (f a j) (g a j)):Rq (PP.andThen x f) (PP.andThen y g):=by
 rcases h.cases with⟨e,e',rfl,rfl⟩|⟨r,j,rfl,rfl⟩
 ·trivial
 ·exact hf r j
section
variable {ts us:List Tk}{en en':Int}(hE:Eqv ts us)
include hE
end
def Loc {α:Type}(out:α)(j:Nat)(x:Option (R α)):Prop:=x=some (.ok (out,j))\/∃p,x=some (.error (4,p))
section
variable (ts us:List Tk)(d:Nat)
def Agr(i:Nat):Prop:=(ts[i]?).map jcy=(us[i+d]?).map jcy
def Stop(k:Nat):Prop:=(∀lv∈sumL,look lv (txt us k)=none)/\∀lv∈jeB,look lv (txt us k)=none
end
section
variable {ts us:List Tk}{d:Nat}
theorem Agr.cases {i:Nat}(h:Agr ts us d i):(ts[i]? = none/\us[i+d]? = none)\/∃t u,ts[i]? = some t/\us[i+d]? = some u/\t.kind=u.kind/\t.text=u.text/\t.n=u.n:=by
 unfold Agr at h;cases h1:ts[i]? with
 |none =>
  cases h2:us[i+d]? with
  |none=>exact .inl ⟨rfl,rfl⟩
  |some u=>rw[h1,h2]at h;simp at h
 | some t =>
  cases h2:us[i+d]? with
  |none=>rw[h1,h2]at h;simp at h
  |some u =>
   rw[h1,h2]at h;simp only[Kx,jcy,Kg,Kh]at h;exact .inr ⟨t,u,rfl,rfl,h⟩
theorem Agr.sees {i:Nat}(h:Agr ts us d i)(s:List UInt8):sees us s (i+d)=sees ts s i:=by
 unfold PP.sees
 rcases h.cases with⟨h1,h2⟩|⟨t,u,h1,h2,a,b,c⟩
 ·rw[h1,h2]
 ·rw[h1,h2];simp only[a,b]
theorem Agr.txt {i:Nat}(h:Agr ts us d i):txt us (i+d)=txt ts i:=by
 unfold PP.txt
 rcases h.cases with⟨h1,h2⟩|⟨t,u,h1,h2,a,b,c⟩
 ·rw[h1,h2]
 ·rw[h1,h2];simp only[a,b]
theorem Agr.sgn {i:Nat}(h:Agr ts us d i):sgn us (i+d)=sgn ts i:=by
 unfold PP.sgn
 rcases h.cases with⟨h1,h2⟩|⟨t,u,h1,h2,a,b,c⟩
 ·rw[h1,h2]
 ·rw[h1,h2];simp only[a,b]
theorem Agr.isK {i:Nat}(h:Agr ts us d i)(k:Int):isK us k (i+d)=isK ts k i:=by
 unfold PP.isK
 rcases h.cases with⟨h1,h2⟩|⟨t,u,h1,h2,a,b,c⟩
 ·rw[h1,h2]
 ·rw[h1,h2];simp only[a]
variable (ts us d)
def Sub(sub sub':Nat->Option (R (List Nd))):Prop:=∀i out j,sub i=some (.ok (out,j))->(∀k,i<=k->k<j->Agr ts us d k)->Agr ts us d j\/Stop us (j+d)->Loc out (j+d) (sub' (i+d))
variable {ts us d}
theorem jnE {sub sub':Nat->Option (R (List Nd))}(ha:Adv ts sub)(hs:Sub ts us d sub sub'){lv:Lvl}(hst:∀k,Stop us k->look lv (txt us k)=none):∀m m' out i r j,jd7 ts sub lv m out i=some (.ok (r,j))->(∀k,i<=k->k<j->Agr ts us d k)->Agr ts us d j\/Stop us (j+d)->us.length<m'+(i+d)\/us.length<i+d->0<m' ->
  (∀k,us.length<=k->look lv (txt us k)=none)->Loc r (j+d) (jd7 us sub' lv m' out (i+d))
 |0,m',out,i,r,j,h,_,_,_,_,_=>by simp[jd7]at h
 |m+1,0,out,i,r,j,h,_,_,_,h0,_=>by omega
 | m+1,m'+1,out,i,r,j,h,hA,hE,hm,h0,hz=>by
  unfold jd7 at h;unfold jd7;split at h
  ·rename_i hl;simp only[Kg,Except.ok.injEq,Kh]at h;obtain⟨rfl,rfl⟩:=h
   have:look lv (txt us (i+d))=none:=by
    rcases hE with hE|hE
    ·rw[hE.txt];exact hl
    ·exact hst _ hE
   rw[this];exact .inl rfl
  ·rename_i op hl;split at h
   ·simp at h
   ·simp at h
   ·rename_i r1 j1 he;have h1:=ha _ _ _ he;have h2:=jhU ha lv m _ _ _ _ h;have hi:=hA i (Kw _) (by omega);rw[hi.txt,hl]
    have hlt:i+d<us.length:=by
     rcases K4 (i+d) us.length with h3|h3
     ·exact h3
     ·have:=hz _ h3;rw[hi.txt,hl]at this;cases this
    have hsub:=hs _ _ _ he (λk h3 h4=>hA k (by omega) (by omega)) (by
     rcases K4 j1 j with h3|h3
     ·exact .inl (hA j1 (by omega) h3)
     ·have:j1=j:=by omega
      rw[this];exact hE)
    rw[show i+1+d=i+d+1 by omega]at hsub
    rcases hsub with hsub|⟨p,hsub⟩
    ·rw[hsub];exact jnE ha hs hst m m' _ _ _ _ h (λk h3 h4=>hA k (by omega) (by omega)) hE (by omega) (by omega) hz
    ·rw[hsub];exact .inr ⟨p,rfl⟩
theorem jiG {op op':Nat->Option (R (List Nd))}(ha:Adv ts op)(ho:Sub ts us d op op'):∀ls:List Lvl,(∀lv∈ls,look lv []=none)->(∀lv∈ls,∀k,Stop us k->look lv (txt us k)=none)->Sub ts us d (jcK ts op ls) (jcK us op' ls)
 | [],_,_,i,out,j,h,hA,hE=>ho i out j h hA hE
 | lv::ls,hn,hst,i,out,j,h,hA,hE=>by
  unfold jcK at h;unfold jcK;have ih:=jiG ha ho ls (λl hl=>hn l (by simp[hl])) (λl hl=>hst l (by simp[hl]));split at h
  ·simp at h
  ·simp at h
  ·rename_i r1 j1 he;have h1:=jds ha ls _ _ _ he;have h2:=jhU (jds ha ls) lv _ _ _ _ _ h
   have hsub:=ih _ _ _ he (λk h3 h4=>hA k (by omega) (by omega)) (by
     rcases K4 j1 j with h3|h3
     ·exact .inl (hA j1 (by omega) h3)
     ·have:j1=j:=by omega
      rw[this];exact hE)
   rcases hsub with hsub|⟨p,hsub⟩
   ·rw[hsub]
    exact jnE (jds ha ls) ih (hst lv (by simp)) _ _ _ _ _ _ h (λk h3 h4=>hA k (by omega) (by omega)) hE (by omega) (by omega) (λk hk=>by
     have:txt us k=[]:=by unfold txt;rw[Qf hk]
     rw[this];exact hn lv (by simp))
   ·rw[hsub];exact .inr ⟨p,rfl⟩
theorem jjv {en en':Int}{s:List UInt8}{i j:Nat}{u:Unit}(h:must ts en s i=.ok (u,j))(hA:Agr ts us d i):must us en' s (i+d)=.ok ((),j+d):=by
 obtain⟨rfl,hs⟩:=jco h;unfold must;rw[hA.sees,hs,Ki rfl,show i+d+1=i+1+d by omega]
theorem jec {en en':Int}:∀f sy o f' o',o'<=50->5*(50-o')+rank sy<=f'->Sub ts us d (go ts en f sy o) (go us en' f' sy o')
 |0,sy,o,f',o',ho,hf,i,out,j,h,hA,hE=>by simp[go]at h
 |f+1,sy,o,0,o',ho,hf,i,out,j,h,hA,hE=>by cases sy<;>simp[rank]at hf
 | f+1,.expr,o,f'+1,o',ho,hf,i,out,j,h,hA,hE=>by
  have hij:=(jb7 _ _ _ _ _ _ h).1;have hi:=hA i (Kw _) hij;simp only[rank]at hf;unfold go at h;unfold go;rw[hi.sees];split at h
  ·rename_i hs;rw[Ki hs];by_cases ho2:50<=o'
   ·rw[Ki ho2];exact .inr ⟨_,rfl⟩
   rw[Kj ho2];split at h
   ·simp[long]at h
   split at h
   ·simp at h
   ·simp at h
   rename_i c j1 h1;have a1:=jb7 _ _ _ _ _ _ h1;split at h
   ·simp at h
   rename_i j2 h2;have a2:=jco h2;split at h
   ·simp at h
   ·simp at h
   rename_i a j3 h3;have a3:=jb7 _ _ _ _ _ _ h3;split at h
   ·simp at h
   rename_i j4 h4;have a4:=jco h4;split at h
   ·simp at h
   ·simp at h
   rename_i b j5 h5;have a5:=jb7 _ _ _ _ _ _ h5;simp only[Kg,Except.ok.injEq,Kh]at h;obtain⟨rfl,rfl⟩:=h;have g1:=jec (en':=en') f .cond (o+1) f' (o'+1) (by omega) (by simp only[rank];omega) _ _ _ h1 (λk _ _=>hA k (by omega) (by omega)) (.inl (hA _ (by omega) (by omega)));rw[show i+1+d=i+d+1 by omega]at g1
   rcases g1 with g1|⟨p,g1⟩
   ·rw[g1];dsimp only;rw[jjv h2 (hA _ (by omega) (by omega))];dsimp only
    rcases jec f .expr (o+1) f' (o'+1) (by omega) (by simp only[rank];omega) _ _ _ h3 (λk _ _=>hA k (by omega) (by omega)) (.inl (hA _ (by omega) (by omega)))with g1|⟨p,g1⟩
    ·rw[g1];dsimp only;rw[jjv h4 (hA _ (by omega) (by omega))];dsimp only
     rcases jec f .expr (o+1) f' (o'+1) (by omega) (by simp only[rank];omega) _ _ _ h5 (λk _ _=>hA k (by omega) (by omega)) hE with g1|⟨p,g1⟩
     ·rw[g1];exact .inl rfl
     ·rw[g1];exact .inr ⟨p,rfl⟩
    ·rw[g1];exact .inr ⟨p,rfl⟩
   ·rw[g1];exact .inr ⟨p,rfl⟩
  ·rename_i hs;rw[Kj hs];exact jiG (jb7 f .unary o) (jec f .unary o f' o' ho (by simp only[rank];omega)) _ jo6 (λlv hl k hk=>hk.1 lv hl) _ _ _ h hA hE
 | f+1,.unary,o,f'+1,o',ho,hf,i,out,j,h,hA,hE=>by
  have hij:=(jb7 _ _ _ _ _ _ h).1;have hi:=hA i (Kw _) hij;simp only[rank]at hf;unfold go at h;unfold go;rw[hi.sees,hi.sees];split at h
  ·rename_i hs;rw[Ki hs];by_cases ho2:50<=o'
   ·rw[Ki ho2];exact .inr ⟨_,rfl⟩
   rw[Kj ho2];split at h
   ·simp[long]at h
   split at h
   ·simp at h
   ·simp at h
   rename_i a j1 h1;have a1:=jb7 _ _ _ _ _ _ h1;simp only[Kg,Except.ok.injEq,Kh]at h;obtain⟨rfl,rfl⟩:=h;have g1:=jec (en':=en') f .unary (o+1) f' (o'+1) (by omega) (by simp only[rank];omega) _ _ _ h1 (λk _ _=>hA k (by omega) (by omega)) hE;rw[show i+1+d=i+d+1 by omega]at g1
   rcases g1 with g1|⟨p,g1⟩
   ·rw[g1];exact .inl rfl
   ·rw[g1];exact .inr ⟨p,rfl⟩
  rename_i hs;rw[Kj hs];split at h
  ·rename_i hs;rw[Ki hs];by_cases ho2:50<=o'
   ·rw[Ki ho2];exact .inr ⟨_,rfl⟩
   rw[Kj ho2];split at h
   ·simp[long]at h
   split at h
   ·simp at h
   ·simp at h
   rename_i a j1 h1;have a1:=jb7 _ _ _ _ _ _ h1;split at h
   ·simp at h
   rename_i j2 h2;have a2:=jco h2;simp only[Kg,Except.ok.injEq,Kh]at h;obtain⟨rfl,rfl⟩:=h;have g1:=jec (en':=en') f .expr (o+1) f' (o'+1) (by omega) (by simp only[rank];omega) _ _ _ h1 (λk _ _=>hA k (by omega) (by omega)) (.inl (hA _ (by omega) (by omega)));rw[show i+1+d=i+d+1 by omega]at g1
   rcases g1 with g1|⟨p,g1⟩
   ·rw[g1];dsimp only;rw[jjv h2 (hA _ (by omega) (by omega))];exact .inl rfl
   ·rw[g1];exact .inr ⟨p,rfl⟩
  rename_i hs;rw[Kj hs]
  rcases hi.cases with⟨h1,h2⟩|⟨t,u,h1,h2,a,b,c⟩
  ·rw[h1]at h;simp[syn]at h
  ·rw[h1]at h;rw[h2];dsimp only at h ⊢;rw[<- a,<- b,<- c];split at h
   ·rename_i hk;rw[Ki hk];simp only[Kg,Except.ok.injEq,Kh]at h;obtain⟨rfl,rfl⟩:=h;rw[show i+d+1=i+1+d by omega];exact .inl rfl
   rename_i hk;rw[Kj hk];split at h
   ·rename_i hk;rw[Ki hk];simp only[Kg,Except.ok.injEq,Kh]at h;obtain⟨rfl,rfl⟩:=h;rw[show i+d+1=i+1+d by omega];exact .inl rfl
   ·simp[syn]at h
 |f+1,.cond,o,f'+1,o',ho,hf,i,out,j,h,hA,hE=>by
  simp only[rank]at hf;unfold go at h;unfold go;exact jiG (jb7 f .neg o) (jec f .neg o f' o' ho (by simp only[rank];omega)) _ jmo (λlv hl k hk=>hk.2 lv hl) _ _ _ h hA hE
 | f+1,.neg,o,f'+1,o',ho,hf,i,out,j,h,hA,hE=>by
  have hij:=(jb7 _ _ _ _ _ _ h).1;have hi:=hA i (Kw _) hij;simp only[rank]at hf;unfold go at h;unfold go;rw[hi.sees,hi.sees];split at h
  ·rename_i hs;rw[Ki hs];by_cases ho2:50<=o'
   ·rw[Ki ho2];exact .inr ⟨_,rfl⟩
   rw[Kj ho2];split at h
   ·simp[long]at h
   split at h
   ·simp at h
   ·simp at h
   rename_i a j1 h1;have a1:=jb7 _ _ _ _ _ _ h1;simp only[Kg,Except.ok.injEq,Kh]at h;obtain⟨rfl,rfl⟩:=h;have g1:=jec (en':=en') f .neg (o+1) f' (o'+1) (by omega) (by simp only[rank];omega) _ _ _ h1 (λk _ _=>hA k (by omega) (by omega)) hE;rw[show i+1+d=i+d+1 by omega]at g1
   rcases g1 with g1|⟨p,g1⟩
   ·rw[g1];exact .inl rfl
   ·rw[g1];exact .inr ⟨p,rfl⟩
  rename_i hs;rw[Kj hs];split at h
  ·rename_i hs;rw[Ki hs];by_cases ho2:50<=o'
   ·rw[Ki ho2];exact .inr ⟨_,rfl⟩
   rw[Kj ho2];split at h
   ·simp[long]at h
   split at h
   ·simp at h
   ·simp at h
   rename_i a j1 h1;have a1:=jb7 _ _ _ _ _ _ h1;split at h
   ·simp at h
   rename_i j2 h2;have a2:=jco h2;simp only[Kg,Except.ok.injEq,Kh]at h;obtain⟨rfl,rfl⟩:=h;have g1:=jec (en':=en') f .cond (o+1) f' (o'+1) (by omega) (by simp only[rank];omega) _ _ _ h1 (λk _ _=>hA k (by omega) (by omega)) (.inl (hA _ (by omega) (by omega)));rw[show i+1+d=i+d+1 by omega]at g1
   rcases g1 with g1|⟨p,g1⟩
   ·rw[g1];dsimp only;rw[jjv h2 (hA _ (by omega) (by omega))];exact .inl rfl
   ·rw[g1];exact .inr ⟨p,rfl⟩
  rename_i hs;rw[Kj hs];exact jec f .compare o f' o' ho (by simp only[rank];omega) _ _ _ h hA hE
 | f+1,.compare,o,f'+1,o',ho,hf,i,out,j,h,hA,hE=>by
  have hij:=(jb7 _ _ _ _ _ _ h).1;have hi:=hA i (Kw _) hij;simp only[rank]at hf;unfold go at h;unfold go;split at h
  ·simp at h
  ·simp at h
  rename_i a j1 h1;have a1:=jb7 _ _ _ _ _ _ h1;split at h
  ·simp[syn]at h
  rename_i op hop
  have step:∀b k,go ts en f .expr o (j1+1)=some (.ok (b,k))->k=j->Loc b (k+d) (go us en' f' .expr o' (j1+d+1)):=by
   intro b k hb hk;have a2:=jb7 _ _ _ _ _ _ hb;have:=jec (en':=en') f .expr o f' o' ho (by simp only[rank];omega) _ _ _ hb (λk _ _=>hA k (by omega) (by omega)) (by rw[hk];exact hE);rw[show j1+1+d=j1+d+1 by omega]at this;exact this
  have hlt:j1+1<j:=by
   split at h
   ·split at h
    ·simp only[Kg,Except.ok.injEq,Kh]at h;omega
    split at h
    ·simp at h
    ·simp at h
    rename_i b k hb;have a2:=jb7 _ _ _ _ _ _ hb;simp only[Kg,Except.ok.injEq,Kh]at h;omega
   ·split at h
    ·simp at h
    ·simp at h
    rename_i b k hb;have a2:=jb7 _ _ _ _ _ _ hb;simp only[Kg,Except.ok.injEq,Kh]at h;omega
  have g1:=jec (en':=en') f .expr o f' o' ho (by simp only[rank];omega) _ _ _ h1 (λk _ _=>hA k (by omega) (by omega)) (.inl (hA _ (by omega) (by omega)))
  rcases g1 with g1|⟨p,g1⟩
  ·rw[g1];dsimp only;rw[(hA j1 (by omega) (by omega)).sgn,hop];dsimp only;have hw:=hA (j1+1) (by omega) hlt;rw[show j1+d+1=j1+1+d by omega]at step ⊢
   rcases hw.cases with⟨h3,h4⟩|⟨t,u,h3,h4,a,b,c⟩
   ·rw[h3]at h;rw[h4];dsimp only at h ⊢;split at h
    ·simp at h
    ·simp at h
    rename_i b k hb;simp only[Kg,Except.ok.injEq,Kh]at h;obtain⟨rfl,rfl⟩:=h
    rcases step _ _ hb rfl with g2|⟨p,g2⟩
    ·rw[g2];exact .inl rfl
    ·rw[g2];exact .inr ⟨p,rfl⟩
   ·rw[h3]at h;rw[h4];dsimp only at h ⊢;rw[<- a,<- b,hi.isK];have e1:(j1+d=i+d+1)=(j1=i+1):=propext ⟨λ_=>by omega,λ_=>by omega⟩;simp only[e1];split at h
    ·rename_i hk;rw[Ki hk];simp only[Kg,Except.ok.injEq,Kh]at h;obtain⟨rfl,rfl⟩:=h;rw[show j1+d+2=j1+2+d by omega];exact .inl rfl
    rename_i hk;rw[Kj hk];split at h
    ·simp at h
    ·simp at h
    rename_i b k hb;simp only[Kg,Except.ok.injEq,Kh]at h;obtain⟨rfl,rfl⟩:=h
    rcases step _ _ hb rfl with g2|⟨p,g2⟩
    ·rw[g2];exact .inl rfl
    ·rw[g2];exact .inr ⟨p,rfl⟩
  ·rw[g1];exact .inr ⟨p,rfl⟩
end
section
variable {ts:List Tk}{en:Int}
def Len(ts:List Tk)(f:Nat->Option (R (List Nd))):Prop:=∀i out j,f i=some (.ok (out,j))->i<j/\j<=ts.length/\out.length<=j-i
theorem jnF {sub:Nat->Option (R (List Nd))}(hs:Len ts sub)(lv:Lvl):∀m out i r j,jd7 ts sub lv m out i=some (.ok (r,j))->i<=j/\(j=i\/j<=ts.length)/\r.length<=out.length+(j-i)
 |0,out,i,r,j,h=>by simp[jd7]at h
 | m+1,out,i,r,j,h=>by
  unfold jd7 at h;split at h
  ·simp only[Kg,Except.ok.injEq,Kh]at h;obtain⟨rfl,rfl⟩:=h;omega
  ·split at h
   ·simp at h
   ·simp at h
   ·rename_i r1 j1 he;have h1:=hs _ _ _ he;have h2:=jnF hs lv m _ _ _ _ h;simp only[Kr,K0,K6]at h2;omega
theorem jfn {op:Nat->Option (R (List Nd))}(ho:Len ts op):∀ls,Len ts (jcK ts op ls)
 | [],i,out,j,h=>ho i out j h
 | lv::ls,i,out,j,h=>by
  unfold jcK at h;split at h
  ·simp at h
  ·simp at h
  ·rename_i r1 j1 he;have h1:=jfn ho ls _ _ _ he;have h2:=jnF (jfn ho ls) lv _ _ _ _ _ h;omega
theorem jcl:∀f sy o,Len ts (go ts en f sy o)
 |0,sy,o,i,out,j,h=>by simp[go]at h
 | f+1,.expr,o,i,out,j,h=>by
  unfold go at h;split at h
  ·split at h
   ·simp[long]at h
   split at h
   ·simp at h
   ·simp at h
   rename_i c j1 h1;have a1:=jcl f .cond (o+1) _ _ _ h1;split at h
   ·simp at h
   rename_i j2 h2;have a2:=jco h2;split at h
   ·simp at h
   ·simp at h
   rename_i a j3 h3;have a3:=jcl f .expr (o+1) _ _ _ h3;split at h
   ·simp at h
   rename_i j4 h4;have a4:=jco h4;split at h
   ·simp at h
   ·simp at h
   rename_i b j5 h5;have a5:=jcl f .expr (o+1) _ _ _ h5;simp only[Kg,Except.ok.injEq,Kh]at h;obtain⟨h8,h9⟩:=h;have h8:=congrArg List.length h8
   try simp only[Kr,K0,K6]at h8
   omega
  ·exact jfn (jcl f .unary o) _ _ _ _ h
 | f+1,.unary,o,i,out,j,h=>by
  unfold go at h;split at h
  ·split at h
   ·simp[long]at h
   split at h
   ·simp at h
   ·simp at h
   rename_i a j1 h1;have a1:=jcl f .unary (o+1) _ _ _ h1;simp only[Kg,Except.ok.injEq,Kh]at h;obtain⟨h8,h9⟩:=h;have h8:=congrArg List.length h8
   try simp only[Kr,K0,K6]at h8
   omega
  split at h
  ·split at h
   ·simp[long]at h
   split at h
   ·simp at h
   ·simp at h
   rename_i a j1 h1;have a1:=jcl f .expr (o+1) _ _ _ h1;split at h
   ·simp at h
   rename_i j2 h2;have a2:=jco h2;have:=jcb a2.2;simp only[Kg,Except.ok.injEq,Kh]at h;obtain⟨h8,h9⟩:=h;have h8:=congrArg List.length h8
   try simp only[Kr,K0,K6]at h8
   omega
  split at h
  ·rename_i t ht;have:=jhf ht;split at h
   ·simp only[Kg,Except.ok.injEq,Kh]at h;obtain⟨h8,h9⟩:=h;have h8:=congrArg List.length h8
    try simp only[Kr,K0,K6]at h8
    omega
   split at h
   ·simp only[Kg,Except.ok.injEq,Kh]at h;obtain⟨h8,h9⟩:=h;have h8:=congrArg List.length h8
    try simp only[Kr,K0,K6]at h8
    omega
   ·simp[syn]at h
  ·simp[syn]at h
 |f+1,.cond,o,i,out,j,h=>by
  unfold go at h;exact jfn (jcl f .neg o) _ _ _ _ h
 | f+1,.neg,o,i,out,j,h=>by
  unfold go at h;split at h
  ·split at h
   ·simp[long]at h
   split at h
   ·simp at h
   ·simp at h
   rename_i a j1 h1;have a1:=jcl f .neg (o+1) _ _ _ h1;simp only[Kg,Except.ok.injEq,Kh]at h;obtain⟨h8,h9⟩:=h;have h8:=congrArg List.length h8
   try simp only[Kr,K0,K6]at h8
   omega
  split at h
  ·split at h
   ·simp[long]at h
   split at h
   ·simp at h
   ·simp at h
   rename_i a j1 h1;have a1:=jcl f .cond (o+1) _ _ _ h1;split at h
   ·simp at h
   rename_i j2 h2;have a2:=jco h2;have:=jcb a2.2;simp only[Kg,Except.ok.injEq,Kh]at h;obtain⟨h8,h9⟩:=h;have h8:=congrArg List.length h8
   try simp only[Kr,K0,K6]at h8
   omega
  ·exact jcl f .compare o _ _ _ h
 | f+1,.compare,o,i,out,j,h=>by
  unfold go at h;split at h
  ·simp at h
  ·simp at h
  rename_i a j1 h1;have a1:=jcl f .expr o _ _ _ h1;split at h
  ·simp[syn]at h
  split at h
  ·rename_i t ht;have:=jhf ht;split at h
   ·simp only[Kg,Except.ok.injEq,Kh]at h;obtain⟨h8,h9⟩:=h;have h8:=congrArg List.length h8
    try simp only[Kr,K0,K6]at h8
    omega
   split at h
   ·simp at h
   ·simp at h
   rename_i b k h2;have a2:=jcl f .expr o _ _ _ h2;simp only[Kg,Except.ok.injEq,Kh]at h;obtain⟨h8,h9⟩:=h;have h8:=congrArg List.length h8
   try simp only[Kr,K0,K6]at h8
   omega
  ·split at h
   ·simp at h
   ·simp at h
   rename_i b k h2;have a2:=jcl f .expr o _ _ _ h2;simp only[Kg,Except.ok.injEq,Kh]at h;obtain⟨h8,h9⟩:=h;have h8:=congrArg List.length h8
   try simp only[Kr,K0,K6]at h8
   omega
end
section
variable {ts:List Tk}{en:Int}
structure Out (w:List UInt8):Prop where
 e:w ≠ []
 words:w ≠ wIf/\w ≠ js5/\w ≠ js6/\w ≠ wNot/\w ≠ [45]/\w ≠ [40]/\w ≠ [41]/\w ≠ [91]/\w ≠ [93]
 lv:∀lv,lv∈sumL\/lv∈jeB\/lv=cmpL->look lv w=none
theorem jcx {a b:List UInt8}{i:Nat}(h:sees ts a i=true)(hne:b ≠ a):sees ts b i=false:=by
 unfold sees at h ⊢;split at h
 ·rename_i t ht;simp only[Qn]at h;simp only[decide_eq_false_iff_not];rintro⟨_,h2⟩;exact hne (by rw[<- h2,h.2])
 ·simp at h
theorem jjw {w:List UInt8}{i:Nat}(h:sees ts w i=true):txt ts i=w:=by
 unfold sees at h;unfold txt;split at h
 ·rename_i t ht;simp only[Qn]at h;rw[Ki h.1];exact h.2
 ·simp at h
theorem juJ {w:List UInt8}{i:Nat}(h:sees ts w i=true):sgn ts i=w\/sgn ts i=[]:=by
 unfold sees at h;unfold sgn;split at h
 ·rename_i t ht;simp only[Qn]at h;split
  ·exact .inl h.2
  ·exact .inr rfl
 ·simp at h
theorem jgp {w:List UInt8}{i:Nat}{t:Tk}(ht:ts[i]? = some t)(h:t.kind=1\/t.kind=3\/t.kind=4):sees ts w i=false:=by
 unfold sees;simp only[ht,decide_eq_false_iff_not];rintro⟨h1,_⟩;omega
def Nok(ts:List Tk)(w:List UInt8)(f:Nat->Option (R (List Nd))):Prop:=∀i out j,f i=some (.ok (out,j))->∀k,i<=k->k<j->sees ts w k=false
theorem jki {w s:List UInt8}(hne:w ≠ s){i j:Nat}{u:Unit}(h:must ts en s i=.ok (u,j)):∀k,i<=k->k<j->sees ts w k=false:=by
 obtain⟨rfl,hs⟩:=jco h;intro k h1 h2;rw[show k=i by omega];exact jcx hs hne
theorem jnG {w:List UInt8}{sub:Nat->Option (R (List Nd))}(hs:Nok ts w sub){lv:Lvl}(hl:look lv w=none):∀m out i r j,jd7 ts sub lv m out i=some (.ok (r,j))->∀k,i<=k->k<j->sees ts w k=false
 |0,out,i,r,j,h=>by simp[jd7]at h
 | m+1,out,i,r,j,h=>by
  unfold jd7 at h;intro k h1 h2;split at h
  ·simp only[Kg,Except.ok.injEq,Kh]at h;omega
  ·rename_i op ho;split at h
   ·simp at h
   ·simp at h
   ·rename_i r1 j1 he;by_cases hk:k=i
    ·rw[hk];cases hw:sees ts w i with
     |false=>rfl
     |true=>rw[jjw hw,hl]at ho;cases ho
    rcases K4 k j1 with h3|h3
    ·exact hs _ _ _ he k (by omega) h3
    ·exact jnG hs hl m _ _ _ _ h k h3 h2
theorem jiH {w:List UInt8}{op:Nat->Option (R (List Nd))}(ho:Nok ts w op):∀ls:List Lvl,(∀lv∈ls,look lv w=none)->Nok ts w (jcK ts op ls)
 | [],_,i,out,j,h=>ho i out j h
 | lv::ls,hl,i,out,j,h=>by
  unfold jcK at h;have ih:=jiH ho ls λl hm=>hl l (by simp[hm])
  intro k h1 h2;split at h
  ·simp at h
  ·simp at h
  ·rename_i r1 j1 he
   rcases K4 k j1 with h3|h3
   ·exact ih _ _ _ he k h1 h3
   ·exact jnG ih (hl lv (by simp)) _ _ _ _ _ h k h3 h2
theorem jeX {w:List UInt8}(hw:Out w):∀f sy o,Nok ts w (go ts en f sy o)
 |0,sy,o,i,out,j,h=>by simp[go]at h
 | f+1,.expr,o,i,out,j,h=>by
  unfold go at h;intro k hk1 hk2;split at h
  ·rename_i hs;split at h
   ·simp[long]at h
   split at h
   ·simp at h
   ·simp at h
   rename_i c j1 h1;have a1:=jeX hw f .cond (o+1) _ _ _ h1;split at h
   ·simp at h
   rename_i j2 h2;have a2:=jki hw.words.2.1 h2;split at h
   ·simp at h
   ·simp at h
   rename_i a j3 h3;have a3:=jeX hw f .expr (o+1) _ _ _ h3;split at h
   ·simp at h
   rename_i j4 h4;have a4:=jki hw.words.2.2.1 h4;split at h
   ·simp at h
   ·simp at h
   rename_i b j5 h5;have a5:=jeX hw f .expr (o+1) _ _ _ h5;simp only[Kg,Except.ok.injEq,Kh]at h;by_cases hk:k=i
   ·rw[hk];exact jcx hs hw.words.1
   rcases K4 k j1 with g|g
   ·exact a1 k (by omega) g
   rcases K4 k j2 with g|g
   ·exact a2 k (by omega) g
   rcases K4 k j3 with g|g
   ·exact a3 k (by omega) g
   rcases K4 k j4 with g|g
   ·exact a4 k (by omega) g
   exact a5 k (by omega) (by omega)
  ·exact jiH (jeX hw f .unary o) _ (λlv h=>hw.lv lv (.inl h)) _ _ _ h k hk1 hk2
 | f+1,.unary,o,i,out,j,h=>by
  unfold go at h;intro k hk1 hk2;split at h
  ·rename_i hs;split at h
   ·simp[long]at h
   split at h
   ·simp at h
   ·simp at h
   rename_i a j1 h1;have a1:=jeX hw f .unary (o+1) _ _ _ h1;simp only[Kg,Except.ok.injEq,Kh]at h;by_cases hk:k=i
   ·rw[hk];exact jcx hs hw.words.2.2.2.2.1
   exact a1 k (by omega) (by omega)
  split at h
  ·rename_i hs;split at h
   ·simp[long]at h
   split at h
   ·simp at h
   ·simp at h
   rename_i a j1 h1;have a1:=jeX hw f .expr (o+1) _ _ _ h1;split at h
   ·simp at h
   rename_i j2 h2;have a2:=jki hw.words.2.2.2.2.2.2.1 h2;simp only[Kg,Except.ok.injEq,Kh]at h;by_cases hk:k=i
   ·rw[hk];exact jcx hs hw.words.2.2.2.2.2.1
   rcases K4 k j1 with g|g
   ·exact a1 k (by omega) g
   exact a2 k (by omega) (by omega)
  split at h
  ·rename_i t ht;split at h
   ·rename_i hk;simp only[Kg,Except.ok.injEq,Kh]at h;rw[show k=i by omega];exact jgp ht (by omega)
   split at h
   ·rename_i hk;simp only[Kg,Except.ok.injEq,Kh]at h;rw[show k=i by omega];exact jgp ht (by omega)
   ·simp[syn]at h
  ·simp[syn]at h
 |f+1,.cond,o,i,out,j,h=>by
  unfold go at h;exact jiH (jeX hw f .neg o) _ (λlv h=>hw.lv lv (.inr (.inl h))) _ _ _ h
 | f+1,.neg,o,i,out,j,h=>by
  unfold go at h;intro k hk1 hk2;split at h
  ·rename_i hs;split at h
   ·simp[long]at h
   split at h
   ·simp at h
   ·simp at h
   rename_i a j1 h1;have a1:=jeX hw f .neg (o+1) _ _ _ h1;simp only[Kg,Except.ok.injEq,Kh]at h;by_cases hk:k=i
   ·rw[hk];exact jcx hs hw.words.2.2.2.1
   exact a1 k (by omega) (by omega)
  split at h
  ·rename_i hs;split at h
   ·simp[long]at h
   split at h
   ·simp at h
   ·simp at h
   rename_i a j1 h1;have a1:=jeX hw f .cond (o+1) _ _ _ h1;split at h
   ·simp at h
   rename_i j2 h2;have a2:=jki hw.words.2.2.2.2.2.2.2.2 h2;simp only[Kg,Except.ok.injEq,Kh]at h;by_cases hk:k=i
   ·rw[hk];exact jcx hs hw.words.2.2.2.2.2.2.2.1
   rcases K4 k j1 with g|g
   ·exact a1 k (by omega) g
   exact a2 k (by omega) (by omega)
  ·exact jeX hw f .compare o _ _ _ h k hk1 hk2
 | f+1,.compare,o,i,out,j,h=>by
  unfold go at h;intro k hk1 hk2;split at h
  ·simp at h
  ·simp at h
  rename_i a j1 h1;have a1:=jeX hw f .expr o _ _ _ h1;split at h
  ·simp[syn]at h
  rename_i op hop
  have hj:sees ts w j1=false:=by
   cases hs:sees ts w j1 with
   |false=>rfl
   |true =>
    rcases juJ hs with g|g
    ·rw[g,hw.lv cmpL (.inr (.inr rfl))]at hop;cases hop
    ·rw[g,show look cmpL []=none by decide]at hop;cases hop
  rcases K4 k j1 with g|g
  ·exact a1 k hk1 g
  by_cases hkj:k=j1
  ·rw[hkj];exact hj
  split at h
  ·rename_i t ht;split at h
   ·rename_i hw2;simp only[Kg,Except.ok.injEq,Kh]at h;rw[show k=j1+1 by omega];exact jgp ht (.inr (.inr hw2.1))
   split at h
   ·simp at h
   ·simp at h
   rename_i b k2 h2;have a2:=jeX hw f .expr o _ _ _ h2;simp only[Kg,Except.ok.injEq,Kh]at h;exact a2 k (by omega) (by omega)
  ·split at h
   ·simp at h
   ·simp at h
   rename_i b k2 h2;have a2:=jeX hw f .expr o _ _ _ h2;simp only[Kg,Except.ok.injEq,Kh]at h;exact a2 k (by omega) (by omega)
theorem jrl {sub:Nat->Option (R (List Nd))}{lv:Lvl}{m:Nat}{out:List Nd}{i:Nat}(h:look lv (txt ts i)=none):jd7 ts sub lv (m+1) out i=some (.ok (out,i)):=by
 unfold jd7;rw[h]
theorem jiI {op:Nat->Option (R (List Nd))}{i j:Nat}{a:List Nd}(h:op i=some (.ok (a,j))):∀ls:List Lvl,(∀lv∈ls,look lv (txt ts j)=none)->jcK ts op ls i=some (.ok (a,j))
 | [],_=>h
 |lv::ls,hl=>by
  unfold jcK;rw[jiI h ls λl hm=>hl l (by simp[hm])];exact jrl (hl lv (by simp))
theorem jiJ {op:Nat->Option (R (List Nd))}{i:Nat}{e:Fl}(h:op i=some (.error e)):∀ls:List Lvl,jcK ts op ls i=some (.error e)
 | []=>h
 |lv::ls=>by
  unfold jcK;rw[jiJ h ls]
theorem jjx {s:List UInt8}{i:Nat}(h:sees ts s i=true):must ts en s i=.ok ((),i+1):=by unfold must;rw[Ki h]
theorem jlB {out:List Nd}{j:Nat}:∀n o i f,o<=50->5*(50-o)+rank .expr<=f->(∀k,k<n->sees ts [40] (i+k)=true)->(∀k,k<n->sees ts [41] (j+k)=true)->Stop ts (j+n)->Stop ts j ->
  (∀o f,o<=50->5*(50-o)+rank .expr<=f->Loc out j (go ts en f .expr o (i+n)))->Loc out (j+n) (go ts en f .expr o i)
 |0,o,i,f,ho,hf,_,_,_,_,h=>h o f ho hf
 | n+1,o,i,f,ho,hf,h1,h2,h3,h4,h=>by
  simp only[rank]at hf;obtain⟨f,rfl⟩:∃g,f=g+2:=⟨f-2,by omega⟩;have s0:=h1 0 (by omega);rw[Q5]at s0
  have key:Loc out (j+(n+1)) (go ts en (f+1) .unary o i):=by
   unfold go;rw[Kj (by rw[jcx s0 (by decide)];decide),Ki s0];by_cases h50:50<=o
   ·rw[Ki h50];exact .inr ⟨_,rfl⟩
   rw[Kj h50]
   have st:Stop ts (j+n):=by
    have:=h2 n (by omega);refine⟨λlv hl => ?_,λlv hl => ?_⟩<;>rw[jjw this]
    ·simp only[sumL,Qv,Jj,or_false]at hl;rcases hl with rfl|rfl<;>decide
    ·simp only[jeB,Qv,Jj,or_false]at hl;rcases hl with rfl|rfl<;>decide
   have ih:=jlB (out:=out) (j:=j) n (o+1) (i+1) f (by omega) (by simp only[rank];omega) (λk hk=>by have:=h1 (k+1) (by omega);rw[show i+1+k=i+(k+1) by omega];exact this) (λk hk=>h2 k (by omega)) st h4 (by rw[show i+1+n=i+(n+1) by omega];exact h)
   rcases ih with ih|⟨p,ih⟩
   ·rw[ih];dsimp only;rw[jjx (h2 n (by omega))];exact .inl rfl
   ·rw[ih];exact .inr ⟨p,rfl⟩
  unfold go;rw[Kj (by rw[jcx s0 (by decide)];decide)]
  rcases key with key|⟨p,key⟩
  ·exact .inl (jiI key _ h3.1)
  ·exact .inr ⟨p,jiJ key _⟩
theorem jlC {out:List Nd}{j:Nat}:∀n o i f,o<=50->5*(50-o)+rank .cond<=f->(∀k,k<n->sees ts [91] (i+k)=true)->(∀k,k<n->sees ts [93] (j+k)=true)->Stop ts (j+n)->Stop ts j ->
  (∀o f,o<=50->5*(50-o)+rank .cond<=f->Loc out j (go ts en f .cond o (i+n)))->Loc out (j+n) (go ts en f .cond o i)
 |0,o,i,f,ho,hf,_,_,_,_,h=>h o f ho hf
 | n+1,o,i,f,ho,hf,h1,h2,h3,h4,h=>by
  simp only[rank]at hf;obtain⟨f,rfl⟩:∃g,f=g+2:=⟨f-2,by omega⟩;have s0:=h1 0 (by omega);rw[Q5]at s0
  have key:Loc out (j+(n+1)) (go ts en (f+1) .neg o i):=by
   unfold go;rw[Kj (by rw[jcx s0 (by decide)];decide),Ki s0];by_cases h50:50<=o
   ·rw[Ki h50];exact .inr ⟨_,rfl⟩
   rw[Kj h50]
   have st:Stop ts (j+n):=by
    have:=h2 n (by omega);refine⟨λlv hl => ?_,λlv hl => ?_⟩<;>rw[jjw this]
    ·simp only[sumL,Qv,Jj,or_false]at hl;rcases hl with rfl|rfl<;>decide
    ·simp only[jeB,Qv,Jj,or_false]at hl;rcases hl with rfl|rfl<;>decide
   have ih:=jlC (out:=out) (j:=j) n (o+1) (i+1) f (by omega) (by simp only[rank];omega) (λk hk=>by have:=h1 (k+1) (by omega);rw[show i+1+k=i+(k+1) by omega];exact this) (λk hk=>h2 k (by omega)) st h4 (by rw[show i+1+n=i+(n+1) by omega];exact h)
   rcases ih with ih|⟨p,ih⟩
   ·rw[ih];dsimp only;rw[jjx (h2 n (by omega))];exact .inl rfl
   ·rw[ih];exact .inr ⟨p,rfl⟩
  unfold go
  rcases key with key|⟨p,key⟩
  ·exact .inl (jiI key _ h3.2)
  ·exact .inr ⟨p,jiJ key _⟩
end
section
variable {ts:List Tk}{en:Int}
theorem andThen_ok {α β:Type}{x:R α}{f:α->Nat->R β}{b:β}{k:Nat}(h:andThen x f=.ok (b,k)):∃a j,x=.ok (a,j)/\f a j=.ok (b,k):=by
 unfold andThen at h;split at h
 ·exact⟨_,_,rfl,h⟩
 ·cases h
def NK {α:Type}(ts:List Tk)(w:List UInt8)(i:Nat)(x:R α):Prop:=∀a j,x=.ok (a,j)->∀k,i<=k->k<j->sees ts w k=false
theorem NK.andThen {α β:Type}{w:List UInt8}{i:Nat}{x:R α}{f:α->Nat->R β}(h1:NK ts w i x)(h2:∀a j,NK ts w j (f a j)):NK ts w i (andThen x f):=by
 intro b k h;obtain⟨a,j,e1,e2⟩:=andThen_ok h;intro m hm1 hm2
 rcases K4 m j with g|g
 ·exact h1 a j e1 m hm1 g
 ·exact h2 a j b k e2 m g hm2
theorem NK.pure {α:Type}{w:List UInt8}{i:Nat}{a:α}:NK ts w i (.ok (a,i)):=by
 intro b j h k h1 h2;simp only[Except.ok.injEq,Kh]at h;omega
theorem NK.err {α:Type}{w:List UInt8}{i:Nat}{e:Fl}:NK (α:=α) ts w i (.error e):=by
 intro b j h;cases h
theorem jhh {w s:List UInt8}(hne:w ≠ s)(i:Nat):NK ts w i (must ts en s i):=λu j h=>jki hne h
theorem jtc {w:List UInt8}{k:Int}(hk:k=1\/k=3\/k=4)(i:Nat):NK ts w i (jfJ ts en k i):=by
 intro t j h m h1 h2;unfold jfJ at h;split at h
 ·rename_i u hu;split at h
  ·rename_i hk2;simp only[Except.ok.injEq,Kh]at h;rw[show m=i by omega];exact jgp hu (by omega)
  ·simp[syn]at h
 ·simp[syn]at h
theorem jmr {w:List UInt8}(i:Nat):NK ts w i (jeA ts en i):=by
 intro t j h m h1 h2;unfold jeA at h;split at h
 ·rename_i u j2 hu;simp only[Except.ok.injEq,Kh]at h;exact jtc (.inl rfl) i _ _ hu m h1 (by omega)
 ·cases h
theorem jnH {w:List UInt8}(i:Nat):NK ts w i (numP ts en i):=by
 intro t j h m h1 h2;unfold numP at h;split at h
 ·rename_i u j2 hu;simp only[Except.ok.injEq,Kh]at h;exact jtc (.inr (.inl rfl)) i _ _ hu m h1 (by omega)
 ·cases h
theorem jwe {w:List UInt8}(hw:Out w)(i:Nat):NK ts w i (intP ts en i):=by
 intro t j h m h1 h2;unfold intP at h;split at h
 ·rename_i hs;split at h
  ·rename_i n j2 hu;simp only[Except.ok.injEq,Kh]at h;by_cases hm:m=i
   ·rw[hm];exact jcx hs hw.words.2.2.2.2.1
   ·exact jnH _ _ _ hu m (by omega) (by omega)
  ·cases h
 ·exact jnH _ _ _ h m h1 h2
theorem jtd {w:List UInt8}(i:Nat):NK ts w i (posP ts en i):=by
 intro t j h m h1 h2;unfold posP at h;split at h
 ·rename_i n j2 hu;split at h
  ·cases h
  ·simp only[Except.ok.injEq,Kh]at h;exact jnH _ _ _ hu m h1 (by omega)
 ·cases h
theorem jwY {w:List UInt8}(hw:Out w)(sy:Sy)(i:Nat):NK ts w i (jhV ts en sy i):=by
 intro t j h m h1 h2;unfold jhV at h;cases hg:go ts en deep sy 0 i with
 |none=>rw[hg]at h;cases h
 |some r =>
  rw[hg,Kv]at h;rw[h]at hg;exact jeX hw _ _ _ _ _ _ hg m h1 h2
theorem jiK {w:List UInt8}(hw:Out w)(sy:Sy)(i:Nat):NK ts w i (jcd ts en sy i):=by
 unfold jcd;refine(jwY hw sy i).andThen λa j => ?_
 split
 ·exact NK.err
 ·exact NK.pure
structure Out2 (w:List UInt8):Prop extends Out w where
 k:w ≠ jnz/\w ≠ juE/\w ≠ juF/\w ≠ wOn/\w ≠ [61]/\w ≠ js8/\w ≠ jgo/\w ≠ jiE/\w ≠ [47]/\w ≠ jmq/\w ≠ jbK/\w ≠ wAnd
theorem jms {α:Type}{w s:List UInt8}{i:Nat}{x y:R α}(hne:w ≠ s)(h1:sees ts s i=true->NK ts w (i+1) x)(h2:NK ts w i y):NK ts w i (if sees ts s i=true then x else y):=by
 split
 ·rename_i hs;intro t j h m g1 g2;by_cases hm:m=i
  ·rw[hm];exact jcx hs hne
  ·exact h1 hs t j h m (by omega) g2
 ·exact h2
theorem jte {w:List UInt8}(hw:Out2 w)(q:Qry)(i:Nat):NK ts w i (jb5 ts en q i):=by
 obtain⟨k1,k2,k3,k4,k5,k6,k7,k8,k9,k10,k11,k12⟩:=hw.k;unfold jb5;refine(jhh k1 i).andThen λ_ j => ?_
 refine(jmr j).andThen λt j => ?_
 refine NK.andThen ?_ λq j=>NK.andThen ?_ λq j => ?_
 ·unfold jmp;exact jms k2 (λ_=>(jtd _).andThen λ_ _=>NK.pure) NK.pure
 ·unfold jke;refine jms k3 (λ_ => ?_) NK.pure;refine(jmr _).andThen λ_ j => ?_
  refine(jhh k4 j).andThen λ_ j => ?_
  refine(jmr _).andThen λ_ j => ?_
  refine(jhh k5 j).andThen λ_ j => ?_
  refine(jmr _).andThen λ_ j => ?_
  refine(jhh k6 j).andThen λ_ j => ?_
  exact(jtd _).andThen λ_ _=>NK.pure
 ·unfold jfX;exact jms k7 (λ_=>(jiK hw.toOut _ _).andThen λ_ _=>NK.pure) NK.pure
theorem jtf {w:List UInt8}(k9:w ≠ [47])(itoa:Int->List UInt8)(mk:Int->Int->List UInt8)(i:Nat):NK ts w i (jhg ts en itoa mk i):=by
 unfold jhg;refine(jnH i).andThen λn j => ?_
 refine jms k9 (λ_ => ?_) NK.pure;refine(jnH _).andThen λd k => ?_
 split
 ·exact NK.err
 ·exact NK.pure
theorem jwf {q:Qry}{f:List UInt8}{b:Int}{j k:Nat}{r:Qry} (h:(let c:=q.kind=3/\sees ts jbK j=true
  let j:=if c then j+1 else j
  if j<ts.length then syn ts en j else(.ok ({ q with factor:=f,bits:=b,consistent:=if c then true else q.consistent },j):R Qry))=.ok (r,k)):ts.length<=k/\(k=j\/k=j+1/\sees ts jbK j=true):=by
 dsimp only at h;by_cases hc:q.kind=3/\sees ts jbK j=true
 ·simp only[Ki hc]at h;split at h
  ·simp[syn]at h
  ·simp only[Except.ok.injEq,Kh]at h;exact⟨by omega,.inr ⟨by omega,hc.2⟩⟩
 ·simp only[Kj hc]at h;split at h
  ·simp[syn]at h
  ·simp only[Except.ok.injEq,Kh]at h;exact⟨by omega,.inl (by omega)⟩
theorem jtg {w:List UInt8}(hw:w ≠ jiE/\w ≠ [47]/\w ≠ jmq/\w ≠ jbK)(itoa:Int->List UInt8)(mk:Int->Int->List UInt8)(q:Qry){i:Nat}{r:Qry}{k:Nat}(h0:sees ts jhX i=true)(h:jeK ts en itoa mk q i=.ok (r,k)):ts.length<=k/\∀m,i+1<=m->m<k->sees ts w m=false:=by
 have key:NK ts w (i+1) (PP.andThen (must ts en jiE (i+1)) λ_ j=>PP.andThen (jhg ts en itoa mk j) λf j=>PP.andThen (must ts en jmq j) λ_ j=>PP.andThen (posP ts en j) λb j =>
  let c:=q.kind=3/\sees ts jbK j=true
  let j:=if c then j+1 else j
  if j<ts.length then syn ts en j else .ok ({ q with factor:=f,bits:=b,consistent:=if c then true else q.consistent },j)):=by
  refine(jhh hw.1 _).andThen λ_ j => ?_
  refine(jtf hw.2.1 itoa mk _).andThen λf j => ?_
  refine(jhh hw.2.2.1 _).andThen λ_ j => ?_
  refine(jtd _).andThen λb j => ?_
  intro a k h m g1 g2;obtain⟨_,h|⟨h,hc⟩⟩:=jwf h
  ·omega
  ·rw[show m=j by omega];exact jcx hc hw.2.2.2
 unfold jeK at h;rw[jjx h0]at h;refine⟨?_,λm=>key r k h m⟩;obtain⟨_,j1,_,h⟩:=andThen_ok h;obtain⟨_,j2,_,h⟩:=andThen_ok h;obtain⟨_,j3,_,h⟩:=andThen_ok h;obtain⟨_,j4,_,h⟩:=andThen_ok h;obtain⟨_,j5,_,h⟩:=andThen_ok h;exact(jwf h).1
theorem jhZ {s:List UInt8}{i j:Nat}{u:Unit}(h:must ts en s i=.ok (u,j)):sees ts s i=true/\j=i+1:=⟨(jco h).2,(jco h).1⟩
theorem jwZ {itoa:Int->List UInt8}{mk:Int->Int->List UInt8}{q:Qry}(hk:look jdK (keyT ts 0)=some 2)(h:jck ts en itoa mk=.ok q){m:Nat}(hm0:1<=m)(hm:sees ts jdF m=true):∃out,go ts en deep .expr 0 1=some (.ok (out,m))/\out.length<=200:=by
 have hO:Out2 jdF:=by
  refine⟨⟨by decide,by decide,?_⟩,by decide⟩;intro lv hl
  rcases hl with hl|hl|rfl
  ·simp only[sumL,Qv,Jj,or_false]at hl;rcases hl with rfl|rfl<;>decide
  ·simp only[jeB,Qv,Jj,or_false]at hl;rcases hl with rfl|rfl<;>decide
  ·decide
 unfold jck at h;rw[hk]at h;dsimp only at h;have e2:jfL ts en 2 Qry.zero 1=jcD ts en 2 Qry.zero 1:=by unfold jfL;rw[Kj (by decide),Ki rfl]
 rw[e2]at h;cases hr:(PP.andThen (jcD ts en 2 Qry.zero 1) λq j=>PP.andThen (jb5 ts en q j) λq j=>jeK ts en itoa mk q j)with
 |error e=>rw[hr]at h;cases h
 | ok r =>
  obtain⟨q1,k1⟩:=r;obtain⟨q2,j2,hv,hr1⟩:=andThen_ok hr;obtain⟨q3,j3,hs,hr2⟩:=andThen_ok hr1;have hs2:=jte (ts:=ts) (en:=en) hO q2 j2 q3 j3 hs;unfold jcD at hv;obtain⟨out,j4,hl,hv⟩:=andThen_ok hv;have hl2:=jiK (ts:=ts) (en:=en) hO.toOut .expr 1 out j4 hl;obtain⟨_,j5,hb,hv⟩:=andThen_ok hv;obtain⟨hb,rfl⟩:=jhZ hb;obtain⟨_,j6,hi1,hv⟩:=andThen_ok hv;have hi2:=jwe (ts:=ts) (en:=en) hO.toOut _ _ _ hi1;obtain⟨_,j7,ha,hv⟩:=andThen_ok hv;have ha2:=jhh (ts:=ts) (en:=en) hO.k.2.2.2.2.2.2.2.2.2.2.2 _ _ _ ha;obtain⟨_,j8,hi3,hv⟩:=andThen_ok hv;have hi4:=jwe (ts:=ts) (en:=en) hO.toOut _ _ _ hi3;simp only[Except.ok.injEq,Kh]at hv;obtain⟨_,rfl⟩:=hv
  have hw0:sees ts jhX j3=true:=by
   unfold jeK at hr2;obtain⟨_,j9,h9,_⟩:=andThen_ok hr2;exact(jhZ h9).1
  have ht:=jtg (w:=jdF) (by decide) itoa mk q3 hw0 hr2;have hml:=jcb hm
  have hj:j4=m:=by
   rcases Xx j4 m with g|g|g
   ·exfalso
    have:sees ts jdF m=false:=by
     rcases K4 m j6 with g2|g2
     ·exact hi2 m (by omega) g2
     rcases K4 m j7 with g3|g3
     ·exact ha2 m (by omega) g3
     rcases K4 m j8 with g4|g4
     ·exact hi4 m (by omega) g4
     rcases K4 m j3 with g5|g5
     ·exact hs2 m (by omega) g5
     by_cases g6:m=j3
     ·rw[g6];exact jcx hw0 (by decide)
     exact ht.2 m (by omega) (by omega)
    rw[hm]at this;cases this
   ·exact g
   ·have:=hl2 m hm0 g;rw[hm]at this;cases this
  subst hj;unfold jcd at hl;obtain⟨o2,j9,hp,hl⟩:=andThen_ok hl;split at hl
  ·cases hl
  ·rename_i hlen;simp only[Except.ok.injEq,Kh]at hl;obtain⟨rfl,rfl⟩:=hl;refine⟨o2,?_,by omega⟩;unfold jhV at hp;cases hg:go ts en deep .expr 0 1 with
   |none=>rw[hg]at hp;cases hp
   |some r=>rw[hg,Kv]at hp;rw[hp]
end
abbrev Tr:=Int × List UInt8 × Int
def w3(s:List UInt8):Tr:=(2,s,0)
def sg(c:UInt8):Tr:=(5,[c],0)
def midS:List Tr:=[w3 jdF,(3,[48],0),w3 wAnd,(3,[49],1),w3 jnz,(1,[116],0),w3 jgo]
def endS:List Tr:=[w3 jhX,w3 jiE,(3,[50],2),w3 jmq,(3,[56],8)]
def stdQ(itoa:Int->List UInt8)(e c:List Nd):Qry:={ Qry.zero with kind:=2,expr:=e,lo:=0,hi:=1,table:=[116],wher:=c,factor:=itoa 2,bits:=8 }
section
variable {ts us:List Tk}{en:Int}
theorem at3 {i:Nat}{k n:Int}{t:List UInt8}(h:(ts.map jcy)[i]? = some (k,t,n)):∃p,ts[i]? = some ⟨k,t,n,p⟩:=by
 rw[Jy,Ko]at h;obtain⟨⟨k2,t2,n2,p⟩,h,e⟩:=h;simp only[jcy,Kh]at e;obtain⟨rfl,rfl,rfl⟩:=e;exact⟨p,h⟩
theorem jeL {i:Nat}{k n:Int}{t:List UInt8}(h:(ts.map jcy)[i]? = some (k,t,n))(hk:k=2\/k=5):sees ts t i=true:=by
 obtain⟨p,h⟩:=at3 h;unfold sees;rw[h];simpa using hk
theorem num3 {i:Nat}{n:Int}{t:List UInt8}(h:(ts.map jcy)[i]? = some (3,t,n)):numP ts en i=.ok (n,i+1):=by
 obtain⟨p,h⟩:=at3 h;unfold numP jfJ;rw[h];rfl
theorem int3 {i:Nat}{n:Int}{t:List UInt8}(h:(ts.map jcy)[i]? = some (3,t,n)):intP ts en i=.ok (n,i+1):=by
 obtain⟨p,h2⟩:=at3 h;unfold intP;rw[Kj (by rw[jgp h2 (.inr (.inl rfl))];decide),num3 h]
theorem jyk {i:Nat}{n:Int}{t:List UInt8}(h:(ts.map jcy)[i]? = some (1,t,n)):jeA ts en i=.ok (t,i+1):=by
 obtain⟨p,h⟩:=at3 h;unfold jeA jfJ;rw[h];rfl
theorem pos3 {i:Nat}{n:Int}{t:List UInt8}(h:(ts.map jcy)[i]? = some (3,t,n))(hn:n ≠ 0):posP ts en i=.ok (n,i+1):=by
 unfold posP;rw[num3 h];simp only[];rw[Kj hn]
theorem jo8 {i:Nat}{t:List UInt8}(h:(ts.map jcy)[i]? = some (w3 t)):must ts en t i=.ok ((),i+1):=jjx (jeL h (.inl rfl))
theorem ja0 {α β:Type}{x:R α}{f:α->Nat->R β}{a:α}{j:Nat}(h:x=.ok (a,j)):andThen x f=f a j:=by rw[h];rfl
theorem jkj {sy:Sy}{i j:Nat}{e:List Nd}(h:go ts en deep sy 0 i=some (.ok (e,j)))(he:e.length<=200):jcd ts en sy i=.ok (e,j):=by
 unfold jcd;rw[ja0 (a:=e) (j:=j) (by unfold jhV;rw[h];rfl),Kj (by omega)]
theorem jkk {sy:Sy}{i:Nat}{e:Fl}(h:go ts en deep sy 0 i=some (.error e)):jcd ts en sy i=.error e:=by
 unfold jcd jhV;rw[h];rfl
theorem jwg {itoa:Int->List UInt8}{mk:Int->Int->List UInt8}{p:Nat}{e:List Nd}(h0:look jdK (keyT ts 0)=some 2)(hE:Loc e p (go ts en deep .expr 0 1))(he:e.length<=200)(hM:∀k,k<7->(ts.map jcy)[p+k]? = midS[k]?){r:Nat}{c:List Nd}(hC:Loc c r (go ts en deep .cond 0 (p+7)))(hc:c.length<=200)(hT:∀k,k<5->(ts.map jcy)[r+k]? = endS[k]?)(hl:ts.length=r+5) :
  jck ts en itoa mk=.ok (stdQ itoa e c)\/∃q,jck ts en itoa mk=.error (4,q):=by
 have e2:jfL ts en 2 Qry.zero 1=jcD ts en 2 Qry.zero 1:=by unfold jfL;rw[Kj (by decide),Ki rfl]
 unfold jck;rw[h0];dsimp only;rw[e2]
 rcases hE with hE|⟨q,hE⟩
 ·have v:jcD ts en 2 Qry.zero 1=.ok ({ Qry.zero with kind:=2,expr:=e,lo:=0,hi:=1 },p+4):=by
   unfold jcD;rw[ja0 (jkj hE he),ja0 (jo8 (i:=p) (hM 0 (by omega))),ja0 (int3 (hM 1 (by omega))),ja0 (jo8 (hM 2 (by omega))),ja0 (int3 (hM 3 (by omega)))]
  rw[ja0 v];have hwh:sees ts jgo (p+6)=true:=jeL (hM 6 (by omega)) (.inl rfl)
  rcases hC with hC|⟨q,hC⟩
  ·have s:jb5 ts en { Qry.zero with kind:=2,expr:=e,lo:=0,hi:=1 } (p+4)=.ok ({ Qry.zero with kind:=2,expr:=e,lo:=0,hi:=1,table:=[116],wher:=c },r):=by
    unfold jb5 jmp jke jfX;rw[ja0 (jo8 (hM 4 (by omega))),ja0 (jyk (hM 5 (by omega)))];rw[Kj (by rw[jcx hwh (by decide)];decide),ja0 rfl,Kj (by rw[jcx hwh (by decide)];decide),ja0 rfl,Ki hwh,ja0 (jkj hC hc)]
   have t:jeK ts en itoa mk { Qry.zero with kind:=2,expr:=e,lo:=0,hi:=1,table:=[116],wher:=c } r=.ok (stdQ itoa e c,r+5):=by
    have hbits:sees ts jmq (r+3)=true:=jeL (hT 3 (by omega)) (.inl rfl);unfold jeK jhg
    rw[ja0 (jo8 (i:=r) (hT 0 (by omega))),ja0 (jo8 (hT 1 (by omega))),ja0 (x:=andThen _ _) (a:=itoa 2) (j:=r+3) (by
     rw[ja0 (num3 (hT 2 (by omega))),Kj (by rw[jcx hbits (by decide)];decide)]),ja0 (jo8 (hT 3 (by omega))),ja0 (pos3 (hT 4 (by omega)) (by decide))]
    have hn:¬((2:Int)=3/\sees ts jbK (r+4+1)=true):=λh=>absurd h.1 (by decide)
    simp only[Kj hn];rw[Kj (by omega)];rfl
   rw[ja0 s,t];exact .inl rfl
  ·have s:∀f:Qry->Nat->R Qry,andThen (jb5 ts en { Qry.zero with kind:=2,expr:=e,lo:=0,hi:=1 } (p+4)) f=.error (4,q):=by
    intro f;unfold jb5 jmp jke jfX;rw[ja0 (jo8 (hM 4 (by omega))),ja0 (jyk (hM 5 (by omega)))];rw[Kj (by rw[jcx hwh (by decide)];decide),ja0 rfl,Kj (by rw[jcx hwh (by decide)];decide),ja0 rfl,Ki hwh,jkk hC];rfl
   rw[s];exact .inr ⟨q,rfl⟩
 ·have v:∀f:Qry->Nat->R Qry,andThen (jcD ts en 2 Qry.zero 1) f=.error (4,q):=by
   intro f;unfold jcD;rw[jkk hE];rfl
  rw[v];exact .inr ⟨q,rfl⟩
theorem jth {itoa:Int->List UInt8}{mk:Int->Int->List UInt8}{q:Qry}(hk:look jdK (keyT ts 0)=some 1)(h3:sees ts jgo 3=true)(h:jck ts en itoa mk=.ok q){m:Nat}(hm0:4<=m)(hm:sees ts jhX m=true):∃out,go ts en deep .cond 0 4=some (.ok (out,m))/\out.length<=200:=by
 have hO:Out jhX:=by
  refine⟨by decide,by decide,?_⟩;intro lv hl
  rcases hl with hl|hl|rfl
  ·simp only[sumL,Qv,Jj,or_false]at hl;rcases hl with rfl|rfl<;>decide
  ·simp only[jeB,Qv,Jj,or_false]at hl;rcases hl with rfl|rfl<;>decide
  ·decide
 unfold jck at h;rw[hk]at h;dsimp only at h;have e2:jfL ts en 1 Qry.zero 1=.ok ({ Qry.zero with kind:=1 },1):=by unfold jfL;rw[Ki rfl]
 rw[e2,ja0 rfl]at h;cases hr:(PP.andThen (jb5 ts en { Qry.zero with kind:=1 } 1) λq j=>jeK ts en itoa mk q j)with
 |error e=>rw[hr]at h;cases h
 | ok r =>
  obtain⟨q1,k1⟩:=r;obtain⟨q3,j3,hs,hr2⟩:=andThen_ok hr;unfold jb5 jmp jke jfX at hs;obtain⟨_,j4,h4,hs⟩:=andThen_ok hs;have h4:=(jhZ h4).2;subst h4;obtain⟨t,j5,h5,hs⟩:=andThen_ok hs
  have h5:j5=3:=by
   unfold jeA jfJ at h5;split at h5
   ·rename_i u j he;split at he
    ·split at he
     ·simp only[Except.ok.injEq,Kh]at he h5;omega
     ·simp[syn]at he
    ·simp[syn]at he
   ·cases h5
  subst h5;rw[Kj (by rw[jcx h3 (by decide)];decide),ja0 rfl,Kj (by rw[jcx h3 (by decide)];decide),ja0 rfl,Ki h3]at hs;obtain⟨out,j6,hl,hs⟩:=andThen_ok hs;simp only[Except.ok.injEq,Kh]at hs;obtain⟨_,rfl⟩:=hs;have hl2:=jiK (ts:=ts) (en:=en) hO .cond 4 out j6 hl
  have hw0:sees ts jhX j6=true:=by
   unfold jeK at hr2;obtain⟨_,j9,h9,_⟩:=andThen_ok hr2;exact(jhZ h9).1
  have ht:=jtg (w:=jhX) (by decide) itoa mk q3 hw0 hr2;have hml:=jcb hm
  have hj:j6=m:=by
   rcases Xx j6 m with g|g|g
   ·have:=ht.2 m (by omega) (by omega);rw[hm]at this;cases this
   ·exact g
   ·have:=hl2 m hm0 g;rw[hm]at this;cases this
  subst hj;unfold jcd at hl;obtain⟨o2,j9,hp,hl⟩:=andThen_ok hl;split at hl
  ·cases hl
  ·rename_i hlen;simp only[Except.ok.injEq,Kh]at hl;obtain⟨rfl,rfl⟩:=hl;refine⟨o2,?_,by omega⟩;unfold jhV at hp;cases hg:go ts en deep .cond 0 4 with
   |none=>rw[hg]at hp;cases hp
   |some r=>rw[hg,Kv]at hp;rw[hp]
end
def sumA:Tr:=w3 [115,117,109]
def cntW:Tr:=w3 [99,111,117,110,116]
def midA:List Tr:=midS.take 6
def rep(c:UInt8)(n:Nat):List Tr:=List.replicate n (sg c)
theorem key3 {ts:List Tk}{t:List UInt8}(h:(ts.map jcy)[0]? = some (w3 t)):keyT ts 0=t:=by
 obtain⟨p,h⟩:=at3 h;unfold keyT;rw[h];rfl
theorem jd8 {us:List Tk}{k:Nat}{w:List UInt8}(h:sees us w k=true)(hw:(∀lv∈sumL,look lv w=none)/\∀lv∈jeB,look lv w=none):Stop us k:=by
 refine⟨λlv hl => ?_,λlv hl => ?_⟩<;>rw[jjw h]
 ·exact hw.1 lv hl
 ·exact hw.2 lv hl
theorem jqw {ts us:List Tk}{d i:Nat}(h:(ts.map jcy)[i]? = (us.map jcy)[i+d]?):Agr ts us d i:=by
 unfold Agr;rw[<- Jy,<- Jy];exact h
theorem pl {L a b c:List Tr}{i k:Nat}(h:L=a++(b++c))(hi:a.length=i)(hk:k<b.length):L[i+k]? = b[k]? := by
 rw[h,<- hi,Q6 (by omega),Uf,K2 hk]
theorem juK {tA tB tF tG:List Tk}{eA eB eF eG:Int}{itoa:Int->List UInt8}{mk:Int->Int->List UInt8}{qA qB q:Qry}{E C:List Tr}{n:Nat}
  (hA:tA.map jcy=sumA::(E++(midA++endS))) (hB:tB.map jcy=cntW::w3 jnz::(1,[116],0)::w3 jgo::(C++endS)) (hF:tF.map jcy=sumA::(E++(midS++(C++endS))))
  (hG:tG.map jcy=sumA::(rep 40 n++(E++(rep 41 n++(midS++(rep 91 n++(C++(rep 93 n++endS))))))))
  (pA:jck tA eA itoa mk=.ok qA) (pB:jck tB eB itoa mk=.ok qB) (pF:jck tF eF itoa mk=.ok q):jck tG eG itoa mk=.ok q\/∃p,jck tG eG itoa mk=.error (4,p):=by
 have hd:deep=260:=rfl
 -- the places of tokens
 have hm7:midS.length=7:=rfl;have r0:∀c,(rep c n).length=n:=λc=>by simp[rep]
 have rg:∀c k,k<n->(rep c n)[k]? = some (sg c):=λc k hk=>by simp[rep,hk]
 have mA:∀k,k<6->(tA.map jcy)[1+E.length+k]? = midA[k]? := λk hk=>pl (a:=sumA::E) hA (Jv _ _) (by simpa[midA,midS]using hk)
 have xA:∀k,k<E.length->(tA.map jcy)[1+k]? = E[k]? := λk hk=>pl (a:=[sumA]) hA rfl hk
 have xB:∀k,k<C.length->(tB.map jcy)[4+k]? = C[k]? := λk hk=>pl (a:=[cntW,w3 jnz,(1,[116],0),w3 jgo]) hB rfl hk
 have mB:(tB.map jcy)[4+C.length]? = some (w3 jhX):=pl (L:=tB.map jcy) (i:=4+C.length) (k:=0) (a:=cntW::w3 jnz::(1,[116],0)::w3 jgo::C) (b:=endS) (c:=[]) (by rw[hB];simp) (by simp;omega) (by decide);have xF:∀k,k<E.length->(tF.map jcy)[1+k]? = E[k]? := λk hk=>pl (a:=[sumA]) hF rfl hk
 have mF:∀k,k<7->(tF.map jcy)[1+E.length+k]? = midS[k]? := λk hk=>pl (a:=sumA::E) hF (Jv _ _) hk
 have yF:∀k,k<C.length->(tF.map jcy)[1+E.length+7+k]? = C[k]? := λk hk=>pl (a:=sumA::(E++midS)) (by rw[hF];simp;rfl) (by simp[hm7];omega) hk
 have zF:∀k,k<5->(tF.map jcy)[1+E.length+7+C.length+k]? = endS[k]? := λk hk=>pl (a:=sumA::(E++midS++C)) (c:=[]) (by rw[hF];simp) (by simp[hm7];omega) hk
 have lF:tF.length=1+E.length+7+C.length+5:=by
  have:=congrArg List.length hF;have h5:endS.length=5:=rfl;simp only[Ju,K0,Kr]at this;omega
 have g1:∀k,k<n->(tG.map jcy)[1+k]? = some (sg 40):=λk hk=>(pl (a:=[sumA]) hG rfl (by rw[r0];exact hk)).trans (rg _ _ hk)
 have g2:∀k,k<E.length->(tG.map jcy)[1+n+k]? = E[k]? := λk hk=>pl (a:=sumA::rep 40 n) hG (by simp[r0];omega) hk
 have g3:∀k,k<n->(tG.map jcy)[1+n+E.length+k]? = some (sg 41):=λk hk=>(pl (a:=sumA::(rep 40 n++E)) (by rw[hG];simp;rfl) (by simp[r0];omega) (by rw[r0];exact hk)).trans (rg _ _ hk)
 have g4:∀k,k<7->(tG.map jcy)[1+n+E.length+n+k]? = midS[k]? := λk hk=>pl (a:=sumA::(rep 40 n++E++rep 41 n)) (by rw[hG];simp;rfl) (by simp[r0];omega) hk
 have g5:∀k,k<n->(tG.map jcy)[1+n+E.length+n+7+k]? = some (sg 91):=λk hk=>(pl (a:=sumA::(rep 40 n++E++rep 41 n++midS)) (by rw[hG];simp;rfl) (by simp[r0,hm7];omega) (by rw[r0];exact hk)).trans (rg _ _ hk)
 have g6:∀k,k<C.length->(tG.map jcy)[1+n+E.length+n+7+n+k]? = C[k]? := λk hk=>pl (a:=sumA::(rep 40 n++E++rep 41 n++midS++rep 91 n)) (by rw[hG];simp;rfl) (by simp[r0,hm7];omega) hk
 have g7:∀k,k<n->(tG.map jcy)[1+n+E.length+n+7+n+C.length+k]? = some (sg 93):=λk hk=>(pl (a:=sumA::(rep 40 n++E++rep 41 n++midS++rep 91 n++C)) (by rw[hG];simp;rfl) (by simp[r0,hm7];omega) (by rw[r0];exact hk)).trans (rg _ _ hk)
 have g8:∀k,k<5->(tG.map jcy)[1+n+E.length+n+7+n+C.length+n+k]? = endS[k]? := λk hk=>pl (a:=sumA::(rep 40 n++E++rep 41 n++midS++rep 91 n++C++rep 93 n)) (c:=[]) (by rw[hG];simp) (by simp[r0,hm7];omega) hk
 have lG:tG.length=1+n+E.length+n+7+n+C.length+n+5:=by
  have:=congrArg List.length hG;have h5:endS.length=5:=rfl;simp only[Ju,K0,Kr,r0]at this;omega
 -- the words
 have sB:(∀lv∈sumL,look lv jdF=none)/\∀lv∈jeB,look lv jdF=none:=by decide
 have sW:(∀lv∈sumL,look lv jhX=none)/\∀lv∈jeB,look lv jhX=none:=by decide
 have s41:(∀lv∈sumL,look lv [41]=none)/\∀lv∈jeB,look lv [41]=none:=by decide
 have s93:(∀lv∈sumL,look lv [93]=none)/\∀lv∈jeB,look lv [93]=none:=by decide
 -- the ends
 have kA:=key3 (ts:=tA) (t:=[115,117,109]) (by rw[hA];rfl);have kF:=key3 (ts:=tF) (t:=[115,117,109]) (by rw[hF];rfl);have kG:=key3 (ts:=tG) (t:=[115,117,109]) (by rw[hG];rfl);have kB:=key3 (ts:=tB) (t:=[99,111,117,110,116]) (by rw[hB];rfl);obtain⟨e,hE,he⟩:=jwZ (ts:=tA) (by rw[kA];decide) pA (m:=1+E.length) (by omega) (jeL (mA 0 (by omega)) (.inl rfl));obtain⟨c,hC,hc⟩:=jth (ts:=tB) (by rw[kB];decide) (jeL (n:=0) (k:=2) (by rw[hB];rfl) (.inl rfl)) pB (m:=4+C.length) (by omega) (jeL mB (.inl rfl))
 -- the query
 have fE:Loc e (1+E.length) (go tF eF deep .expr 0 1):=jec (d:=0) (en:=eA) (en':=eF) deep .expr 0 deep 0 (by omega) (by rw[hd];decide) 1 e (1+E.length) hE (λk h1 h2=>jqw (by
   have a:=xA (k-1) (by omega);have b:=xF (k-1) (by omega);rw[show 1+(k-1)=k by omega]at a b;rw[a,Q5,b])) (.inr (jd8 (jeL (mF 0 (by omega)) (.inl rfl)) sB))
 have fC:Loc c (1+E.length+7+C.length) (go tF eF deep .cond 0 (1+E.length+7)):=by
  have:=jec (d:=E.length+4) (us:=tF) (en:=eB) (en':=eF) deep .cond 0 deep 0 (by omega) (by rw[hd];decide) 4 c (4+C.length) hC (λk h1 h2=>jqw (by
   have a:=xB (k-4) (by omega);have b:=yF (k-4) (by omega);rw[show 4+(k-4)=k by omega]at a
   rw[show 1+E.length+7+(k-4)=k+(E.length+4) by omega]at b;rw[a,b])) (.inr (jd8 (w:=jhX) (by
    rw[show 4+C.length+(E.length+4)=1+E.length+7+C.length+0 by omega];exact jeL (zF 0 (by omega)) (.inl rfl)) sW))
  rw[show 4+C.length+(E.length+4)=1+E.length+7+C.length by omega,show 4+(E.length+4)=1+E.length+7 by omega]at this;exact this
 have hq:q=stdQ itoa e c:=by
  rcases jwg (itoa:=itoa) (mk:=mk) (by rw[kF];decide) fE he mF fC hc zF lF with h|⟨p,h⟩
  ·rw[h]at pF;exact(Except.ok.inj pF).symm
  ·rw[h]at pF;cases pF
 rw[hq]
 -- with parentheses
 have gE:Loc e (1+n+E.length+n) (go tG eG deep .expr 0 1):=by
  refine jlB n 0 1 deep (by omega) (by rw[hd];decide) (λk hk=>jeL (g1 k hk) (.inr rfl)) (λk hk=>jeL (g3 k hk) (.inr rfl)) (jd8 (w:=jdF) (jeL (g4 0 (by omega)) (.inl rfl)) sB) ?_ λo f ho hf => ?_
  ·rcases Jr n with h|h
   ·have:=g4 0 (by omega);rw[show 1+n+E.length+n+0=1+n+E.length by omega]at this;exact jd8 (jeL this (.inl rfl)) sB
   ·exact jd8 (jeL (g3 0 h) (.inr rfl)) s41
  ·have:=jec (d:=n) (us:=tG) (en:=eA) (en':=eG) deep .expr 0 f o ho hf 1 e (1+E.length) hE (λk h1 h2=>jqw (by
    have a:=xA (k-1) (by omega);have b:=g2 (k-1) (by omega);rw[show 1+(k-1)=k by omega]at a;rw[show 1+n+(k-1)=k+n by omega]at b;rw[a,b])) (.inr (by
    rw[show 1+E.length+n=1+n+E.length by omega]
    rcases Jr n with h|h
    ·have:=g4 0 (by omega);rw[show 1+n+E.length+n+0=1+n+E.length by omega]at this;exact jd8 (jeL this (.inl rfl)) sB
    ·exact jd8 (jeL (g3 0 h) (.inr rfl)) s41))
   rw[show 1+E.length+n=1+n+E.length by omega]at this;exact this
 have gC:Loc c (1+n+E.length+n+7+n+C.length+n) (go tG eG deep .cond 0 (1+n+E.length+n+7)):=by
  refine jlC n 0 _ deep (by omega) (by rw[hd];decide) (λk hk=>jeL (g5 k hk) (.inr rfl)) (λk hk=>jeL (g7 k hk) (.inr rfl)) (jd8 (w:=jhX) (jeL (g8 0 (by omega)) (.inl rfl)) sW) ?_ λo f ho hf => ?_
  ·rcases Jr n with h|h
   ·have:=g8 0 (by omega);rw[show 1+n+E.length+n+7+n+C.length+n+0=1+n+E.length+n+7+n+C.length by omega]at this;exact jd8 (jeL this (.inl rfl)) sW
   ·exact jd8 (jeL (g7 0 h) (.inr rfl)) s93
  ·have:=jec (d:=n+E.length+n+4+n) (us:=tG) (en:=eB) (en':=eG) deep .cond 0 f o ho hf 4 c (4+C.length) hC (λk h1 h2=>jqw (by
    have a:=xB (k-4) (by omega);have b:=g6 (k-4) (by omega);rw[show 4+(k-4)=k by omega]at a;rw[show 1+n+E.length+n+7+n+(k-4)=k+(n+E.length+n+4+n) by omega]at b;rw[a,b])) (.inr (by
    rw[show 4+C.length+(n+E.length+n+4+n)=1+n+E.length+n+7+n+C.length by omega]
    rcases Jr n with h|h
    ·have:=g8 0 (by omega);rw[show 1+n+E.length+n+7+n+C.length+n+0=1+n+E.length+n+7+n+C.length by omega]at this;exact jd8 (jeL this (.inl rfl)) sW
    ·exact jd8 (jeL (g7 0 h) (.inr rfl)) s93))
   rw[show 4+C.length+(n+E.length+n+4+n)=1+n+E.length+n+7+n+C.length by omega,show 4+(n+E.length+n+4+n)=1+n+E.length+n+7+n by omega]at this;exact this
 exact jwg (by rw[kG];decide) gE he g4 gC hc g8 lG
end Go.Ab.PP
