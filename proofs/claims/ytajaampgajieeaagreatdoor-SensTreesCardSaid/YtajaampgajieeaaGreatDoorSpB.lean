/- Proved here: what an expression comes to. Conditions: each theorem's own. -/
import Derived.Test.YtajaampgajieeaaGreatDoorSpA
set_option linter.unusedSimpArgs false
set_option maxHeartbeats 16000000
set_option maxRecDepth 1000000
set_option linter.unusedVariables false
set_option linter.unusedSectionVars false
namespace Go.Proofs.YtajaampgajieeaaGreatDoor.W
open Go.Ab
def Ty(k x:Int):Prop:=In64 x/\(k=1->Bit x)
def Tys:List Int->List Int->Prop
 | [],[]=>True
 |k::ks,x::xs=>Ty k x/\Tys ks xs
 |_,_=>False
theorem Tys.len:∀{ks xs:List Int},Tys ks xs->ks.length=xs.length
 | [],[],_=>rfl
 |_::_,_::_,h=>by simp[Tys.len h.2]
 | [],_::_,h=>h.elim
 |_::_,[],h=>h.elim
theorem Tys.app:∀{a x b y:List Int},Tys a x->Tys b y->Tys (a++b) (x++y)
 | [],[],_,_,_,h=>h
 |_::_,_::_,_,_,h,g=>⟨h.1,Tys.app h.2 g⟩
 | [],_::_,_,_,h,_=>h.elim
 |_::_,[],_,_,h,_=>h.elim
theorem Tys.split:∀{a b v:List Int},Tys (a++b) v->∃x y,v=x++y/\Tys a x/\Tys b y
 | [],b,v,h=>⟨[],v,rfl,trivial,h⟩
 |k::a,b,x::v,h=>by
  obtain⟨p,q,rfl,h1,h2⟩:=Tys.split h.2;exact⟨x::p,q,rfl,⟨h.1,h1⟩,h2⟩
 |_::_,_,[],h=>h.elim
theorem jvN {st want ys:List Int}(h:popN st want=some ys):st=ys++want:=by
 unfold popN at h;split at h
 ·rename_i hc;simp only[Ki]at h;rw[<- h,<- hc.2,hc.2]
  conv=>lhs;rw[<- Xg (st.length-want.length) st,hc.2]
 ·simp at h
theorem in01 {x:Int}(h:Bit x):In64 x:=by rcases h with rfl|rfl<;>simp[In64]
theorem jcQ(p:Bool):Bit (bitI p):=by cases p<;>simp[bitI,Bit]
theorem jsk(n:Int):In64 (limI n):=by
 unfold limI In64 maxI minI;split<;>split<;>omega
theorem jsl(a b:Int):In64 (jmg a b):=by
 unfold jmg
 repeat' split
 all_goals first|exact jxl _|(simp[In64])
theorem Tys.one {k:Int}{v:List Int}(h:Tys [k] v):∃x,v=[x]/\Ty k x:=by
 match v,h with
 | [x],h=>exact⟨x,rfl,h.1⟩
theorem Tys.two {k j:Int}{v:List Int}(h:Tys [k,j] v):∃x y,v=[x,y]/\Ty k x/\Ty j y:=by
 match v,h with
 | [x,y],h=>exact⟨x,y,rfl,h.1,h.2.1⟩
theorem Tys.three {k j i:Int}{v:List Int}(h:Tys [k,j,i] v):∃x y z,v=[x,y,z]/\Ty k x/\Ty j y/\Ty i z:=by
 match v,h with
 | [x,y,z],h=>exact⟨x,y,z,rfl,h.1,h.2.1,h.2.2.1⟩
theorem jxm {op:Int}(h1:4<=op)(h2:op<=17){v:List Int}(h:Tys (jbi op).1 v):Ty (jbi op).2 (opV op v):=by
 have ho:op=4\/op=5\/op=6\/op=7\/op=8\/op=9\/op=10\/op=11\/op=12\/op=13\/op=14\/op=15\/op=16\/op=17:=aa
 rcases ho with rfl|rfl|rfl|rfl|rfl|rfl|rfl|rfl|rfl|rfl|rfl|rfl|rfl|rfl
 ·exact⟨jsk _,λe=>by simp[jbi]at e⟩
 ·exact⟨jsk _,λe=>by simp[jbi]at e⟩
 ·exact⟨jsl _ _,λe=>by simp[jbi]at e⟩
 ·exact⟨jxl _,λe=>by simp[jbi]at e⟩
 ·obtain⟨x,y,z,rfl,a,b,c⟩:=Tys.three h;refine⟨?_,λe=>by simp[jbi]at e⟩
  change In64 (if x=1 then y else z)
  split
  ·exact b.1
  ·exact c.1
 ·exact⟨in01 (jcQ _),λ_=>jcQ _⟩
 ·exact⟨in01 (jcQ _),λ_=>jcQ _⟩
 ·exact⟨in01 (jcQ _),λ_=>jcQ _⟩
 ·exact⟨in01 (jcQ _),λ_=>jcQ _⟩
 ·exact⟨in01 (jcQ _),λ_=>jcQ _⟩
 ·exact⟨in01 (jcQ _),λ_=>jcQ _⟩
 ·obtain⟨x,y,rfl,a,b⟩:=Tys.two h;have:Bit (minI x y):=by unfold minI;split;exact b.2 rfl;exact a.2 rfl
  exact⟨in01 this,λ_=>this⟩
 ·obtain⟨x,y,rfl,a,b⟩:=Tys.two h;have:Bit (maxI x y):=by unfold maxI;split;exact b.2 rfl;exact a.2 rfl
  exact⟨in01 this,λ_=>this⟩
 ·obtain⟨x,rfl,a⟩:=Tys.one h;have:Bit (wr (1-x)):=by rcases a.2 rfl with rfl|rfl<;>simp[wr,Bit]<;>decide
  exact⟨in01 this,λ_=>this⟩
theorem jo1 {op:Int}(h1:4<=op)(h2:op<=17):(jbi op).1.length=(arI op).toNat/\1<=arI op/\arI op<=3:=by
 have ho:op=4\/op=5\/op=6\/op=7\/op=8\/op=9\/op=10\/op=11\/op=12\/op=13\/op=14\/op=15\/op=16\/op=17:=aa
 rcases ho with rfl|rfl|rfl|rfl|rfl|rfl|rfl|rfl|rfl|rfl|rfl|rfl|rfl|rfl<;>decide
def jp9(l:List Nd)(i:Nat)(cs:List Col):Int:=jdO (colN cs (gN l (i-1)).col).ws (gN l i).col (colN cs (gN l (i-1)).col).ws.length 0
def jf4(l:List Nd)(i:Nat)(cs:List Col)(xs vs:List Int):List Int :=
 if(gN l i).op=1 then vs++[(gN l i).n]
 else if(gN l i).op=2 then vs++[xs.getD (jbg cs (gN l i).col).toNat 0]
 else if(gN l i).op=3 then vs++[jp9 l i cs]
 else vs.take (vs.length-(arI (gN l i).op).toNat)++[opV (gN l i).op (vs.drop (vs.length-(arI (gN l i).op).toNat))]
def runL(l:List Nd)(cs:List Col)(xs:List Int):Nat->Nat->List Int->List Int
 |0,_,vs=>vs
 |m+1,i,vs=>runL l cs xs m (i+1) (jf4 l i cs xs vs)
def runV(l:List Nd)(cs:List Col)(xs:List Int):Int:=(runL l cs xs l.length 0 []).getD 0 0
theorem jmh(ws:List (List UInt8))(s:List UInt8):∀m i,-1<=jdO ws s m i/\jdO ws s m i<=i+m
 |0,i=>by simp only[jdO];omega
 |m+1,i=>by
  have:=jmh ws s m (i+1);simp only[jdO];split<;>omega
theorem jkO {xs:List Int}(h:∀x∈xs,In64 x)(j:Nat):In64 (xs.getD j 0):=by
 rw[List.getD]
 rcases Ql j xs.length with hj|hj
 ·rw[Kz hj];exact h _ (J7 hj)
 ·rw[Qo hj];simp[In64]
theorem jtW {l:List Nd}{cs:List Col}{m i:Nat}{st:List Int}(h:(jcO l cs (m+1) i st).1=0) :
  jeo l i cs=0/\∃st',popN st (jbi (gN l i).op).1=some st'/\jcO l cs (m+1) i st=jcO l cs m (i+1) (st'++[(jbi (gN l i).op).2]):=by
 simp only[jcO]at h ⊢;by_cases hn:jeo l i cs=0
 ·rw[Kg hn]at h ⊢;refine⟨hn,?_⟩;cases hp:popN st (jbi (gN l i).op).1 with
  |none=>rw[hp]at h;simp at h
  |some st'=>exact⟨st',rfl,by simp only[hp]⟩
 ·rw[Ke hn]at h;exact absurd h hn
theorem jvO {l:List Nd}{i:Nat}{cs:List Col}{xs st st' vs:List Int}(hn:jeo l i cs=0)(hp:popN st (jbi (gN l i).op).1=some st')(ht:Tys st vs)(hx:∀x∈xs,In64 x)(hw:∀nm,(colN cs nm).ws.length<=1000) :
  Tys (st'++[(jbi (gN l i).op).2]) (jf4 l i cs xs vs)/\((gN l i).op=2->0<=jbg cs (gN l i).col)/\((gN l i).op=3->1<=i/\(gN l (i-1)).op=2/\(gN l i).col∈(colN cs (gN l (i-1)).col).ws) /\
  (4<=(gN l i).op->(arI (gN l i).op).toNat<=vs.length/\Tys (jbi (gN l i).op).1 (vs.drop (vs.length-(arI (gN l i).op).toNat))):=by
 obtain⟨o1,o2⟩:=jkN hn;have hst:=jvN hp;subst hst;have hlow:(gN l i).op<=3->jbi (gN l i).op=([],0):=λh=>by unfold jbi;rw[Kg h]
 by_cases h1:(gN l i).op=1
 ·have hn2:0<=(gN l i).n/\(gN l i).n<=1000000000:=by
   unfold jeo at hn;split at hn
   ·simp at hn
   ·split at hn
    ·simp at hn
    ·omega
  refine⟨?_,λh=>aa,λh=>aa,λh=>aa⟩;rw[hlow aa]at ht ⊢;rw[Jb]at ht;unfold jf4;rw[Kg h1];exact ht.app ⟨⟨by unfold In64;omega,λe=>by simp at e⟩,trivial⟩
 by_cases h2:(gN l i).op=2
 ·have hk:0<=jbg cs (gN l i).col:=by
   unfold jeo at hn;split at hn
   ·simp at hn
   ·split at hn
    ·simp at hn
    ·rw[Ke aa]at hn;split at hn
     ·simp at hn
     ·omega
  refine⟨?_,λ_=>hk,λh=>aa,λh=>aa⟩;rw[hlow aa]at ht ⊢;rw[Jb]at ht;unfold jf4;rw[Ke h1,Kg h2];exact ht.app ⟨⟨jkO hx _,λe=>by simp at e⟩,trivial⟩
 by_cases h3:(gN l i).op=3
 ·have hwd:jnw l i cs=0:=by
   unfold jeo at hn;split at hn
   ·simp at hn
   ·split at hn
    ·simp at hn
    ·first|exact hn|rwa[Kg h3]at hn
  have hw3:1<=i/\(gN l (i-1)).op=2/\(gN l i).col∈(colN cs (gN l (i-1)).col).ws:=by
   unfold jnw at hwd;split at hwd
   ·simp at hwd
   ·rename_i hb;split at hwd
    ·simp at hwd
    ·split at hwd
     ·rename_i hm;refine⟨?_,?_,hm⟩
      ·rcases Nat.eq_zero_or_pos i with h|h
       ·exact absurd (.inl h) hb
       ·exact h
      ·exact Jo λh=>hb (.inr (.inl h))
     ·simp at hwd
  refine⟨?_,λh=>aa,λ_=>hw3,λh=>aa⟩;rw[hlow aa]at ht ⊢;rw[Jb]at ht;unfold jf4;rw[Ke h1,Ke h2,Kg h3];have hb:=jmh (colN cs (gN l (i-1)).col).ws (gN l i).col (colN cs (gN l (i-1)).col).ws.length 0;have hw1:=hw (gN l (i-1)).col;exact ht.app ⟨⟨by unfold In64 jp9;omega,λe=>by simp at e⟩,trivial⟩
 obtain⟨a1,a2,a3⟩:=jo1 (op:=(gN l i).op) aa o2;obtain⟨ws,args,rfl,w1,w2⟩:=ht.split;have hl:=w2.len;have e:(ws++args).length-(arI (gN l i).op).toNat=ws.length:=by rw[Kk];omega
 refine⟨?_,λh=>aa,λh=>aa,λ_ => ?_⟩
 ·unfold jf4;rw[Ke h1,Ke h2,Ke h3,e,List.take_left,List.drop_left];exact w1.app ⟨jxm aa o2 w2,trivial⟩
 ·rw[e,List.drop_left];exact⟨by rw[Kk];omega,w2⟩
theorem jzD:env.P.funcs[194]? = some Tryz.f194:=ac
theorem e24:jf1 env 22=some 3:=ac
theorem zn3:jhG env 3=some 1:=ac
theorem by3:bys env 3=some 8:=ac
theorem sz3:sz env 3=some 1:=ac
theorem mb34(r:Nat):env.mutb 194 r=true:=rfl
theorem jkX {T:Tm}(L:List AObj)(ts:List Nat)(x:Operand):opT env true T ⟨L,ts⟩ (.buildSlice 22 1 #[(0,x)])=(jaN env T x).bind λv=>if v.cells.length=1 then some (.hsl L.length 0 1 1 .exact,⟨L++[.cells v.cells 3],ts⟩)else none:=by
 obtain⟨z,hz,hl⟩:∃z,jba env 3=some z/\z.cells.length=1:=⟨.int .i64 0,ac,rfl⟩;unfold opT;simp only[jbK,jbh,jbG,jcH];cases jaN env T x with
 |none=>rfl
 | some v =>
  simp only[K9,Kq,e24,sz3,hz];by_cases hv:v.cells.length=1
  ·have:z.cells.tail=[]:=Q6 (by simp[hl]);simp[jeK,hl,hv,this,S.push,env]
  ·simp[jeK,hv]
abbrev SI(L:List AObj)(sv:V)(vs:List Int):Prop:=StkV L 3 1 sv vs.length (vs.map (V.int .i64))
theorem SI.more {L:List AObj}{sv:V}{vs:List Int}(h:SI L sv vs)(X:List AObj):SI (L++X) sv vs:=h.move λb hb=>by rw[Kj (h.lt hb)]
theorem SI.push {L:List AObj}{sv:V}{vs:List Int}(h:SI L sv vs)(ts:List Nat)(k:Int)(hl:vs.length<=4000) :
  ∃v' L',appO env true ⟨L++[.cells [.int .i64 k] 3],ts⟩ 22 22 sv (.hsl L.length 0 1 1 .exact)=some (v',⟨L',ts⟩)/\SI L' v' (vs++[k])/\(∀q,q<L.length->jdR sv ≠ some q->L'[q]? = L[q]?):=by
 have hlim:lim=2^40:=rfl;have hc:jaV (L++[AObj.cells [V.int IntKind.i64 k] 3]) 1 1 (.hsl L.length 0 1 1 .exact)=some [.int .i64 k]:=by simp[jaV]
 obtain⟨v',L',ha,hs,hk,hlen,hbk⟩:=StkV.push (E:=env) (ts:=ts) (ty:=22) (ty2:=22) (y:=.hsl L.length 0 1 1 .exact) (h.more [AObj.cells [V.int IntKind.i64 k] 3]) e24 sz3 zn3 by3 ⟨3,u24i⟩ aa ⟨by rw[hlim];omega,by rw[hlim];omega⟩ rfl hc rfl rfl
 refine⟨v',L',ha,?_,λq hq hb=>by rw[hk q (by simp;omega) hb,Kj hq]⟩;unfold SI;rw[Kk,Js];exact hs
theorem jsm {cs:List Col}{nm:List UInt8}(h:0<=jbg cs nm):∃j:Nat,jbg cs nm=(j:Int)/\j<cs.length/\colN cs nm=cs.getD j Col.none:=by
 rcases jca cs nm with h1|⟨j,h1,h2,h3,h4⟩
 ·omega
 ·exact⟨j,h1,h2,by unfold colN;rw[Kg h,h1,Qj]⟩
theorem jzE {w:V}{ws:List (List UInt8)}(h:IsW w ws){s:List UInt8}(hs:s∈ws):w=.row (ws.map V.str) ws.length .unk:=by
 rcases h with⟨_,rfl⟩|h
 ·simp at hs
 ·exact h
theorem jqa {l:List Nd}{cs:List Col}{cond:Bool}(hE:jfv l cs cond=0):(jcO l cs l.length 0 []).1=0/\(jcO l cs l.length 0 []).2=[if cond then 1 else 0]/\l.length<=200:=by
 unfold jfv jjp at hE;by_cases h2:200<l.length
 ·rw[Kg h2]at hE;simp at hE
 rw[Ke h2]at hE;by_cases h1:(jcO l cs l.length 0 []).1=0
 ·rw[Kg h1]at hE;by_cases h3:(jcO l cs l.length 0 []).2=[if cond then 1 else 0]
  ·exact⟨h1,h3,aa⟩
  ·rw[Ke h3]at hE;simp at hE
 ·rw[Ke h1]at hE;exact absurd hE h1
theorem jsn {E:Env}{m:Bool}{T:Tm}{U:S}(name:String)(x:Operand):opT E m T U (.makeFunc (.method name) #[x] #[])=(jaN E T x).map λv=>(.meth name v,U):=by
 unfold opT;simp only[jbK];cases jaN E T x<;>rfl
theorem jvP(xv:V):nilO env (.meth "privhouse/span.number" (.iface 201 xv))=some (.meth "privhouse/span.number" (.iface 201 xv)):=ac
theorem jvQ(xv:V):nilO env (.meth "privhouse/span.column" (.iface 201 xv))=some (.meth "privhouse/span.column" (.iface 201 xv)):=ac
theorem jvR(xv:V):nilO env (.meth "privhouse/span.apply" (.iface 201 xv))=some (.meth "privhouse/span.apply" (.iface 201 xv)):=ac
theorem je3:∀l:List Int,V.weak.weakL (l.map (V.int .i64))=l.map (V.int .i64)
 | []=>rfl
 |x::l=>by simp only[K6,V.weak.weakL,V.weak,je3 l]
theorem SI.tail {L:List AObj}{sv:V}{vs:List Int}(h:SI L sv vs)(k:Nat)(hk:k<vs.length):∃b off cap ex,jbN env 22 sv (some (.int .i64 k)) none none=some (.hsl b off (vs.length-k) cap ex)/\jaV L 1 (vs.length-k) (.hsl b off (vs.length-k) cap ex)=some ((vs.drop k).map (V.int .i64)):=by
 obtain⟨hl,⟨rfl,h0⟩|⟨b,cap,cs,rfl,hbk,h1,h2,h3⟩⟩:=h
 ·omega
 ·refine⟨b,0+k*1,cap-k,(HCap.grow 1).cut 1,?_,?_⟩
  ·have h5:(k:Int)<=(vs.length:Int):=by omega
   have hc:k<cap\/k=0:=aa;simp[jbN,u24i,sz3,jcM,ja0,Nat.le_of_lt hk,hc]
  ·simp only[jaV,hbk];rw[Kg aa,List.map_drop,<- h3,List.drop_take];simp
theorem jxn {v:V}{xs:List Int}(h:IsI v xs):v.weak=v:=by
 rcases h with⟨rfl,_⟩|rfl|rfl
 ·rfl
 ·simp only[V.weak,je3,RCap.weak]
 ·simp only[V.weak,je3,RCap.weak]
theorem jqb(xv:V)(xs:List Int)(hx:IsI xv xs)(op:Int)(h1:4<=op)(h2:op<=17)(a:List Int)(ha:Tys (jbi op).1 a)(q e w:Nat)(U:S) :
  jah env (ev env) 383 [xv,.int .i64 op,.row (a.map (V.int .i64)) a.length (.tok q e w)] U=some (.int .i64 (opV op a),U):=by
 have hxc:=closed_I hx
 have hwk:[xv,V.int .i64 op,V.row (a.map (V.int .i64)) a.length (.tok q e w)].map V.weak=[xv,V.int .i64 op,V.row (a.map (V.int .i64)) a.length .unk]:=by
  simp only[K6,J5,jxn hx,V.weak,je3,RCap.weak]
 have hcl:=jsj a;rw[jgl rfl rfl (by simp[V.closed,V.closed.closedL]) (by rw[hwk];simp only[Ks,hxc,hcl,Qn];rfl),hwk];by_cases h7:op=7
 ·subst h7;obtain⟨x,rfl,p⟩:=Tys.one ha;exact jiS xv hxc 7 (.inl rfl) x U
 by_cases h17:op=17
 ·subst h17;obtain⟨x,rfl,p⟩:=Tys.one ha;exact jiS xv hxc 17 (.inr rfl) x U
 by_cases h8:op=8
 ·subst h8;obtain⟨x,y,z,rfl,p,p2,p3⟩:=Tys.three ha;exact jnP xv hxc x y z (p.2 rfl) U
 obtain⟨k1,k2,hk,hkb⟩:∃k1 k2,(jbi op).1=[k1,k2]/\(op=15\/op=16->k1=1/\k2=1):=by
  have ho:op=4\/op=5\/op=6\/op=9\/op=10\/op=11\/op=12\/op=13\/op=14\/op=15\/op=16:=aa
  rcases ho with rfl|rfl|rfl|rfl|rfl|rfl|rfl|rfl|rfl|rfl|rfl<;>exact⟨_,_,rfl,af⟩
 rw[hk]at ha;obtain⟨x,y,rfl,p,p2⟩:=Tys.two ha;exact jnO xv hxc op ⟨h1,h2,h7,h8,h17⟩ x y p2.1 (λh=>⟨p.2 (hkb h).1,p2.2 (hkb h).2⟩) U
theorem jtX(E:Env)(t:TypeId)(x:Operand)(lo hi mx:Option Operand):scOp E (.slice t x lo hi mx)=false:=rfl
theorem jtY(t:TypeId)(x:Operand)(lo hi mx:Option Operand):jaP (.slice t x lo hi mx)=false:=rfl
theorem jxo(E:Env)(x:Operand):scOp E (.nilCheck x)=false:=rfl
theorem jxp(x:Operand):jaP (.nilCheck x)=false:=rfl
theorem jxq(E:Env)(f:Fn)(a b:Array Operand):scOp E (.makeFunc f a b)=false:=rfl
theorem jxr(f:Fn)(a b:Array Operand):jaP (.makeFunc f a b)=false:=rfl
theorem jiF(t:TypeId)(n:Nat)(ps:Array (Nat × Operand)):jaP (.buildSlice t n ps)=false:=rfl
theorem jtZ(v:V)(l:List Nd)(hv:IsN v l)(hl:l.length<=1000)(cv:V)(cs:List Col)(hc:IsC cv cs)(ok:OkC cs)(hcl:cs.length<=1000)(hw:∀nm,(colN cs nm).ws.length<=1000)(xv:V)(xs:List Int)(hx:IsI xv xs)(hxl:xs.length=cs.length)(hin:∀x∈xs,In64 x)(cond:Bool)(hE:jfv l cs cond=0)(U:S) :
  jah env (ev env) 194 [v,cv,.iface 201 xv] U=some (.int .i64 (runV l cs xs),U):=by
 have hxc':=closed_I hx;refine jaj (by simp[V.closed,V.closed.closedL,ja9 hc ok,jei hv,hxc']) jzD rfl ?_ U;have hR0:=jqa hE;unfold runV;generalize hR:jcO l cs l.length 0 []=R at hR0;obtain⟨r1,r2,_⟩:=hR0;generalize hW:runL l cs xs l.length 0 []=W;simp only[Tryz.f194,simprocAttr,zK,Vq,tysn,jai,jty hv]
 refine jau (λm T D U=>D=[]/\T 0=v/\T 1=cv/\T 2=.iface 201 xv/\T 11=v/\T 12=.int .i64 l.length/\∃(L:List AObj) (ts:List Nat) (i:Nat) (st vs:List Int) (sv:V),U=⟨L,ts⟩/\T 7=sv/\SI L sv vs/\Tys st vs /\
  T 13=.int .i64 i/\i<=l.length/\m=l.length-i/\vs.length<=i/\jcO l cs (l.length-i) i st=R/\runL l cs xs (l.length-i) i vs=W) ?_ (l.length-0) _ _ _ ⟨rfl,rfl,rfl,rfl,rfl,rfl,[],[],0,[],[],.nilsl,rfl,rfl,.nil _ _ _,trivial,rfl,aa,rfl,ae,hR,hW⟩
 clear hR hW;rintro m T D U ⟨rfl,t0,t1,t2,t11,t12,L,ts,i,st,vs,sv,rfl,t7,hS,hT,t13,hi,rfl,hvl,hR,hW⟩;refine jaC ?_;by_cases hlt:i<l.length
 ·have c1:(i:Int)<(l.length:Int):=by omega
  have e1:IntKind.i64.wrap ((i:Int)+1)=((i+1:Nat):Int):=by rw[wrap_i64 aa aa];omega
  have hxn:=jl0 hv hlt
  change jaw 3 v (.int .i64 i)=some (.rptr (.int .i64 (gN l i).op::.int .i64 (gN l i).n::.str (gN l i).col::_))at hxn
  have hobj:(AObj.cells [V.int IntKind.i64 (gN l i).op,V.int IntKind.i64 (gN l i).n,V.str (gN l i).col] 84)=objN (gN l i):=rfl;obtain⟨q,hq⟩:∃q,l.length-i=q+1:=⟨l.length-i-1,aa⟩;have hq2:q=l.length-(i+1):=aa;rw[hq]at hR hW;obtain⟨hn,st',hp,hstep⟩:=jtW (hR ▸ r1);rw[hR]at hstep;obtain⟨hT2,s2,s3,s4⟩:=jvO hn hp hT hin hw;simp only[runL]at hW;obtain⟨o1,o2⟩:=jkN hn;have hS1:=hS.more [objN (gN l i)]
  have fin:∀(v':V) (L':List AObj) (ts':List Nat),SI L' v' (jf4 l i cs xs vs)->(jf4 l i cs xs vs).length<=i+1 ->
    ∃m',m'<l.length-i/\∃(L:List AObj) (ts_1:List Nat) (i_1:Nat) (st vs:List Int) (sv:V),(⟨L',ts'⟩:S)=⟨L,ts_1⟩/\v'=sv/\SI L sv vs/\Tys st vs/\V.int .i64 ((i+1:Nat):Int)=.int .i64 i_1/\i_1<=l.length/\m'=l.length-i_1/\vs.length<=i_1/\jcO l cs (l.length-i_1) i_1 st=R/\runL l cs xs (l.length-i_1) i_1 vs=W :=
   λv' L' ts' hS' hln=>⟨l.length-(i+1),aa,L',ts',i+1,_,_,v',rfl,rfl,hS',hT2,rfl,aa,rfl,hln,by rw[<- hq2,<- hstep],by rw[<- hq2];exact hW⟩
  have ld1:=jgL (gN l i);have ld2:=ld_n (gN l i);have ld3:=jgc (gN l i);by_cases h1:(gN l i).op=1
  ·have g1:(((gN l i).op:Int)=1)=True:=eq_true h1;have hstv:jf4 l i cs xs vs=vs++[(gN l i).n]:=by unfold jf4;rw[Kg h1]
   obtain⟨v',L',hA,hS',_⟩:=hS1.push ts (gN l i).n aa;have hN:=jiT xv hxc' (gN l i).n;simp only[simprocAttr,zK,K0,jaa,tysn,t0,t1,t2,t7,t11,t12,t13,c1,e1,hxn,jd0,YW,jac,jae,hobj,jan,jad,ld1,ld2,g1,jfP,jo0,hN,jkX,hA,mb34];exact fin v' L' _ (by rw[hstv];exact hS') (by rw[hstv];simp;omega)
  have g1:(((gN l i).op:Int)=1)=False:=eq_false h1;by_cases h2:(gN l i).op=2
  ·have g2:(((gN l i).op:Int)=2)=True:=eq_true h2;have hstv:jf4 l i cs xs vs=vs++[xs.getD (jbg cs (gN l i).col).toNat 0]:=by unfold jf4;rw[Ke h1,Kg h2]
   obtain⟨j,k1,k2,k3⟩:=jsm (s2 h2);rw[k1,Qj]at hstv;have hK:=jeY cv cs hc ok hcl (gN l i).col;rw[k1]at hK;have hN:=jnT xv xs hx j aa;obtain⟨v',L',hA,hS',_⟩:=hS1.push ts (xs.getD j 0) aa;simp only[simprocAttr,zK,K0,jaa,tysn,t0,t1,t2,t7,t11,t12,t13,c1,e1,hxn,jd0,YW,jac,jae,hobj,jan,jad,ld1,ld2,ld3,g1,g2,jfP,jtU,jsn,jaf,jvQ,hN,hK,jkX,hA,mb34];exact⟨ac,fin v' L' _ (by rw[hstv];exact hS') (by rw[hstv];simp;omega)⟩
  have g2:(((gN l i).op:Int)=2)=False:=eq_false h2;by_cases h3:(gN l i).op=3
  ·have g3:(((gN l i).op:Int)=3)=True:=eq_true h3;have hstv:jf4 l i cs xs vs=vs++[jp9 l i cs]:=by unfold jf4;rw[Ke h1,Ke h2,Kg h3]
   obtain⟨w1,w2,w3⟩:=s3 h3;have e0:IntKind.i64.wrap ((i:Int)-1)=((i-1:Nat):Int):=by rw[wrap_i64 aa aa];omega
   have hxp:=jl0 hv (show i-1<l.length by omega)
   change jaw 3 v (.int .i64 ((i-1:Nat):Int))=some (.rptr (.int .i64 (gN l (i-1)).op::.int .i64 (gN l (i-1)).n::.str (gN l (i-1)).col::_))at hxp
   have hk0:0<=jbg cs (gN l (i-1)).col:=Jo λh=>by unfold colN at w3;rw[Ke h]at w3;simp[Col.none]at w3
   obtain⟨j,k1,k2,k3⟩:=jsm hk0;have hK:=jeY cv cs hc ok hcl (gN l (i-1)).col;rw[k1]at hK;have hxc:=jel hc k2;have hWr:=jzE (jgK ok (gN l (i-1)).col) w3;have hP:=λU=>jb6 (f:=234) rfl (jgn (colN cs (gN l (i-1)).col).ws .unk (by intros;simp) (hw _) (gN l i).col) (ev env) U
   rw[<- hWr]at hP;rw[<- k3]at hxc
   change ∀U,_=some (V.int .i64 (jp9 l i cs),U)at hP
   have hN:=jiT xv hxc' (jp9 l i cs);obtain⟨v',L',hA,hS',_⟩:=hS1.push ts (jp9 l i cs) aa;simp only[simprocAttr,zK,K0,jaa,tysn,tys2,t0,t1,t2,t7,t11,t12,t13,c1,e1,e0,hxn,hxp,hxc,jaq,jd0,YW,jac,jae,hobj,jan,jad,ld1,ld2,ld3,g1,g2,g3,jfP,jo0,jsn,jaf,jvP,hN,hK,hP,jkX,hA,mb34];exact⟨ac,fin v' L' _ (by rw[hstv];exact hS') (by rw[hstv];simp;omega)⟩
  have g3:(((gN l i).op:Int)=3)=False:=eq_false h3;have o4:4<=(gN l i).op:=aa;obtain⟨a1,a2⟩:=s4 o4;obtain⟨_,b1,b2⟩:=jo1 o4 o2;have hA0:=jp8 (gN l i).op;generalize hk:(arI (gN l i).op).toNat=k at *;have hki:arI (gN l i).op=(k:Int):=aa;rw[hki]at hA0;have hstv:jf4 l i cs xs vs=vs.take (vs.length-k)++[opV (gN l i).op (vs.drop (vs.length-k))]:=by unfold jf4;rw[Ke h1,Ke h2,Ke h3,hk]
  have hlen:=hS1.len 3;have e5:IntKind.i64.wrap ((vs.length:Int)-(k:Int))=((vs.length-k:Nat):Int):=by rw[wrap_i64 aa aa];omega
  obtain⟨b,off,cap,ex,hsl,hvc⟩:=hS1.tail (vs.length-k) aa;have hlk:vs.length-(vs.length-k)=k:=aa;rw[hlk]at hsl hvc;have hdl:(vs.drop (vs.length-k)).length=k:=by rw[Jy];omega
  have hCl:=jhf b off k cap ex (vs.drop (vs.length-k)) (L++[objN (gN l i)]) ts hdl aa aa hvc;obtain⟨v1,hcut,hS2,hb2⟩:=StkV.cut (E:=env) hS1 u24i sz3 (vs.length-k) aa none (.inl rfl)
  have hS2:SI (L++[objN (gN l i)]) v1 (vs.take (vs.length-k)):=by
   unfold SI;rw[Qx,Xt aa,U4];simpa using hS2
  have hap:=jqb xv xs hx (gN l i).op o4 o2 (vs.drop (vs.length-k)) a2 ts.length 0 1;rw[hdl]at hap;obtain⟨v',L',hA,hS',hkeep⟩:=hS2.push (ts++[0]) (opV (gN l i).op (vs.drop (vs.length-k))) (by rw[Qx];omega);simp only[simprocAttr,zK,K0,jaa,tysn,t0,t1,t2,t7,t11,t12,t13,c1,e1,hxn,jd0,YW,jac,jae,hobj,jan,jad,ld1,ld2,ld3,g1,g2,g3,hA0,hlen,e5,mb34];refine jcI rfl (λs=>s.heap[L.length]? = some (objN (gN l i))) (jad _ _) ac ?_;simp only[simprocAttr,zK,K0,jaa,tysn,t0,t1,t2,t7,t11,t12,t13,c1,e1,jd0,YW,jac,jae,hobj,jan,jad,ld1,ld2,ld3,jbO,jbP,jbT,hcut,hsl,hCl,jfP,jtV,jsn,jaf,jvR,hap,jkX,hA,mb34,jtX,jtY,jxo,jxp,jxq,jxr,jiF,jdG,jdH,jbs,jck,jdI,jdJ,jbt,jcl,jdK,jbH]
  have hkp:L'[L.length]? = some (objN (gN l i)):=by
   rw[hkeep L.length ae (by rw[hb2];intro e;have:=hS.lt e;omega)];exact jad _ _
  refine⟨λs hs=>by rw[hs];exact ld1,λ_=>trivial,λ_=>trivial,λ_=>by rw[Kj ae];exact jad _ _,λ_=>hkp,?_⟩;exact fin v' L' _ (by rw[hstv];exact hS') (by rw[hstv,Kk,Qx];simp;omega)
 ·have hil:i=l.length:=by omega
  subst hil;have c1:¬(l.length:Int)<(l.length:Int):=aa;rw[Xn]at hR hW;simp only[jcO]at hR;simp only[runL]at hW;subst hR hW;have hlen:vs.length=1:=by rw[<- hT.len];simp only at r2;rw[r2];rfl
  obtain⟨p,hp,hpl⟩:=jrS hS.rd (show 0<vs.length by omega);have hp:jaw 1 sv (.int .i64 0)=some p:=hp;simp only[simprocAttr,zK,K0,jaa,tysn,t0,t1,t2,t7,t11,t12,t13,c1,Uk,hp,hpl];rfl
theorem jzF:env.P.funcs[126]? = some Tryz.f126:=ac
structure Fine (v:V) (l:List Nd) (cv:V) (cs:List Col):Prop where
 hv:IsN v l
 hl:l.length<=1000
 hc:IsC cv cs
 ok:OkC cs
 hcl:cs.length<=1000
 hs:∀i,i<cs.length->jdL (cs.getD i Col.none)
theorem Fine.hw {v:V}{l:List Nd}{cv:V}{cs:List Col}(h:Fine v l cv cs)(nm:List UInt8):(colN cs nm).ws.length<=1000:=by
 unfold colN
 rcases jca cs nm with e|⟨j,e,hj,_⟩
 ·rw[e,Ke aa];simp[Col.none]
 ·rw[e,Kg aa,Qj];exact(h.hs j hj).2.1
structure FineI (xv:V) (xs:List Int):Prop where
 hx:IsI xv xs
 hxl:xs.length<=1000
 hin:∀x∈xs,In64 x
def jvS(l:List Nd)(cs:List Col)(xs:List Int)(cond:Bool):Prop:=Acc l cs cond/\Fits cs xs
open Classical in
noncomputable def valueV(l:List Nd)(cs:List Col)(xs:List Int):Int:=if jvS l cs xs false then runV l cs xs else 0
open Classical in
noncomputable def holdsV(l:List Nd)(cs:List Col)(xs:List Int):Bool:=if jvS l cs xs true then decide (runV l cs xs=1)else false
theorem jvT {E:Env}{m:Bool}{T:Tm}{U:S}(t:TypeId)(x:Operand){d:TypeDesc}(hu:E.P.underlying t=some d)(hd:∀a,d ≠ .interface a):opT E m T U (.makeInterface t x)=(jaN E T x).map λv=>(.iface t v,U):=by
 unfold opT;simp only[jbK];cases jaN E T x with
 |none=>rfl
 |some v =>
  simp only[K9,Kq];rw[hu];cases d<;>first|rfl|exact absurd rfl (hd _)
theorem jxs {m:Bool}{T:Tm}{U:S}(x:Operand):opT env m T U (.makeInterface 201 x)=(jaN env T x).map λv=>(.iface 201 v,U):=jvT 201 x u62 (by intros;simp)
section
variable {v:V}{l:List Nd}{cv:V}{cs:List Col}{xv:V}{xs:List Int}
open Classical in
theorem holds_call(F:Fine v l cv cs)(G:FineI xv xs)(U:S):jah env (ev env) 126 [v,cv,xv] U=some (.bool (holdsV l cs xs),U):=by
 refine jaj (by simp[V.closed,V.closed.closedL,ja9 F.hc F.ok,jei F.hv,closed_I G.hx]) jzF rfl ?_ U;have hA:=jkW v l F.hv (Jp F.hl aa) cv cs F.hc F.ok F.hcl F.hs true;have hF:=jsh cv cs F.hc F.ok F.hcl xv xs G.hx (Jp G.hxl aa);unfold holdsV jvS;by_cases h1:Acc l cs true
 ·rw[decide_eq_true h1]at hA;by_cases h2:Fits cs xs
  ·rw[Kg ⟨h1,h2⟩];rw[decide_eq_true h2]at hF;have hR:=jtZ v l F.hv F.hl cv cs F.hc F.ok F.hcl F.hw xv xs G.hx h2.1 G.hin true h1.1;by_cases h3:runV l cs xs=1
   ·have g3:((runV l cs xs:Int)=1)=True:=eq_true h3;simp only[Tryz.f126,simprocAttr,zK,Vq,tysn,jai,hA,hF,hR,jxs,g3];rfl
   ·have g3:((runV l cs xs:Int)=1)=False:=eq_false h3;simp only[Tryz.f126,simprocAttr,zK,Vq,tysn,jai,hA,hF,hR,jxs,g3];rfl
  ·rw[Ke (λh=>h2 h.2)];rw[decide_eq_false h2]at hF;simp only[Tryz.f126,simprocAttr,zK,Vq,tysn,jai,hA,hF];rfl
 ·rw[Ke (λh=>h1 h.1)];rw[decide_eq_false h1]at hA;simp only[Tryz.f126,simprocAttr,zK,Vq,tysn,jai,hA];rfl
end
end Go.Proofs.YtajaampgajieeaaGreatDoor.W
