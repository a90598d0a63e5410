/- Proved here: what iterators give: rows filtered, kept. Conditions: each theorem's own. -/
import Derived.Test.YtajaampgajieeaaGreatDoorTbA
set_option linter.unusedSimpArgs false
set_option maxHeartbeats 16000000
set_option maxRecDepth 1000000
set_option linter.unusedVariables false
set_option linter.unusedSectionVars false
namespace Go.Proofs.YtajaampgajieeaaGreatDoor.B
open Go.Ab
def rngC:Code->Option (Code × Code)
 | .rangeFunc _ _ a b=>some (a,b)
 | .block _ c=>rngC c
 | .seq a b=>(rngC a).or (rngC b)
 | .cond _ a b=>(rngC a).or (rngC b)
 | .loop c=>rngC c
 | .scope c=>rngC c
 |_=>none
def asgR(c:Code):Code:=match rngC c with|some (a,_)=>a|none=>.skip
def bodR(c:Code):Code:=match rngC c with|some (_,b)=>b|none=>.skip
theorem jgR {f:FuncId}{args:List V}{U U':S}{v:V}(h:jah env (ev env) f args U=some (v,U'))(hp:env.pure f=false:=by rfl)(hk:env.hook f=none:=by rfl):ev env (.call f args U)=some ⟨.ret,[v],[],U'⟩:=by
 unfold jah at h;simp only[hk,hp,Ku,Kn]at h;split at h
 ·rename_i v0 U0 he;simp only[Ki,Qg]at h;obtain⟨rfl,rfl⟩:=h;exact he
 ·simp at h
def rowV(r:Rw):V:=.agg [.int .i64 r.own,r.vv]
theorem jqd(a b:V):rowO env 60 1 [(0,.agg [a,b])]=some (.row [a,b] 1 .full):=ac
def PC(c:Nat)(lo:AObj)(base:Nat)(ws:List Rw)(U:S):Prop :=
 base<=U.toks.length/\∃u,U.heap[c]? = some (.cells [u] 60)/\U.heap[c+1]? = some (.defd true)/\U.heap[c+2]? = some lo/\GrowV base U.toks 2 u ws.length (jcr ws)/\(ws=[]->u=.nilsl)
theorem jsq {c base:Nat}{lo:AObj}{T:Tm}{tmps:List V}(hr:Rep 13 T tmps)(hlo:lo=.loop .ready none 207 tmps #[7] (asgR (jaz Tryz.f207)) (bodR (jaz Tryz.f207)) (c+1))(t2:T 2=.ptr c 0)
  {ws:List Rw} {r:Rw} (hrc:r.vv.isCell=true) (hl:ws.length<=1000000) {U:S} (hP:PC c lo base ws U) :
  ∃U',jeL env (ev env) (.yld (c+2)) [rowV r] U=some (.bool true,U')/\PC c lo base (ws++[r]) U'/\Chg (λj=>j=c\/j=c+2) U.heap U'.heap:=by
 obtain⟨L,ts⟩:=U;obtain⟨hb,u,p1,p2,p3,g,g0⟩:=hP;simp only at hb p1 p2 p3 g;have hlim:lim=2^40:=rfl;have hlt:=jao p3;refine jfQ hlo p3 hr rfl ae ?_;intro lb hlb;clear hlb hlo hr;obtain⟨o,vv,vs⟩:=r;simp only at hrc;have q0:(L++[AObj.cells [.int .i64 o,vv] 70])[c+2]? = some lo:=jaE p3 _;have q1:((L++[AObj.cells [.int .i64 o,vv] 70]).set (c+2) lb)[c]? = some (.cells [u] 60):=by rw[Kh aa];exact jaE p1 _
 obtain⟨v',ts',hA,g',xE⟩:=GrowV.push (E:=env) (hp:=(L++[AObj.cells [.int .i64 o,vv] 70]).set (c+2) lb) (q:=.full) (new:=[.int .i64 o,vv]) eR ⟨70,eR.slice⟩ g hb rfl (by simp only[Ks,Qn,jac,hrc,K8]) ⟨by rw[hlim];omega,by rw[hlim];omega⟩;obtain⟨gc1,gc2⟩:=g'.cells;have ld:jab ((L++[AObj.cells [.int .i64 o,vv] 70]).set (c+2) lb) 2 (.ptr L.length 0)=some [.int .i64 o,vv]:=ld2 (by rw[Kh aa];exact jad _ _)
 have q2:(((L++[AObj.cells [.int .i64 o,vv] 70]).set (c+2) lb).set c (.cells [v'] 60))[c+2]? = some lb:=by
  rw[Kh aa];exact Km (by simp;omega)
 refine jaC ?_;simp only[asgR,bodR,rngC,jaz,Tryz.f207,Kr,Option.or,rowV];simp only[simprocAttr,zK,K0,jaa,tyb,Vr,Ua,K2,jac,hrc,q0,t2,q1,ld,jar,jqd,hA,gc1,gc2];refine⟨q2,?_,?_⟩
 ·have s0:∀(H:List AObj) (o1 o2 o3:AObj),c+2<H.length->(((H.set (c+2) o1).set c o2).set (c+2) o3)[c]? = some o2/\(((H.set (c+2) o1).set c o2).set (c+2) o3)[c+1]? = H[c+1]? /\ (((H.set (c+2) o1).set c o2).set (c+2) o3)[c+2]? = some o3:=λH o1 o2 o3 hH=>by
   refine⟨?_,?_,?_⟩
   ·rw[Kh aa];exact Km (by simp;omega)
   ·rw[Kh aa,Kh aa,Kh aa]
   ·exact Km (by simp;omega)
  obtain⟨a1,a2,a3⟩:=s0 (L++[AObj.cells [.int .i64 o,vv] 70]) lb (.cells [v'] 60) lo (by simp;omega);refine⟨Jp hb xE.1,v',a1,a2.trans (jaE p2 _),a3,?_,λh=>absurd h ae⟩;rw[jfA,Kk];exact g'
 ·refine⟨ae,λj hj hc => ?_⟩;simp only[not_or]at hc;rw[Kh aa,Kh aa,Kh aa,Kj hj]
theorem jh3 {α β:Type}{f:α->β}{ws:List α}{pre post:List β}{x:β}(d:α)(h:ws.map f=pre++x::post):pre.length<ws.length/\x=f (ws.getD pre.length d):=by
 have hl:ws.length=pre.length+(post.length+1):=by
  have:=congrArg List.length h;simpa using this
 refine⟨aa,?_⟩;have h2:(ws.map f)[pre.length]? = some x:=by rw[h];simp
 rw[J9,Kz aa]at h2;simp only[K9,Ki]at h2;rw[<- h2];simp[List.getD,show pre.length<ws.length by omega]
theorem jnX {g:V}{D I:Nat->Prop}{P:List AObj->Prop}{ws:List Rw}(hs:Seqs env g D I P (ws.map rowV))(hc:∀r∈ws,r.vv.isCell=true)(hl:ws.length<=1000000){L:List AObj}{ts:List Nat}(hP:P L)(hD:∀j,D j->j<L.length) :
  ∃u U',jah env (ev env) 207 [.nilsl,g] ⟨L,ts⟩=some (u,U')/\GrowV ts.length U'.toks 2 u ws.length (jcr ws)/\(ws=[]->u=.nilsl):=by
 obtain⟨hsub,hstay,fid,first,cap,rfl,hcall⟩:=hs;refine jaD jz0 rfl ?_;simp only[Tryz.f207,simprocAttr,zK,Vq,tyb];refine jkE rfl ?_;simp only[Kk,Ju];intro tmps lo lx hr hlo hlx;obtain⟨c,hcL⟩:∃c,c=L.length:=⟨_,rfl⟩;rw[<- hcL]at hr hlo hlx;simp only[<- hcL];have z0:(L++[AObj.cells [.nilsl] 60]++[AObj.defd true,lo])[c]? = some (.cells [.nilsl] 60):=by subst hcL;simp
 have z1:(L++[AObj.cells [.nilsl] 60]++[AObj.defd true,lo])[c+1]? = some (.defd true):=by subst hcL;simp
 have z2:(L++[AObj.cells [.nilsl] 60]++[AObj.defd true,lo])[c+2]? = some lo:=by subst hcL;simp
 have hrep:∀pre:List V,ws.take pre.length=ws.take pre.length:=λ_=>rfl
 obtain⟨w,U2,h1,h2,h3⟩:=hcall (c+3) (c+2) (λj=>j=c\/j=c+2) (λpre U=>PC c lo ts.length (ws.take pre.length) U) ⟨L++[AObj.cells [.nilsl] 60]++[AObj.defd true,lo],ts⟩
  (hstay L _ hP λj hj=>by rw[K7,Kj (hD j hj)]) (λj hj=>by have:=hD j hj;omega)
  (λj hj=>by
   refine⟨λhd => ?_,aa⟩;have:=hD j hd;omega) (by simp;omega)
  ⟨λpre x post U hx hM hR=>by
   obtain⟨hk,rfl⟩:=jh3 Rw.none hx;have hmem:ws.getD pre.length Rw.none∈ws:=by simp[List.getD,hk]
   obtain⟨U',a,b,d⟩:=jsq hr hlo rfl (hc _ hmem) (by rw[Qx];omega) hR;refine⟨U',a,?_,d⟩;rw[Kk,Ju,take_next Rw.none hk];exact b,λpre U U' hR ht hM hle hag=>by
   obtain⟨b0,u,b1,b2,b3,b4,b5⟩:=hR;have nI:∀j,c<=j->¬I j:=λj hj hi=>by have:=hD j (hsub j hi);omega
   exact⟨by rw[ht];exact b0,u,by rw[hag c aa (nI _ aa)];exact b1,by rw[hag _ aa (nI _ aa)];exact b2,by rw[hag _ aa (nI _ aa)];exact b3,by rw[ht];exact b4,b5⟩⟩
  ⟨Kw _,.nilsl,z0,z1,z2,.nil,λ_=>rfl⟩
 have hfull:ws.take (ws.map rowV).length=ws:=by rw[Qw,Jh]
 rw[hfull]at h2;obtain⟨b0,u,b1,b2,b3,b4,b5⟩:=h2;obtain⟨L2,ts2⟩:=U2;simp only at b0 b1 b2 b3 b4;have e1:(L2.set (c+2) lx)[c]? = some (.cells [u] 60):=by rw[Kh aa];exact b1
 have e2:(L2.set (c+2) lx)[c+1]? = some (.defd true):=by rw[Kh aa];exact b2
 refine⟨w,⟨L2,ts2⟩,h1,b3,?_⟩;simp only[simprocAttr,zK,K0,jaa,tyb,e1,wpR,jdk,e2];exact⟨b4,b5⟩
theorem jmq {g:V}{D I:Nat->Prop}{P:List AObj->Prop}{ws:List Rw}(hs:Seqs env g D I P (ws.map rowV))(hc:∀r∈ws,r.vv.isCell=true)(hl:ws.length<=1000000){L:List AObj}{ts:List Nat}(hP:P L)(hD:∀j,D j->j<L.length) :
  ∃u U',jah env (ev env) 127 [g] ⟨L,ts⟩=some (u,U')/\GrowV ts.length U'.toks 2 u ws.length (jcr ws)/\(ws=[]->u=.nilsl):=by
 obtain⟨u,U',h1,h2⟩:=jnX hs hc hl (ts:=ts) hP hD;refine jaD jzS rfl ?_;simp only[Tryz.f127,simprocAttr,zK,Vq,tyb,h1];exact h2
theorem jnY(rv:V)(hc:rv.cells=[rv]/\rv.isCell=true)(L:List AObj)(ts:List Nat):jah env (ev env) 119 [rv] ⟨L,ts⟩=some (.func 196 [] [.ptr L.length 0],⟨L++[.cells [rv] 60],ts⟩):=by
 obtain⟨h1,h2⟩:=hc;refine jaL jzN rfl ?_;simp only[Tryz.f119,simprocAttr,zK,Vq,tyb,h1];exact⟨rfl,trivial⟩
theorem jk1 {α β:Type}{f:α->β}{l:List α}{i:Nat}(d:α)(h:i<l.length):l.map f=(l.map f).take i++f (l.getD i d)::(l.map f).drop (i+1):=by
 have e:(l.map f).drop i=f (l.getD i d)::(l.map f).drop (i+1):=by
  rw[Qk (by simpa using h)];simp[List.getD,h]
 rw[<- e,Xg]
theorem jk2 {α β:Type}{f:α->β}{l:List α}{i:Nat}(d:α)(h:i<l.length):(l.map f).take (i+1)=(l.map f).take i++[f (l.getD i d)]:=by
 rw[<- U4,<- U4,take_next d h];simp
theorem jqe {rv:V}{ws:List Rw}(hR:IsR rv ws)(hc:∀r∈ws,r.vv.isCell=true)(hl:ws.length<=1000000)(c:Nat):Seqs env (.func 196 [] [.ptr c 0]) (λj=>j=c) (λ_=>False) (λH=>H[c]? = some (.cells [rv] 60)) (ws.map rowV) where
 sub:=λj h=>h.elim
 stay:=λH H' h hs=>by rw[hs c rfl];exact h
 call:=by
  refine⟨196,[],[.ptr c 0],rfl,?_⟩;intro M l C R U hP hD hC hM hT hR0
  have key:∃v U',jah env (ev env) 196 [.yld l,.ptr c 0] U=some (v,U')/\(R (ws.map rowV) U'/\Chg (λj=>C j\/False) U.heap U'.heap):=by
   obtain⟨L0,ts0⟩:=U;simp only at hP hM;refine jaD jzT rfl ?_;have hlen:=jnV hR 70;simp only[Tryz.f196,simprocAttr,zK,Vq,tyb,hP,hlen]
   refine jau (λm T D U=>D=[]/\T 0=.yld l/\T 5=rv/\T 6=.int .i64 ws.length/\∃i:Nat,T 7=.int .i64 i/\i<=ws.length/\m=ws.length-i/\R ((ws.map rowV).take i) U/\Chg (λj=>C j\/False) L0 U.heap) ?_ (ws.length-0) _ _ _
    ⟨rfl,rfl,rfl,rfl,0,rfl,Qm _,rfl,hR0,.rfl' _ _⟩
   rintro m T D ⟨L,ts⟩ ⟨rfl,t0,t5,t6,i,t7,hi,rfl,hRi,hCh⟩;refine jaC ?_;have hML:M<=L.length:=Jp hM hCh.1;by_cases hlt:i<ws.length
   ·have c1:(i:Int)<(ws.length:Int):=by omega
    have e1:IntKind.i64.wrap ((i:Int)+1)=((i+1:Nat):Int):=by rw[wrap_i64 aa aa];omega
    have hx:=jnW hR hlt;have hcell:(ws.getD i Rw.none).vv.isCell=true:=hc _ (by simp[List.getD,hlt]);have hR1:R ((ws.map rowV).take i) ⟨L++[.cells [.int .i64 (ws.getD i Rw.none).own,(ws.getD i Rw.none).vv] 70],ts⟩:=hT.stay _ ⟨L,ts⟩ _ hRi rfl hML ae λj hj _=>by rw[Kj aa]
    obtain⟨⟨L2,ts2⟩,hY,hR2,hCh2⟩:=hT.step _ _ _ ⟨L++[.cells [.int .i64 (ws.getD i Rw.none).own,(ws.getD i Rw.none).vv] 70],ts⟩ (jk1 Rw.none hlt) (by simp;omega) hR1;rw[<- jk2 Rw.none hlt]at hR2;unfold rowV at hY;have ld:=ld2 (jad L (AObj.cells [.int .i64 (ws.getD i Rw.none).own,(ws.getD i Rw.none).vv] 70));simp only[simprocAttr,zK,K0,jaa,tyb,t0,t5,t6,t7,c1,e1,hx,jbr,jad,jan,jac,hcell,ld,hY];exact⟨ws.length-(i+1),aa,i+1,rfl,aa,rfl,hR2,(hCh.trans (Chg.app _ _ _)).trans (hCh2.mono λj _ h=>.inl h)⟩
   ·have hie:i=ws.length:=by omega
    subst hie;have c1:¬(ws.length:Int)<(ws.length:Int):=aa;rw[Qu ae]at hRi;simp only[simprocAttr,zK,Vq,t0,t5,t6,t7,c1];exact⟨hRi,hCh⟩
  obtain⟨v,U',h1,h2,h3⟩:=key;exact⟨v,U',jgR h1,h2,h3⟩
structure Lets (h:V) (D I:Nat->Prop) (P:List V->List AObj->Prop) (xs:List V) (p:List V->V->Bool):Prop where
 sub:∀j,I j->D j
 stay:∀pre H H',P pre H->(∀j,D j->H'[j]? = H[j]?)->P pre H'
 call:∀(pre:List V) (x:V) (post:List V) (U:S),xs=pre++x::post->P pre U.heap->(∀j,D j->j<U.heap.length)->∃U',jeL env (ev env) h [x] U=some (.bool (p pre x),U')/\P (pre++[x]) U'.heap/\U'.toks=U.toks/\Chg I U.heap U'.heap
def fP(p:List V->V->Bool):List V->List V->List V
 |_,[]=>[]
 |q,x::l=>if p q x then x::fP p (q++[x]) l else fP p (q++[x]) l
theorem jk3(p:List V->V->Bool)(x:V):∀(l q:List V),fP p q (l++[x])=fP p q l++(if p (q++l) x then [x]else [])
 | [],q=>by simp only[Ja,fP,Jb]
 |y::l,q=>by
  have ih:=jk3 p x l (q++[y]);rw[K7,Vs]at ih;simp only[Jn,fP,ih];split<;>rfl
theorem jxA(p:List V->V->Bool){xs pre post:List V}{x:V}(h:xs=pre++x::post)(hp:p pre x=true):∃post',fP p [] xs=fP p [] pre++x::post':=by
 have gen:∀(l q m:List V),∃r,fP p q (l++m)=fP p q l++r:=by
  intro l
  induction l with
  |nil=>intro q m;exact⟨fP p q m,rfl⟩
  |cons y l ih =>
   intro q m;obtain⟨r,hr⟩:=ih (q++[y]) m;refine⟨r,?_⟩;simp only[Jn,fP,hr];split<;>rfl
 obtain⟨r,hr⟩:=gen (pre++[x]) [] post;refine⟨r,?_⟩;rw[h,show pre++x::post=(pre++[x])++post by simp,hr,jk3,Ja,hp];simp
section
variable {h g:V}{D I DH IH:Nat->Prop}{P:List AObj->Prop}{PH:List V->List AObj->Prop}{xs:List V}{p:List V->V->Bool}{c0 c1:Nat}
structure PW (R:List V->S->Prop) (PH:List V->List AObj->Prop) (p:List V->V->Bool) (h:V) (c0 m l:Nat) (lo:AObj) (pre:List V) (U:S):Prop where
 r:R (fP p [] pre) U
 ph:PH pre U.heap
 y:U.heap[m]? = some (.cells [.yld l] 142)
 d:U.heap[m+1]? = some (.defd true)
 o:U.heap[m+2]? = some lo
 c:U.heap[c0]? = some (.cells [h] 142)
theorem jnZ(hh:Lets h DH IH PH xs p){M l m:Nat}{C I':Nat->Prop}{R:List V->S->Prop}(hT:Takes env M l C I' (fP p [] xs) R)(hI:∀j,IH j->I' j)(hD:∀j,DH j->j<M)(hC:∀j,C j->¬DH j/\j ≠ c0/\j<M)(hm:M<=m)(hc0:c0<M)(hc0I:¬IH c0)
  {lo:AObj} {T:Tm} {tmps:List V} (hr:Rep 16 T tmps) (hlo:lo=.loop .ready none 206 tmps #[6] (asgR (jaz Tryz.f206)) (bodR (jaz Tryz.f206)) (m+1)) (t2:T 2=.ptr c0 0) (t3:T 3=.ptr m 0)
  {pre post:List V} {o:Int} {vv:V} (hx:xs=pre++V.agg [.int .i64 o,vv]::post) (hv:vv.isCell=true) {U:S} (hP:PW R PH p h c0 m l lo pre U) :
  ∃U',jeL env (ev env) (.yld (m+2)) [.agg [.int .i64 o,vv]] U=some (.bool true,U')/\PW R PH p h c0 m l lo (pre++[.agg [.int .i64 o,vv]]) U'/\Chg (λj=>C j\/IH j\/j=m+2) U.heap U'.heap:=by
 obtain⟨L,ts⟩:=U;obtain⟨hR,hH,hy,hd,ho,hc⟩:=hP;simp only at hH hy hd ho hc;have hlt:=jao ho;refine jfQ hlo ho hr rfl ae ?_;intro lb hlb;clear hlb hlo hr;have k0:(L++[AObj.cells [.int .i64 o,vv] 70])[m+2]? = some lo:=jaE ho _
 -- the state when the body begins
 obtain⟨H1,hH1⟩:∃H1,H1=(L++[AObj.cells [.int .i64 o,vv] 70]).set (m+2) lb:=⟨_,rfl⟩;have len1:H1.length=L.length+1:=by rw[hH1];simp
 have same1:∀j,j<L.length->j ≠ m+2->H1[j]? = L[j]? := λj hj hne=>by rw[hH1,Kh (Ne.symm hne),Kj hj]
 have hH2:PH pre H1:=hh.stay _ _ _ hH λj hj=>same1 j (by have:=hD j hj;omega) (by have:=hD j hj;omega)
 have c1':H1[c0]? = some (.cells [h] 142):=(same1 c0 aa aa).trans hc;have hR1:R (fP p [] pre) ⟨H1,ts⟩:=hT.stay _ ⟨L,ts⟩ _ hR rfl (by simp only;omega) (by simp only;omega) λj hj _=>same1 j aa aa
 have lb1:H1[m+2]? = some lb:=by rw[hH1];exact Km (by simp;omega)
 obtain⟨⟨L2,ts2⟩,hY,hP2,htk,hCh⟩:=hh.call pre _ post ⟨H1,ts⟩ hx hH2 λj hj=>by have:=hD j hj;simp only;omega
 simp only at hP2 htk hCh;subst htk;have ld1:jab H1 2 (.ptr L.length 0)=some [.int .i64 o,vv]:=ld2 (t:=70) (by rw[hH1,Kh aa];exact jad _ _);have nIH:∀j,M<=j->¬IH j:=λj hj hi=>by have:=hD j (hh.sub j hi);omega
 have same2:∀j,j<H1.length->¬IH j->L2[j]? = H1[j]? := λj hj hi=>hCh.2 j hj hi
 have len2:=hCh.1;have lb2:L2[m+2]? = some lb:=(same2 _ aa (nIH _ aa)).trans lb1;have y2:L2[m]? = some (.cells [.yld l] 142):=(same2 _ aa (nIH _ aa)).trans ((same1 _ aa aa).trans hy);have d2:L2[m+1]? = some (.defd true):=(same2 _ aa (nIH _ aa)).trans ((same1 _ aa aa).trans hd);have cc2:L2[c0]? = some (.cells [h] 142):=(same2 _ aa hc0I).trans c1';have hR2:R (fP p [] pre) ⟨L2,ts2⟩:=hT.stay _ ⟨H1,ts2⟩ _ hR1 rfl (by simp only;omega) (by simp only;omega) λj hj hi=>same2 j aa λhx=>hi (hI j hx)
 have e1:(L2.set (m+2) lo).length=L2.length:=ae;cases hp:p pre (.agg [.int .i64 o,vv])
 ·rw[hp]at hY;have hfp:fP p [] (pre++[.agg [.int .i64 o,vv]])=fP p [] pre:=by rw[jk3,Ja,hp];simp
  refine jaC ?_;simp only[asgR,bodR,rngC,jaz,Tryz.f206,Kr,Option.or];simp only[simprocAttr,zK,K0,jaa,tyb,Vr,Ua,K2,jac,hv,k0,<- hH1,t2,t3,c1',ld1,hY];refine⟨lb2,⟨by rw[hfp];exact hT.stay _ ⟨L2,ts2⟩ _ hR2 rfl (by simp only;omega) ae λj hj _=>by rw[Kh aa],hh.stay _ _ _ hP2 λj hj=>by rw[Kh (by have:=hD j hj;omega)],?_,?_,?_,?_⟩,?_⟩
  ·simp only;rw[Kh aa];exact y2
  ·simp only;rw[Kh aa];exact d2
  ·simp only;exact Km aa
  ·simp only;rw[Kh aa];exact cc2
  ·refine⟨by simp;omega,λj hj hn => ?_⟩;simp only[not_or]at hn;rw[Kh aa,same2 j aa hn.2.1,same1 j hj hn.2.2]
 ·rw[hp]at hY;have hfp:fP p [] (pre++[.agg [.int .i64 o,vv]])=fP p [] pre++[.agg [.int .i64 o,vv]]:=by rw[jk3,Ja,hp];simp
  obtain⟨post',hpost⟩:=jxA p hx hp;obtain⟨⟨L3,ts3⟩,hY3,hR3,hCh3⟩:=hT.step _ _ _ ⟨L2,ts2⟩ hpost (by simp only;omega) hR2;rw[<- hfp]at hR3;simp only at hCh3;have same3:∀j,j<L2.length->¬C j->L3[j]? = L2[j]? := λj hj hi=>hCh3.2 j hj hi
  have nC:∀j,M<=j->¬C j:=λj hj hi=>by have:=(hC j hi).2.2;omega
  have len3:=hCh3.1;have ld2':jab L2 2 (.ptr L.length 0)=some [.int .i64 o,vv]:=ld2 (t:=70) ((same2 _ aa (nIH _ aa)).trans (by rw[hH1,Kh aa];exact jad _ _));have lb3:=(same3 (m+2) aa (nC _ aa)).trans lb2;refine jaC ?_;simp only[asgR,bodR,rngC,jaz,Tryz.f206,Kr,Option.or];simp only[simprocAttr,zK,K0,jaa,tyb,Vr,Ua,K2,jac,hv,k0,<- hH1,t2,t3,c1',ld1,hY,y2,ld2',hY3];refine⟨lb3,⟨hT.stay _ ⟨L3,ts3⟩ _ hR3 rfl (by simp only;omega) ae λj hj _=>by rw[Kh aa],hh.stay _ _ _ hP2 λj hj => ?_,?_,?_,?_,?_⟩,?_⟩
  ·have hjM:=hD j hj;rw[Kh aa,same3 j aa (λhcj=>(hC j hcj).1 hj)]
  ·simp only;rw[Kh aa,same3 _ aa (nC _ aa)];exact y2
  ·simp only;rw[Kh aa,same3 _ aa (nC _ aa)];exact d2
  ·simp only;exact Km aa
  ·simp only;rw[Kh aa,same3 _ aa (λhcj=>(hC _ hcj).2.1 rfl)];exact cc2
  ·refine⟨by simp;omega,λj hj hn => ?_⟩;simp only[not_or]at hn;rw[Kh aa,same3 j aa hn.1,same2 j aa hn.2.1,same1 j hj hn.2.2]
theorem jmr (hs:Seqs env g D I P xs)(hh:Lets h DH IH PH xs p)(hx:∀x∈xs,∃(o:Int) (vv:V),x=.agg [.int .i64 o,vv]/\vv.isCell=true)(hID:∀j,I j->¬DH j/\j ≠ c0/\j ≠ c1)(hHD:∀j,IH j->¬D j/\j ≠ c0/\j ≠ c1) :
    Seqs env (.func 206 [] [.ptr c1 0,.ptr c0 0]) (λj=>D j\/DH j\/j=c0\/j=c1) (λj=>I j\/IH j) (λH=>P H/\PH [] H/\H[c0]? = some (.cells [h] 142)/\H[c1]? = some (.cells [g] 131)) (fP p [] xs) where
  sub:=λj hj=>hj.elim (λx=>.inl (hs.sub j x)) λx=>.inr (.inl (hh.sub j x))
  stay:=λH H' ⟨a,b,c,d⟩ hag=>⟨hs.stay H H' a λj hj=>hag j (.inl hj),hh.stay [] H H' b λj hj=>hag j (.inr (.inl hj)),by rw[hag c0 (.inr (.inr (.inl rfl)))];exact c,by rw[hag c1 (.inr (.inr (.inr rfl)))];exact d⟩
  call := by
    obtain⟨hsub,hstay,fid,first,cap,rfl,hcall⟩:=hs;refine⟨206,[],[.ptr c1 0,.ptr c0 0],rfl,?_⟩;rintro M l C R ⟨L,ts⟩ ⟨hP,hPH,hc0,hc1⟩ hD hC hM hT hR0;simp only at hP hPH hc0 hc1 hM
    have key:∃v U',jah env (ev env) 206 [.yld l,.ptr c1 0,.ptr c0 0] ⟨L,ts⟩=some (v,U')/\(R (fP p [] xs) U'/\Chg (λj=>C j\/I j\/IH j) L U'.heap):=by
      refine jaD jzZ rfl ?_;have yc:(V.yld l).cells=[.yld l]:=rfl;have hc1':(L++[AObj.cells [.yld l] 142])[c1]? = some (.cells [.func fid first cap] 131):=jaE hc1 _;simp only[Tryz.f206,simprocAttr,zK,Vq,tyb,yc,hc1'];refine jkE rfl ?_;simp only[Kk,Ju];intro tmps lo lx hr hlo hlx;obtain⟨m,hm⟩:∃m,m=L.length:=⟨_,rfl⟩;rw[<- hm]at hr hlo hlx;simp only[<- hm];have z0:(L++[AObj.cells [.yld l] 142]++[AObj.defd true,lo])[m]? = some (.cells [.yld l] 142):=by subst hm;simp
      have z1:(L++[AObj.cells [.yld l] 142]++[AObj.defd true,lo])[m+1]? = some (.defd true):=by subst hm;simp
      have z2:(L++[AObj.cells [.yld l] 142]++[AObj.defd true,lo])[m+2]? = some lo:=by subst hm;simp
      have old:∀j,j<L.length->(L++[AObj.cells [.yld l] 142]++[AObj.defd true,lo])[j]? = L[j]? := λj hj=>by rw[K7,Kj hj]
      have dI:∀j,D j->j<M:=λj hj=>hD j (.inl hj)
      have dH:∀j,DH j->j<M:=λj hj=>hD j (.inr (.inl hj))
      have dc0:c0<M:=hD _ (.inr (.inr (.inl rfl)));have lenL:(L++[AObj.cells [.yld l] 142]++[AObj.defd true,lo]).length=m+3:=by subst hm;simp
      obtain⟨w,U2,h1,h2,h3⟩:=hcall (m+3) (m+2) (λj=>C j\/IH j\/j=m+2) (PW R PH p h c0 m l lo) ⟨L++[AObj.cells [.yld l] 142]++[AObj.defd true,lo],ts⟩
        (hstay L _ hP λj hj=>old j (by have:=dI j hj;omega)) (λj hj=>by have:=dI j hj;omega)
        (fun j hj=>by
          rcases hj with hj|hj|hj
          · have:=hC j hj
            exact⟨λhd=>this.1 (.inl hd),aa⟩
          · exact⟨λhd=>(hHD j hj).1 hd,by have:=dH j (hh.sub j hj);omega⟩
          · exact⟨λhd=>by have:=dI j hd;omega,aa⟩) (by simp only[lenL];omega)
        ⟨fun pre x post U hx' hM' hR'=>by
          obtain⟨o,vv,rfl,hv⟩:=hx x (by rw[hx'];simp);obtain⟨U',a,b,d⟩:=jnZ (C:=C) (I':=λj=>I j\/IH j) hh hT (λj hj=>.inr hj) dH (λj hj=>⟨λhd=>(hC j hj).1 (.inr (.inl hd)),λe=>(hC j hj).1 (.inr (.inr (.inl e))),(hC j hj).2⟩) aa dc0 (λhi=>(hHD _ hi).2.1 rfl) hr hlo rfl rfl hx' hv hR';exact⟨U',a,b,d⟩,λpre U U' hR' ht hM' hle hag=>by
          obtain⟨b0,b1,b2,b3,b4,b5⟩:=hR';have nI:∀j,M<=j->¬I j:=λj hj hi=>by have:=dI j (hsub j hi);omega
          refine⟨hT.stay _ U U' b0 ht aa hle λj hj hi=>hag j aa λhx=>hi (.inl hx),hh.stay _ _ _ b1 λj hj=>hag j (by have:=dH j hj;omega) λhi=>(hID j hi).1 hj,?_,?_,?_,?_⟩
          · rw[hag _ aa (nI _ aa)];exact b2
          · rw[hag _ aa (nI _ aa)];exact b3
          · rw[hag _ aa (nI _ aa)];exact b4
          · rw[hag _ aa λhi=>(hID _ hi).2.1 rfl];exact b5⟩
        ⟨hT.stay _ ⟨L,ts⟩ _ hR0 rfl hM (by simp only[lenL];omega) λj hj _=>old j aa,hh.stay _ _ _ hPH λj hj=>old j (by have:=dH j hj;omega),z0,z1,z2,(old c0 aa).trans hc0⟩
      obtain⟨b0,b1,b2,b3,b4,b5⟩:=h2;obtain⟨L2,ts2⟩:=U2;simp only at b2 b3 b4 b5 h3;have le2:=h3.1;rw[lenL]at le2;have e2:(L2.set (m+2) lx)[m+1]? = some (.defd true):=by rw[Kh aa];exact b3
      refine⟨w,⟨L2,ts2⟩,h1,b4,?_⟩;simp only[simprocAttr,zK,K0,jaa,tyb,wpR,jdk,e2];refine⟨hT.stay _ ⟨L2,ts2⟩ _ b0 rfl (by simp only;omega) ae λj hj _=>by rw[Kh aa,Kh aa],by simp;omega,λj hj hn => ?_⟩;simp only[not_or]at hn;rw[Kh aa,Kh aa,h3.2 j (by rw[lenL];omega) (by simp only[not_or];exact⟨⟨hn.1,hn.2.2,aa⟩,hn.2.1⟩)];exact old j hj
    obtain⟨v,U',h1,h2,h3⟩:=key;exact⟨v,U',jgR h1,h2,h3⟩
theorem jiZ(hc:h.cells=[h]/\h.isCell=true)(L:List AObj)(ts:List Nat):jah env (ev env) 124 [h] ⟨L,ts⟩=some (.func 205 [] [.ptr L.length 0],⟨L++[.cells [h] 142],ts⟩):=by
 obtain⟨h1,h2⟩:=hc;refine jaL jzQ rfl ?_;simp only[Tryz.f124,simprocAttr,zK,Vq,tyb,h1];exact⟨rfl,trivial⟩
theorem ji0(hc:g.cells=[g]/\g.isCell=true)(c0:Nat)(L:List AObj)(ts:List Nat):jah env (ev env) 205 [g,.ptr c0 0] ⟨L,ts⟩=some (.func 206 [] [.ptr L.length 0,.ptr c0 0],⟨L++[.cells [g] 131],ts⟩):=by
 obtain⟨h1,h2⟩:=hc;refine jaL jzY rfl ?_;simp only[Tryz.f205,simprocAttr,zK,Vq,tyb,h1];exact⟨rfl,trivial⟩
end
def entI(p:Int × Int × Nat):V × V × Nat:=(.int .i64 p.1,.int .i64 p.2.1,p.2.2)
def jgr(ps:List (Int × Int × Nat))(k:Int):Int:=match ps.find? λp=>decide (p.1=k)with|some p=>p.2.1|none=>0
theorem jsr(a b:Int):eqT env 8 3 (.int .i64 a) (.int .i64 b)=some (a==b):=by
 have h:eqT env 8 3 (.int .i64 a) (.int .i64 b)=if IntKind.i64=IntKind.i64 then some (a==b)else none:=ac
 rw[h,Kg rfl]
theorem jms(a:Int):jcY env 8 3 (.int .i64 a)=true:=ac
theorem jt4(a:Int):jhH 8 (.int .i64 a) (.int .i64 a)=true:=by simp[jhH]
theorem jk4(k:Int):∀(ps:List (Int × Int × Nat)) (i:Nat),(jcj env 3 (.int .i64 k) (ps.map entI) i=some none/\∀p∈ps,p.1 ≠ k)\/∃a p b,ps=a++p::b/\p.1=k/\(∀q∈a,q.1 ≠ k)/\jcj env 3 (.int .i64 k) (ps.map entI) i=some (some (i+a.length))
 | [],i=>.inl ⟨rfl,λp hp=>by cases hp⟩
 | p::ps,i=>by
  by_cases h1:k=p.1
  ·refine .inr ⟨[],p,ps,rfl,h1.symm,(λq hq=>by cases hq),?_⟩;simp only[K6,jcj,entI,jsr,Kq,h1,beq_self_eq_true,Kl,Qr,Vo]
  ·rcases jk4 k ps (i+1)with⟨h2,h3⟩|⟨a,q,b,rfl,h3,h4,h5⟩
   ·refine .inl ⟨?_,λq hq => ?_⟩
    ·simp only[K6,jcj,entI,jsr,Kq,beq_eq_false_iff_ne.2 h1,Ku,Kn];exact h2
    ·rcases Jg.1 hq with rfl|hq
     ·exact λe=>h1 e.symm
     ·exact h3 q hq
   ·refine .inr ⟨p::a,q,b,rfl,h3,λx hx => ?_,?_⟩
    ·rcases Jg.1 hx with rfl|hx
     ·exact λe=>h1 e.symm
     ·exact h4 x hx
    ·rw[K6];simp only[jcj,entI,jsr,Kq,beq_eq_false_iff_ne.2 h1,Ku,Kn];rw[show i+(p::a).length=i+1+a.length by simp;omega];exact h5
theorem jeF {k:Int}:∀{a:List (Int × Int × Nat)} (l:List (Int × Int × Nat)),(∀q∈a,q.1 ≠ k)->jgr (a++l) k=jgr l k
 | [],l,_=>rfl
 |q::a,l,h=>by
  have h1:=h q ae;unfold jgr;rw[Jn,Ud (by simpa using h1)];exact jeF (a:=a) l λx hx=>h x (by simp[hx])
theorem jk5 {k:Int}(p:Int × Int × Nat)(l:List (Int × Int × Nat)):jgr (p::l) k=if p.1=k then p.2.1 else jgr l k:=by
 unfold jgr;by_cases h:p.1=k
 ·rw[List.find?_cons_of_pos (by simpa using h),Kg h]
 ·rw[Ud (by simpa using h),Ke h]
theorem jqf {k:Int}{ps:List (Int × Int × Nat)}(h:∀p∈ps,p.1 ≠ k):jgr ps k=0:=by
 have:=jeF (k:=k) [] h;rw[Jb]at this;rw[this];rfl
theorem jh4 {hp:List AObj}{b:Nat}{ps:List (Int × Int × Nat)}{clock:Nat}(h:hp[b]? = some (.map (ps.map entI) clock))(k:Int)(ts:List Nat):jjk env 204 false (.map b) (.int .i64 k) ⟨hp,ts⟩=some (.int .i64 (jgr ps k)):=by
 unfold jjk;simp only[tyb,h,jms,Kl,Kq]
 rcases jk4 k ps 0 with⟨h2,h3⟩|⟨a,p,c,rfl,h3,h4,h5⟩
 ·rw[h2,jqf h3];rfl
 ·rw[h5,jeF _ h4,jk5,Kg h3];simp[jqA,ju9,entI]
theorem jss {hp:List AObj}{b:Nat}{ps:List (Int × Int × Nat)}{clock:Nat}(h:hp[b]? = some (.map (ps.map entI) clock))(k v:Int)(ts:List Nat) :
  ∃ps' clock',jiD env 204 (.map b) (.int .i64 k) (.int .i64 v) ⟨hp,ts⟩=some (.tup [],⟨hp.set b (.map (ps'.map entI) clock'),ts⟩)/\∀x,jgr ps' x=if x=k then v else jgr ps x:=by
 unfold jiD;simp only[tyb,h,jms,Kl]
 rcases jk4 k ps 0 with⟨h2,h3⟩|⟨a,p,c,rfl,h3,h4,h5⟩
 ·refine⟨ps++[(k,v,clock)],clock+1,?_,λx => ?_⟩
  ·simp only[h2,S.set,Js,K6,J5,entI]
  ·by_cases hx:x=k
   ·subst hx;rw[jeF _ h3,jk5,Kg rfl,Kg rfl]
   ·rw[Ke hx];unfold jgr;rw[List.find?_append];cases ps.find? λp=>decide (p.1=x)with
    |some q=>rfl
    |none=>simp[Ne.symm hx]
 ·have h6:((a++p::c).map entI)[0+a.length]? = some (entI p):=by simp
  refine⟨a++(k,v,p.2.2)::c,clock,?_,λx => ?_⟩
  ·simp only[h5,h6,entI,h3,jt4,Kl,S.set]
   congr 4
   simp[entI]
  ·by_cases hx:x=k
   ·subst hx;rw[jeF _ h4,jk5,Kg rfl,Kg rfl]
   ·rw[Ke hx];unfold jgr;rw[List.find?_append,List.find?_append,Ud (by simpa using Ne.symm hx),Ud (by simp only[h3];simpa using Ne.symm hx)]
def ownV:V->Int
 | .agg (.int _ o::_)=>o
 |_=>0
def cntV(l:List V)(o:Int):Nat:=l.countP λx=>decide (ownV x=o)
def jvW(n:Int)(pre:List V)(x:V):Bool:=decide (((cntV pre (ownV x):Nat):Int)+1<=n)
def PK(cm b cn:Nat)(n:Int)(pre:List V)(H:List AObj):Prop :=
 H[cm]? = some (.cells [.map b] 204)/\H[cn]? = some (.cells [.int .i64 n] 3)/\∃ps clock,H[b]? = some (.map (ps.map entI) clock)/\∀x,jgr ps x=(cntV pre x:Nat)
theorem jst {cm b cn:Nat}{n:Int}{xs:List V}(hx:∀x∈xs,∃(o:Int) (vv:V),x=.agg [.int .i64 o,vv]/\vv.isCell=true)(hl:xs.length<=1000000)(h1:b ≠ cm)(h2:b ≠ cn) :
  Lets (.func 199 [] [.ptr cm 0,.ptr cn 0]) (λj=>j=cm\/j=cn\/j=b) (λj=>j=b) (PK cm b cn n) xs (jvW n) where
 sub:=λj h=>.inr (.inr h)
 stay:=λpre H H' ⟨a,c,ps,clock,d,e⟩ hag=>⟨by rw[hag _ (.inl rfl)];exact a,by rw[hag _ (.inr (.inl rfl))];exact c,ps,clock,by rw[hag _ (.inr (.inr rfl))];exact d,e⟩
 call:=by
  rintro pre x post ⟨L,ts⟩ hxs ⟨a,c,ps,clock,d,e⟩ hD;obtain⟨o,vv,rfl,hv⟩:=hx x (by rw[hxs];simp);simp only at a c d;have hb:=jao d;have hcm:=jao a;have hcn:=jao c
  have hpre:pre.length<=1000000:=by
   have:=congrArg List.length hxs;rw[Kk]at this;omega
  have hcl:cntV pre o<=pre.length:=List.countP_le_length;have d':(L++[AObj.cells [.int .i64 o,vv] 70])[b]? = some (.map (ps.map entI) clock):=jaE d _;obtain⟨ps',clock',hU,hL⟩:=jss d' o ((cntV pre o:Nat)+1) ts;have hK:=jh4 d' o ts;rw[e o]at hK;have d2:((L++[AObj.cells [.int .i64 o,vv] 70]).set b (.map (ps'.map entI) clock'))[b]? = some (.map (ps'.map entI) clock'):=Km (by simp;omega);have hK2:=jh4 d2 o ts;rw[hL o,Kg rfl]at hK2;have a1:(L++[AObj.cells [.int .i64 o,vv] 70])[cm]? = some (.cells [.map b] 204):=jaE a _;have a2:((L++[AObj.cells [.int .i64 o,vv] 70]).set b (.map (ps'.map entI) clock'))[cm]? = some (.cells [.map b] 204):=by rw[Kh h1];exact a1
  have c2:((L++[AObj.cells [.int .i64 o,vv] 70]).set b (.map (ps'.map entI) clock'))[cn]? = some (.cells [.int .i64 n] 3):=by rw[Kh h2];exact jaE c _
  have o2:((L++[AObj.cells [.int .i64 o,vv] 70]).set b (.map (ps'.map entI) clock'))[L.length]? = some (.cells [.int .i64 o,vv] 70):=by rw[Kh aa];exact jad _ _
  have e1:IntKind.i64.wrap (((cntV pre o:Nat):Int)+1)=((cntV pre o:Nat):Int)+1:=wrap_i64 aa aa;refine⟨⟨(L++[AObj.cells [.int .i64 o,vv] 70]).set b (.map (ps'.map entI) clock'),ts⟩,?_,⟨a2,c2,ps',clock',d2,λx => ?_⟩,rfl,?_⟩
  ·show jah env (ev env) 199 [.agg [.int .i64 o,vv],.ptr cm 0,.ptr cn 0] ⟨L,ts⟩=_;refine jaL jzV rfl ?_;simp only[Tryz.f199,simprocAttr,zK,K0,jaa,Q1,YW,jad,a1,jez,hK,e1,jeB,hU,a2,o2,hK2,c2];exact⟨rfl,trivial⟩
  ·rw[hL x];unfold cntV;rw[Us];by_cases hxo:x=o
   ·subst hxo;rw[Kg rfl];simp[ownV,cntV]
   ·rw[Ke hxo,e x];simp[ownV,Ne.symm hxo,cntV]
  ·exact⟨ae,λj hj hc=>by rw[Kh (Ne.symm hc),Kj hj]⟩
theorem jqg(n:Int)(L:List AObj)(ts:List Nat):jah env (ev env) 121 [.int .i64 n] ⟨L,ts⟩=some (.func 198 [] [.ptr L.length 0],⟨L++[.cells [.int .i64 n] 3],ts⟩):=by
 refine jaL jzO rfl ?_;simp only[Tryz.f121,simprocAttr,zK,Vq,tyb];exact⟨rfl,trivial⟩
theorem jmt(L:List AObj)(ts:List Nat):newO env 204 ⟨L,ts⟩=some (.map L.length,⟨L++[.map [] 0],ts⟩):=by
 unfold newO;simp only[tyb,S.push]
theorem jqh {g:V}(hc:g.cells=[g]/\g.isCell=true)(cn:Nat)(L:List AObj)(ts:List Nat):jah env (ev env) 198 [g,.ptr cn 0] ⟨L,ts⟩ =
  some (.func 206 [] [.ptr (L.length+3) 0,.ptr (L.length+2) 0],⟨L++[.map [] 0,.cells [.map L.length] 204,.cells [.func 199 [] [.ptr (L.length+1) 0,.ptr cn 0]] 142,.cells [g] 131],ts⟩):=by
 have w1:=λ(p:V) (L:List AObj) ts=>jiZ (h:=.func 199 [] [p,.ptr cn 0]) ⟨rfl,rfl⟩ L ts
 have w2:=λ(p:Nat) (L:List AObj) ts=>ji0 hc p L ts
 have k1:∀b,(V.map b).cells=[.map b]:=λ_=>rfl
 have k2:V.nilmap.cells=[.nilmap]:=rfl;have k3:∀b,(V.map b).isCell=true:=λ_=>rfl
 refine jaL jzU rfl ?_;simp only[Tryz.f198,simprocAttr,zK,K0,jaa,tyb,jg9,jmt,k1,k2,k3,jad,jan,w1,w2];simp[jaB]
end Go.Proofs.YtajaampgajieeaaGreatDoor.B
