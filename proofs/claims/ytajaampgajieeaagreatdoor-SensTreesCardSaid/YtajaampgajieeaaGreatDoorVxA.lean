/- Proved here: the view of a query. Conditions: each theorem's own. -/
import Derived.Test.YtajaampgajieeaaGreatDoorVwB
import Derived.Test.YtajaampgajieeaaGreatDoorTbB
import Derived.Test.YtajaampgajieeaaGreatDoorSpB
set_option linter.unusedSimpArgs false
set_option maxHeartbeats 16000000
set_option maxRecDepth 1000000
set_option linter.unusedVariables false
set_option linter.unusedSectionVars false
namespace Go.Proofs.YtajaampgajieeaaGreatDoor.B
open Go.Ab
open W (IsI)
def RowN(n:Nat)(r:Rw):Prop:=IsI r.vv r.vs/\r.vs.length=n/\(∀x∈r.vs,In64 x)/\In64 r.own
theorem RowN.cell {n:Nat}{r:Rw}(h:RowN n r):r.vv.isCell=true:=jcv h.1
def Step(f:V)(B:Nat)(H0:List AObj)(tr:List Rw->List Rw)(n n':Nat):Prop :=
 ∀ (g:V) (D I:Nat->Prop) (P:List AObj->Prop) (rs:List Rw),Seqs env g D I P (rs.map rowV)->(∀r∈rs,RowN n r)->rs.length<=100000->∀(H:List AObj) (ts:List Nat),(∀j,j<B->H[j]? = H0[j]?)->B<=H.length->P H->(∀j,D j->j<H.length)->(∀j,I j->B<=j)->g.cells=[g]/\g.isCell=true ->
  (∀r∈tr rs,RowN n' r)/\∃g' H',jeL env (ev env) f [g] ⟨H,ts⟩=some (g',⟨H',ts⟩)/\(∀j,j<H.length->H'[j]? = H[j]?)/\H.length<=H'.length/\(g'.cells=[g']/\g'.isCell=true) /\
   ∃(D' I':Nat->Prop) (P':List AObj->Prop),Seqs env g' D' I' P' ((tr rs).map rowV)/\P' H'/\(∀j,D' j->j<H'.length)/\(∀j,I' j->B<=j)
theorem jhp {rs:List Rw}{n:Nat}(h:∀r∈rs,RowN n r):∀x∈rs.map rowV,∃(o:Int) (vv:V),x=.agg [.int .i64 o,vv]/\vv.isCell=true:=λx hx=>by
 obtain⟨r,hr,rfl⟩:=Jd.1 hx;exact⟨r.own,r.vv,rfl,(h r hr).cell⟩
def ji3(n:Int):List Int->List Rw->List Rw
 |_,[]=>[]
 |seen,r::l=>if((seen.count r.own:Nat):Int)+1<=n then r::ji3 n (r.own::seen) l else ji3 n (r.own::seen) l
theorem jh5(n:Int):∀(l:List Rw) (seen:List Int),(ji3 n seen l).map Rw.pl=jgq n seen (l.map Rw.pl)
 | [],_=>rfl
 |r::l,seen=>by
  simp only[ji3,K6,jgq];split
  ·rw[K6,jh5 n l]
  ·exact jh5 n l _
theorem ji4(n:Int):∀(l:List Rw) (seen:List Int),∀r∈ji3 n seen l,r∈l
 | [],_,r,h=>h
 | x::l,seen,r,h=>by
  simp only[ji3]at h;split at h
  ·rcases Jg.1 h with rfl|h
   ·simp
   ·exact Vy _ (ji4 n l _ r h)
  ·exact Vy _ (ji4 n l _ r h)
theorem jo8(n:Int):∀(l:List Rw) (pre:List V) (seen:List Int),(∀o,cntV pre o=seen.count o)->fP (jvW n) pre (l.map rowV)=(ji3 n seen l).map rowV
 | [],_,_,_=>rfl
 | r::l,pre,seen,h=>by
  have ih:=jo8 n l (pre++[rowV r]) (r.own::seen) λo=>by
   unfold cntV at h ⊢;rw[Us,h o];by_cases e:r.own=o
   ·subst e;simp[ownV,rowV]
   ·rw[Vb e];simp[ownV,rowV,e]
  rw[K6];simp only[fP,ji3,ih]
  have e:jvW n pre (rowV r)=decide (((seen.count r.own:Nat):Int)+1<=n):=by
   show decide (((cntV pre r.own:Nat):Int)+1<=n)=_;rw[h]
  rw[e];by_cases hc:((seen.count r.own:Nat):Int)+1<=n
  ·rw[decide_eq_true hc,Kg rfl,Kg hc];rfl
  ·rw[decide_eq_false hc,Ke af,Ke hc]
theorem jsB {B:Nat}{H0:List AObj}{n:Int}{cn w:Nat}(hcn:cn<B)(h0:H0[cn]? = some (.cells [.int .i64 n] 3)):Step (.func 198 [] [.ptr cn 0]) B H0 (ji3 n []) w w:=by
 intro g D I P rs hs hr hl H ts hag hB hP hD hI hg;refine⟨λr h=>hr r (ji4 n rs [] r h),?_⟩;have hcall:=jqh hg cn H ts;obtain⟨b,hb⟩:∃b,b=H.length:=⟨_,rfl⟩;rw[<- hb]at hcall;have hL:=jst (cm:=b+1) (b:=b) (cn:=cn) (n:=n) (jhp hr) (by rw[Qw];omega) aa aa;have hS:=jmr (c0:=b+2) (c1:=b+3) hs hL (jhp hr) (λj hj=>by have:=hD j (hs.sub j hj);have:=hI j hj;exact⟨aa,aa,aa⟩) (λj hj=>by subst hj;exact⟨λhd=>by have:=hD _ hd;omega,aa,aa⟩);rw[jo8 n rs [] [] λo=>rfl]at hS
 have at':∀k o,k<4->([AObj.map [] 0,.cells [.map b] 204,.cells [.func 199 [] [.ptr (b+1) 0,.ptr cn 0]] 142,.cells [g] 131]:List AObj)[k]? = some o->(H++[AObj.map [] 0,.cells [.map b] 204,.cells [.func 199 [] [.ptr (b+1) 0,.ptr cn 0]] 142,.cells [g] 131])[b+k]? = some o:=λk o hk h=>by
  rw[Jv aa,show b+k-H.length=k by omega];exact h
 refine⟨_,_,hcall,λj hj=>Kj hj,ae,⟨rfl,rfl⟩,_,_,_,hS,⟨hs.stay _ _ hP λj hj=>Kj (hD j hj),⟨at' 1 _ aa rfl,?_,[],0,at' 0 _ aa rfl,λ_=>rfl⟩,at' 2 _ aa rfl,at' 3 _ aa rfl⟩,λj hj => ?_,λj hj => ?_⟩
 ·rw[Kj aa,hag cn hcn];exact h0
 ·simp only[Kk,Qh,Qr]
  rcases hj with h|h|h|h
  ·have:=hD j h;omega
  ·rcases h with h|h|h<;>omega
  ·omega
  ·omega
 ·rcases hj with h|h
  ·exact hI j h
  ·omega
theorem jsC {pub:Bool}{left right:Nat}{limit:Int}{r:Rw}:∀{o:List Rw} {m:Int} {x:Rw},x∈jR pub left right limit r o m->∃s∈o,x=catR r s
 | [],_,x,h=>by cases h
 | s::o,m,x,h=>by
  simp only[jR]at h;split at h
  ·rcases Jg.1 h with rfl|h
   ·exact⟨s,ae,rfl⟩
   ·obtain⟨t,ht,e⟩:=jsC h;exact⟨t,by simp[ht],e⟩
  ·obtain⟨t,ht,e⟩:=jsC h;exact⟨t,by simp[ht],e⟩
theorem jsD {B:Nat}{H0:List AObj}{t:Tb}(ht:TOK t){left right w w2:Nat}{limit:Int}(hlim:0<=limit/\limit<=1000000)(hl:left<w/\right<w2)(hw:w<=1000)(hrow:∀s∈t.rows,s.vs.length=w2/\w2<=1000){co cl cr cm:Nat}(hc:∀j,j=co\/j=cl\/j=cr\/j=cm->j<B)(h0:CJ t co cl cr cm left right limit H0)(h2:w2<=1000) :
  Step (.func 202 [] [.ptr cl 0,.ptr co 0,.ptr cm 0,.ptr cr 0]) B H0 (jF t.s.pub left right limit t.rows) w (w+w2):=by
 intro g D I P rs hs hr hle H ts hag hB hP hD hI hg;refine⟨λr h => ?_,?_⟩
 ·obtain⟨a,ha,hx⟩:=U7.1 h;obtain⟨s,hsm,rfl⟩:=jsC hx;obtain⟨_,h4,h5,h7⟩:=hr a ha;obtain⟨_,h6,_⟩:=ht.ro s hsm;refine⟨jvX _,by show(a.vs++s.vs).length=_;rw[Kk,h4,(hrow s hsm).1],λx hx => ?_,h7⟩
  rcases Jl.1 hx with h|h
  ·exact h5 x h
  ·exact h6 x h
 have hcall:=jqj hg cl co cm cr H ts;have hS:=jt6 (c1:=H.length) (left:=left) (right:=right) ht hlim ⟨aa,aa⟩ (λs h=>by rw[(hrow s h).1];exact hl.2) (λr h=>⟨(hr r h).1,by rw[(hr r h).2.1];exact hl.1,by rw[(hr r h).2.1];omega⟩) hs (λj hj=>⟨λe=>by have:=hc j e;have:=hI j hj;omega,by have:=hD j (hs.sub j hj);omega⟩) (co:=co) (cl:=cl) (cr:=cr) (cm:=cm);refine⟨_,_,hcall,λj hj=>Kj hj,ae,⟨rfl,rfl⟩,_,_,_,hS,⟨hs.stay _ _ hP λj hj=>Kj (hD j hj),h0.same λj hj=>by rw[Kj (by have:=hc j hj;omega),hag j (hc j hj)],jad _ _⟩,λj hj => ?_,hI⟩;simp only[Kk,Qh,Qr]
 rcases hj with h|h|h
 ·have:=hD j h;omega
 ·have:=hc j h;omega
 ·omega
theorem jz6:env.hook 126=some (jbU W.env 126):=rfl
noncomputable def hP(Q:Qy)(cs:List Col)(rs:List Rw)(pre:List V)(x:V):Bool:=W.holdsV Q.wh cs (rs.getD pre.length Rw.none).vs
theorem jxG(Q:Qy)(cs:List Col)(rs:List Rw):∀(l:List Rw) (pre:List V),rs.drop pre.length=l->fP (hP Q cs rs) pre (l.map rowV)=(l.filter λr=>W.holdsV Q.wh cs r.vs).map rowV
 | [],_,_=>rfl
 | r::l,pre,h=>by
  have hlt:pre.length<rs.length:=by
   have:=congrArg List.length h;rw[Jy,Qh]at this;omega
  have e:=Qk hlt;rw[h]at e;injection e with e1 e2
  have ih:=jxG Q cs rs l (pre++[rowV r]) (by rw[Kk,Ju];exact e2.symm);have er:rs.getD pre.length Rw.none=r:=by rw[e1];simp[List.getD,hlt]
  have ep:hP Q cs rs pre (rowV r)=W.holdsV Q.wh cs r.vs:=by unfold hP;rw[er]
  rw[K6];simp only[fP,ih,ep,List.filter_cons];split<;>rfl
theorem jqm {Q:Qy}{ev' wv rv cv:V}{cs:List Col}{rs:List Rw}{w:Nat}(hF:W.Fine wv Q.wh cv cs)(hr:∀r∈rs,RowN w r)(hw:w<=1000){cq cc:Nat} :
  Lets (.func 125 [] [.ptr cq 0,.ptr cc 0]) (λj=>j=cq\/j=cc) (λ_=>False) (λ_ H=>H[cq]? = some (K.qc30 Q ev' wv rv)/\H[cc]? = some (.cells [cv] 36)) (rs.map rowV) (hP Q cs rs) where
 sub:=λj h=>h.elim
 stay:=λpre H H' ⟨a,b⟩ hag=>⟨by rw[hag _ (.inl rfl)];exact a,by rw[hag _ (.inr rfl)];exact b⟩
 call:=by
  rintro pre x post ⟨L,ts⟩ hxs ⟨a,b⟩ hD;obtain⟨hk,rfl⟩:=jh3 Rw.none hxs;have hm:=hr _ (show rs.getD pre.length Rw.none∈rs by simp[List.getD,hk]);unfold hP rowV;generalize rs.getD pre.length Rw.none=r at *;obtain⟨h1,h2,h3,_⟩:=hm;simp only at a b;have hC:=λU=>jwK jz6 (λU=>W.holds_call hF ⟨h1,aa,h3⟩ U) (ev env) U
  have hrc:=jcv h1;have a1:(L++[AObj.cells [.int .i64 r.own,r.vv] 70])[cq]? = some (K.qc30 Q ev' wv rv):=jaE a _;have b1:(L++[AObj.cells [.int .i64 r.own,r.vv] 70])[cc]? = some (.cells [cv] 36):=jaE b _;have c1:(L++[AObj.cells [.int .i64 r.own,r.vv] 70])[L.length]? = some (.cells [.int .i64 r.own,r.vv] 70):=jad _ _;unfold K.qc30 at a1;refine⟨⟨L++[AObj.cells [.int .i64 r.own,r.vv] 70],ts⟩,?_,⟨jaE a _,b1⟩,rfl,Chg.app _ _ _⟩;show jah env (ev env) 125 [.agg [.int .i64 r.own,r.vv],.ptr cq 0,.ptr cc 0] ⟨L,ts⟩=_;refine jaL jzR rfl ?_;simp only[Tryz.f125,simprocAttr,zK,K0,jaa,Q1,YW,jad,a1,b1,c1,hC,Qy.cells];exact⟨rfl,trivial⟩
theorem jqn {B:Nat}{H0:List AObj}{Q:Qy}{ev' wv rv cv:V}{cs:List Col}{w c0 cq cc:Nat}(hF:W.Fine wv Q.wh cv cs)(hw:w<=1000)(hc:c0<B/\cq<B/\cc<B)(h0:H0[c0]? = some (.cells [.func 125 [] [.ptr cq 0,.ptr cc 0]] 142))(hq:H0[cq]? = some (K.qc30 Q ev' wv rv))(hcc:H0[cc]? = some (.cells [cv] 36)) :
  Step (.func 205 [] [.ptr c0 0]) B H0 (λrs=>rs.filter λr=>W.holdsV Q.wh cs r.vs) w w:=by
 intro g D I P rs hs hr hle H ts hag hB hP' hD hI hg;refine⟨λr h=>hr r (Vg.1 h).1,?_⟩;have hcall:=ji0 hg c0 H ts;have hL:=jqm (ev':=ev') (rv:=rv) (cq:=cq) (cc:=cc) hF hr hw
 have hS:=jmr (c0:=c0) (c1:=H.length) hs hL (jhp hr) (λj hj=>by
  have h1:=hD j (hs.sub j hj);have h2:=hI j hj;exact⟨λe=>by rcases e with e|e<;>omega,aa,aa⟩) (λj hj=>hj.elim)
 rw[jxG Q cs rs rs [] rfl]at hS;refine⟨_,_,hcall,λj hj=>Kj hj,ae,⟨rfl,rfl⟩,_,_,_,hS,⟨hs.stay _ _ hP' λj hj=>Kj (hD j hj),⟨?_,?_⟩,?_,jad _ _⟩,λj hj => ?_,λj hj => ?_⟩
 ·rw[Kj aa,hag _ hc.2.1];exact hq
 ·rw[Kj aa,hag _ hc.2.2];exact hcc
 ·rw[Kj aa,hag _ hc.1];exact h0
 ·simp only[Kk,Qh,Qr]
  rcases hj with h|h|h|h
  ·have:=hD j h;omega
  ·rcases h with h|h<;>omega
  ·omega
  ·omega
 ·rcases hj with h|h
  ·exact hI j h
  ·exact h.elim
def Chn(B:Nat)(H0:List AObj):List V->Nat->Nat->(List Rw->List Rw)->Nat->Nat->Prop
 | [],n,a,tr,n',a'=>n=n'/\a=a'/\∀rs,tr rs=rs
 |f::fs,n,a,tr,n',a'=>(f.cells=[f]/\f.isCell=true/\∃fid cap,f=.func fid [] cap)/\a<=100000/\∃tr1 m b tr2,Step f B H0 tr1 n m/\(∀rs,rs.length<=a->(tr1 rs).length<=b)/\Chn B H0 fs m b tr2 n' a'/\∀rs,tr rs=tr2 (tr1 rs)
def VR(n:Nat)(ps:List PR)(u:V):Prop:=∃ws:List Rw,u=rwV ws/\(∀r∈ws,RowN n r)/\ws.map Rw.pl=ps
abbrev PV(R:V->Prop):Post:=⟨wpR env [.tmp 4] λv' U'=>∃v,jaK U'.heap jak v'=some v/\R v,λ_ _ _ _=>False,wpR env [.tmp 4] λv' U'=>∃v,jaK U'.heap jak v'=some v/\R v⟩
theorem jmw(h:List AObj):∀{l:List Rw},(∀r∈l,IsI r.vv r.vs)->(jcr l).mapM (jaK h 11)=some (jcr (l.map cpR))
 | [],_=>rfl
 | r::l,ok=>by
  have hs:jaK h 11 r.vv=some (unkV r.vv):=by
   rcases ok r ae with⟨e,_⟩|e|e<;>rw[e]
   ·rfl
   ·show jaK h (9+1+1) (.row _ _ _)=_;rw[ja1,jdd];rfl
   ·show jaK h (9+1+1) (.row _ _ _)=_;rw[ja1,jdd];rfl
  rw[jcF,jal,jal,jmw h (l:=l) λx hx=>ok x (by simp[hx]),hs,jav];rfl
theorem jt8(h:List AObj){base n:Nat}{ts:List Nat}{u:V}{ws:List Rw}(hr:∀r∈ws,RowN n r)(g:GrowV base ts 2 u ws.length (jcr ws))(g0:ws=[]->u=.nilsl):jaK h 12 u=some (rwV (ws.map cpR)):=by
 unfold rwV;by_cases hn:ws=[]
 ·rw[Kg (by rw[hn];rfl),g0 hn];rfl
 ·have hp:0<ws.length:=Xy.2 hn;obtain⟨q,rfl⟩:=g.isrow hp;rw[Ke (by simpa using hn)];show jaK _ (11+1) (.row _ _ _)=_;rw[ja1];rw[jmw h λr h=>(hr r h).1];simp
noncomputable def L17:Code:=match jbQ 9 (jaz Tryz.f41)with| .seq (.seq _ c) _=>c|_=>.skip
theorem v17 {R:V->Prop}{fs:List V}{n a n' a':Nat}{tr:List Rw->List Rw}{L:List AObj}{ts:List Nat}(hch:Chn L.length L fs n a tr n' a')(ha:a'<=100000){g u:V}{D I:Nat->Prop}{P:List AObj->Prop}{rs:List Rw}(hs:Seqs env g D I P (rs.map rowV))(hr:∀r∈rs,RowN n r)(hl:rs.length<=a)
  (hP:P L) (hD:∀j,D j->j<L.length) (hI:∀j,¬I j) (hg:g.cells=[g]/\g.isCell=true) {T:Tm} (t8:T 8=g) (t9:T 9=u) (hu:GrowV 0 ts 1 u fs.length fs) (hfl:fs.length<=10) (hR:∀u,VR n' ((tr rs).map Rw.pl) u->R u) :
  G env 41 none 114 (PV R) [.code L17,.code (jbQ 10 (jaz Tryz.f41))] (regZ 17 (jaz Tryz.f41)) T [] ⟨L,ts⟩:=by
 have hlen:=hu.len 136;simp only[regZ,regA,L17,jbQ,jaz,Tryz.f41,Kr,simprocAttr,Option.or,Ka,Ys,Y0,Kc,Vq,tyb,t8,t9,hlen]
 refine jau (λm T D0 U=>D0=[]/\T 102=u/\T 103=.int .i64 fs.length/\∃(H:List AObj) (i:Nat) (g1:V) (D1 I1:Nat->Prop) (P1:List AObj->Prop) (rs1:List Rw) (n1 a1:Nat) (tr1:List Rw->List Rw),U=⟨H,ts⟩/\T 104=.int .i64 i/\i<=fs.length/\m=fs.length-i/\T 8=g1 /\
   Chn L.length L (fs.drop i) n1 a1 tr1 n' a'/\tr1 rs1=tr rs/\Seqs env g1 D1 I1 P1 (rs1.map rowV)/\(∀r∈rs1,RowN n1 r)/\rs1.length<=a1/\P1 H/\(∀j,D1 j->j<H.length)/\(∀j,I1 j->L.length<=j)/\(∀j,j<L.length->H[j]? = L[j]?)/\L.length<=H.length/\(g1.cells=[g1]/\g1.isCell=true)) ?_ (fs.length-0) _ _ _
  ⟨rfl,rfl,rfl,L,0,g,D,I,P,rs,n,a,tr,rfl,rfl,Qm _,rfl,t8,hch,rfl,hs,hr,hl,hP,hD,λj h=>(hI j h).elim,λ_ _=>rfl,Kw _,hg⟩
 clear hch hs hr hl hP hD hI hg t8 t9 T;rintro m T D0 U ⟨rfl,t102,t103,H,i,g1,D1,I1,P1,rs1,n1,a1,tr1,rfl,t104,hi,rfl,t8,hch,htr,hs,hr,hl,hP,hD,hI,hag,hB,hg⟩;refine jaC ?_;by_cases hlt:i<fs.length
 ·have c1:(i:Int)<(fs.length:Int):=by omega
  have e1:IntKind.i64.wrap ((i:Int)+1)=((i+1:Nat):Int):=by rw[wrap_i64 aa aa];omega
  obtain⟨q,rfl⟩:=hu.isrow aa
  have hx:jaw 1 (.row fs fs.length q) (.int .i64 (i:Int))=some (.rptr (fs.drop i)):=by
   rw[Ys,Kg aa,Qj,Xc]
  have hd:=Qk hlt;rw[hd]at hch hx;obtain⟨⟨hf1,hf2,fid,cap,hf3⟩,ha1,tr2,m2,b2,tr3,hst,hbl,hch2,htr2⟩:=hch;obtain⟨hr2,g2,H2,hcall,hag2,hle2,hg2,D2,I2,P2,hs2,hP2,hD2,hI2⟩:=hst g1 D1 I1 P1 rs1 hs hr aa H ts hag hB hP hD hI hg;rw[hf3]at hcall;have hcall2:jah env (ev env) fid (g1::cap) ⟨H,ts⟩=some (g2,⟨H2,ts⟩):=hcall;simp only[simprocAttr,yK,Vq,tyb,t102,t103,t104,t8,c1,e1,hx,jaq,hf3,hcall2];exact⟨fs.length-(i+1),aa,H2,i+1,g2,D2,I2,P2,tr2 rs1,m2,b2,tr3,rfl,rfl,aa,rfl,rfl,hch2,by rw[<- htr,htr2],hs2,hr2,hbl rs1 hl,hP2,hD2,hI2,λj hj=>(hag2 j aa).trans (hag j hj),aa,hg2⟩
 ·have hie:i=fs.length:=by omega
  subst hie;have c1:((fs.length:Int)<(fs.length:Int))=False:=eq_false aa;rw[U8]at hch;obtain⟨rfl,rfl,hid⟩:=hch;rw[hid]at htr;obtain⟨w,U',hC,hgw,hgw0⟩:=jmq (ts:=ts) hs (λr h=>(hr r h).cell) aa hP hD;simp only[simprocAttr,zK,Vq,tyb,t102,t103,t104,t8,c1,hC];refine⟨_,jt8 _ hr hgw hgw0,hR _ ⟨_,rfl,λr h => ?_,?_⟩⟩
  ·obtain⟨r0,h0,rfl⟩:=Jd.1 h;obtain⟨k1,k2,k3,k4⟩:=hr r0 h0;exact⟨jiX k1,k2,k3,k4⟩
  ·rw[<- htr,X5];rfl
theorem jdq:∀{l:List (List UInt8 × Int)},(jcf l).1=0->∀x∈l,x.2=0
 | [],_,x,h=>by cases h
 | (n,e)::l,h,x,hx=>by
  simp only[jcf]at h;by_cases he:e=0
  ·rw[Kg he]at h
   rcases Jg.1 hx with rfl|hx
   ·exact he
   ·exact jdq h x hx
  ·rw[Ke he]at h;exact absurd h he
structure CK (Q:Qy) (ss:List Sch):Prop where
 all:(allE ss).1=0
 kind:jjr Q=0
 tab:0<=ja3 ss Q.table ss.length 0
 keep:0<=Q.keep/\Q.keep<=50
 pub:Q.keep ≠ 0->(schN ss Q.table).pub=false
 other:Q.other ≠ []->0<=ja3 ss Q.other ss.length 0/\0<=jbg (schN ss Q.table).cs Q.left/\0<=jbg (schN ss Q.other).cs Q.right/\1<=Q.limit/\Q.limit<=50/\((schN ss Q.table).pub=true->(schN ss Q.other).pub=true)
 lim:limE Q=0
 exp:expE Q (jaI Q ss)=0
 col:jl4 Q (jaI Q ss)=0
theorem ja4 {Q:Qy}{ss:List Sch}{fe:Int}(h:(jdD Q ss fe).1=0):CK Q ss:=by
 have z:=jdq h;unfold je6 at z;have h1:=z ([115,99,104,101,109,97,115],if(allE ss).1=0 then 0 else 3) ae;have h2:=z ([107,105,110,100],jjr Q) ae;have h3:=z ([116,97,98,108,101],YtajaampgajieeaaGreatDoor.tabE Q ss) ae;have h4:=z ([107,101,101,112],jkQ Q (schN ss Q.table)) ae;have h5:=z ([106,111,105,110],jiH Q ss (schN ss Q.table) (schN ss Q.other)) ae;have h6:=z ([101,120,112,114,101,115,115,105,111,110],expE Q (jaI Q ss)) ae;have h7:=z ([114,97,110,103,101],limE Q) ae;have h8:=z ([99,111,108,117,109,110],jl4 Q (jaI Q ss)) ae;simp only at h1 h2 h3 h4 h5 h6 h7 h8;refine⟨?_,h2,?_,?_,?_,λho => ?_,h7,h6,h8⟩
 ·by_cases a:(allE ss).1=0
  ·exact a
  ·rw[Ke a]at h1;cases h1
 ·unfold YtajaampgajieeaaGreatDoor.tabE at h3;by_cases a:0<=ja3 ss Q.table ss.length 0
  ·exact a
  ·rw[Ke a]at h3;cases h3
 ·unfold jkQ at h4;by_cases a:Q.keep<0\/50<Q.keep
  ·rw[Kg a]at h4;cases h4
  ·omega
 ·intro hk;unfold jkQ at h4;by_cases a:Q.keep<0\/50<Q.keep
  ·rw[Kg a]at h4;cases h4
  ·rw[Ke a]at h4;cases hp:(schN ss Q.table).pub
   ·rfl
   ·rw[Kg ⟨hk,hp⟩]at h4;cases h4
 ·unfold jiH at h5;rw[Ke ho]at h5;by_cases a:0<=ja3 ss Q.other ss.length 0
  case neg=>rw[Kg a]at h5;cases h5
  rw[Ke (by simpa using a)]at h5;by_cases b:(schN ss Q.table).pub=true/\(schN ss Q.other).pub=false
  ·rw[Kg b]at h5;cases h5
  rw[Ke b]at h5;by_cases c:¬0<=jbg (schN ss Q.table).cs Q.left\/¬0<=jbg (schN ss Q.other).cs Q.right
  ·rw[Kg c]at h5;cases h5
  rw[Ke c]at h5;split at h5
  ·cases h5
  ·by_cases d:Q.limit<1\/50<Q.limit
   ·rw[Kg d]at h5;cases h5
   ·refine⟨a,aa,aa,aa,aa,λhp => ?_⟩;cases ho2:(schN ss Q.other).pub
    ·exact absurd ⟨hp,ho2⟩ b
    ·rfl
theorem jkf {s:Sch}:∀{l:List PR} {seen:List Int} {i:Nat},(rowsE s seen i l).1=0->(∀r∈l,r.2.length=s.cs.length/\InC s.cs r.2/\(s.pub=true->r.1=0)/\(s.pub=false->1<=r.1/\r.1<=1000000))/\(s.pub=false->∀o,0<cnt o l->((cnt o l+seen.count o:Nat):Int)<=s.many)
 | [],_,_,_=>⟨λr h=>absurd h ae,λ_ o h=>absurd h (by simp[cnt])⟩
 | r::l,seen,i,h=>by
  simp only[rowsE]at h;by_cases he:rowE s seen r=0
  case neg=>rw[Ke he]at h;exact absurd h he
  rw[Kg he]at h;obtain⟨h1,h2⟩:=jkf h;unfold rowE at he;by_cases a:r.2.length=s.cs.length
  case neg=>rw[Kg a]at he;cases he
  rw[Ke (by simpa using a)]at he;by_cases b:(s.pub=true/\r.1 ≠ 0)\/(s.pub=false/\(r.1<1\/1000000<r.1))
  ·rw[Kg b]at he;cases he
  rw[Ke b]at he;by_cases c:InC s.cs r.2
  case neg=>rw[Kg (by simpa using c)]at he;cases he
  rw[Ke (by simpa using c)]at he;by_cases d:s.pub=false/\s.many<(seen.count r.1:Nat)+1
  ·rw[Kg d]at he;cases he
  refine⟨λx hx => ?_,λhp o ho => ?_⟩
  ·rcases Jg.1 hx with rfl|hx
   ·exact⟨a,c,λhp=>Jo λhn=>b (.inl ⟨hp,hn⟩),λhp=>⟨Int.not_lt.1 λhn=>b (.inr ⟨hp,.inl hn⟩),Int.not_lt.1 λhn=>b (.inr ⟨hp,.inr hn⟩)⟩⟩
   ·exact h1 x hx
  ·by_cases e:r.1=o
   ·subst e;have e1:cnt r.1 (r::l)=cnt r.1 l+1:=by simp[cnt]
    by_cases hl:0<cnt r.1 l
    ·have:=h2 hp r.1 hl;rw[List.count_cons_self]at this;rw[e1];omega
    ·have:¬s.many<(seen.count r.1:Nat)+1:=λhh=>d ⟨hp,hh⟩
     rw[e1];omega
   ·have e1:cnt o (r::l)=cnt o l:=by simp[cnt,e]
    have:=h2 hp o (by rw[<- e1];exact ho);rw[Vb e]at this;rw[e1];exact this
structure TG (t:Tb):Prop where
 l:t.rows.length<=2000
 r:∀r∈t.rows,r.vs.length=t.s.cs.length/\InC t.s.cs r.vs/\(t.s.pub=true->r.own=0)/\(t.s.pub=false->1<=r.own/\r.own<=1000000)
 m:t.s.pub=false->∀o,0<cnt o (t.rows.map Rw.pl)->(cnt o (t.rows.map Rw.pl):Int)<=t.s.many
theorem jsE {t:Tb}(h:(Tb.tabE t).1=0):TG t:=by
 unfold Tb.tabE B.tabE at h;by_cases a:(jdh t.s.name t.s.pub t.s.many t.s.cs).1=0
 case neg=>rw[Kg a]at h;cases h
 rw[Ke (by simpa using a)]at h;by_cases b:2000<(t.rows.map Rw.pl).length
 ·rw[Kg b]at h;cases h
 rw[Ke b]at h;obtain⟨h1,h2⟩:=jkf h;refine⟨by simpa using b,λr hr=>h1 r.pl (List.mem_map_of_mem hr),λhp o ho => ?_⟩;have:=h2 hp o ho;simpa using this
theorem jkg:∀{l:List Tb} {i:Nat},(tabsE i l).1=0->∀t∈l,TG t
 | [],_,_,t,h=>by cases h
 | x::l,i,h,t,ht=>by
  simp only[tabsE]at h;by_cases a:(Tb.tabE x).1=0
  ·rw[Kg a]at h
   rcases Jg.1 ht with rfl|ht
   ·exact jsE a
   ·exact jkg h t ht
  ·rw[Ke a]at h;exact absurd h a
theorem jhq {l:List Tb}(h:(jed l).1=0):(allE (sv l)).1=0/\∀t∈l,TG t:=by
 unfold jed at h;by_cases a:(allE (sv l)).1=0
 ·rw[Ke (by simpa using a)]at h;exact⟨a,jkg h⟩
 ·rw[Kg a]at h;exact absurd h a
theorem eF:Elt env 134 136 1 8:=⟨ac,ac,ac,ac,ac⟩
theorem rowF(f:FuncId)(c:List V):rowO env 134 1 [(0,.func f [] c)]=some (.row [.func f [] c] 1 .full):=ac
theorem hk26:env.hook 26=some (jbU K.env 26):=rfl
theorem hk97:env.hook 97=some (jbU YtajaampgajieeaaGreatDoor.env 97):=rfl
theorem jt9:env.hook 122=some (jbU YtajaampgajieeaaGreatDoor.env 122):=rfl
def Pre(L H:List AObj):Prop:=L.length<=H.length/\∀j,j<L.length->H[j]? = L[j]?
theorem Pre.rfl'(L:List AObj):Pre L L:=⟨Kw _,λ_ _=>rfl⟩
theorem Pre.app(L X:List AObj):Pre L (L++X):=⟨ae,λj hj=>Kj hj⟩
theorem Pre.trans {A B C:List AObj}(h:Pre A B)(g:Pre B C):Pre A C:=⟨Jp h.1 g.1,λj hj=>(g.2 j (Vp hj h.1)).trans (h.2 j hj)⟩
def CH(L:List AObj)(fs:List V)(n a:Nat)(tr:List Rw->List Rw)(n' a':Nat):Prop :=
 ∀H,Pre L H->∀fs2 m b tr2,Chn H.length H fs2 n' a' tr2 m b->Chn H.length H (fs++fs2) n a (λrs=>tr2 (tr rs)) m b
theorem CH.nil(L:List AObj)(n a:Nat):CH L [] n a (λrs=>rs) n a:=λH _ fs2 m b tr2 h=>h
theorem CH.pre {L L':List AObj}{fs:List V}{n a:Nat}{tr:List Rw->List Rw}{n' a':Nat}(h:CH L fs n a tr n' a')(hp:Pre L L'):CH L' fs n a tr n' a':=λH hH=>h H (hp.trans hH)
theorem CH.snoc {L L':List AObj}{fs:List V}{n a:Nat}{tr tr1:List Rw->List Rw}{n' a' m' b':Nat}{fid:FuncId}{cap:List V}(h:CH L fs n a tr n' a')(hp:Pre L L')(ha:a'<=100000)(hs:∀H,Pre L' H->Step (.func fid [] cap) H.length H tr1 n' m')(hb:∀rs,rs.length<=a'->(tr1 rs).length<=b') :
  CH L' (fs++[.func fid [] cap]) n a (λrs=>tr1 (tr rs)) m' b':=λH hH fs2 m b tr2 h2=>by
 rw[K7,Vs];exact h H (hp.trans hH) (.func fid [] cap::fs2) m b (λrs=>tr2 (tr1 rs)) ⟨⟨rfl,rfl,fid,cap,rfl⟩,ha,tr1,m',b',tr2,hs H hH,hb,h2,λ_=>rfl⟩
theorem colsQ_all {P:Col->Prop}{Q:Qy}{ss:List Sch}(h:∀s∈ss,∀c∈s.cs,P c):∀c∈jaI Q ss,P c:=by
 have hn:∀nm,∀c∈(schN ss nm).cs,P c:=λnm c hc=>by
  unfold schN at hc;split at hc
  ·rename_i hp;by_cases hl:(ja3 ss nm ss.length 0).toNat<ss.length
   ·exact h _ (by simp[List.getD,hl]) c hc
   ·rw[show ss.getD (ja3 ss nm ss.length 0).toNat Sch.none=Sch.none by simp[List.getD,hl]]at hc;cases hc
  ·cases hc
 intro c hc;unfold jaI at hc
 rcases Jl.1 hc with hc|hc
 ·exact hn _ c hc
 ·split at hc
  ·cases hc
  ·exact hn _ c hc
theorem jsF {ss:List Sch}{k:Nat}(h:∀i,i<ss.length->(ss.getD i Sch.none).cs.length<=k)(nm:List UInt8):(schN ss nm).cs.length<=k:=by
 unfold schN;split
 ·by_cases hl:(ja3 ss nm ss.length 0).toNat<ss.length
  ·exact h _ hl
  ·rw[show ss.getD (ja3 ss nm ss.length 0).toNat Sch.none=Sch.none by simp[List.getD,hl]];simp[Sch.none]
 ·simp[Sch.none]
theorem jo9 {Q:Qy}{ss:List Sch}{k:Nat}(h:∀i,i<ss.length->(ss.getD i Sch.none).cs.length<=k):(jaI Q ss).length<=k+k:=by
 unfold jaI;rw[Kk];have h1:=jsF h Q.table;have h2:=jsF h Q.other;split
 ·simp;omega
 ·omega
theorem jv3 {lv:V}{ss:List Sch}(hS:K.SB lv ss){Q:Qy}{v cv:V}{l:List Nd}(hv:K.NV v l)(hc:v.closed=true)(hu:K.CpV cv (jaI Q ss)):W.Fine v l cv (jaI Q ss):=by
 have hle:=jo9 (Q:=Q) hS.cl;refine⟨hv.rn.1 hc,by have:=hv.le;omega,hu.isC,?_,aa,?_⟩
 ·exact colsQ_all λs hs c hcm=>(hS.ok s hs).2 c hcm
 ·have:=colsQ_all (P:=λc=>jdL c) (Q:=Q) (ss:=ss) λs hs c hcm=>by
   obtain⟨i,hi,e⟩:=Jr hs;have hsh:=hS.sh i hi;rw[show ss.getD i Sch.none=s by simp[List.getD,hi,e]]at hsh;obtain⟨j,hj,e2⟩:=Jr hcm;have:=hsh.2.2 j hj;rwa[show s.cs.getD j Col.none=c by simp[List.getD,hj,e2]]at this
  exact λi hi=>this _ (by simp[List.getD,hi])
noncomputable def I14:Code:=match jbQ 8 (jaz Tryz.f41)with| .seq (.seq _ c) _=>c|_=>.skip
noncomputable def I9:Code:=match jbQ 7 (jaz Tryz.f41)with| .seq (.seq _ c) _=>c|_=>.skip
noncomputable def I7:Code:=match jbQ 6 (jaz Tryz.f41)with| .seq (.seq _ c) _=>c|_=>.skip
structure VI (v:V) (l:List Tb) (Q:Qy) (ev' wv rv:V) (g:V) (fs:List V) (T:Tm) (L:List AObj) (ts:List Nat):Prop where
 t0:T 0=v
 t3:T 3=.ptr 0 0
 t5:T 5=svV l
 t6:T 6=.int .i64 (ja3 (sv l) Q.table (sv l).length 0)
 t8:T 8=g
 u:GrowV 0 ts 1 (T 9) fs.length fs
 q:L[0]? = some (K.qc30 Q ev' wv rv)
section
variable {v:V}{l:List Tb}{Q:Qy}{ev' wv rv g:V}{fs:List V}{n a n' a':Nat}{tr:List Rw->List Rw}{L:List AObj}{ts:List Nat}{T:Tm}{R:V->Prop}{rs:List Rw}{P:List AObj->Prop}{D I:Nat->Prop}
noncomputable def whR(Q:Qy)(cs:List Col)(rs:List Rw):List Rw:=if Q.wh.length=0 then rs else rs.filter λr=>W.holdsV Q.wh cs r.vs
theorem v14(hB:BOK v l)(hQ:K.QV Q ev' wv rv)(hK:CK Q (sv l))(I0:VI v l Q ev' wv rv g fs T L ts)(hch:CH L fs n a tr n' a')(ha:a'<=100000)(hn:n'<=1000)
  (hs:Seqs env g D I P (rs.map rowV)) (hr:∀r∈rs,RowN n r) (hl:rs.length<=a) (hP:P L) (hD:∀j,D j->j<L.length) (hI:∀j,¬I j) (hg:g.cells=[g]/\g.isCell=true) (hfl:fs.length<=5)
  (hR:∀u,VR n' ((whR Q (jaI Q (sv l)) (tr rs)).map Rw.pl) u->R u) :
  G env 41 none 114 (PV R) [.code I14,.code (jbQ 9 (jaz Tryz.f41))] (regZ 14 (jaz Tryz.f41)) T [] ⟨L,ts⟩:=by
 have hlen:=hQ.w.len;have t3:=I0.t3;have t5:=I0.t5;have q0:=I0.q;by_cases hw:Q.wh.length=0
 ·have c1:((Q.wh.length:Int)>0)=False:=eq_false aa;simp only[regZ,regA,I14,jbQ,jaz,Tryz.f41,Kr,simprocAttr,Option.or,Kb,jd5 17,Zp,Ys,Y0,Kc,Vq,Q1,t3,t5,q0,hlen,c1];have h0:=hch L (.rfl' L) [] n' a' (λrs=>rs) ⟨rfl,rfl,λ_=>rfl⟩;rw[Jb]at h0;unfold whR at hR;simp only[hw,Kl]at hR;exact v17 h0 ha hs hr hl hP hD hI hg I0.t8 rfl I0.u aa hR
 ·have c1:((Q.wh.length:Int)>0)=True:=eq_true aa;obtain⟨cu,hcu,_,hCC⟩:=K.columns_call (jsA hB) hQ
  have hcu:=hcu ⟨hK.all,hK.tab,by
   by_cases ho:Q.other=[]
   ·exact .inl ho
   ·exact .inr (hK.other ho).1⟩
  have hC:=λU=>jiy hk26 hCC (ev env) U
  have hl30:=K.ld30 q0;have icu:cu.cells=[cu]/\cu.isCell=true:=by rcases hcu with⟨e,_⟩|e<;>rw[e]<;>exact⟨rfl,rfl⟩
  have hF:=jv3 (jsA hB) (Q:=Q) hQ.w hQ.cl.2.1 hcu
  obtain⟨u',ts',hA,gu,_⟩:=GrowV.push (E:=env) (hp:=L++[AObj.cells [cu] 36]++[AObj.cells [.func 125 [] [.ptr 0 0,.ptr L.length 0]] 142]) (q:=.full) (new:=[.func 205 [] [.ptr (L++[AObj.cells [cu] 36]).length 0]]) eF ⟨136,eF.slice⟩ I0.u (Qm _) rfl rfl (by
   have hlim:lim=2^40:=rfl;exact⟨by rw[hlim];omega,by rw[hlim];omega⟩)
  have w1:=jiZ (h:=.func 125 [] [.ptr 0 0,.ptr L.length 0]) ⟨rfl,rfl⟩ (L++[AObj.cells [cu] 36]) ts;unfold Qy.cells at hC;have u36:V.nilsl.cells=[.nilsl]:=rfl;have hpre:Pre L (L++[AObj.cells [cu] 36]++[AObj.cells [.func 125 [] [.ptr 0 0,.ptr L.length 0]] 142]):=(Pre.app _ _).trans (Pre.app _ _);have e0:(L++[AObj.cells [cu] 36]++[AObj.cells [.func 125 [] [.ptr 0 0,.ptr L.length 0]] 142])[0]? = some (K.qc30 Q ev' wv rv):=jaE (jaE q0 _) _;have ec:(L++[AObj.cells [cu] 36]++[AObj.cells [.func 125 [] [.ptr 0 0,.ptr L.length 0]] 142])[L.length]? = some (.cells [cu] 36):=jaE (jad _ _) _;have ef:(L++[AObj.cells [cu] 36]++[AObj.cells [.func 125 [] [.ptr 0 0,.ptr L.length 0]] 142])[(L++[AObj.cells [cu] 36]).length]? = some (.cells [.func 125 [] [.ptr 0 0,.ptr L.length 0]] 142):=jad _ _;simp only[regZ,regA,I14,jbQ,jaz,Tryz.f41,Kr,simprocAttr,Option.or,Kb,jd5 17,Zp,Ys,Y0,Kc,K0,jaa,Q1,t3,t5,q0,hlen,c1,hl30,hC,u36,jad,jan,icu.1,icu.2,w1,jar,rowF,hA];have h1:=hch.snoc hpre (tr1:=λrs=>rs.filter λr=>W.holdsV Q.wh (jaI Q (sv l)) r.vs) (m':=n') (b':=a') (fid:=205) (cap:=[.ptr (L++[AObj.cells [cu] 36]).length 0]) ha (λH hH=>jqn (ev':=ev') (rv:=rv) (cq:=0) (cc:=L.length) hF hn (by have:=hH.1;simp only[Kk,Ju]at this ⊢;omega) (by rw[hH.2 _ ae];exact ef) (by rw[hH.2 _ ae];exact e0) (by rw[hH.2 _ ae];exact ec)) (λrs h=>Jp (Uj _ _) h);have h2:=h1 _ (.rfl' _) [] n' a' (λrs=>rs) ⟨rfl,rfl,λ_=>rfl⟩;rw[Jb]at h2;unfold whR at hR;simp only[hw,Kn]at hR;refine v17 (u:=u') h2 ha hs hr hl (hs.stay _ _ hP λj hj=>hpre.2 j (hD j hj)) (λj hj=>Vp (hD j hj) hpre.1) hI hg I0.t8 rfl ?_ (by simp;omega) hR;rw[Kk,Ju];exact gu
end
theorem jpa {ss:List Sch}{nm:List UInt8}(h:0<=ja3 ss nm ss.length 0):∃i:Nat,ja3 ss nm ss.length 0=(i:Int)/\i<ss.length/\(ss.getD i Sch.none).name=nm/\schN ss nm=ss.getD i Sch.none/\∀k,k<i->(ss.getD k Sch.none).name ≠ nm:=by
 rcases je0 (λi=>decide ((ss.getD i Sch.none).name=nm)) ss.length 0 with e|⟨j,h1,h2,h3,h4,h5⟩
 ·unfold ja3 at h;omega
 ·have e:ja3 ss nm ss.length 0=(j:Int):=h1;refine⟨j,e,aa,by simpa using h4,?_,λk hk=>by simpa using h5 k aa hk⟩;unfold schN;rw[e,Kg aa,Qj]
def tbN(l:List Tb)(nm:List UInt8):Tb:=l.getD (ja3 (sv l) nm (sv l).length 0).toNat Tb.none
theorem tbN_spec {l:List Tb}{nm:List UInt8}(h:0<=ja3 (sv l) nm (sv l).length 0):∃i:Nat,ja3 (sv l) nm (sv l).length 0=(i:Int)/\i<l.length/\tbN l nm=l.getD i Tb.none/\schN (sv l) nm=cpS (tbN l nm).s/\tbN l nm∈l/\(tbN l nm).s.name=nm:=by
 obtain⟨i,h1,h2,h3,h4,_⟩:=jpa h;rw[ji2]at h2;have e:tbN l nm=l.getD i Tb.none:=by unfold tbN;rw[h1,Qj]
 refine⟨i,h1,h2,e,by rw[h4,jql h2,e],by rw[e];exact Tb.mem h2,?_⟩;rw[jql h2]at h3;rw[e];exact h3
def ixL(l:List Tb)(Q:Qy):Nat:=(jbg (tbN l Q.table).s.cs Q.left).toNat
def ixR(l:List Tb)(Q:Qy):Nat:=(jbg (tbN l Q.other).s.cs Q.right).toNat
def jnR(l:List Tb)(Q:Qy)(rs:List Rw):List Rw:=if Q.other=[]then rs else jF (tbN l Q.other).s.pub (ixL l Q) (ixR l Q) Q.limit (tbN l Q.other).rows rs
def jnN(l:List Tb)(Q:Qy)(n:Nat):Nat:=if Q.other=[]then n else n+(tbN l Q.other).s.cs.length
def kpR(Q:Qy)(rs:List Rw):List Rw:=if Q.keep=0 then rs else ji3 Q.keep [] rs
theorem jxH(pub:Bool)(left right:Nat)(limit:Int)(r:Rw)(o:List Rw)(m:Int):((jR pub left right limit r o m).length:Int)<=max 0 (limit-m):=by
 have h:=jfz pub left right limit r.pl (o.map Rw.pl) m;rw[<- jt5,Qw]at h;exact h
theorem ju1 {pub:Bool}{left right:Nat}{limit:Int}{o:List Rw}(h0:0<=limit)(h1:limit<=50):∀rs:List Rw,(jF pub left right limit o rs).length<=rs.length*50
 | []=>by simp[jF]
 |r::rs=>by
  have ih:=ju1 (pub:=pub) (left:=left) (right:=right) (o:=o) h0 h1 rs;have h2:=jxH pub left right limit r o 0;unfold jF at ih ⊢;rw[Uy,Kk,Qh];omega
theorem jhD(k:Nat):jcn (k:Int)=.tup [.int .i64 k,.bool true]:=by
 unfold jcn;rw[Kg aa,decide_eq_true (by omega:(0:Int)<=(k:Int))]
theorem jeG {cs:List Col}{nm:List UInt8}(h:0<=jbg cs nm):jbg cs nm=((jbg cs nm).toNat:Int)/\(jbg cs nm).toNat<cs.length:=by
 rcases jca cs nm with e|⟨j,e,hj,_⟩
 ·omega
 ·rw[e,Qj];exact⟨rfl,hj⟩
section
variable {v:V}{l:List Tb}{Q:Qy}{ev' wv rv g:V}{fs:List V}{n a n':Nat}{tr:List Rw->List Rw}{L:List AObj}{ts:List Nat}{T:Tm}{R:V->Prop}{rs:List Rw}{P:List AObj->Prop}{D I:Nat->Prop}
theorem v9(hB:BOK v l)(hQ:K.QV Q ev' wv rv)(hK:CK Q (sv l))(hG:∀t∈l,TG t)(I0:VI v l Q ev' wv rv g fs T L ts)(hch:CH L fs n a tr n' 2000)(hn:n'=(tbN l Q.table).s.cs.length)
  (hs:Seqs env g D I P (rs.map rowV)) (hr:∀r∈rs,RowN n r) (hl:rs.length<=a) (hP:P L) (hD:∀j,D j->j<L.length) (hI:∀j,¬I j) (hg:g.cells=[g]/\g.isCell=true) (hfl:fs.length<=3)
  (hR:∀u,VR (jnN l Q n') ((whR Q (jaI Q (sv l)) (jnR l Q (tr rs))).map Rw.pl) u->R u) :
  G env 41 none 114 (PV R) [.code I9,.code (jbQ 8 (jaz Tryz.f41))] (regZ 9 (jaz Tryz.f41)) T [] ⟨L,ts⟩:=by
 have t0:=I0.t0;have t3:=I0.t3;have t5:=I0.t5;have t6:=I0.t6;have t8:=I0.t8;have q0:=I0.q;have qlt:=jao q0;obtain⟨i,hi1,hi2,hi3,hi4,hi5,hi6⟩:=tbN_spec hK.tab;have hti:=hB.t _ hi5;have hnle:n'<=200:=by rw[hn];exact hti.cl
 by_cases ho:Q.other=[]
 ·have c1:=eq_true ho;simp only[regZ,regA,I9,jbQ,jaz,Tryz.f41,Kr,simprocAttr,Option.or,Kb,jd5 14,Zp,Ys,Y0,Kc,Vq,Q1,t3,q0,jaF,c1,Q8,Ji,not_true_eq_false];unfold jnN jnR at hR;simp only[ho,Kl]at hR;exact v14 hB hQ hK ⟨t0,t3,t5,t6,t8,I0.u,q0⟩ hch aa aa hs hr hl hP hD hI hg aa hR
 ·have c1:=eq_false ho;obtain⟨f1,f2,f3,f4,f5,f6⟩:=hK.other ho;obtain⟨k,hk1,hk2,hk3,hk4,hk5,hk6⟩:=tbN_spec f1;have htk:=hB.t _ hk5;rw[hi4]at f2;rw[hk4]at f3;obtain⟨l1,l2⟩:=jeG f2;obtain⟨m1,m2⟩:=jeG f3;have hF:=λU=>jb6 hk97 (λU=>find_call Q.other _ _ (jkc l) (jt7 hB) (by rw[ji2];exact hB.l) U) (ev env) U
  rw[hk1,jhD]at hF;have hC1:=λU=>jb6 jt9 (λU=>jdB Q.left (.str (tbN l Q.table).s.name) (.bool (tbN l Q.table).s.pub) (.int .i64 (tbN l Q.table).s.many) rfl rfl rfl _ _ (jhg hti.cv) hti.ok (by have:=hti.cl;omega) U) (ev env) U
  have hC2:=λU=>jb6 jt9 (λU=>jdB Q.right (.str (tbN l Q.other).s.name) (.bool (tbN l Q.other).s.pub) (.int .i64 (tbN l Q.other).s.many) rfl rfl rfl _ _ (jhg htk.cv) htk.ok (by have:=htk.cl;omega) U) (ev env) U
  change ∀U,_=some (jcn (jbg _ _),U)at hC1 hC2
  have l2:ixL l Q<(tbN l Q.table).s.cs.length:=l2;have m2:ixR l Q<(tbN l Q.other).s.cs.length:=m2;have l1':jbg (tbN l Q.table).s.cs Q.left=(ixL l Q:Int):=l1;have m1':jbg (tbN l Q.other).s.cs Q.right=(ixR l Q:Int):=m1;rw[l1',jhD]at hC1;rw[m1',jhD]at hC2;have hx1:=jkJ (jkc l) (show i<(sv l).length by rw[ji2];exact hi2);have hx2:=jkJ (jkc l) (show k<(sv l).length by rw[ji2];exact hk2);have hx3:=jiK hB.v hk2;rw[jql hi2,<- hi3]at hx1;rw[jql hk2,<- hk3]at hx2;rw[<- hk3]at hx3;simp only[cpS]at hx1 hx2;have hJ:=jqi (tbN l Q.other) (jcu htk.cv) (jdu htk.rv) (ixL l Q) (ixR l Q) Q.limit L ts;unfold Tb.cells at hJ;rw[hi1]at t6
  obtain⟨u',ts',hA,gu,_⟩:=GrowV.push (E:=env) (hp:=L++[AObj.cells [.str (tbN l Q.other).s.name,.bool (tbN l Q.other).s.pub,.int .i64 (tbN l Q.other).s.many,(tbN l Q.other).s.cv,(tbN l Q.other).rv] 79,.cells [.int .i64 (ixL l Q)] 3,.cells [.int .i64 (ixR l Q)] 3,.cells [.int .i64 Q.limit] 3]) (q:=.full) (new:=[.func 202 [] [.ptr (L.length+1) 0,.ptr L.length 0,.ptr (L.length+3) 0,.ptr (L.length+2) 0]]) eF ⟨136,eF.slice⟩ I0.u (Qm _) rfl rfl (by
   have hlim:lim=2^40:=rfl;exact⟨by rw[hlim];omega,by rw[hlim];omega⟩)
  have u9:T 9=T 9:=rfl;obtain⟨L',hL'⟩:∃L',L'=L++[AObj.cells [.str (tbN l Q.other).s.name,.bool (tbN l Q.other).s.pub,.int .i64 (tbN l Q.other).s.many,(tbN l Q.other).s.cv,(tbN l Q.other).rv] 79,.cells [.int .i64 (ixL l Q)] 3,.cells [.int .i64 (ixR l Q)] 3,.cells [.int .i64 Q.limit] 3]:=⟨_,rfl⟩;rw[<- hL']at hJ hA;have hpre:Pre L L':=by rw[hL'];exact Pre.app _ _
  have q0':L'[0]? = some (K.qc30 Q ev' wv rv):=(hpre.2 0 qlt).trans q0;simp only[regZ,regA,I9,jbQ,jaz,Tryz.f41,Kr,simprocAttr,Option.or,Kb,jd5 14,Zp,Ys,Y0,Kc,Vq,-Ys,Q1,t0,t3,t5,t6,t8,q0,jaF,c1,Q8,Ji,not_true_eq_false,hF,hx1,hx2,ld4r,hC1,hC2];refine⟨ac,ac,?_⟩;refine jcI rfl (λs0=>s0.heap[0]? = some (K.qc30 Q ev' wv rv)) q0 ac ?_;simp only[Kb,jd5 14,Zp,simprocAttr,Ys,Y0,Kc,Vq,Kf,-Ys,Q1,t0,t3,t5,t6,t8,q0,hx3,jcG,hJ,jar,rowF,hA,q0'];refine⟨λ_ _=>trivial,λs h=>by rw[h];rfl,λ_=>trivial,λ_=>trivial,?_⟩;unfold jnN jnR at hR;simp only[ho,Kn]at hR
  have atk:∀j o,j<4->([AObj.cells [.str (tbN l Q.other).s.name,.bool (tbN l Q.other).s.pub,.int .i64 (tbN l Q.other).s.many,(tbN l Q.other).s.cv,(tbN l Q.other).rv] 79,.cells [.int .i64 (ixL l Q)] 3,.cells [.int .i64 (ixR l Q)] 3,.cells [.int .i64 Q.limit] 3]:List AObj)[j]? = some o->L'[L.length+j]? = some o:=λj o hj h=>by
   rw[hL',Jv aa,show L.length+j-L.length=j by omega];exact h
  have lenL':L'.length=L.length+4:=by rw[hL'];simp
  have hcj:CJ (tbN l Q.other) L.length (L.length+1) (L.length+2) (L.length+3) (ixL l Q) (ixR l Q) Q.limit L':=⟨atk 0 _ aa rfl,atk 1 _ aa rfl,atk 2 _ aa rfl,atk 3 _ aa rfl⟩;have hgk:=hG _ hk5;have hrl:=hgk.l
  have h1:=hch.snoc hpre (tr1:=jF (tbN l Q.other).s.pub (ixL l Q) (ixR l Q) Q.limit (tbN l Q.other).rows) (m':=n'+(tbN l Q.other).s.cs.length) (b':=100000) (fid:=202) (cap:=[.ptr (L.length+1) 0,.ptr L.length 0,.ptr (L.length+3) 0,.ptr (L.length+2) 0]) aa
   (λH hH=>jsD htk ⟨aa,aa⟩ ⟨by rw[hn];exact l2,m2⟩ aa (λs hs=>⟨(hgk.r s hs).1,by have:=htk.cl;omega⟩) (λj hj=>by have:=hH.1;omega) (hcj.same λj hj=>hH.2 j aa) (by have:=htk.cl;omega))
   (λrs h=>by have:=ju1 (pub:=(tbN l Q.other).s.pub) (left:=ixL l Q) (right:=ixR l Q) (o:=(tbN l Q.other).rows) (limit:=Q.limit) aa aa rs;omega)
  refine v14 hB hQ hK ⟨t0,t3,t5,by rw[hi1];exact t6,t8,?_,q0'⟩ h1 aa (by have:=htk.cl;omega) hs hr hl (hs.stay _ _ hP λj hj=>hpre.2 j (hD j hj)) (λj hj=>Vp (hD j hj) hpre.1) hI hg (by simp;omega) hR;show GrowV 0 ts' 1 u' _ _;rw[Kk,Ju];exact gu
theorem v7(hB:BOK v l)(hQ:K.QV Q ev' wv rv)(hK:CK Q (sv l))(hG:∀t∈l,TG t)(I0:VI v l Q ev' wv rv g [] T L ts)
  (hs:Seqs env g D I P (rs.map rowV)) (hr:∀r∈rs,RowN (tbN l Q.table).s.cs.length r) (hl:rs.length<=2000) (hP:P L) (hD:∀j,D j->j<L.length) (hI:∀j,¬I j) (hg:g.cells=[g]/\g.isCell=true)
  (hR:∀u,VR (jnN l Q (tbN l Q.table).s.cs.length) ((whR Q (jaI Q (sv l)) (jnR l Q (kpR Q rs))).map Rw.pl) u->R u) :
  G env 41 none 114 (PV R) [.code I7,.code (jbQ 7 (jaz Tryz.f41))] (regZ 7 (jaz Tryz.f41)) T [] ⟨L,ts⟩:=by
 have t0:=I0.t0;have t3:=I0.t3;have q0:=I0.q;have qlt:=jao q0;by_cases hk:Q.keep=0
 ·have c1:=eq_true hk;simp only[regZ,regA,I7,jbQ,jaz,Tryz.f41,Kr,simprocAttr,Option.or,Kb,jd5 9,Zp,Ys,Y0,Kc,Vq,Q1,t3,q0,c1];unfold kpR at hR;simp only[hk,Kl]at hR;exact v9 hB hQ hK hG ⟨I0.t0,I0.t3,I0.t5,I0.t6,I0.t8,I0.u,q0⟩ (CH.nil _ _ _) rfl hs hr hl hP hD hI hg ae hR
 ·have c1:=eq_false hk;have w1:=jqg Q.keep L ts
  obtain⟨u',ts',hA,gu,_⟩:=GrowV.push (E:=env) (hp:=L++[AObj.cells [.int .i64 Q.keep] 3]) (q:=.full) (new:=[.func 198 [] [.ptr L.length 0]]) eF ⟨136,eF.slice⟩ I0.u (Qm _) rfl rfl (by
   have hlim:lim=2^40:=rfl;exact⟨by rw[hlim];simp,by rw[hlim];simp⟩)
  have hpre:Pre L (L++[AObj.cells [.int .i64 Q.keep] 3]):=Pre.app _ _;simp only[regZ,regA,I7,jbQ,jaz,Tryz.f41,Kr,simprocAttr,Option.or,Kb,jd5 9,Zp,Ys,Y0,Kc,Vq,Q1,t3,q0,c1,w1,jar,rowF,hA];unfold kpR at hR;simp only[hk,Kn]at hR
  have h1:=(CH.nil L (tbN l Q.table).s.cs.length 2000).snoc hpre (tr1:=ji3 Q.keep []) (m':=(tbN l Q.table).s.cs.length) (b':=2000) (fid:=198) (cap:=[.ptr L.length 0]) aa
   (λH hH=>jsB (by have:=hH.1;simp at this;omega) (by rw[hH.2 _ ae];exact jad _ _))
   (λrs h=>by
    have:=(jeD Q.keep (rs.map Rw.pl) []).length_le;rw[<- jh5,Qw,Qw]at this;omega)
  refine v9 hB hQ hK hG ⟨I0.t0,I0.t3,I0.t5,I0.t6,I0.t8,?_,jaE q0 _⟩ h1 rfl hs hr hl (hs.stay _ _ hP λj hj=>hpre.2 j (hD j hj)) (λj hj=>Vp (hD j hj) hpre.1) hI hg ae hR;show GrowV 0 ts' 1 u' _ _;exact gu
end
noncomputable def vpQ(l:List Tb)(Q:Qy):VP where
 rows:=(tbN l Q.table).rows.map Rw.pl
 keep:=Q.keep
 jn:=if Q.other=[]then none else some ((tbN l Q.other).rows.map Rw.pl,(tbN l Q.other).s.pub,ixL l Q,ixR l Q,Q.limit)
 hold:=if Q.wh.length=0 then none else some λxs=>W.holdsV Q.wh (jaI Q (sv l)) xs
theorem ji5(p:List Int->Bool):∀rs:List Rw,(rs.filter λr=>p r.vs).map Rw.pl=(rs.map Rw.pl).filter λr=>p r.2
 | []=>rfl
 |r::rs=>by
  rw[List.filter_cons,K6,List.filter_cons];show(if p r.vs=true then r::rs.filter (λr=>p r.vs)else rs.filter λr=>p r.vs).map Rw.pl=if p r.vs=true then _ else _
  split
  ·rw[K6,ji5 p rs]
  ·exact ji5 p rs
theorem jxI(Q:Qy)(rs:List Rw):(kpR Q rs).map Rw.pl=if Q.keep=0 then rs.map Rw.pl else jgq Q.keep [] (rs.map Rw.pl):=by
 unfold kpR;split
 ·rfl
 ·exact jh5 _ _ _
theorem jxJ(l:List Tb)(Q:Qy)(rs:List Rw):(jnR l Q rs).map Rw.pl=if Q.other=[]then rs.map Rw.pl else je9 (tbN l Q.other).s.pub (ixL l Q) (ixR l Q) Q.limit ((tbN l Q.other).rows.map Rw.pl) (rs.map Rw.pl):=by
 unfold jnR;split
 ·rfl
 ·exact jxB _ _ _ _ _ _
theorem jv4(l:List Tb)(Q:Qy)(rs:List Rw)(h:rs.map Rw.pl=(tbN l Q.table).rows.map Rw.pl):(whR Q (jaI Q (sv l)) (jnR l Q (kpR Q rs))).map Rw.pl=(vpQ l Q).view:=by
 have hj:(jnR l Q (kpR Q rs)).map Rw.pl=(vpQ l Q).joined:=by
  rw[jxJ,jxI,h];unfold VP.joined VP.kept vpQ;by_cases ho:Q.other=[]
  ·simp only[ho,Kl]
  ·simp only[ho,Kn]
 unfold VP.view whR;by_cases hw:Q.wh.length=0
 ·simp only[vpQ,hw,Kl];rw[hj];rfl
 ·simp only[vpQ,hw,Kn];rw[ji5 λxs=>W.holdsV Q.wh (jaI Q (sv l)) xs,hj];rfl
def FitQ(l:List Tb)(Q:Qy)(fe:Int):Prop:=(jed l).1=0/\(jdD Q (sv l) fe).1=0
theorem jz7(a b c d e:V):jrm env 79 1 (.agg [a,b,c,d,e])=some e:=ac
theorem jv5 {t:Tb}(ht:TOK t)(hg:TG t):∀r∈t.rows.map cpR,RowN t.s.cs.length r:=λr hr=>by
 obtain⟨r0,h0,rfl⟩:=Jd.1 hr;obtain⟨h1,h2,h3⟩:=ht.ro r0 h0;exact⟨jiX h1,(hg.r r0 h0).1,h2,h3⟩
theorem jsG {v:V}{l:List Tb}{Q:Qy}{ev' wv rv:V}{fe:Int}(hB:BOK v l)(hQ:K.QV Q ev' wv rv)(hf:K.Fac Q.factor fe) :
  ∃u,((FitQ l Q fe->VR (jnN l Q (tbN l Q.table).s.cs.length) (vpQ l Q).view u)/\(¬FitQ l Q fe->u=.nilsl))/\∀U,jah env (ev env) 41 [v,.agg (Q.cells ev' wv rv)] U=some (u,U):=by
 have hF:=jo7 hB hQ hf;have x:=hQ.x;by_cases hfit:FitQ l Q fe
 case neg =>
  have e:decide ((jed l).1=0/\(jdD Q (sv l) fe).1=0)=false:=decide_eq_false hfit;rw[e]at hF;refine⟨.nilsl,⟨λh=>absurd h hfit,λ_=>rfl⟩,λU => ?_⟩;refine jaj (by rw[Ks,Ks,hB.closed,hQ.closed];rfl) at41 rfl ?_ U;have hl30:jab [K.qc30 Q ev' wv rv] 20 (.ptr 0 0)=_:=K.ld30 (Q:=Q) (ev:=ev') (wv:=wv) (rv:=rv) rfl;unfold Qy.cells at hF ⊢;simp only[Tryz.f41,simprocAttr,zK,Vq,jai,tyb,YW,hl30,hF];rfl
 have e:decide ((jed l).1=0/\(jdD Q (sv l) fe).1=0)=true:=decide_eq_true hfit;rw[e]at hF;have hK:=ja4 hfit.2;have hG:=(jhq hfit.1).2;obtain⟨i,hi1,hi2,hi3,hi4,hi5,hi6⟩:=tbN_spec hK.tab;have hti:=hB.t _ hi5;have hgi:=hG _ hi5
 have key:∃u,VR (jnN l Q (tbN l Q.table).s.cs.length) (vpQ l Q).view u/\∀U,jah env (ev env) 41 [v,.agg (Q.cells ev' wv rv)] U=some (u,U):=by
  refine jlS (by rw[Ks,Ks,hB.closed,hQ.closed];rfl) at41 rfl _ ?_;have hl30:jab [K.qc30 Q ev' wv rv] 20 (.ptr 0 0)=_:=K.ld30 (Q:=Q) (ev:=ev') (wv:=wv) (rv:=rv) rfl;have hS:=jcC hB;have hFi:=λU=>jb6 hk97 (λU=>find_call Q.table _ _ (jkc l) (jt7 hB) (by rw[ji2];exact hB.l) U) (Go.Ab.ev env) U
  rw[hi1,jhD]at hFi;have hx:=jiK hB.v hi2;rw[<- hi3]at hx;have hC:=jke hti;have hVals:=jnY (rwV ((tbN l Q.table).rows.map cpR)) (by unfold rwV;split<;>exact⟨rfl,rfl⟩) [K.qc30 Q ev' wv rv] [];unfold Qy.cells at hF ⊢;unfold Tb.cells cpT at hC;simp only[cpS]at hC;simp only[Tryz.f41,Kb,jd5 7,Zp,simprocAttr,Ys,Y0,Kc,Vq,-Ys,jai,Q1,YW,hl30,hF,hS,hFi,hx,jcG,hC,jlK,jz7,hVals];have hrows:=jv5 hti hgi;refine v7 (g:=.func 196 [] [.ptr 1 0]) hB hQ hK hG ⟨rfl,rfl,rfl,by rw[hi1];rfl,rfl,.nil,rfl⟩ (jqe (ji1 _) (λr h=>(hrows r h).cell) (by have:=hti.rl;simp;omega) 1) hrows (by have:=hgi.l;simpa using this) rfl (λj hj=>by subst hj;simp) (λj hj=>hj) ⟨rfl,rfl⟩ λu hu => ?_
  rw[jv4 l Q _ (by rw[X5];rfl)]at hu;exact hu
 obtain⟨u,h1,h2⟩:=key;exact⟨u,⟨λ_=>h1,λh=>absurd hfit h⟩,h2⟩
end Go.Proofs.YtajaampgajieeaaGreatDoor.B
