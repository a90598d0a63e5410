/- Proved here: the law. Conditions: each theorem's own. -/
import Derived.Test.YtajaampgajieeaaGreatDoorCpA
import Derived.Test.YtajaampgajieeaaGreatDoorAdA
set_option linter.unusedSimpArgs false
set_option maxHeartbeats 16000000
set_option maxRecDepth 1000000
set_option linter.unusedVariables false
set_option linter.unusedSectionVars false
namespace Go.Proofs.YtajaampgajieeaaGreatDoor.N
open Go.Ab
open B (TOK BOK sv svV cpS vpQ tbN FitQ jer jbz CK)
section
variable {cs:List Col}{tbs:List Tb}{Q:Qy}
end
section
variable {Q:Post}{ks:List Kt}{av bv:V}{ra rb:List Rw}
end
theorem joR {M:List AObj}{w:Nat}{x:AObj}(h:M[w]? = some x):M.set w x=M:=by
 refine Xt λi => ?_
 by_cases e:w=i
 ·subst e;rw[Kq (jam h),h]
 ·rw[Ki e]
section
variable {Q:Post}{ks:List Kt}{av:V}{ra:List Rw}
end
open B (TOK BOK sv svV cpS vpQ tbN FitQ VR rwV jhA RowN)
theorem jvq(U:S):jah env (ev env) 64 [] U=some (.bool true,U):=rfl
theorem VR.rows {n:Nat}{ps:List PR}{u:V}(h:VR n ps u):∃ws:List Rw,IsR u ws/\OkR ws/\(∀r∈ws,r.vs.length=n)/\ws.map Rw.pl=ps:=by
 obtain⟨ws,rfl,h1,h2⟩:=h;exact⟨ws,jhA ws,λr hr=>⟨(h1 r hr).1,(h1 r hr).2.2.1,(h1 r hr).2.2.2⟩,λr hr=>(h1 r hr).2.1,h2⟩
theorem jzI(L:List AObj)(a0 a1 a2 a3 a4 a5 a6 a7 a8 a9 a10 a11 a12 a13 a14 a15 a16 a17 a18 a19:V):jab (L++[.cells [a0,a1,a2,a3,a4,a5,a6,a7,a8,a9,a10,a11,a12,a13,a14,a15,a16,a17,a18,a19] 30]) 20 (.ptr L.length 0)=some [a0,a1,a2,a3,a4,a5,a6,a7,a8,a9,a10,a11,a12,a13,a14,a15,a16,a17,a18,a19]:=by simp[jab]
open B (TOK BOK sv svV cpS vpQ tbN FitQ jer jbz iV jdF jbO jjh)
theorem hk37:env.hook 37=some (jb2 B.env 37):=rfl
theorem hk43:env.hook 43=some (jb2 B.env 43):=rfl
theorem hk45:env.hook 45=some (jb2 B.env 45):=rfl
section
variable {cs:List Col}{tbs:List Tb}{Q:Qy}{ev wv rv:V}{fe:Int}
theorem fitW(h:BaseG cs tbs):FitQ (tbs.map jes) Q fe↔FitQ tbs Q fe:=by
 unfold FitQ;rw[je7 h];exact⟨λg=>⟨(jkY h).2,g.2⟩,λg=>⟨(jkY h.weak).2,g.2⟩⟩
theorem ok1(h:BaseG cs tbs):∀c∈jaI Q (sv tbs),Ok1 c:=B.colsQ_all λs hs c hc=>by
 unfold sv at hs;obtain⟨t,ht,rfl⟩:=Jm.1 hs;have hk:Kit c:=h.kits ht c hc;obtain⟨j,hj,hn⟩:=hk.1;exact⟨by rw[hn];exact jkJ hj,jkK hk⟩
theorem jst {f:FuncId}{r:V}(hk:env.hook f=some (jb2 B.env f))(hp:B.env.pure f=true)(hn:B.env.hook f=none)(h:BaseG cs tbs)(hQ:WQ Q ev wv rv)(q:RCap)
  (H:∀l v e w x,l=tbs\/l=tbs.map jes->BOK v l->K.QV Q e w x->∀U,jah B.env (Go.Ab.ev B.env) f [v,.agg (Q.cells e w x)] U=some (r,U)) (U:S) :
  jah env (Go.Ab.ev env) f [.row (jcF tbs) tbs.length q,.agg (Q.cells ev wv rv)] U=some (r,U):=by
 refine jrd hk (jlR hp hn (λhc => ?_) ?_ ?_) _ U
 ·simp only[Kv,Qr,Q6,Qu]at hc;exact H _ _ _ _ _ (.inl rfl) (h.bok hc.1) (hQ.qv (jj6 hc.2))
 ·have h1:=hQ.weak.closed;simp only[K9,Jz,Kv,Qr,jh0 hQ,h1,jfY,(h.bokW q).closed,K8]
 ·simp only[K9,Jz,jfY,jh0 hQ];exact H _ _ _ _ _ (.inr rfl) (h.bokW q) hQ.weak
theorem jxa(h:BaseG cs tbs):jdF (tbs.map jes) Q=jdF tbs Q:=by
 unfold jdF;rw[jkX h,je7 h]
theorem jt7(h:BaseG cs tbs)(xs:List Int):jbO (tbs.map jes) Q xs=jbO tbs Q xs:=by
 unfold jbO;rw[jkX h,je7 h]
open Classical in
theorem jtA(h:BaseG cs tbs)(hQ:WQ Q ev wv rv)(hf:K.Fac Q.factor fe)(q:RCap)(U:S):jah env (Go.Ab.ev env) 37 [.row (jcF tbs) tbs.length q,.agg (Q.cells ev wv rv)] U=some (if valK Q.kind/\FitQ tbs Q fe then iV (jdF tbs Q)else .nilsl,U) :=
 jst hk37 rfl rfl h hQ q (λl v e w x hl hB hQ U=>by
  rw[B.values37 hB hQ hf]
  rcases hl with rfl|rfl
  ·rfl
  ·rw[jxa h];simp only[fitW h]) U
open Classical in
theorem jtB(h:BaseG cs tbs)(hQ:WQ Q ev wv rv)(hf:K.Fac Q.factor fe)(q:RCap)(U:S):jah env (Go.Ab.ev env) 43 [.row (jcF tbs) tbs.length q,.agg (Q.cells ev wv rv)] U=some (if FitQ tbs Q fe/\Q.column ≠ []then iV (jbO tbs Q (List.replicate (vpQ tbs Q).view.length 1))else .nilsl,U) :=
 jst hk43 rfl rfl h hQ q (λl v e w x hl hB hQ U=>by
  rcases hl with rfl|rfl
  ·exact B.counts43 hB hQ hf (ok1 h) U
  ·rw[B.counts43 hB hQ hf (by rw[je7 h];exact ok1 h) U,jt7 h,jkX h];simp only[fitW h]) U
open Classical in
theorem jtC(h:BaseG cs tbs)(hQ:WQ Q ev wv rv)(hf:K.Fac Q.factor fe)(q:RCap)(U:S):jah env (Go.Ab.ev env) 45 [.row (jcF tbs) tbs.length q,.agg (Q.cells ev wv rv)] U=some (if FitQ tbs Q fe/\Q.kind=4 then iV (jbO tbs Q (jdF tbs Q))else .nilsl,U) :=
 jst hk45 rfl rfl h hQ q (λl v e w x hl hB hQ U=>by
  rcases hl with rfl|rfl
  ·exact B.totals45 hB hQ hf (ok1 h) U
  ·rw[B.totals45 hB hQ hf (by rw[je7 h];exact ok1 h) U,jt7 h,jxa h];simp only[fitW h]) U
end
theorem jn0 {B:Int}(hB:0<=B):∀l:List Int,(∀x∈l,-B<=x/\x<=B) -> -(B*l.length)<=sumI l/\sumI l<=B*l.length
 | [],_=>by simp[sumI]
 |x::l,h=>by
  have h1:=jn0 hB l λy hy=>h y (by simp[hy])
  have h2:=h x (by simp);have e:B*((x::l).length:Nat)=B*l.length+B:=by rw[Qi,U8,Int.mul_add];simp
  rw[e,jdb];omega
theorem jsu(n:Nat):sumI (List.replicate n 1)=n:=by
 induction n with
 |zero=>rfl
 |succ n ih=>rw[Xv,jdb,ih];omega
section
variable {cs:List Col}{tbs:List Tb}{Q:Qy}{fe:Int}
theorem jo8(h:BaseG cs tbs)(hF:FitQ tbs Q fe):(vpQ tbs Q).view.length<=600:=by
 have hK:=jbz hF.2;obtain⟨t1,_,_⟩:=jw8 h hK.tab;obtain⟨_,hl⟩:=h.r _ t1;have h2:=(vpQ tbs Q).view_sub.length_le
 have h3:=B.joinedL (vpQ tbs Q) λo pub left right limit e=>by
  unfold vpQ at e;by_cases ho:Q.other=[]
  ·simp only[ho,Kl]at e;cases e
  ·simp only[ho,Km,Kg,Kw]at e;have:=(hK.other ho).2.2.2.2.1;omega
 have h7:(vpQ tbs Q).rows.length=(tbN tbs Q.table).rows.length:=by simp[vpQ]
 omega
theorem jez(tbs:List Tb)(Q:Qy)(xs:List Int):(jbO tbs Q xs).length=B.widQ (jaI Q (sv tbs)) Q:=jcD _ _
theorem jmt(h:BaseG cs tbs)(hF:FitQ tbs Q fe)(hc:Q.column ≠ []){xs:List Int}(hl:xs.length=(vpQ tbs Q).view.length):sumI (jbO tbs Q xs)=sumI xs:=by
 obtain⟨_,_,hw⟩:=B.fit_col hF (ok1 h);obtain⟨hk,h1,h2⟩:=hw hc;unfold jbO;rw[jjU,List.map_snd_zip (by rw[Ja];omega)];intro x hx;obtain⟨r,hr,e⟩:=Jm.1 (U9 hx).1;have hi:=(B.view_in hF r hr).1 _ hk;have ho:=B.ok1_facts (ok1 (Q:=Q) h ((jaI Q (sv tbs)).getD (B.colI (jaI Q (sv tbs)) Q) Col.none) (by simp[List.getD,hk]));rw[<- e];unfold B.cellI B.widQ;omega
theorem jtD(h:BaseG cs tbs)(hF:FitQ tbs Q fe){d:Int}(hd:0<=d){xs:List Int}(hx:∀x∈xs,-d<=x/\x<=d)(hl:xs.length=(vpQ tbs Q).view.length):∀x∈jbO tbs Q xs,-(d*600)<=x/\x<=d*600:=λx hxm=>by
 obtain⟨i,hi,rfl⟩:=Jp hxm;have hi2:=hi;rw[jez]at hi2;have hv:=jo8 h hF;have hc:=B.cells_le (B.widQ (jaI Q (sv tbs)) Q) hd (((vpQ tbs Q).view.map (B.cellI (jaI Q (sv tbs)) (B.colI (jaI Q (sv tbs)) Q))).zip xs) (λx hx2=>hx _ (U9 hx2).2) i hi2
 have e:(jb7 (B.widQ (jaI Q (sv tbs)) Q) (((vpQ tbs Q).view.map (B.cellI (jaI Q (sv tbs)) (B.colI (jaI Q (sv tbs)) Q))).zip xs)).getD i 0=(jbO tbs Q xs)[i]:=by
  show(jbO tbs Q xs).getD i 0=_;simp[List.getD,hi]
 rw[e]at hc;have hz:(((vpQ tbs Q).view.map (B.cellI (jaI Q (sv tbs)) (B.colI (jaI Q (sv tbs)) Q))).zip xs).length<=600:=by simp;omega
 have h2:d*((((vpQ tbs Q).view.map (B.cellI (jaI Q (sv tbs)) (B.colI (jaI Q (sv tbs)) Q))).zip xs).length:Int)<=d*600:=V7 (by omega) hd;omega
end
theorem ji3 {xs:List Int}{i:Nat}(h:i<xs.length):sumI (xs.take (i+1))=sumI (xs.take i)+xs.getD i 0:=by
 rw[B.take_next 0 h,joO,jdb];show _+(_+0)=_;omega
theorem jho {d:Int}(hd:0<=d){xs:List Int}(hb:∀x∈xs,-d<=x/\x<=d)(i:Nat) : -(d*xs.length)<=sumI (xs.take i)/\sumI (xs.take i)<=d*xs.length:=by
 have h:=jn0 hd (xs.take i) λx hx=>hb x (Vs hx)
 have h2:d*((xs.take i).length:Int)<=d*(xs.length:Int):=V7 (Int.ofNat_le.2 (by rw[Q7];omega)) hd;omega
section
variable {Q:Post}{ks:List Kt}{vv:V}{xs:List Int}{T:Tm}{U:S}
theorem jtE {Qq:Qy}{ev wv rv:V}{M:List AObj}{ts:List Nat}{p:Nat}(hx:W.IsI vv xs)(hl:xs.length<=1000)(hin:∀x∈xs,Qq.lo<=x/\x<=Qq.hi)(hb:∀x∈xs,-1000000<=x/\x<=1000000)
  (t7:T 7=.ptr p 0) (hp:M[p]? = some (K.qc30 Qq ev wv rv)) (t9:T 9=vv) (t10:T 10=.int .i64 0) (t11:T 11=.int .i64 0)
  (h:∀T':Tm,(∀j,j<=9->T' j=T j)->T' 10=.int .i64 (sumI xs)->G env 11 none 144 Q ks .skip T' [] ⟨M,ts⟩) :
  jd1 env 11 none 144 (jc6 0 (jaA Tryz.f11)) T [] ⟨M,ts⟩ (Kt.post env 11 none 144 Q (.blk 0::ks)):=by
 simp only[jaA,Tryz.f11,Ks,jc6,blkC,Option.or,Nat.reduceEqDiff,Km,Kl,reduceIte];have hlen:=W.len_I hx
 refine jax (λm T' D U'=>D=[]/\U'=⟨M,ts⟩/\(∀j,j<=9->T' j=T j)/\∃i:Nat,T' 11=.int .i64 i/\T' 10=.int .i64 (sumI (xs.take i))/\i<=xs.length/\m=xs.length-i) ?_ (xs.length-0) _ _ _
  ⟨rfl,rfl,λ_ _=>rfl,0,t11,t10,Qx _,rfl⟩
 rintro m T' D U' ⟨rfl,rfl,hT,i,u11,u10,hi,rfl⟩;have u7:=(hT 7 (by omega)).trans t7;have u9:=(hT 9 (by omega)).trans t9;refine jaC ?_;by_cases hlt:i<xs.length
 ·have c1:((i:Int)<(xs.length:Int))=True:=eq_true (by omega);have e1:=wS i (by omega)
  have hm:xs.getD i 0∈xs:=by simp[List.getD,hlt]
  have b1:=hin _ hm;have b2:=hb _ hm;have b3:=jho (d:=1000000) (by decide) hb i;have c2:(xs.getD i 0<Qq.lo)=False:=eq_false (by omega);have c3:(xs.getD i 0>Qq.hi)=False:=eq_false (by omega);have e2:IntKind.i64.wrap (sumI (xs.take i)+xs.getD i 0)=sumI (xs.take (i+1)):=by rw[ji3 hlt,wrap_i64 (by omega) (by omega)]
  have hix:=W.idx_I hx hlt;simp only[simprocAttr,yK,Vq,ty7,al1,uq,fo30,hlen,hp,u7,u9,u10,u11,c1,c2,c3,e1,e2,hix,jas];refine⟨by kernel_rfl,xs.length-(i+1),by omega,λj hj => ?_,i+1,rfl,rfl,by omega,rfl⟩
  repeat rw[Ke (by omega)]
  exact hT j hj
 ·have hie:i=xs.length:=by omega
  subst hie;have c1:((xs.length:Int)<(xs.length:Int))=False:=eq_false (by omega);rw[Jq]at u10;simp only[simprocAttr,zK,Vq,ty7,al1,uq,fo30,hlen,u9,u11,c1];refine h _ (λj hj => ?_) ?_
  ·rw[<- hT j hj];simp only[Z7];repeat rw[Ke (by omega)]
  ·simp only[Z7];repeat rw[Ke (by omega)]
   exact u10
theorem jeJ {n:Int}(hx:W.IsI vv xs)(hl:xs.length<=1000)(hn : -1000000000<=n/\n<=1000000000)(hb:∀x∈xs,-1000000000<=x/\x<=1000000000)
  (t8:T 8=.int .i64 n) (t12:T 12=vv) (t14:T 14=.int .i64 0)
  (h:∀T':Tm,(∀j,j<=13->j ≠ 8->T' j=T j)->T' 8=.int .i64 (n-sumI xs)->G env 11 none 144 Q ks .skip T' [] U) :
  jd1 env 11 none 144 (jc6 2 (jaA Tryz.f11)) T [] U (Kt.post env 11 none 144 Q (.blk 2::ks)):=by
 simp only[jaA,Tryz.f11,Ks,jc6,blkC,Option.or,Nat.reduceEqDiff,Km,Kl,reduceIte];have hlen:=W.len_I hx
 refine jax (λm T' D U'=>D=[]/\U'=U/\(∀j,j<=13->j ≠ 8->T' j=T j)/\∃i:Nat,T' 14=.int .i64 i/\T' 8=.int .i64 (n-sumI (xs.take i))/\i<=xs.length/\m=xs.length-i) ?_ (xs.length-0) _ _ _
  ⟨rfl,rfl,λ_ _ _=>rfl,0,t14,by rw[t8,Jd];show _=V.int _ (n-0);rw[Int.sub_zero],Qx _,rfl⟩
 rintro m T' D U' ⟨rfl,rfl,hT,i,u14,u8,hi,rfl⟩;have u12:=(hT 12 (by omega) (by omega)).trans t12;refine jaC ?_;by_cases hlt:i<xs.length
 ·have c1:((i:Int)<(xs.length:Int))=True:=eq_true (by omega);have e1:=wS i (by omega)
  have hm:xs.getD i 0∈xs:=by simp[List.getD,hlt]
  have b2:=hb _ hm;have b3:=jho (d:=1000000000) (by decide) hb i;have e2:IntKind.i64.wrap (n-sumI (xs.take i)-xs.getD i 0)=n-sumI (xs.take (i+1)):=by rw[ji3 hlt,wrap_i64 (by omega) (by omega)];omega
  have hix:=W.idx_I hx hlt;simp only[simprocAttr,yK,Vq,ty7,al1,uq,fo30,hlen,u12,u8,u14,c1,e1,e2,hix,jas];refine⟨xs.length-(i+1),by omega,λj hj hj2 => ?_,i+1,rfl,rfl,by omega,rfl⟩
  repeat rw[Ke (by omega)]
  exact hT j hj hj2
 ·have hie:i=xs.length:=by omega
  subst hie;have c1:((xs.length:Int)<(xs.length:Int))=False:=eq_false (by omega);rw[Jq]at u8;simp only[simprocAttr,zK,Vq,ty7,al1,uq,fo30,hlen,u12,u14,c1];refine h _ (λj hj hj2 => ?_) ?_
  ·rw[<- hT j hj hj2];simp only[Z7];repeat rw[Ke (by omega)]
  ·simp only[Z7];repeat rw[Ke (by omega)]
   exact u8
theorem jeK {n:Int}(hx:W.IsI vv xs)(hl:xs.length<=1000)(hn : -1000000000<=n/\n<=1000000000)(hb:∀x∈xs,-1000000000<=x/\x<=1000000000)
  (t10:T 10=.int .i64 n) (t13:T 13=vv) (t15:T 15=.int .i64 0)
  (h:∀T':Tm,(∀j,j<=13->j ≠ 10->T' j=T j)->T' 10=.int .i64 (n-sumI xs)->G env 11 none 144 Q ks .skip T' [] U) :
  jd1 env 11 none 144 (jc6 4 (jaA Tryz.f11)) T [] U (Kt.post env 11 none 144 Q (.blk 4::ks)):=by
 simp only[jaA,Tryz.f11,Ks,jc6,blkC,Option.or,Nat.reduceEqDiff,Km,Kl,reduceIte];have hlen:=W.len_I hx
 refine jax (λm T' D U'=>D=[]/\U'=U/\(∀j,j<=13->j ≠ 10->T' j=T j)/\∃i:Nat,T' 15=.int .i64 i/\T' 10=.int .i64 (n-sumI (xs.take i))/\i<=xs.length/\m=xs.length-i) ?_ (xs.length-0) _ _ _
  ⟨rfl,rfl,λ_ _ _=>rfl,0,t15,by rw[t10,Jd];show _=V.int _ (n-0);rw[Int.sub_zero],Qx _,rfl⟩
 rintro m T' D U' ⟨rfl,rfl,hT,i,u15,u10,hi,rfl⟩;have u13:=(hT 13 (by omega) (by omega)).trans t13;refine jaC ?_;by_cases hlt:i<xs.length
 ·have c1:((i:Int)<(xs.length:Int))=True:=eq_true (by omega);have e1:=wS i (by omega)
  have hm:xs.getD i 0∈xs:=by simp[List.getD,hlt]
  have b2:=hb _ hm;have b3:=jho (d:=1000000000) (by decide) hb i;have e2:IntKind.i64.wrap (n-sumI (xs.take i)-xs.getD i 0)=n-sumI (xs.take (i+1)):=by rw[ji3 hlt,wrap_i64 (by omega) (by omega)];omega
  have hix:=W.idx_I hx hlt;simp only[simprocAttr,yK,Vq,ty7,al1,uq,fo30,hlen,u13,u10,u15,c1,e1,e2,hix,jas];refine⟨xs.length-(i+1),by omega,λj hj hj2 => ?_,i+1,rfl,rfl,by omega,rfl⟩
  repeat rw[Ke (by omega)]
  exact hT j hj hj2
 ·have hie:i=xs.length:=by omega
  subst hie;have c1:((xs.length:Int)<(xs.length:Int))=False:=eq_false (by omega);rw[Jq]at u10;simp only[simprocAttr,zK,Vq,ty7,al1,uq,fo30,hlen,u13,u15,c1];refine h _ (λj hj hj2 => ?_) ?_
  ·rw[<- hT j hj hj2];simp only[Z7];repeat rw[Ke (by omega)]
  ·simp only[Z7];repeat rw[Ke (by omega)]
   exact u10
end
open B (TOK BOK sv svV cpS vpQ tbN FitQ VR rwV jhA RowN iV jfb jdF jbO)
structure AdF (Q:Qy) (n:Nat) (vs cvs tvs:List Int):Prop where
 fn:n<=600
 fv:∀x∈vs,(Q.lo<=x/\x<=Q.hi) /\ -1000000<=x/\x<=1000000
 fl:vs.length<=600
 fc:cvs.length<=64/\∀x∈cvs,-1000000000<=x/\x<=1000000000
 ft:tvs.length<=64/\∀x∈tvs,-1000000000<=x/\x<=1000000000
 fe:0<Q.ex.length/\vs.length=n\/Q.ex.length=0/\vs.length=0
 fk:(Q.column=[]/\cvs.length=0/\Q.kind ≠ 4/\tvs.length=0)\/(Q.column ≠ []/\0<cvs.length/\sumI cvs=n/\(Q.kind ≠ 4/\tvs.length=0\/Q.kind=4/\0<tvs.length/\sumI tvs=sumI vs))
theorem jqb {cs:List Col}{tbs:List Tb}{Q:Qy}(h:BaseG cs tbs)(hF:FitQ tbs Q 0) :
  AdF Q (vpQ tbs Q).view.length (if valK Q.kind then jdF tbs Q else []) (if Q.column ≠ []then jbO tbs Q (List.replicate (vpQ tbs Q).view.length 1)else []) (if Q.kind=4 then jbO tbs Q (jdF tbs Q)else []):=by
 have hn:=jo8 h hF;obtain⟨f1,f2⟩:=B.val_facts hF;obtain⟨g1,_,g3⟩:=B.fit_col hF (ok1 h)
 have hv:∀x∈(if valK Q.kind then jdF tbs Q else []),(Q.lo<=x/\x<=Q.hi) /\ -1000000<=x/\x<=1000000:=λx hx=>by
  by_cases k:valK Q.kind
  ·rw[Kh k]at hx;have:=B.vals_in hF k x hx;have:=f1 k;omega
  ·rw[Ke k]at hx;cases hx
 have k4:Q.kind=4->valK Q.kind/\Q.column ≠ []:=λe=>⟨.inr (.inl e),λa=>g1.1 a (by rw[e];unfold colK;omega)⟩
 have hc:∀{d:Int},0<=d->d*600<=1000000000->∀{xs:List Int},(∀x∈xs,-d<=x/\x<=d)->xs.length=(vpQ tbs Q).view.length->∀x∈jbO tbs Q xs,-1000000000<=x/\x<=1000000000:=λ{d} hd hd2 {xs} hx hl x hxm=>by
  have:=jtD h hF hd hx hl x hxm;omega
 have ones:∀x∈List.replicate (vpQ tbs Q).view.length (1:Int),-1<=x/\x<=1:=λx hx=>by rw[List.eq_of_mem_replicate hx];decide
 refine⟨hn,hv,?_,?_,?_,?_,?_⟩
 ·split
  ·rw[B.vals_len];exact hn
  ·simp
 ·split
  ·rename_i c;exact⟨by rw[jez];exact(g3 c).2.2,hc (by decide) (by decide) ones (by simp)⟩
  ·exact⟨by simp,λx hx=>by cases hx⟩
 ·split
  ·rename_i c;have:=k4 c;exact⟨by rw[jez];exact(g3 this.2).2.2,hc (d:=1000000) (by decide) (by decide) (λx hx=>(hv x (by rw[Kh this.1];exact hx)).2) (B.vals_len _ _)⟩
  ·exact⟨by simp,λx hx=>by cases hx⟩
 ·by_cases k:valK Q.kind
  ·rw[Kh k];exact .inl ⟨(f1 k).2.2.2,B.vals_len _ _⟩
  ·rw[Ke k];exact .inr ⟨f2 k,rfl⟩
 ·by_cases c:Q.column=[]
  ·have:Q.kind ≠ 4:=λe=>(k4 e).2 c
   rw[Ke (λq=>q c),Ke this];exact .inl ⟨c,rfl,this,rfl⟩
  ·rw[Kh c];refine .inr ⟨c,by rw[jez];exact(g3 c).2.1,by rw[jmt h hF c (by simp),jsu],?_⟩;by_cases e:Q.kind=4
   ·rw[Kh e,Kh (k4 e).1];exact .inr ⟨e,by rw[jez];exact(g3 c).2.1,jmt h hF c (B.vals_len _ _)⟩
   ·rw[Ke e];exact .inl ⟨e,rfl⟩
theorem iV_q {q p:Prop}{_:Decidable q}[Decidable p](h:q↔p)(xs:List Int):(if q then iV xs else V.nilsl)=iV (if p then xs else []):=by
 by_cases k:p
 ·rw[Kh (h.2 k),Kh k]
 ·rw[Ke (λa=>k (h.1 a)),Ke k];rfl
theorem jqc {xv yv:V}{xs ys:List Int}(Kx:Tk xv xs)(Ky:Tk yv ys):Go.Ab.Found env 11 [xv,yv]:=by
 refine jlC at11 rfl ?_;obtain⟨v,U1,hB,L1,ts1,cs,tbs,q,rfl,rfl,hb,x1,l1,k1⟩:=jsj Kx [] [];have hS:=jnZ (q:=q) hb;obtain⟨v,U2,hQ,Q,ev,wv,rv,M,ts2,rfl,rfl,g,ge,gw,gr,x2,hML,hMk⟩:=jpP (q:=.unk) Ky hb.kitSv.kb L1 ts1;have hlen:=jtr g;obtain⟨fa,fl⟩:=jvl hlen.2.2.2;have wq:WQ Q ev wv rv:=⟨.of ge,.of gw,.of gr,⟨hlen.1,hlen.2.1,hlen.2.2.1⟩,by omega⟩;obtain⟨fit1,_⟩:=jw7 hb g;obtain⟨bv,hbv,hV⟩:=jw6 (q:=q) hb wq fa fit1;obtain⟨rb,rb1,rb2,rb3,rb4⟩:=VR.rows hbv;have lb:(vpQ tbs Q).view.length=rb.length:=by rw[<- rb4,Ja]
 have hVal:=jtA hb wq fa q;have hCnt:=jtB hb wq fa q;have hTot:=jtC hb wq fa q;have hA:=jqb hb fit1;rw[iV_q (p:=valK Q.kind) ⟨λa=>a.1,λa=>⟨a,fit1⟩⟩]at hVal;rw[iV_q (p:=Q.column ≠ []) ⟨λa=>a.2,λa=>⟨fit1,a⟩⟩]at hCnt;rw[iV_q (p:=Q.kind=4) ⟨λa=>a.2,λa=>⟨fit1,a⟩⟩]at hTot;rw[lb]at hA hCnt;generalize hvs:(if valK Q.kind then jdF tbs Q else [])=vs at hA hVal;generalize hcs:(if Q.column ≠ []then jbO tbs Q (List.replicate rb.length 1)else [])=cvs at hA hCnt;generalize hts:(if Q.kind=4 then jbO tbs Q (jdF tbs Q)else [])=tvs at hA hTot;clear hvs hcs hts;have kn:=jvq;have lB:=jjg rb1 70;have lV:=W.len_I (jfb vs);have lC:=W.len_I (jfb cvs);have lT:=W.len_I (jfb tvs);have lE:=wq.e.nv hlen.1 |>.len
 have z30:=zq;have ldG:=jzI;have x1c:=wq.e.nv hlen.1 |>.cell.2
 have x2c:=wq.w.nv hlen.2.1 |>.cell.2
 have x3c:=wq.r.rg hlen.2.2.1 |>.cell.2
 obtain⟨hn,hv,hvl,hc,ht,he,hk⟩:=hA;unfold Qy.cells at hV hVal hCnt hTot hQ;simp only[Tryz.f11,simprocAttr,zK,K1,jaa,jaj,ty7,kn,hB,hS,hQ,al1,uq,fo30,z30,YW,YH,jad,jan,Qf,x1c,x2c,x3c,ldG,hV,hVal,lB];refine⟨by kernel_rfl,jtE (jfb vs) (by omega) (λx hx=>(hv x hx).1) (λx hx=>(hv x hx).2) rfl (jad _ _) rfl rfl rfl λT1 a0 a10 => ?_⟩;have v5:T1 5=.bool true:=a0 5 (by omega);have v6:T1 6=.row (jcF tbs) tbs.length q:=a0 6 (by omega);have v7:T1 7=.ptr M.length 0:=a0 7 (by omega);have v8:T1 8=.int .i64 rb.length:=a0 8 (by omega);have v9:T1 9=iV vs:=a0 9 (by omega);clear a0;obtain⟨H,hH⟩:∃H:List AObj,H=M++[K.qc30 Q ev wv rv]:=⟨_,rfl⟩;have hp:H[M.length]? = some (K.qc30 Q ev wv rv):=by rw[hH];exact jad _ _
 have ld:=K.ld30 hp
 change G env 11 none 144 _ _ .skip T1 [] ⟨M++[K.qc30 Q ev wv rv],ts2⟩
 rw[<- hH];clear hH hV hVal ldG;have vsb:=jn0 (B:=1000000) (by decide) vs λx hx=>(hv x hx).2
 rcases he with⟨e1,e2⟩|⟨e1,e2⟩
 ·have d1:=eq_true (show(Q.ex.length:Int)>0 by omega);have d2:=eq_true (show(vs.length:Int)=(rb.length:Int) by omega);have d3:=eq_false (show ¬(Q.ex.length:Int)=0 by omega)
  rcases hk with⟨c1,c2,c3,c4⟩|⟨c1,c2,c3,⟨c4,c5⟩|⟨c4,c5,c6⟩⟩
  ·have d5:=eq_true c1;have d6:=eq_true (show(cvs.length:Int)=0 by omega);have d7:=eq_false c3;have d8:=eq_false (show ¬(tvs.length:Int)>0 by omega);have d9:=d5;have d10:=d5;simp only[simprocAttr,zK,Vq,ty7,al1,uq,fo30,hp,ld,v5,v6,v7,v8,v9,a10,lV,lC,lT,lE,hCnt,hTot,jay,d1,d2,d3,d5,d6,d7,d8,not_true_eq_false,Qt];refine⟨by kernel_rfl,jeJ (jfb cvs) (by omega) ⟨by omega,by omega⟩ hc.2 v8 rfl rfl λT2 b0 b8 => ?_⟩;have w5:T2 5=.bool true:=(b0 5 (by omega) (by omega)).trans v5;have w7:T2 7=.ptr M.length 0:=(b0 7 (by omega) (by omega)).trans v7;have w10:T2 10=.int .i64 (sumI vs):=(b0 10 (by omega) (by omega)).trans a10;have w13:T2 13=iV tvs:=b0 13 (by omega) (by omega);clear b0;simp only[simprocAttr,zK,Vq];refine jeK (jfb tvs) (by omega) ⟨by omega,by omega⟩ ht.2 w10 w13 rfl λT3 c0 c10 => ?_
   have y5:T3 5=.bool true:=(c0 5 (by omega) (by omega)).trans w5;have y7:T3 7=.ptr M.length 0:=(c0 7 (by omega) (by omega)).trans w7;have y8:T3 8=.int .i64 ((rb.length:Int)-sumI cvs):=(c0 8 (by omega) (by omega)).trans b8;clear c0;simp only[simprocAttr,zK,Vq,ty7,al1,uq,fo30,hp,y5,y7,y8,c10,jay,d5,d7,d9,d10,not_true_eq_false,Qt];rfl
  ·have d5:=eq_false c1;have d6:=eq_false (show ¬(cvs.length:Int)=0 by omega);have d7:=eq_false c4;have d8:=eq_false (show ¬(tvs.length:Int)>0 by omega);have d9:=eq_true (show(rb.length:Int)-sumI cvs=0 by omega);have d10:=d5;simp only[simprocAttr,zK,Vq,ty7,al1,uq,fo30,hp,ld,v5,v6,v7,v8,v9,a10,lV,lC,lT,lE,hCnt,hTot,jay,d1,d2,d3,d5,d6,d7,d8,not_true_eq_false,Qt];refine⟨by kernel_rfl,jeJ (jfb cvs) (by omega) ⟨by omega,by omega⟩ hc.2 v8 rfl rfl λT2 b0 b8 => ?_⟩;have w5:T2 5=.bool true:=(b0 5 (by omega) (by omega)).trans v5;have w7:T2 7=.ptr M.length 0:=(b0 7 (by omega) (by omega)).trans v7;have w10:T2 10=.int .i64 (sumI vs):=(b0 10 (by omega) (by omega)).trans a10;have w13:T2 13=iV tvs:=b0 13 (by omega) (by omega);clear b0;simp only[simprocAttr,zK,Vq];refine jeK (jfb tvs) (by omega) ⟨by omega,by omega⟩ ht.2 w10 w13 rfl λT3 c0 c10 => ?_
   have y5:T3 5=.bool true:=(c0 5 (by omega) (by omega)).trans w5;have y7:T3 7=.ptr M.length 0:=(c0 7 (by omega) (by omega)).trans w7;have y8:T3 8=.int .i64 ((rb.length:Int)-sumI cvs):=(c0 8 (by omega) (by omega)).trans b8;clear c0;simp only[simprocAttr,zK,Vq,ty7,al1,uq,fo30,hp,y5,y7,y8,c10,jay,d5,d7,d9,d10,not_true_eq_false,Qt];rfl
  ·have d5:=eq_false c1;have d6:=eq_false (show ¬(cvs.length:Int)=0 by omega);have d7:=eq_true c4;have d8:=eq_true (show(tvs.length:Int)>0 by omega);have d9:=eq_true (show(rb.length:Int)-sumI cvs=0 by omega);have d10:=eq_true (show sumI vs-sumI tvs=0 by omega);simp only[simprocAttr,zK,Vq,ty7,al1,uq,fo30,hp,ld,v5,v6,v7,v8,v9,a10,lV,lC,lT,lE,hCnt,hTot,jay,d1,d2,d3,d5,d6,d7,d8,not_true_eq_false,Qt];refine⟨by kernel_rfl,jeJ (jfb cvs) (by omega) ⟨by omega,by omega⟩ hc.2 v8 rfl rfl λT2 b0 b8 => ?_⟩;have w5:T2 5=.bool true:=(b0 5 (by omega) (by omega)).trans v5;have w7:T2 7=.ptr M.length 0:=(b0 7 (by omega) (by omega)).trans v7;have w10:T2 10=.int .i64 (sumI vs):=(b0 10 (by omega) (by omega)).trans a10;have w13:T2 13=iV tvs:=b0 13 (by omega) (by omega);clear b0;simp only[simprocAttr,zK,Vq];refine jeK (jfb tvs) (by omega) ⟨by omega,by omega⟩ ht.2 w10 w13 rfl λT3 c0 c10 => ?_
   have y5:T3 5=.bool true:=(c0 5 (by omega) (by omega)).trans w5;have y7:T3 7=.ptr M.length 0:=(c0 7 (by omega) (by omega)).trans w7;have y8:T3 8=.int .i64 ((rb.length:Int)-sumI cvs):=(c0 8 (by omega) (by omega)).trans b8;clear c0;simp only[simprocAttr,zK,Vq,ty7,al1,uq,fo30,hp,y5,y7,y8,c10,jay,d5,d7,d9,d10,not_true_eq_false,Qt];rfl
 ·have d1:=eq_false (show ¬(Q.ex.length:Int)>0 by omega);have d2:=eq_true (show(vs.length:Int)=0 by omega);have d3:=eq_true (show(Q.ex.length:Int)=0 by omega)
  rcases hk with⟨c1,c2,c3,c4⟩|⟨c1,c2,c3,⟨c4,c5⟩|⟨c4,c5,c6⟩⟩
  ·have d5:=eq_true c1;have d6:=eq_true (show(cvs.length:Int)=0 by omega);have d7:=eq_false c3;have d8:=eq_false (show ¬(tvs.length:Int)>0 by omega);have d9:=d5;have d10:=d5;simp only[simprocAttr,zK,Vq,ty7,al1,uq,fo30,hp,ld,v5,v6,v7,v8,v9,a10,lV,lC,lT,lE,hCnt,hTot,jay,d1,d2,d3,d5,d6,d7,d8,not_true_eq_false,Qt];refine⟨by kernel_rfl,jeJ (jfb cvs) (by omega) ⟨by omega,by omega⟩ hc.2 v8 rfl rfl λT2 b0 b8 => ?_⟩;have w5:T2 5=.bool true:=(b0 5 (by omega) (by omega)).trans v5;have w7:T2 7=.ptr M.length 0:=(b0 7 (by omega) (by omega)).trans v7;have w10:T2 10=.int .i64 (sumI vs):=(b0 10 (by omega) (by omega)).trans a10;have w13:T2 13=iV tvs:=b0 13 (by omega) (by omega);clear b0;simp only[simprocAttr,zK,Vq];refine jeK (jfb tvs) (by omega) ⟨by omega,by omega⟩ ht.2 w10 w13 rfl λT3 c0 c10 => ?_
   have y5:T3 5=.bool true:=(c0 5 (by omega) (by omega)).trans w5;have y7:T3 7=.ptr M.length 0:=(c0 7 (by omega) (by omega)).trans w7;have y8:T3 8=.int .i64 ((rb.length:Int)-sumI cvs):=(c0 8 (by omega) (by omega)).trans b8;clear c0;simp only[simprocAttr,zK,Vq,ty7,al1,uq,fo30,hp,y5,y7,y8,c10,jay,d5,d7,d9,d10,not_true_eq_false,Qt];rfl
  ·have d5:=eq_false c1;have d6:=eq_false (show ¬(cvs.length:Int)=0 by omega);have d7:=eq_false c4;have d8:=eq_false (show ¬(tvs.length:Int)>0 by omega);have d9:=eq_true (show(rb.length:Int)-sumI cvs=0 by omega);have d10:=d5;simp only[simprocAttr,zK,Vq,ty7,al1,uq,fo30,hp,ld,v5,v6,v7,v8,v9,a10,lV,lC,lT,lE,hCnt,hTot,jay,d1,d2,d3,d5,d6,d7,d8,not_true_eq_false,Qt];refine⟨by kernel_rfl,jeJ (jfb cvs) (by omega) ⟨by omega,by omega⟩ hc.2 v8 rfl rfl λT2 b0 b8 => ?_⟩;have w5:T2 5=.bool true:=(b0 5 (by omega) (by omega)).trans v5;have w7:T2 7=.ptr M.length 0:=(b0 7 (by omega) (by omega)).trans v7;have w10:T2 10=.int .i64 (sumI vs):=(b0 10 (by omega) (by omega)).trans a10;have w13:T2 13=iV tvs:=b0 13 (by omega) (by omega);clear b0;simp only[simprocAttr,zK,Vq];refine jeK (jfb tvs) (by omega) ⟨by omega,by omega⟩ ht.2 w10 w13 rfl λT3 c0 c10 => ?_
   have y5:T3 5=.bool true:=(c0 5 (by omega) (by omega)).trans w5;have y7:T3 7=.ptr M.length 0:=(c0 7 (by omega) (by omega)).trans w7;have y8:T3 8=.int .i64 ((rb.length:Int)-sumI cvs):=(c0 8 (by omega) (by omega)).trans b8;clear c0;simp only[simprocAttr,zK,Vq,ty7,al1,uq,fo30,hp,y5,y7,y8,c10,jay,d5,d7,d9,d10,not_true_eq_false,Qt];rfl
  ·have d5:=eq_false c1;have d6:=eq_false (show ¬(cvs.length:Int)=0 by omega);have d7:=eq_true c4;have d8:=eq_true (show(tvs.length:Int)>0 by omega);have d9:=eq_true (show(rb.length:Int)-sumI cvs=0 by omega);have d10:=eq_true (show sumI vs-sumI tvs=0 by omega);simp only[simprocAttr,zK,Vq,ty7,al1,uq,fo30,hp,ld,v5,v6,v7,v8,v9,a10,lV,lC,lT,lE,hCnt,hTot,jay,d1,d2,d3,d5,d6,d7,d8,not_true_eq_false,Qt];refine⟨by kernel_rfl,jeJ (jfb cvs) (by omega) ⟨by omega,by omega⟩ hc.2 v8 rfl rfl λT2 b0 b8 => ?_⟩;have w5:T2 5=.bool true:=(b0 5 (by omega) (by omega)).trans v5;have w7:T2 7=.ptr M.length 0:=(b0 7 (by omega) (by omega)).trans v7;have w10:T2 10=.int .i64 (sumI vs):=(b0 10 (by omega) (by omega)).trans a10;have w13:T2 13=iV tvs:=b0 13 (by omega) (by omega);clear b0;simp only[simprocAttr,zK,Vq];refine jeK (jfb tvs) (by omega) ⟨by omega,by omega⟩ ht.2 w10 w13 rfl λT3 c0 c10 => ?_
   have y5:T3 5=.bool true:=(c0 5 (by omega) (by omega)).trans w5;have y7:T3 7=.ptr M.length 0:=(c0 7 (by omega) (by omega)).trans w7;have y8:T3 8=.int .i64 ((rb.length:Int)-sumI cvs):=(c0 8 (by omega) (by omega)).trans b8;clear c0;simp only[simprocAttr,zK,Vq,ty7,al1,uq,fo30,hp,y5,y7,y8,c10,jay,d5,d7,d9,d10,not_true_eq_false,Qt];rfl
end Go.Proofs.YtajaampgajieeaaGreatDoor.N
namespace Go.Proofs.YtajaampgajieeaaGreatDoor
open Go.Ab
theorem K.env_ok_of(hR:∀f,memN f K.rowsL=true->jdw K.env f [] (.bool true)):K.env.Ok :=
  { mixed:=by kernel_rfl
    glc:=jjC
    hook := λf g h=>by
      simp only[K.env,K.hookK]at h;split at h
      · rename_i hf
        simp only[Kg]at h;subst h;intro args v hv;unfold K.hookT at hv;split at hv
        · simp only[Kg]at hv
          subst hv;exact hR f hf
        · simp at hv
      · split at h
        · simp only[Kg]at h
          subst h;intro args v hv J U w xs hw hg hx;exact jdO YtajaampgajieeaaGreatDoor.env_ok hv hw hg hx
        · split at h
          · simp only[Kg]at h
            subst h;intro args v hv J U w xs hw hg hx;exact jdO F.env_ok hv hw hg hx
          · simp at h }
theorem B.env_ok_of(hR:∀f,memN f K.rowsL=true->jdw K.env f [] (.bool true)):B.env.Ok :=
  { mixed:=by kernel_rfl
    glc:=jjC
    hook := λf g h=>by
      simp only[B.env,B.hookB]at h;split at h
      · simp only[Kg]at h
        subst h;intro args v hv J U w xs hw hg hx;exact jdO YtajaampgajieeaaGreatDoor.env_ok hv hw hg hx
      · split at h
        · simp only[Kg]at h
          subst h;intro args v hv J U w xs hw hg hx;exact jdO (K.env_ok_of hR) hv hw hg hx
        · split at h
          · simp only[Kg]at h
            subst h;intro args v hv J U w xs hw hg hx;exact jdO W.env_ok hv hw hg hx
          · simp at h }
theorem N.env_ok_of(hR:∀f,memN f K.rowsL=true->jdw K.env f [] (.bool true)):N.env.Ok :=
  { mixed:=by kernel_rfl
    glc:=jjC
    hook := fun f g h=>by
      simp only[N.env,N.hookN]at h;split at h
      · rename_i hf
        simp only[Kg]at h;subst h;intro args v hv;unfold K.hookT at hv;split at hv
        · simp only[Kg]at hv
          subst hv;exact hR f hf
        · simp at hv
      · split at h
        · simp only[Kg]at h
          subst h;intro args v hv J U w xs hw hg hx;exact jdO YtajaampgajieeaaGreatDoor.env_ok hv hw hg hx
        · split at h
          · simp only[Kg]at h
            subst h;intro args v hv J U w xs hw hg hx;exact jdO (K.env_ok_of hR) hv hw hg hx
          · split at h
            · simp only[Kg]at h
              subst h;intro args v hv J U w xs hw hg hx;exact jdO (B.env_ok_of hR) hv hw hg hx
            · simp at h }
namespace N
theorem env_gl {W:World}{l:List (String × DataW Unit)}(h:laidMetH Tryz.prog l W)(hp:(l.all λx=>x.2.handleName?.isNone)=true)(m0:("privhouse/schema.reserved",Rows.laid_privhouse_schema_reserved)∈l)
  (m1:("internal/strconv.uint64pow10",Rows.laid_internal_strconv_uint64pow10)∈l):GOK env (Ctx.top W):=YtajaampgajieeaaGreatDoor.env_gl h hp m0 m1
theorem u22i:env.P.underlying 22=some (.slice 3):=by kernel_rfl
theorem u3i:env.P.underlying 3=some (.int .i64):=by kernel_rfl
theorem jt8:∀xs:List Int,(xs.map λx=>[V.int .i64 x]).flatten=xs.map (V.int .i64)
 | []=>rfl
 |x::xs=>by simp only[K9,X8,jt8 xs];rfl
theorem jt9 {v:V}{k:Nat}(h:Tyd env.P (k+2) 22 [v]):∃xs,Tk v xs:=by
 rcases jqz h u22i with h|⟨vss,h,hl,_,ht⟩
 ·simp only[Vi,and_true]at h;exact⟨[],.inl ⟨h,rfl⟩,λx hx=>by simp at hx,by simp⟩
 ·simp only[Vi,and_true]at h
  obtain⟨xs,rfl⟩:=jqA (f:=λx:{x:Int // In64 x}=>[V.int .i64 x.1]) (λx hx=>by
   obtain⟨n,rfl,h1,h2⟩:=juf hx u3i;exact⟨⟨n,h1,h2⟩,rfl⟩) ht
  have e:(xs.map λx=>[V.int .i64 x.1])=((xs.map (·.1)).map λx=>[V.int .i64 x]):=by simp
  have hm:=jrm;refine⟨xs.map (·.1),.inr (.inl ?_),λx hx => ?_,by simp only[Ja]at hl ⊢;omega⟩
  ·rw[h,e,jt8];simp
  ·obtain⟨y,_,rfl⟩:=Jm.1 hx;exact y.2
end N
theorem jzJ {f:Nat}(h:memN f [64]=true):f=64:=by
 unfold memN at h;split at h
 ·exact Vk ‹_›
 ·simp[memN]at h
namespace N
theorem adds_foundt {u v:V}(h:Tyd Tryz.prog 6 22 [u])(h2:Tyd Tryz.prog 6 22 [v]):Go.Ab.Found env 11 [u,v]:=by
 obtain⟨xs,hx⟩:=jt9 (k:=4) h;obtain⟨ys,hy⟩:=jt9 (k:=4) h2;exact jqc hx hy
end N
end Go.Proofs.YtajaampgajieeaaGreatDoor
namespace Go.Proofs.YtajaampgajieeaaGreatDoor.N
theorem env_ok:env.Ok:=env_ok_of λf h=>by
 have:=jzJ h;subst this;exact r64.known_row
end Go.Proofs.YtajaampgajieeaaGreatDoor.N
