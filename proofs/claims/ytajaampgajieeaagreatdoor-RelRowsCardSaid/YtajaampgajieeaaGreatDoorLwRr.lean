/- Proved here: the law. Conditions: those of each theorem; no statement of the seat is proved in this text. -/
import Derived.Test.YtajaampgajieeaaGreatDoorCpA
set_option linter.unusedSimpArgs false
set_option maxHeartbeats 16000000
set_option maxRecDepth 1000000
set_option linter.unusedVariables false
set_option linter.unusedSectionVars false
namespace Go.Proofs.YtajaampgajieeaaGreatDoor.N
open Go.Ab
open B (TOK BOK sv svV cpS vpQ tbN FitQ jf7 check_facts CK)
section
variable {cs:List Col}{tbs:List Tb}{Q:Qy}
theorem jrX(tbs:List Tb)(Q:Qy):(vpQ tbs { Q with wh:=[] }).view=(vpQ tbs Q).joined:=rfl
theorem jpF(v:VP):∀r∈v.joined,∃s∈v.rows,s.1=r.1:=by
 have hk:∀r∈v.kept,r∈v.rows:=λr hr=>by
  unfold VP.kept at hr;split at hr
  ·exact hr
  ·exact(jeu _ _ _).subset hr
 intro r hr;unfold VP.joined at hr;split at hr
 ·exact⟨r,hk r hr,rfl⟩
 ·unfold jht at hr;obtain⟨s,hs,hr⟩:=Vz.1 hr;exact⟨s,hk s hs,(jgy _ _ _ _ _ _ _ r hr).1.symm⟩
theorem jpG(v:VP)(hj:∀o pub left right limit,v.jn=some (o,pub,left,right,limit)->limit<=50):v.joined.length<=v.rows.length*50:=by
 have hk:v.kept.length<=v.rows.length:=by
  unfold VP.kept;split
  ·exact Kz _
  ·exact(jeu _ _ _).length_le
 unfold VP.joined;split
 ·omega
 ·rename_i o pub left right limit e;have hl:=hj _ _ _ _ _ e
  have:∀l:List PR,(jht pub left right limit o l).length<=l.length*50:=λl=>by
   induction l with
   |nil=>simp[jht]
   |cons r l ih =>
    rw[jjz,Kj,K9];have:=jfl pub left right limit r o 0;omega
  have:=this v.kept;omega
theorem jl2 {Q:Qy}{ss:List Sch}{fe:Int}(h:(jet Q ss fe).1=0):0<=Q.limit/\Q.limit<=50:=by
 by_cases ho:Q.other=[]
 ·have z:=B.firstX_zero h;unfold jeV at z;have h5:=z ([106,111,105,110],jg4 Q ss (schN ss Q.table) (schN ss Q.other)) (by simp);simp only at h5;unfold jg4 at h5;rw[Kh ho]at h5;by_cases a:Q.left ≠ []\/Q.right ≠ []\/Q.limit ≠ 0
  ·rw[Kh a]at h5;cases h5
  ·omega
 ·have:=(check_facts h).other ho;omega
theorem jwE {a b c d:Int}(ha:0<=a)(hb:0<=b)(hac:a<=c)(hbd:b<=d):a*b<=c*d:=Int.mul_le_mul hac hbd hb (by omega)
theorem jpH(h:BaseG cs tbs)(hF:FitQ tbs Q 0):((vpQ tbs Q).joined.length<=600/\∀r∈(vpQ tbs Q).joined,0<=r.1/\r.1<=5)/\∃mm,mm=jeY Q.table tbs Q.keep*max 1 Q.limit/\IntKind.i64.wrap mm=mm/\(jfp Q.table tbs=true->∀w:Int,(cnt w (vpQ tbs Q).joined:Int)<=mm):=by
 have hK:=check_facts hF.2;obtain⟨t1,t2,t3⟩:=joC h hK.tab;obtain⟨hg,hl⟩:=h.r _ t1;obtain⟨i,_,_,k⟩:=h.kit t1;have hkp:=hK.keep;have hlim:Q.other ≠ []->1<=Q.limit/\Q.limit<=50:=λho=>⟨(hK.other ho).2.2.2.1,(hK.other ho).2.2.2.2.1⟩
 have hjn:∀o pub left right limit,(vpQ tbs Q).jn=some (o,pub,left,right,limit)->Q.other ≠ []/\limit=Q.limit/\o=(tbN tbs Q.other).rows.map Rw.pl/\pub=(tbN tbs Q.other).s.pub:=λo pub left right limit e=>by
  unfold vpQ at e;by_cases ho:Q.other=[]
  ·simp only[ho,Kk]at e;cases e
  ·simp only[ho,Kn,Kf,K0]at e;exact⟨ho,e.2.2.2.2.symm,e.1.symm,e.2.1.symm⟩
 refine⟨⟨?_,λr hr => ?_⟩,_,rfl,?_,λhp w => ?_⟩
 ·have:=jpG (vpQ tbs Q) λo pub left right limit e=>by
   obtain⟨ho,e1,_⟩:=hjn _ _ _ _ _ e;rw[e1];exact(hlim ho).2
  have e:(vpQ tbs Q).rows.length=(tbN tbs Q.table).rows.length:=by simp[vpQ]
  omega
 ·obtain⟨s,hs,e⟩:=jpF _ r hr;obtain⟨s0,h0,rfl⟩:=Jg.1 hs;obtain⟨g1,g2,_⟩:=hg.g s0 h0;cases hp:(tbN tbs Q.table).s.pub with
  |true=>have:=g1 hp;omega
  |false=>have:=g2 hp;omega
 ·rw[t3];have hm:0<=(tbN tbs Q.table).s.many/\(tbN tbs Q.table).s.many<=4:=by rcases k.pb with⟨_,b,_⟩|⟨_,b,c⟩<;>omega
  have hb:0<=(if Q.keep=0 then(tbN tbs Q.table).s.many else Q.keep)/\(if Q.keep=0 then(tbN tbs Q.table).s.many else Q.keep)<=50:=by split<;>omega
  have hl:=jl2 hF.2;refine wrap_i64 ?_ ?_
  ·have:=Int.mul_nonneg hb.1 (show(0:Int)<=max 1 Q.limit by omega);omega
  ·have:=jwE hb.1 (show(0:Int)<=max 1 Q.limit by omega) hb.2 (show max 1 Q.limit<=50 by omega);omega
 ·rw[t2]at hp;have hp:(tbN tbs Q.table).s.pub=false:=by simpa using hp
  have hl:=jl2 hF.2;have hm:0<=(tbN tbs Q.table).s.many:=by rcases k.pb with⟨_,b,_⟩|⟨_,b,c⟩<;>omega
  obtain⟨many2,h2⟩:∃m2,m2=(tbN tbs Q.other).s.many:=⟨_,rfl⟩
  have hv:=VP.view_cnt (vpQ tbs { Q with wh:=[] }) (w:=w) (many:=(tbN tbs Q.table).s.many) (many2:=many2) (hg.m hp w) hkp.1 λo pub left right limit e=>by
   obtain⟨ho,e1,e2,e3⟩:=hjn _ _ _ _ _ e;refine⟨by rw[e1];omega,λhpub => ?_⟩;rw[e2,h2];rw[e3]at hpub;obtain⟨u1,_,_⟩:=joC h (hK.other ho).1;exact(h.r _ u1).1.m hpub w
  rw[jrX]at hv;refine Int.le_trans hv ?_;rw[t3];have hA:0<=(if Q.keep=0 then(tbN tbs Q.table).s.many else min Q.keep (tbN tbs Q.table).s.many)/\(if Q.keep=0 then(tbN tbs Q.table).s.many else min Q.keep (tbN tbs Q.table).s.many)<=if Q.keep=0 then(tbN tbs Q.table).s.many else Q.keep:=by split<;>omega
  unfold VP.most;show(if Q.keep=0 then _ else _)*_<=_
  have hX:∀x:Int,x<=max 1 Q.limit->(if Q.keep=0 then(tbN tbs Q.table).s.many else min Q.keep (tbN tbs Q.table).s.many)*x<=(if Q.keep=0 then(tbN tbs Q.table).s.many else Q.keep)*max 1 Q.limit:=λx hx=>by
   have s1:(if Q.keep=0 then(tbN tbs Q.table).s.many else min Q.keep (tbN tbs Q.table).s.many)*x<=(if Q.keep=0 then(tbN tbs Q.table).s.many else min Q.keep (tbN tbs Q.table).s.many)*max 1 Q.limit:=Int.mul_le_mul_of_nonneg_left hx hA.1;have s2:=Int.mul_le_mul_of_nonneg_right hA.2 (show(0:Int)<=max 1 Q.limit by omega);exact Int.le_trans s1 s2
  refine hX _ ?_;split
  ·omega
  ·rename_i o pub left right limit e;obtain⟨ho,e1,e2,e3⟩:=hjn _ _ _ _ _ e;subst e1;split<;>omega
end
theorem at10:env.P.funcs[10]? = some Tryz.f10:=by kernel_rfl
theorem jeR {l:List Rw}{i:Nat}(h:i<l.length):(l.drop i).map Rw.pl=(l.getD i Rw.none).pl::(l.drop (i+1)).map Rw.pl:=by
 rw[K7 h,K4];simp[List.getD,h]
section
variable {Q:Post}{ks:List Kt}{av bv:V}{ra rb:List Rw}
theorem jny(ha:IsR av ra)(hb:IsR bv rb)(oa:OkR ra)(ob:OkR rb)(la:ra.length<=100000)(lb:rb.length<=100000)(va:∀r∈ra,r.vs.length<=1000)(hs:(rb.map Rw.pl).Sublist (ra.map Rw.pl)){T:Tm}{U:S}
  (t8:T 8=bv) (t10:T 10=av) (t11:T 11=.int .i64 0) (t12:T 12=.int .i64 0)
  (h:∀T':Tm,(∀j,j<=10->T' j=T j)->T' 11=.int .i64 rb.length->G env 10 none 138 Q ks .skip T' [] U) :
  jeo env 10 none 138 (jdP 0 (jaC Tryz.f10)) T [] U (Kt.post env 10 none 138 Q (.blk 0::ks)):=by
 simp only[jaC,Tryz.f10,Ks,jdP,blkC,Option.or,Nat.reduceEqDiff,Kn,Kk,reduceIte];have lA:=jkv ha 70;have lB:=jkv hb 70
 refine jay (λm T' D U'=>D=[]/\U'=U/\(∀j,j<=10->T' j=T j)/\∃i p:Nat,T' 12=.int .i64 i/\T' 11=.int .i64 p/\i<=ra.length/\p<=rb.length/\m=ra.length-i/\p+jho ((ra.drop i).map Rw.pl) ((rb.drop p).map Rw.pl)=rb.length) ?_ (ra.length-0) _ _ _
  ⟨rfl,rfl,λ_ _=>rfl,0,0,t12,t11,Qm _,Qm _,rfl,by rw[Qk,Qk,jg9 hs,Q1];omega⟩
 rintro m T' D U' ⟨rfl,rfl,hT,i,p,u12,u11,hi,hp,rfl,hg⟩;have u8:T' 8=bv:=(hT 8 (by omega)).trans t8;have u10:T' 10=av:=(hT 10 (by omega)).trans t10;refine jah ?_;have hend:∀T2:Tm,(∀j,j<=10->T2 j=T' j)->T2 11=T' 11->p=rb.length->G env 10 none 138 Q ks .skip T2 [] U':=λT2 h1 h2 hpe=>h T2 (λj hj=>(h1 j hj).trans (hT j hj)) (by rw[h2,u11,hpe])
 by_cases hlt:i<ra.length
 ·have c1:((i:Int)<(ra.length:Int))=True:=eq_true (by omega);by_cases hlp:p<rb.length
  ·have c2:((p:Int)<(rb.length:Int))=True:=eq_true (by omega);have e1:=wS i (by omega)
   have e2:=wS p (by omega)
   have xa:=jnl ha hlt;have xb:=jnl hb hlp;have hS:=jrW (oa.at hlt).1 (ob.at hlp).1 (by have:=va (ra.getD i Rw.none) (by simp[List.getD,hlt]);omega);rw[jeR hlt,jeR hlp]at hg;simp only[jho]at hg;by_cases k1:(ra.getD i Rw.none).own=(rb.getD p Rw.none).own
   ·have g1:=eq_true k1;by_cases k2:(ra.getD i Rw.none).vs=(rb.getD p Rw.none).vs
    ·rw[Kh (show(ra.getD i Rw.none).pl=(rb.getD p Rw.none).pl from by rw[Rw.pl,Rw.pl,k1,k2])]at hg;have g2:=eq_true k2;simp only[Ka,simprocAttr,Ys,Y0,Kc,Vq,-Ys,ty7,uq,lA,lB,Qk,Kv,u8,u10,u11,u12,c1,c2,e1,e2,xa,xb,jaq,hS,g1,g2];refine⟨by kernel_rfl,ra.length-(i+1),by omega,λj hj => ?_,i+1,p+1,rfl,rfl,by omega,by omega,rfl,by omega⟩
     repeat rw[Ke (by omega)]
     exact hT j hj
    ·rw[Ke (show ¬(ra.getD i Rw.none).pl=(rb.getD p Rw.none).pl from λe=>k2 (Prod.mk.inj e).2)]at hg;have g2:=eq_false k2;simp only[Ka,simprocAttr,Ys,Y0,Kc,Vq,-Ys,ty7,uq,lA,lB,Qk,Kv,u8,u10,u11,u12,c1,c2,e1,e2,xa,xb,jaq,hS,g1,g2];refine⟨by kernel_rfl,ra.length-(i+1),by omega,λj hj => ?_,i+1,p,rfl,rfl,by omega,hp,rfl,by rw[jeR hlp];exact hg⟩
     repeat rw[Ke (by omega)]
     exact hT j hj
   ·have g1:=eq_false k1;rw[Ke (show ¬(ra.getD i Rw.none).pl=(rb.getD p Rw.none).pl from λe=>k1 (Prod.mk.inj e).1)]at hg;simp only[Ka,simprocAttr,Ys,Y0,Kc,Vq,-Ys,ty7,uq,lA,lB,Qk,Kv,u8,u10,u11,u12,c1,c2,e1,e2,xa,xb,jaq,hS,g1];refine⟨by kernel_rfl,ra.length-(i+1),by omega,λj hj => ?_,i+1,p,rfl,rfl,by omega,hp,rfl,by rw[jeR hlp];exact hg⟩
    repeat rw[Ke (by omega)]
    exact hT j hj
  ·have c2:((p:Int)<(rb.length:Int))=False:=eq_false (by omega);simp only[Ka,simprocAttr,Ys,Y0,Kc,Vq,-Ys,ty7,uq,lA,lB,u8,u10,u11,u12,c1,c2];refine hend _ (λj hj => ?_) ?_ (by omega)
   ·simp only[Z7];repeat rw[Ke (by omega)]
   ·simp only[Z7];repeat rw[Ke (by omega)]
 ·have c1:((i:Int)<(ra.length:Int))=False:=eq_false (by omega)
  have hpe:p=rb.length:=by
   rw[List.drop_eq_nil_of_le (by omega)]at hg;cases hd:(rb.drop p).map Rw.pl<;>rw[hd]at hg<;>simp[jho]at hg<;>omega
  simp only[Ka,simprocAttr,Ys,Y0,Kc,Vq,-Ys,ty7,uq,lA,lB,u8,u10,u11,u12,c1];refine hend _ (λj hj => ?_) ?_ hpe
  ·simp only[Z7];repeat rw[Ke (by omega)]
  ·simp only[Z7];repeat rw[Ke (by omega)]
end
theorem joD(b:Nat){o:Nat}(h:o<7):jax 1 (.hsl b 0 7 7 .exact) (.int .i64 (o:Int))=some (.ptr b o):=by
 simp only[jax];rw[Kh (by omega)];simp
theorem jkD {M:List AObj}{w:Nat}{x:AObj}(h:M[w]? = some x):M.set w x=M:=by
 refine Xg λi => ?_
 by_cases e:w=i
 ·subst e;rw[Ko (jan h),h]
 ·rw[Kg e]
section
variable {Q:Post}{ks:List Kt}{av:V}{ra:List Rw}
theorem jpI(ha:IsR av ra)(la:ra.length<=100000)(own:∀r∈ra,0<=r.own/\r.own<=6){T:Tm}{M:List AObj}{ts:List Nat}{w:Nat}
  (t10:T 10=av) (t13:T 13=.hsl w 0 7 7 .exact) (t14:T 14=.int .i64 0) (hw:M[w]? = some (.cells (([0,0,0,0,0,0,0]:List Int).map (V.int .i64)) 3))
  (h:∀(T':Tm) (os:List Int),(∀j,j<=13->T' j=T j)->os.length=7->(∀o:Nat,o<7->os.getD o 0=(cnt o (ra.map Rw.pl):Int))->G env 10 none 138 Q ks .skip T' [] ⟨M.set w (.cells (os.map (V.int .i64)) 3),ts⟩) :
  jeo env 10 none 138 (jdP 2 (jaC Tryz.f10)) T [] ⟨M,ts⟩ (Kt.post env 10 none 138 Q (.blk 2::ks)):=by
 simp only[jaC,Tryz.f10,Ks,jdP,blkC,Option.or,Nat.reduceEqDiff,Kn,Kk,reduceIte];have lA:=jkv ha 70;have wl:=jan hw
 refine jay (λm T' D U'=>D=[]/\(∀j,j<=13->T' j=T j)/\∃(i:Nat) (os:List Int),U'=⟨M.set w (.cells (os.map (V.int .i64)) 3),ts⟩/\T' 14=.int .i64 i/\i<=ra.length/\m=ra.length-i/\os.length=7/\∀o:Nat,o<7->os.getD o 0=(cnt o ((ra.take i).map Rw.pl):Int)) ?_ (ra.length-0) _ _ _
  ⟨rfl,λ_ _=>rfl,0,[0,0,0,0,0,0,0],by rw[jkD hw],t14,Qm _,rfl,rfl,λo ho=>by
   match o,ho with
   |0,_=>rfl
   |1,_=>rfl
   |2,_=>rfl
   |3,_=>rfl
   |4,_=>rfl
   |5,_=>rfl
   |6,_=>rfl⟩
 rintro m T' D U' ⟨rfl,hT,i,os,rfl,u14,hi,rfl,hos,hc⟩;have u10:T' 10=av:=(hT 10 (by omega)).trans t10;have u13:T' 13=.hsl w 0 7 7 .exact:=(hT 13 (by omega)).trans t13;refine jah ?_;by_cases hlt:i<ra.length
 ·have c1:((i:Int)<(ra.length:Int))=True:=eq_true (by omega);have e1:=wS i (by omega)
  have xa:=jnl ha hlt;have ho:=own (ra.getD i Rw.none) (by simp[List.getD,hlt]);obtain⟨o,hoe⟩:∃o:Nat,(ra.getD i Rw.none).own=(o:Int):=⟨(ra.getD i Rw.none).own.toNat,by omega⟩
  have hpl:(ra.take (i+1)).map Rw.pl=(ra.take i).map Rw.pl++[((o:Int),(ra.getD i Rw.none).vs)]:=by
   rw[B.take_next Rw.none hlt,J2];show _++[((ra.getD i Rw.none).own,_)]=_;rw[hoe]
  have ho7:o<os.length:=by omega
  have c2:((ra.getD i Rw.none).own<0)=False:=eq_false (by omega);have c3:((ra.getD i Rw.none).own>6)=False:=eq_false (by omega);have hix:=joD w (show o<7 by omega);rw[<- hoe]at hix;have hat:=jhc ho7 3;have hst:=joq ho7 (os.getD o 0+1);have hb:=hc o (by omega);have hb2:=jti (o:Int) ((ra.take i).map Rw.pl);rw[Q1,Qt]at hb2;have e2:IntKind.i64.wrap (os.getD o 0+1)=os.getD o 0+1:=wrap_i64 (by omega) (by omega);have sW:∀x:AObj,(M.set w x)[w]? = some x:=λx=>Ko wl
  have sS:∀x y:AObj,(M.set w x).set w y=M.set w y:=λx y=>J3 ..
  have fits:o+1<=(os.map (V.int .i64)).length:=by simp;omega
  simp only[Ka,simprocAttr,Ys,Y0,Kc,Vq,-Ys,ty7,uq,lA,u10,u13,u14,c1,c2,c3,e1,xa,jaq,hix,sW,sS,hat,e2,jac,hst,fits];refine⟨by rfl,ra.length-(i+1),by omega,λj hj => ?_,i+1,os.set o (os.getD o 0+1),rfl,rfl,by omega,rfl,by simp;omega,λo' h' => ?_⟩
  ·repeat rw[Ke (by omega)]
   exact hT j hj
  ·rw[hpl,jg8];have:=hc o' h';by_cases e:o'=o
   ·subst e;rw[show(os.set o' (os.getD o' 0+1)).getD o' 0=os.getD o' 0+1 by simp[List.getD,ho7],this];have e3:cnt (o':Int) [(((o':Int),(ra.getD i Rw.none).vs):PR)]=1:=by simp[cnt]
    rw[e3];omega
   ·rw[show(os.set o (os.getD o 0+1)).getD o' 0=os.getD o' 0 by simp[List.getD,Kg (Ne.symm e)],this]
    have e3:cnt (o':Int) [(((o:Int),(ra.getD i Rw.none).vs):PR)]=0:=by
     simp only[cnt];rw[Xf (by simp;omega)];rfl
    rw[e3];omega
 ·have hie:i=ra.length:=by omega
  subst hie;have c1:((ra.length:Int)<(ra.length:Int))=False:=eq_false (by omega);rw[Jn]at hc;simp only[Ka,simprocAttr,Ys,Y0,Kc,Vq,-Ys,ty7,uq,lA,u10,u13,u14,c1];refine h _ os (λj hj => ?_) hos hc;rw[<- hT j hj];simp only[Z7];repeat rw[Ke (by omega)]
theorem jpJ {cs:List Col}{tbs:List Tb}{q:RCap}{Qq:Qy}{ev wv rv:V}{mm:Int}(hB:BaseG cs tbs)(hQ:WQ Qq ev wv rv)(hm:mm=jeY Qq.table tbs Qq.keep*max 1 Qq.limit)(hmw:IntKind.i64.wrap mm=mm)
  {os:List Int} (hos:os.length=7) (hle:jfp Qq.table tbs=true->∀o:Nat,o<7->os.getD o 0<=mm) {T:Tm} {M:List AObj} {ts:List Nat} {w p:Nat}
  (t6:T 6=.row (jcv tbs) tbs.length q) (t7:T 7=.ptr p 0) (t13:T 13=.hsl w 0 7 7 .exact) (t15:T 15=.int .i64 1) (hw:M[w]? = some (.cells (os.map (V.int .i64)) 3)) (hp:M[p]? = some (K.qc30 Qq ev wv rv))
  (h:∀T':Tm,(∀j,j<=13->T' j=T j)->G env 10 none 138 Q ks .skip T' [] ⟨M,ts⟩) :
  jeo env 10 none 138 (jdP 4 (jaC Tryz.f10)) T [] ⟨M,ts⟩ (Kt.post env 10 none 138 Q (.blk 4::ks)):=by
 simp only[jaC,Tryz.f10,Ks,jdP,blkC,Option.or,Nat.reduceEqDiff,Kn,Kk,reduceIte];have hP:=jwB (q:=q) hB Qq.table;have hM:=jwC (q:=q) hB hQ hm hmw;have ld:=K.ld30 hp;unfold Qy.cells at hM
 refine jay (λm T' D U'=>D=[]/\U'=⟨M,ts⟩/\(∀j,j<=13->T' j=T j)/\∃i:Nat,T' 15=.int .i64 i/\i<=7/\m=7-i) ?_ (7-1) _ _ _
  ⟨rfl,rfl,λ_ _=>rfl,1,t15,by omega,rfl⟩
 rintro m T' D U' ⟨rfl,rfl,hT,i,u15,hi,rfl⟩;have u6:=(hT 6 (by omega)).trans t6;have u7:=(hT 7 (by omega)).trans t7;have u13:=(hT 13 (by omega)).trans t13;refine jah ?_;by_cases hlt:i<7
 ·have c1:((i:Int)<7)=True:=eq_true (by omega);have e1:=wS i (by omega)
  have hix:=joD w hlt;have hat:=jhc (l:=os) (n:=i) (by omega) 3;cases hp2:jfp Qq.table tbs with
  |false =>
   rw[hp2]at hP;simp only[Ka,simprocAttr,Ys,Y0,Kc,Vq,-Ys,ty7,al1,uq,fo30,u6,u7,u13,u15,c1,e1,hp,hw,hP,hix,hat];refine⟨by kernel_rfl,7-(i+1),by omega,λj hj => ?_,i+1,rfl,by omega,rfl⟩
   repeat rw[Ke (by omega)]
   exact hT j hj
  |true =>
   have:=hle hp2 i hlt;have c2:(os.getD i 0>mm)=False:=eq_false (by omega);rw[hp2]at hP;simp only[Ka,simprocAttr,Ys,Y0,Kc,Vq,-Ys,ty7,al1,uq,fo30,u6,u7,u13,u15,c1,e1,hp,hw,hP,hix,hat,ld,hM,c2];refine⟨by kernel_rfl,7-(i+1),by omega,λj hj => ?_,i+1,rfl,by omega,rfl⟩
   repeat rw[Ke (by omega)]
   exact hT j hj
 ·have c1:((i:Int)<7)=False:=eq_false (by omega);simp only[Ka,simprocAttr,Ys,Y0,Kc,Vq,-Ys,ty7,al1,uq,fo30,u6,u7,u13,u15,c1];refine h _ λj hj => ?_
  rw[<- hT j hj];simp only[Z7];repeat rw[Ke (by omega)]
end
open B (TOK BOK sv svV cpS vpQ tbN FitQ VR rwV jrG RowN)
theorem juF(U:S):jai env (ev env) 64 [] U=some (.bool true,U):=rfl
theorem VR.rows {n:Nat}{ps:List PR}{u:V}(h:VR n ps u):∃ws:List Rw,IsR u ws/\OkR ws/\(∀r∈ws,r.vs.length=n)/\ws.map Rw.pl=ps:=by
 obtain⟨ws,rfl,h1,h2⟩:=h;exact⟨ws,jrG ws,λr hr=>⟨(h1 r hr).1,(h1 r hr).2.2.1,(h1 r hr).2.2.2⟩,λr hr=>(h1 r hr).2.1,h2⟩
theorem mk7(L:List AObj)(ts:List Nat):jqr env true ⟨L,ts⟩ 22 (.int .i64 7) (.int .i64 7)=some (.hsl L.length 0 7 7 .exact,⟨L++[.cells (([0,0,0,0,0,0,0]:List Int).map (V.int .i64)) 3],ts⟩):=by
 have z3:ja2 env 3=some (.int .i64 0):=by kernel_rfl
 have hl:(7:Int)<=(lim:Int)/\(7:Int)*((8:Nat):Int)<=(lim:Int):=by decide
 simp only[jqr,eI.elem,eI.size,eI.bytes,Kl,z3];simp[hl,S.push,V.cells];decide
theorem jy8(L:List AObj)(a0 a1 a2 a3 a4 a5 a6 a7 a8 a9 a10 a11 a12 a13 a14 a15 a16 a17 a18 a19:V):jab (L++[.cells [a0,a1,a2,a3,a4,a5,a6,a7,a8,a9,a10,a11,a12,a13,a14,a15,a16,a17,a18,a19] 30]) 20 (.ptr L.length 0)=some [a0,a1,a2,a3,a4,a5,a6,a7,a8,a9,a10,a11,a12,a13,a14,a15,a16,a17,a18,a19]:=by simp[jab]
theorem jy9 {cs:List Col}{tbs:List Tb}{Q:Qy}(h:BaseG cs tbs)(hF:FitQ tbs Q 0):B.jnN tbs Q (tbN tbs Q.table).s.cs.length<=10:=by
 have hK:=B.check_facts hF.2;have hle:∀t∈tbs,t.s.cs.length<=5:=λt ht=>by obtain⟨i,_,_,k⟩:=h.kit ht;exact k.le
 have h1:=hle _ (joC h hK.tab).1;unfold B.jnN;split
 ·omega
 ·rename_i ho;have h2:=hle _ (joC h (hK.other ho).1).1;omega
theorem jpK {xv yv:V}{xs ys:List Int}(Kx:Tk xv xs)(Ky:Tk yv ys):Go.Ab.Found env 10 [xv,yv]:=by
 refine jmD at10 rfl (by simp[Tryz.f10]) (by simp[Tryz.f10]) (jah ?_);obtain⟨v,U1,hB,L1,ts1,cs,tbs,q,rfl,rfl,hb,x1,l1,k1⟩:=jrO Kx [] [];have hS:=jnx (q:=q) hb;obtain⟨v,U2,hQ,Q,ev,wv,rv,M,ts2,rfl,rfl,g,ge,gw,gr,x2,hML,hMk⟩:=jpj (q:=.unk) Ky hb.kitSv.kb L1 ts1;have hlen:=jsV g;obtain⟨fa,fl⟩:=juC hlen.2.2.2;have wq:WQ Q ev wv rv:=⟨.of ge,.of gw,.of gr,⟨hlen.1,hlen.2.1,hlen.2.2.1⟩,by omega⟩;have wq2:WQ { Q with wh:=[] } ev .nilsl rv:=⟨.of ge,.inl ⟨rfl,rfl,rfl⟩,.of gr,⟨hlen.1,by simp,hlen.2.2.1⟩,by show Q.factor.length<_;omega⟩;obtain⟨fit1,fit2⟩:=jwD hb g;obtain⟨bv,hbv,hV1⟩:=jtq (q:=q) hb wq fa fit1;obtain⟨av,hav,hV2⟩:=jtq (q:=q) hb wq2 fa fit2;rw[jrX]at hav;obtain⟨rb,rb1,rb2,rb3,rb4⟩:=VR.rows hbv;obtain⟨ra,ra1,ra2,ra3,ra4⟩:=VR.rows hav;obtain⟨⟨f1,f2⟩,mm,hm,hmw,hcnt⟩:=jpH hb fit1;have hsub:(rb.map Rw.pl).Sublist (ra.map Rw.pl):=by rw[ra4,rb4];exact VP.view_sub _
 have la:ra.length<=600:=by rw[<- ra4,Q1]at f1;exact f1
 have lb:rb.length<=600:=by have:=hsub.length_le;simp at this;omega
 have x1c:=wq.e.nv hlen.1 |>.cell.2
 have x2c:=wq.w.nv hlen.2.1 |>.cell.2
 have x3c:=wq.r.rg hlen.2.2.1 |>.cell.2
 have hkn:=juF;have z30:=zq;have lA:=jkv ra1 70;have lB:=jkv rb1 70;have mbt:env.mutb 10 14=true:=rfl;unfold Qy.cells at hV1 hV2 hQ;have ldG:=jy8;simp only[Tryz.f10,Ka,simprocAttr,Ys,Y0,Kc,Uc,jaa,jak,ty7,hkn,hB,hS,hQ,al1,uq,fo30,z30,YW,YH,jad,jao,Uf,x1c,x2c,x3c,ldG,hV1,hV2];have hn:=jy9 hb fit1;refine⟨rfl,jny ra1 rb1 ra2 rb2 (by omega) (by omega) (λr hr => ?_) hsub rfl rfl rfl rfl λT1 a0 a11 => ?_⟩
 ·rw[ra3 r hr];exact Jd hn (by omega)
 have v5:T1 5=.bool true:=a0 5 (by omega);have v6:T1 6=.row (jcv tbs) tbs.length q:=a0 6 (by omega);have v7:T1 7=.ptr M.length 0:=a0 7 (by omega);have v8:T1 8=bv:=a0 8 (by omega);have v10:T1 10=av:=a0 10 (by omega);clear a0;obtain⟨H,hH⟩:∃H:List AObj,H=M++[K.qc30 Q ev wv rv]++[K.qc30 { Q with wh:=[] } ev .nilsl rv]:=⟨_,rfl⟩;have hp:H[M.length]? = some (K.qc30 Q ev wv rv):=by rw[hH];exact jaG (jad _ _) _
 have hpl:=jan hp;have mk:=mk7 H ts2
 change G env 10 none 138 _ _ .skip T1 [] ⟨M++[K.qc30 Q ev wv rv]++[K.qc30 { Q with wh:=[] } ev .nilsl rv],ts2⟩
 rw[<- hH];clear hH;simp only[Ka,simprocAttr,Ys,Y0,Kc,Vq,jgl,mbt,mk];refine jpI ra1 (by omega) (λr hr => ?_) v10 rfl rfl (jad _ _) λT2 os b0 hos hoc => ?_
 ·have:=f2 r.pl (by rw[<- ra4];exact List.mem_map_of_mem hr);have e:0<=r.own/\r.own<=5:=this;omega
 have w5:T2 5=.bool true:=(b0 5 (by omega)).trans v5;have w6:T2 6=.row (jcv tbs) tbs.length q:=(b0 6 (by omega)).trans v6;have w7:T2 7=.ptr M.length 0:=(b0 7 (by omega)).trans v7;have w8:T2 8=bv:=(b0 8 (by omega)).trans v8;have w10:T2 10=av:=(b0 10 (by omega)).trans v10;have w11:T2 11=.int .i64 rb.length:=(b0 11 (by omega)).trans a11;have w13:T2 13=.hsl H.length 0 7 7 .exact:=b0 13 (by omega);clear b0;obtain⟨H2,hH2⟩:∃H2:List AObj,H2=(H++[AObj.cells (([0,0,0,0,0,0,0]:List Int).map (V.int .i64)) 3]).set H.length (.cells (os.map (V.int .i64)) 3):=⟨_,rfl⟩;have hp2:H2[M.length]? = some (K.qc30 Q ev wv rv):=by rw[hH2,Kg (by omega)];exact jaG hp _
 have hw2:H2[H.length]? = some (.cells (os.map (V.int .i64)) 3):=by rw[hH2];exact Ko (by simp)
 rw[<- hH2];clear hH2;simp only[Ka,simprocAttr,Ys,Y0,Kc,Vq];refine jpJ hb wq hm hmw hos (λhpv o ho => ?_) w6 w7 w13 rfl hw2 hp2 λT3 c0 => ?_
 ·rw[hoc o ho,ra4];exact hcnt hpv o
 have y5:T3 5=.bool true:=(c0 5 (by omega)).trans w5;have y7:T3 7=.ptr M.length 0:=(c0 7 (by omega)).trans w7;have y8:T3 8=bv:=(c0 8 (by omega)).trans w8;have y10:T3 10=av:=(c0 10 (by omega)).trans w10;have y11:T3 11=.int .i64 rb.length:=(c0 11 (by omega)).trans w11;have hwl:=wq.w.nv hlen.2.1 |>.len
 by_cases hwz:Q.wh.length=0
 ·have d1:((Q.wh.length:Int)>0)=False:=eq_false (by omega)
  have hj:(vpQ tbs Q).view=(vpQ tbs Q).joined:=by
   unfold VP.view vpQ;simp only[hwz,Kk]
  have e:ra.length=rb.length:=by
   have h1:=congrArg List.length ra4;have h2:=congrArg List.length rb4;rw[Q1]at h1 h2;rw[h1,h2,hj]
  have d2:((ra.length:Int)=(rb.length:Int))=True:=eq_true (by omega);simp only[Ka,simprocAttr,Ys,Y0,Kc,Vq,ty7,al1,uq,fo30,hp2,y5,y7,y8,y10,y11,lA,lB,hwl,d1,d2];rfl
 ·have d1:((Q.wh.length:Int)>0)=True:=eq_true (by omega);simp only[Ka,simprocAttr,Ys,Y0,Kc,Vq,ty7,al1,uq,fo30,hp2,y5,y7,y8,y10,y11,lA,lB,hwl,d1];rfl
end Go.Proofs.YtajaampgajieeaaGreatDoor.N
namespace Go.Proofs.YtajaampgajieeaaGreatDoor
open Go.Ab
theorem K.env_ok_of(hR:∀f,memN f K.rowsL=true->jbF K.env f [] (.bool true)):K.env.Ok :=
  { mixed:=by kernel_rfl
    glc:=jji
    hook := λf g h=>by
      simp only[K.env,K.hookK]at h;split at h
      · rename_i hf
        simp only[Kf]at h;subst h;intro args v hv;unfold K.hookT at hv;split at hv
        · simp only[Kf]at hv
          subst hv;exact hR f hf
        · simp at hv
      · split at h
        · simp only[Kf]at h
          subst h;intro args v hv J U w xs hw hg hx;exact jdD YtajaampgajieeaaGreatDoor.env_ok hv hw hg hx
        · split at h
          · simp only[Kf]at h
            subst h;intro args v hv J U w xs hw hg hx;exact jdD F.env_ok hv hw hg hx
          · simp at h }
theorem B.env_ok_of(hR:∀f,memN f K.rowsL=true->jbF K.env f [] (.bool true)):B.env.Ok :=
  { mixed:=by kernel_rfl
    glc:=jji
    hook := λf g h=>by
      simp only[B.env,B.hookB]at h;split at h
      · simp only[Kf]at h
        subst h;intro args v hv J U w xs hw hg hx;exact jdD YtajaampgajieeaaGreatDoor.env_ok hv hw hg hx
      · split at h
        · simp only[Kf]at h
          subst h;intro args v hv J U w xs hw hg hx;exact jdD (K.env_ok_of hR) hv hw hg hx
        · split at h
          · simp only[Kf]at h
            subst h;intro args v hv J U w xs hw hg hx;exact jdD W.env_ok hv hw hg hx
          · simp at h }
theorem N.env_ok_of(hR:∀f,memN f K.rowsL=true->jbF K.env f [] (.bool true)):N.env.Ok :=
  { mixed:=by kernel_rfl
    glc:=jji
    hook := fun f g h=>by
      simp only[N.env,N.hookN]at h;split at h
      · rename_i hf
        simp only[Kf]at h;subst h;intro args v hv;unfold K.hookT at hv;split at hv
        · simp only[Kf]at hv
          subst hv;exact hR f hf
        · simp at hv
      · split at h
        · simp only[Kf]at h
          subst h;intro args v hv J U w xs hw hg hx;exact jdD YtajaampgajieeaaGreatDoor.env_ok hv hw hg hx
        · split at h
          · simp only[Kf]at h
            subst h;intro args v hv J U w xs hw hg hx;exact jdD (K.env_ok_of hR) hv hw hg hx
          · split at h
            · simp only[Kf]at h
              subst h;intro args v hv J U w xs hw hg hx;exact jdD (B.env_ok_of hR) hv hw hg hx
            · simp at h }
namespace N
theorem env_gl {W:World}{l:List (String × DataW Unit)}(h:laidMetH Tryz.prog l W)(hp:(l.all λx=>x.2.handleName?.isNone)=true)(m0:("privhouse/schema.reserved",Rows.laid_privhouse_schema_reserved)∈l)
  (m1:("internal/strconv.uint64pow10",Rows.laid_internal_strconv_uint64pow10)∈l):GOK env (Ctx.top W):=YtajaampgajieeaaGreatDoor.env_gl h hp m0 m1
theorem u22i:env.P.underlying 22=some (.slice 3):=by kernel_rfl
theorem u3i:env.P.underlying 3=some (.int .i64):=by kernel_rfl
theorem jtr:∀xs:List Int,(xs.map λx=>[V.int .i64 x]).flatten=xs.map (V.int .i64)
 | []=>rfl
 |x::xs=>by simp only[K4,X5,jtr xs];rfl
theorem jts {v:V}{k:Nat}(h:Tyd env.P (k+2) 22 [v]):∃xs,Tk v xs:=by
 rcases jp8 h u22i with h|⟨vss,h,hl,_,ht⟩
 ·simp only[Xx,and_true]at h;exact⟨[],.inl ⟨h,rfl⟩,λx hx=>by simp at hx,by simp⟩
 ·simp only[Xx,and_true]at h
  obtain⟨xs,rfl⟩:=jp9 (f:=λx:{x:Int // In64 x}=>[V.int .i64 x.1]) (λx hx=>by
   obtain⟨n,rfl,h1,h2⟩:=jty hx u3i;exact⟨⟨n,h1,h2⟩,rfl⟩) ht
  have e:(xs.map λx=>[V.int .i64 x.1])=((xs.map (·.1)).map λx=>[V.int .i64 x]):=by simp
  have hm:=jqQ;refine⟨xs.map (·.1),.inr (.inl ?_),λx hx => ?_,by simp only[Q1]at hl ⊢;omega⟩
  ·rw[h,e,jtr];simp
  ·obtain⟨y,_,rfl⟩:=Jg.1 hx;exact y.2
end N
theorem jza {f:Nat}(h:memN f [64]=true):f=64:=by
 unfold memN at h;split at h
 ·exact Xz ‹_›
 ·simp[memN]at h
namespace N
theorem rows_foundt {u v:V}(h:Tyd Tryz.prog 6 22 [u])(h2:Tyd Tryz.prog 6 22 [v]):Go.Ab.Found env 10 [u,v]:=by
 obtain⟨xs,hx⟩:=jts (k:=4) h;obtain⟨ys,hy⟩:=jts (k:=4) h2;exact jpK hx hy
end N
end Go.Proofs.YtajaampgajieeaaGreatDoor
namespace Go.Proofs.YtajaampgajieeaaGreatDoor.N
theorem env_ok:env.Ok:=env_ok_of λf h=>by
 have:=jza h;subst this;exact r64.known_row
end Go.Proofs.YtajaampgajieeaaGreatDoor.N
