/- Proved here: the law. Conditions: each theorem's own. -/
import Derived.Test.YtajaampgajieeaaGreatDoorCpA
import Derived.Test.YtajaampgajieeaaGreatDoorSeA
import Derived.Test.YtajaampgajieeaaGreatDoorWoA
import Derived.Test.YtajaampgajieeaaGreatDoorRnB
set_option linter.unusedSimpArgs false
set_option maxHeartbeats 16000000
set_option maxRecDepth 1000000
set_option linter.unusedVariables false
set_option linter.unusedSectionVars false
namespace Go.Proofs.YtajaampgajieeaaGreatDoor.N
open Go.Ab
open B (TOK BOK sv svV cpS vpQ tbN FitQ jeh jbe CK)
section
variable {cs:List Col}{tbs:List Tb}{Q:Qy}
end
section
variable {Q:Post}{ks:List Kt}{av bv:V}{ra rb:List Rw}
end
theorem joU {M:List AObj}{w:Nat}{x:AObj}(h:M[w]? = some x):M.set w x=M:=by
 refine Xx λi => ?_
 by_cases e:w=i
 ·subst e;rw[Kl (jam h),h]
 ·rw[Kg e]
section
variable {Q:Post}{ks:List Kt}{av:V}{ra:List Rw}
end
open B (TOK BOK sv svV cpS vpQ tbN FitQ VR rwV jhw RowN)
theorem VR.rows {n:Nat}{ps:List PR}{u:V}(h:VR n ps u):∃ws:List Rw,IsR u ws/\OkR ws/\(∀r∈ws,r.vs.length=n)/\ws.map Rw.pl=ps:=by
 obtain⟨ws,rfl,h1,h2⟩:=h;exact⟨ws,jhw ws,λr hr=>⟨(h1 r hr).1,(h1 r hr).2.2.1,(h1 r hr).2.2.2⟩,λr hr=>(h1 r hr).2.1,h2⟩
theorem jzO(L:List AObj)(a0 a1 a2 a3 a4 a5 a6 a7 a8 a9 a10 a11 a12 a13 a14 a15 a16 a17 a18 a19:V):jab (L++[.cells [a0,a1,a2,a3,a4,a5,a6,a7,a8,a9,a10,a11,a12,a13,a14,a15,a16,a17,a18,a19] 30]) 20 (.ptr L.length 0)=some [a0,a1,a2,a3,a4,a5,a6,a7,a8,a9,a10,a11,a12,a13,a14,a15,a16,a17,a18,a19]:=by simp[jab]
open B (TOK BOK sv svV cpS vpQ tbN FitQ jeh jbe iV jc8 jcJ jhE)
theorem hk37:env.hook 37=some (jbP B.env 37):=rfl
section
variable {cs:List Col}{tbs:List Tb}{Q:Qy}{ev wv rv:V}{fe:Int}
theorem fitW(h:BaseG cs tbs):FitQ (tbs.map jcH) Q fe↔FitQ tbs Q fe:=by
 unfold FitQ;rw[jiZ h];exact⟨λg=>⟨(jkU h).2,g.2⟩,λg=>⟨(jkU h.weak).2,g.2⟩⟩
theorem ok1(h:BaseG cs tbs):∀c∈jaR Q (sv tbs),Ok1 c:=B.colsQ_all λs hs c hc=>by
 unfold sv at hs;obtain⟨t,ht,rfl⟩:=Jc.1 hs;have hk:Kit c:=h.kits ht c hc;obtain⟨j,hj,hn⟩:=hk.1;exact⟨by rw[hn];exact jnC hj,joN hk⟩
theorem jul {f:FuncId}{r:V}(hk:env.hook f=some (jbP B.env f))(hp:B.env.pure f=true)(hn:B.env.hook f=none)(h:BaseG cs tbs)(hQ:WQ Q ev wv rv)(q:RCap){rest:List V}(r1:rest.all V.closed=true)(r2:rest.map V.weak=rest)
  (H:∀l v e w x,l=tbs\/l=tbs.map jcH->BOK v l->K.QV Q e w x->∀U,jah B.env (Go.Ab.ev B.env) f (v::.agg (Q.cells e w x)::rest) U=some (r,U)) (U:S) :
  jah env (Go.Ab.ev env) f (.row (ja7 tbs) tbs.length q::.agg (Q.cells ev wv rv)::rest) U=some (r,U):=by
 refine jub hk (jkD hp hn (λhc => ?_) ?_ ?_) _ U
 ·simp only[Ks,Qr]at hc;exact H _ _ _ _ _ (.inl rfl) (h.bok hc.1) (hQ.qv (jj2 hc.2.1))
 ·have h1:=hQ.weak.closed;simp only[Kw,r2,Ks,r1,jhW hQ,h1,jhX,(h.bokW q).closed,K8]
 ·simp only[Kw,r2,jhX,jhW hQ];exact H _ _ _ _ _ (.inr rfl) (h.bokW q) hQ.weak
theorem jzP(h:BaseG cs tbs):jc8 (tbs.map jcH) Q=jc8 tbs Q:=by
 unfold jc8;rw[jvq h,jiZ h]
open Classical in
theorem jhZ(h:BaseG cs tbs)(hQ:WQ Q ev wv rv)(hf:K.Fac Q.factor fe)(q:RCap)(U:S):jah env (Go.Ab.ev env) 37 [.row (ja7 tbs) tbs.length q,.agg (Q.cells ev wv rv)] U=some (if valK Q.kind/\FitQ tbs Q fe then iV (jc8 tbs Q)else .nilsl,U) :=
 jul hk37 rfl rfl h hQ q rfl rfl (λl v e w x hl hB hQ U=>by
  rw[B.values37 hB hQ hf]
  rcases hl with rfl|rfl
  ·rfl
  ·rw[jzP h];simp only[fitW h]) U
end
section
variable {cs:List Col}{tbs:List Tb}{Q:Qy}{fe:Int}
theorem jeS(h:BaseG cs tbs)(hF:FitQ tbs Q fe):(vpQ tbs Q).view.length<=600:=by
 have hK:=jbe hF.2;obtain⟨t1,_,_⟩:=jsp h hK.tab;obtain⟨_,hl⟩:=h.r _ t1;have h2:=(vpQ tbs Q).view_sub.length_le
 have h3:=B.joinedL (vpQ tbs Q) λo pub left right limit e=>by
  unfold vpQ at e;by_cases ho:Q.other=[]
  ·simp only[ho,Km]at e;cases e
  ·simp only[ho,Ko,Ki,K6]at e;have:=(hK.other ho).2.2.2.2.1;omega
 have h7:(vpQ tbs Q).rows.length=(tbN tbs Q.table).rows.length:=by simp[vpQ]
 omega
theorem jdo(tbs:List Tb)(Q:Qy)(xs:List Int):(jcJ tbs Q xs).length=B.widQ (jaR Q (sv tbs)) Q:=jjT _ _
theorem jtN(h:BaseG cs tbs)(hF:FitQ tbs Q fe){d:Int}(hd:0<=d){xs:List Int}(hx:∀x∈xs,-d<=x/\x<=d)(hl:xs.length=(vpQ tbs Q).view.length):∀x∈jcJ tbs Q xs,-(d*600)<=x/\x<=d*600:=λx hxm=>by
 obtain⟨i,hi,rfl⟩:=Jo hxm;have hi2:=hi;rw[jdo]at hi2;have hv:=jeS h hF;have hc:=B.cells_le (B.widQ (jaR Q (sv tbs)) Q) hd (((vpQ tbs Q).view.map (B.cellI (jaR Q (sv tbs)) (B.colI (jaR Q (sv tbs)) Q))).zip xs) (λx hx2=>hx _ (List.of_mem_zip hx2).2) i hi2
 have e:(jf1 (B.widQ (jaR Q (sv tbs)) Q) (((vpQ tbs Q).view.map (B.cellI (jaR Q (sv tbs)) (B.colI (jaR Q (sv tbs)) Q))).zip xs)).getD i 0=(jcJ tbs Q xs)[i]:=by
  show(jcJ tbs Q xs).getD i 0=_;simp[List.getD,hi]
 rw[e]at hc;have hz:(((vpQ tbs Q).view.map (B.cellI (jaR Q (sv tbs)) (B.colI (jaR Q (sv tbs)) Q))).zip xs).length<=600:=by simp;omega
 have h2:d*((((vpQ tbs Q).view.map (B.cellI (jaR Q (sv tbs)) (B.colI (jaR Q (sv tbs)) Q))).zip xs).length:Int)<=d*600:=Int.mul_le_mul_of_nonneg_left aa hd;omega
end
section
variable {Q:Post}{ks:List Kt}{vv:V}{xs:List Int}{T:Tm}{U:S}
end
open B (TOK BOK sv svV cpS vpQ tbN FitQ jeh jbe nbL woT cpT woR rwV cpR oneB)
structure LessT (t' t:Tb):Prop where
 s:t'.s=cpS t.s
 r:∃p:Rw->Bool,t'.rows=(t.rows.filter p).map cpR
 v:t'.rv=rwV t'.rows
theorem jvB(t:Tb):LessT (cpT t) t:=⟨rfl,⟨λ_=>true,by rw[Um.2 λ_ _=>rfl];rfl⟩,rfl⟩
theorem jsz(o:Int)(t:Tb):LessT (woT o t) t:=⟨rfl,⟨_,rfl⟩,rfl⟩
theorem jvC(v:V):unkV (unkV v)=unkV v:=by cases v<;>rfl
theorem jvD(s:Sch):cpS (cpS s)=cpS s:=by unfold cpS;simp only[jvC]
theorem jsA(l:List Rw):(l.map cpR).map Rw.pl=l.map Rw.pl:=by rw[Vd];rfl
section
variable {cs:List Col}{tbs nb:List Tb}
theorem jmw(h:BaseG cs tbs)(hl:nb.length=tbs.length)(hi:∀i,i<tbs.length->LessT (nb.getD i Tb.none) (tbs.getD i Tb.none)):BaseG cs nb:=by
 have at':∀t∈nb,∃t0∈tbs,LessT t t0:=λt ht=>by
  obtain⟨i,h1,e⟩:=Jo ht;have:=hi i aa;rw[show nb.getD i Tb.none=t by simp[List.getD,h1,e]]at this;exact⟨_,Tb.mem aa,this⟩
 refine⟨⟨h.k.all,h.k.five,by have:=h.k.n;simp at this ⊢;omega,by have:=h.k.l;simp at this ⊢;omega,λi h1 => ?_⟩,λt ht => ?_,λt ht => ?_⟩
 ·have h2:i<tbs.length:=by simp at h1;omega
  have k:=h.k.at' i (by simpa using h2);have e0:(tbs.map (·.s)).getD i Sch.none=(tbs.getD i Tb.none).s:=by simp[List.getD,h2]
  have e1:(nb.map (·.s)).getD i Sch.none=(nb.getD i Tb.none).s:=by simp[List.getD,show i<nb.length by omega]
  rw[e0]at k;rw[e1,(hi i h2).s];obtain⟨q,hq⟩:=k.row;exact⟨k.nm,k.sub,k.ne,k.le,k.pb,.unk,by show unkV _=_;rw[hq];rfl⟩
 ·obtain⟨t0,h0,⟨hs,⟨p,hr⟩,_⟩⟩:=at' t ht;obtain⟨g,gl⟩:=h.r t0 h0;rw[hs,hr];refine⟨⟨λr hm => ?_,λr hm => ?_,λhp o => ?_⟩,?_⟩
  ·obtain⟨r0,hr0,rfl⟩:=Jc.1 hm;obtain⟨q,hq⟩:=g.v r0 (Vk.1 hr0).1;exact⟨.unk,by show unkV _=_;rw[hq];rfl⟩
  ·obtain⟨r0,hr0,rfl⟩:=Jc.1 hm;exact g.g r0 (Vk.1 hr0).1
  ·rw[jsA];exact X6 (Int.ofNat_le.2 (jkK (List.filter_sublist.map _))) (g.m hp o)
  ·rw[Qt];exact Je (Ui _ _) gl
 ·obtain⟨t0,h0,⟨_,_,hv⟩⟩:=at' t ht;rw[hv];unfold rwV;by_cases e:t.rows=[]
  ·rw[Kh e];exact .inl ⟨rfl,e⟩
  ·rw[Ke e];exact .inr ⟨.unk,rfl⟩
theorem jkY(hl:nb.length=tbs.length)(hi:∀i,i<tbs.length->LessT (nb.getD i Tb.none) (tbs.getD i Tb.none)):sv nb=sv tbs:=by
 refine Xx λi => ?_
 unfold sv;rw[Xi,Xi];by_cases h:i<tbs.length
 ·have:=(hi i h).s;rw[Kz h,Kz (show i<nb.length by omega)];simp only[List.getD,Kz h,Kz (show i<nb.length by omega),Kv]at this;simp only[Qg,this,jvD]
 ·rw[Qq aa,Qq aa]
theorem jhm(o:Int)(k:Nat)(one:Bool):(nbL o k one tbs).length=tbs.length/\∀i,i<tbs.length->LessT ((nbL o k one tbs).getD i Tb.none) (tbs.getD i Tb.none)/\((nbL o k one tbs).getD i Tb.none).rows.map Rw.pl=woB o (!(tbs.getD i Tb.none).s.pub && (!one ||decide (i=k))) ((tbs.getD i Tb.none).rows.map Rw.pl):=by
 have hm:∀(f:Tb->Tb) i,i<tbs.length->(tbs.map f).getD i Tb.none=f (tbs.getD i Tb.none):=λf i hi=>by simp[List.getD,hi]
 cases one with
 |false =>
  refine⟨by simp[nbL],λi hi => ?_⟩;show LessT ((tbs.map (woT o)).getD i Tb.none) _/\((tbs.map (woT o)).getD i Tb.none).rows.map Rw.pl=_;rw[hm _ i hi];refine⟨jsz o _,?_⟩;rw[Jh,Uh,Q5];exact B.woR_pl _ _ _
 | true =>
  refine⟨by simp[nbL],λi hi => ?_⟩;show LessT (((tbs.map cpT).set k (woT o (tbs.getD k Tb.none))).getD i Tb.none) _/\(((tbs.map cpT).set k (woT o (tbs.getD k Tb.none))).getD i Tb.none).rows.map Rw.pl=_;by_cases e:i=k
  ·subst e;have:((tbs.map cpT).set i (woT o (tbs.getD i Tb.none))).getD i Tb.none=woT o (tbs.getD i Tb.none):=by simp[List.getD,hi]
   rw[this,decide_eq_true rfl];refine⟨jsz o _,?_⟩;rw[Xh,Q5];exact B.woR_pl _ _ _
  ·have:((tbs.map cpT).set k (woT o (tbs.getD k Tb.none))).getD i Tb.none=cpT (tbs.getD i Tb.none):=by
    rw[<- hm cpT i hi];simp only[List.getD,Kg (Ne.symm e)]
   rw[this,decide_eq_false e];refine⟨jvB _,?_⟩;rw[Q8,Xr,Ug];exact jsA _
theorem jsB(h:BaseG cs tbs){Q:Qy}{fe:Int}(hF:FitQ tbs Q fe)(o:Int)(k:Nat)(one:Bool):∃x:Bool,(vpQ (nbL o k one tbs) Q).view=woB o x (vpQ tbs Q).view/\(x=true->(tbN tbs Q.table).s.pub=false) /\
  x=((!(tbN tbs Q.table).s.pub && (!one ||decide (ja6 (sv tbs) Q.table (sv tbs).length 0=k))) ||(decide (Q.other ≠ []) && (!(tbN tbs Q.other).s.pub && (!one ||decide (ja6 (sv tbs) Q.other (sv tbs).length 0=k))))):=by
 obtain⟨hl,hi⟩:=jhm (tbs:=tbs) o k one;have hK:=jbe hF.2;have hsv:=jkY hl λi h=>(hi i h).1
 have tab:∀nm,0<=ja6 (sv tbs) nm (sv tbs).length 0->(tbN (nbL o k one tbs) nm).s=cpS (tbN tbs nm).s/\(tbN (nbL o k one tbs) nm).rows.map Rw.pl=woB o (!(tbN tbs nm).s.pub && (!one ||decide (ja6 (sv tbs) nm (sv tbs).length 0=k))) ((tbN tbs nm).rows.map Rw.pl):=λnm hs=>by
  obtain⟨i,h1,h2,h3,_⟩:=B.tbN_spec hs;have e:tbN (nbL o k one tbs) nm=(nbL o k one tbs).getD i Tb.none:=by unfold tbN;rw[hsv,h1,Qj]
  obtain⟨a,b⟩:=hi i h2;rw[e,h3,h1];refine⟨a.s,?_⟩;rw[b];have:decide ((i:Int)=(k:Int))=decide (i=k):=by rw[decide_eq_decide];omega
  rw[this]
 obtain⟨t1,t2⟩:=tab Q.table hK.tab;refine⟨_,?_,?_,rfl⟩
 ·have hv:vpQ (nbL o k one tbs) Q=(vpQ tbs Q).less o (!(tbN tbs Q.table).s.pub && (!one ||decide (ja6 (sv tbs) Q.table (sv tbs).length 0=k))) (!(tbN tbs Q.other).s.pub && (!one ||decide (ja6 (sv tbs) Q.other (sv tbs).length 0=k))):=by
   unfold vpQ VP.less B.ixL B.ixR;simp only;rw[t2,t1,hsv];by_cases ho:Q.other=[]
   ·simp only[ho,Km];rfl
   ·obtain⟨o1,o2⟩:=tab Q.other (hK.other ho).1;simp only[ho,Ko];rw[o2,o1];rfl
  rw[hv,VP.view_less]
  ·have:(vpQ tbs Q).jn.isSome=decide (Q.other ≠ []):=by
    unfold vpQ;by_cases ho:Q.other=[]
    ·simp only[ho,Km];rfl
    ·simp only[ho,Ko];rw[decide_eq_true (show Q.other ≠ []from ho)];rfl
   rw[this]
   congr 1
   cases decide (Q.other ≠ [])<;>simp
  ·intro x pub l r m e hb;unfold vpQ at e;by_cases ho:Q.other=[]
   ·simp only[ho,Km]at e;cases e
   ·simp only[ho,Ko,Ki,K6]at e;rw[<- e.2.1];cases hp:(tbN tbs Q.other).s.pub with
    |false=>rfl
    |true=>rw[hp]at hb;cases hb
 ·intro hx;cases hp:(tbN tbs Q.table).s.pub with
  |false=>rfl
  | true =>
   rw[hp]at hx;by_cases ho:Q.other=[]
   ·simp[ho]at hx
   ·have:=(hK.other ho).2.2.2.2.2;obtain⟨_,_,_,_,h4,_,_⟩:=B.tbN_spec hK.tab;obtain⟨_,_,_,_,g4,_,_⟩:=B.tbN_spec (hK.other ho).1;rw[h4,g4]at this;have:=this hp;have e:(tbN tbs Q.other).s.pub=true:=this;rw[e]at hx;simp at hx
end
open B (TOK BOK sv svV cpS vpQ tbN FitQ jeh jbe nbL woT cpT woR rwV cpR oneB bsV accX jgl jhF widX)
theorem hk35:env.hook 35=some (jbP B.env 35):=rfl
theorem hk36:env.hook 36=some (jbP B.env 36):=rfl
theorem jo7 {cs:List V}{n:Nat}{q:RCap}(h:V.weak.weakL cs=cs):unkV (V.row cs n q).weak=unkV (.row cs n q):=by simp only[V.weak,h,unkV]
section
variable {cs:List Col}{tbs:List Tb}{Q:Qy}{ev wv rv:V}{fe:Int}
theorem jo8(h:BaseG cs tbs){t:Tb}(ht:t∈tbs):cpS (jcH t).s=cpS t.s:=by
 obtain⟨⟨q,e⟩,ok,_⟩:=h.sch ht;show({ jgj t.s with cv:=unkV t.s.cv.weak }:Sch)={ t.s with cv:=unkV t.s.cv };rw[e,jo7 (jcc ok)];rfl
theorem jmx(h:BaseG cs tbs){t:Tb}(ht:t∈tbs)(p:Rw->Bool)(hp:∀r,p (jiW r)=p r):(((jcH t).rows.filter p).map cpR)=(t.rows.filter p).map cpR:=by
 show((t.rows.map jiW).filter p).map cpR=_;rw[List.filter_map,Vd];have e:p ∘ jiW=p:=funext hp;rw[e];refine Xz λr hr => ?_
 obtain⟨q,hq⟩:=(h.r t ht).1.v r (Vk.1 hr).1;show({ jiW r with vv:=unkV r.vv.weak }:Rw)={ r with vv:=unkV r.vv };rw[hq,jo7 (jdS _)];rfl
theorem jtO(h:BaseG cs tbs)(o:Int)(k:Nat)(one:Bool):nbL o k one (tbs.map jcH)=nbL o k one tbs:=by
 have hw:∀t∈tbs,woT o (jcH t)=woT o t:=λt ht=>by
  have e:=jmx h ht (B.stays o t.s.pub) λ_=>rfl
  unfold woT woR;show(⟨cpS (jcH t).s,rwV (((jcH t).rows.filter (B.stays o t.s.pub)).map cpR),((jcH t).rows.filter (B.stays o t.s.pub)).map cpR⟩:Tb)=_;rw[jo8 h ht,e]
 have hc:∀t∈tbs,cpT (jcH t)=cpT t:=λt ht=>by
  have e:=jmx h ht (λ_=>true) λ_=>rfl
  rw[Um.2 λ_ _=>rfl,Um.2 λ_ _=>rfl]at e;unfold cpT;rw[jo8 h ht,e]
 have m1:(tbs.map jcH).map (woT o)=tbs.map (woT o):=by rw[Vd];exact Xz hw
 have m2:(tbs.map jcH).map cpT=tbs.map cpT:=by rw[Vd];exact Xz hc
 unfold nbL;cases one with
 |false=>exact m1
 | true =>
  simp only[Km];rw[m2];by_cases hk:k<tbs.length
  ·have e:(tbs.map jcH).getD k Tb.none=jcH (tbs.getD k Tb.none):=by simp[List.getD,hk]
   rw[e,hw _ (Tb.mem hk)]
  ·rw[List.set_eq_of_length_le (by simp;omega),List.set_eq_of_length_le (by simp;omega)]
theorem jsC(Q:Qy)(k:Nat):oneB (tbs.map jcH) Q k=oneB tbs Q k:=by
 unfold oneB;rw[Qt];by_cases hk:k<tbs.length
 ·have e:(tbs.map jcH).getD k Tb.none=jcH (tbs.getD k Tb.none):=by simp[List.getD,hk]
  rw[e];rfl
 ·rw[decide_eq_false hk];rfl
theorem jn4(h:BaseG cs tbs)(hQ:WQ Q ev wv rv)(q:RCap)(o w:Int)(hw:In64 w){k:Nat}(hk:w % ((tbs.length:Int)+1)=k)(U:S) :
  jah env (Go.Ab.ev env) 35 [.row (ja7 tbs) tbs.length q,.agg (Q.cells ev wv rv),.int .i64 o,.int .i64 w] U=some (.row (ja7 (nbL o k (oneB tbs Q k) tbs)) (nbL o k (oneB tbs Q k) tbs).length .unk,U):=by
 have hl:=h.len;have hlen:=(jhm (tbs:=tbs) o k (oneB tbs Q k)).1
 have hb:bsV (nbL o k (oneB tbs Q k) tbs)=.row (ja7 (nbL o k (oneB tbs Q k) tbs)) (nbL o k (oneB tbs Q k) tbs).length .unk:=by
  unfold bsV;rw[Ke λe=>by rw[e]at hlen;simp at hlen;omega]
 rw[<- hb]
 exact jul hk35 rfl rfl h hQ q rfl rfl (λl v e w' x hl2 hB hQ U=>by
  rcases hl2 with rfl|rfl
  ·exact B.neighbour_call hB hQ hl.1 o w hw hk U
  ·rw[B.neighbour_call hB hQ (by rw[Qt];exact hl.1) o w hw (by rw[Qt];exact hk) U,jtO h,jsC]) U
theorem jtP(h:BaseG cs tbs):(sv tbs).map jgj=sv tbs:=by
 unfold sv;rw[Vd];refine Xz λt ht => ?_
 obtain⟨⟨q,e⟩,ok,_⟩:=h.sch ht;show({ cpS t.s with cv:=(unkV t.s.cv).weak }:Sch)={ t.s with cv:=unkV t.s.cv };rw[e];show({ cpS t.s with cv:=.row (V.weak.weakL (jaN t.s.cs)) _ _ }:Sch)=_;rw[jcc ok];rfl
theorem jw5 {f:FuncId}{r:V}(hk:env.hook f=some (jbP B.env f))(hp:B.env.pure f=true)(hn:B.env.hook f=none)(h:BaseG cs tbs)(hQ:WQ Q ev wv rv)
  (H:∀lv e w x,K.SB lv (sv tbs)->K.QV Q e w x->∀U,jah B.env (Go.Ab.ev B.env) f [.agg (Q.cells e w x),lv] U=some (r,U)) (U:S) :
  jah env (Go.Ab.ev env) f [.agg (Q.cells ev wv rv),.row (jba (sv tbs)) (sv tbs).length .unk] U=some (r,U):=by
 have hS:=juh h.kitSv;have h2:=hS.weak .unk;rw[jtP h]at h2;refine jub hk (jkD hp hn (λhc => ?_) ?_ ?_) _ U
 ·simp only[Ks,Qo,Q5,Qr]at hc;exact H _ _ _ _ (hS.sb hc.2) (hQ.qv (jj2 hc.1))
 ·have h1:=hQ.weak.closed;have h3:=jdk h2.v h2.ok;simp only[Kw,Xc,Ks,Qo,jhW hQ,h1,h3,K8]
 ·simp only[Kw,Xc,jhW hQ];exact H _ _ _ _ h2 hQ.weak
theorem jn5(h:BaseG cs tbs):∀s∈sv tbs,0<=s.many/\s.many<=1000:=λs hs=>by
 unfold sv at hs;obtain⟨t,ht,rfl⟩:=Jc.1 hs;obtain⟨i,_,_,k⟩:=h.kit ht;show 0<=t.s.many/\t.s.many<=1000
 rcases k.pb with⟨_,b,_⟩|⟨_,b,c⟩<;>omega
open Classical in
theorem jw6(h:BaseG cs tbs)(hQ:WQ Q ev wv rv)(hf:K.Fac Q.factor fe)(U:S):jah env (Go.Ab.ev env) 36 [.agg (Q.cells ev wv rv),.row (jba (sv tbs)) (sv tbs).length .unk] U=some (.int .i64 (if accX Q (sv tbs) fe then jhF Q (sv tbs)else 0),U) :=
 jw5 hk36 rfl rfl h hQ (λlv e w x hS hQ U=>B.sens36 hS hQ hf (jn5 h) (ok1 h) U) U
end
theorem at38:env.P.funcs[38]? = some Tryz.f38:=ac
theorem jo9 {n:Int}(h : -4000000000000000000<=n/\n<=4000000000000000000)(U:S):jah env (ev env) 38 [.int .i64 n] U=some (.int .i64 (absI n),U):=by
 refine jaj rfl at38 rfl ?_ U;have hw:IntKind.i64.wrap (0-n) = -n:=by rw[wrap_i64 aa aa];omega
 have hm:(if -n>n then -n else n)=absI n:=by unfold absI;split<;>omega
 simp only[Tryz.f38,simprocAttr,zK,Vq,jai,hw,hm];rfl
open B (TOK BOK sv svV cpS vpQ tbN FitQ jeh jbe nbL woT cpT oneB accX jgl jhF widX jc8 jhE jcJ iV)
section
variable {cs:List Col}{tbs:List Tb}{Q:Qy}{fe:Int}
theorem jpa(h:BaseG cs tbs)(hF:FitQ tbs Q fe)(hp:(tbN tbs Q.table).s.pub=false)(o:Int):accX Q (sv tbs) fe/\(cnt o (vpQ tbs Q).view:Int)<=jgl Q (sv tbs):=by
 have hK:=jbe hF.2;obtain⟨t1,_,_⟩:=jsp h hK.tab;obtain⟨hg,hl⟩:=h.r _ t1;obtain⟨_,_,_,_,h4,_,_⟩:=B.tbN_spec hK.tab;refine⟨⟨hF.2,?_⟩,?_⟩
 ·unfold K.privX;refine decide_eq_true ⟨hK.all,hK.tab,?_⟩;rw[h4];exact hp
 have hj:∀oo pub left right limit,(vpQ tbs Q).jn=some (oo,pub,left,right,limit)->Q.other ≠ []/\limit=Q.limit/\oo=(tbN tbs Q.other).rows.map Rw.pl/\pub=(tbN tbs Q.other).s.pub:=λoo pub left right limit e=>by
  unfold vpQ at e;by_cases ho:Q.other=[]
  ·simp only[ho,Km]at e;cases e
  ·simp only[ho,Ko,Ki,K6]at e;exact⟨ho,e.2.2.2.2.symm,e.1.symm,e.2.1.symm⟩
 have hv:=VP.view_cnt (vpQ tbs Q) (w:=o) (many:=(tbN tbs Q.table).s.many) (many2:=(tbN tbs Q.other).s.many) (hg.m hp o) hK.keep.1 λoo pub left right limit e=>by
  obtain⟨ho,e1,e2,e3⟩:=hj _ _ _ _ _ e;refine⟨by rw[e1];have:=(hK.other ho).2.2.2.1;omega,λhpub => ?_⟩;rw[e2];rw[e3]at hpub;obtain⟨u1,_,_⟩:=jsp h (hK.other ho).1;exact(h.r _ u1).1.m hpub o
 refine X6 hv (Int.le_of_eq ?_)
 have eA:(if Q.keep=0 then(tbN tbs Q.table).s.many else min Q.keep (tbN tbs Q.table).s.many)=B.lessX Q.keep (schN (sv tbs) Q.table).many:=by
  rw[h4];show _=B.lessX Q.keep (tbN tbs Q.table).s.many;unfold B.lessX;by_cases e:Q.keep=0
  ·rw[Kh e,Kh (.inl e)]
  ·rw[Ke e];by_cases e2:(tbN tbs Q.table).s.many<Q.keep
   ·rw[Kh (.inr e2)];omega
   ·rw[Ke (λq=>q.elim e e2)];omega
 unfold VP.most jgl;show(if Q.keep=0 then(tbN tbs Q.table).s.many else min Q.keep (tbN tbs Q.table).s.many)*_=_;rw[eA];by_cases ho:Q.other=[]
 ·rw[Kh ho];have e:(vpQ tbs Q).jn=none:=by unfold vpQ;simp only[ho,Km]
  rw[e];show _*1=_;rw[Int.mul_one]
 ·rw[Ke ho];obtain⟨_,_,_,_,g4,_,_⟩:=B.tbN_spec (hK.other ho).1;have e:(vpQ tbs Q).jn=some ((tbN tbs Q.other).rows.map Rw.pl,(tbN tbs Q.other).s.pub,B.ixL tbs Q,B.ixR tbs Q,Q.limit):=by unfold vpQ;simp only[ho,Ko]
  rw[e,g4];rfl
noncomputable def valR(cs:List Col)(Q:Qy)(r:PR):Int:=max Q.lo (min Q.hi (W.valueV Q.ex cs r.2))
theorem jgM(tbs:List Tb)(Q:Qy):jc8 tbs Q=(vpQ tbs Q).view.map (valR (jaR Q (sv tbs)) Q):=rfl
theorem jgN(tbs:List Tb)(Q:Qy)(am:PR->Int):jcJ tbs Q ((vpQ tbs Q).view.map am)=jce (B.widQ (jaR Q (sv tbs)) Q) (B.cellI (jaR Q (sv tbs)) (B.colI (jaR Q (sv tbs)) Q)) am (vpQ tbs Q).view:=by
 unfold jcJ jce;rw[List.zip_map']
theorem jh0(X:List PR):List.replicate X.length (1:Int)=X.map λ_=>1:=by rw[List.map_const']
def farB(Q:Qy):Int:=max (max Q.lo (-Q.lo)) (max Q.hi (-Q.hi))
theorem jtQ(hk:Q.kind=2\/Q.kind=4):jhF Q (sv tbs)=max 1 (jgl Q (sv tbs)*farB Q):=by
 unfold jhF B.sensK farB;rw[Ke aa,Ke aa,Ke aa,Ke aa,Kh hk]
section
variable {o:Int}{x:Bool}{X:List PR}{R:Int}(hR:0<=R)(hc:x=true->(cnt o X:Int)<=R)
include hR hc
theorem jtR:absI ((X.length:Int)-(woB o x X).length)<=R:=by
 cases x with
 |false=>show absI ((X.length:Int)-X.length)<=R;rw[Th];exact hR
 |true =>
  have h1:=jue o X;have h2:=hc rfl;show absI ((X.length:Int)-(wo o X).length)<=R;unfold absI;omega
theorem jtS {B:Int}(hB:0<=B)(g:PR->Int)(hg:∀r∈X,absI (g r)<=B):absI (sumI (X.map g)-sumI ((woB o x X).map g))<=R*B:=by
 cases x with
 |false=>show absI (sumI (X.map g)-sumI (X.map g))<=_;rw[Th];exact Vp hR hB
 |true =>
  exact X6 (juj g o B X λr hr _=>hg r hr) (Vl (hc rfl) hB)
theorem jj5 {B:Int}(hB:0<=B)(w:Nat)(ix:PR->Nat)(am:PR->Int)(hg:∀r∈X,absI (am r)<=B):jhy (jce w ix am X) (jce w ix am (woB o x X))<=R*B:=by
 cases x with
 |false=>show jhy _ (jce w ix am X)<=_;rw[jqd];exact Vp hR hB
 |true =>
  exact X6 (jnY w ix am o hB X λr hr _=>hg r hr) (Vl (hc rfl) hB)
theorem jsD(w:Nat)(ix:PR->Nat){i:Nat}(hi:i<w):(jce w ix (λ_=>1) (woB o x X)).getD i 0<=(jce w ix (λ_=>1) X).getD i 0/\(jce w ix (λ_=>1) X).getD i 0-R<=(jce w ix (λ_=>1) (woB o x X)).getD i 0:=by
 cases x with
 |false=>show(jce w ix (λ_=>1) X).getD i 0<=_/\_;exact⟨Jz _,by show(jce w ix (λ_=>1) X).getD i 0-R<=(jce w ix (λ_=>1) X).getD i 0;omega⟩
 |true =>
  have h:=jqc w ix o X hi;have h2:=hc rfl;show(jce w ix (λ_=>1) (wo o X)).getD i 0<=_/\_<=(jce w ix (λ_=>1) (wo o X)).getD i 0;omega
end
end
section
variable {cs:List Col}{tbs:List Tb}{Q:Qy}{fe:Int}
open Classical in
noncomputable def jmy(Q:Qy)(ss:List Sch)(fe:Int):Int:=if accX Q ss fe then jgl Q ss else 0
open Classical in
noncomputable def jjg(Q:Qy)(ss:List Sch)(fe:Int):Int:=if accX Q ss fe then jhF Q ss else 0
theorem jtT(h:BaseG cs tbs):0<=jmy Q (sv tbs) fe/\jmy Q (sv tbs) fe<=50000:=by
 unfold jmy;split
 ·rename_i a;exact B.rows_in (jn5 h) a
 ·omega
theorem jvE {a b:Int}(ha:0<=a)(hb:0<=b):0<=a*b:=Vp ha hb
theorem jkZ(h:BaseG cs tbs):0<=jjg Q (sv tbs) fe:=by
 unfold jjg;split
 ·rename_i a;have hr:=(B.rows_in (jn5 h) a).1;have hw:=B.wid_in (ok1 h) a;unfold jhF B.sensK;split
  ·split<;>omega
  split
  ·rename_i k5;have:=(B.lim_in a).2 k5;exact jvE hr aa
  split
  ·exact jvE hr aa
  split
  ·refine jvE hr ?_;split
   ·omega
   split<;>omega
  split<;>omega
 ·exact Jz _
theorem jmz(h:BaseG cs tbs)(hk:Q.kind=2\/Q.kind=4):jmy Q (sv tbs) fe*farB Q<=jjg Q (sv tbs) fe:=by
 unfold jmy jjg;split
 ·rw[jtQ hk];omega
 ·rw[Int.zero_mul];exact Jz _
structure SbF (Q:Qy) (nx ny:Nat) (vx vy cx cy tx ty:List Int) (R S:Int):Prop where
 fl:nx<=600/\ny<=600
 fa:absI ((nx:Int)-ny)<=R
 fr:0<=R/\R<=50000
 fv:(vx.length<=600/\∀x∈vx,-1000000000<=x/\x<=1000000000)/\vy.length<=600/\∀x∈vy,-1000000000<=x/\x<=1000000000
 fs:Q.kind=2->absI (sumI vx-sumI vy)<=S
 fc:cx.length=cy.length/\cx.length<=64/\(∀x∈cx,-1000000000<=x/\x<=1000000000)/\∀x∈cy,-1000000000<=x/\x<=1000000000
 ft:tx.length=ty.length/\tx.length<=64/\(∀x∈tx,-1000000000<=x/\x<=1000000000)/\∀x∈ty,-1000000000<=x/\x<=1000000000
 fca:jhy cx cy<=R
 fta:jhy tx ty<=S
 ff:∀i,i<cx.length->cy.getD i 0<=cx.getD i 0/\cx.getD i 0-R<=cy.getD i 0
theorem jmA(h:BaseG cs tbs)(hF:FitQ tbs Q fe)(o:Int)(k:Nat)(one:Bool):FitQ (nbL o k one tbs) Q fe /\
  SbF Q (vpQ tbs Q).view.length (vpQ (nbL o k one tbs) Q).view.length (if valK Q.kind then jc8 tbs Q else []) (if valK Q.kind then jc8 (nbL o k one tbs) Q else [])
   (if Q.column ≠ []then jcJ tbs Q (List.replicate (vpQ tbs Q).view.length 1)else []) (if Q.column ≠ []then jcJ (nbL o k one tbs) Q (List.replicate (vpQ (nbL o k one tbs) Q).view.length 1)else [])
   (if Q.kind=4 then jcJ tbs Q (jc8 tbs Q)else []) (if Q.kind=4 then jcJ (nbL o k one tbs) Q (jc8 (nbL o k one tbs) Q)else []) (jmy Q (sv tbs) fe) (jjg Q (sv tbs) fe):=by
 obtain⟨hl,hi⟩:=jhm (tbs:=tbs) o k one;have hN:=jmw h hl λi h=>(hi i h).1
 have hsv:=jkY hl λi h=>(hi i h).1
 have hFN:FitQ (nbL o k one tbs) Q fe:=⟨(jkU hN).2,by rw[hsv];exact hF.2⟩;obtain⟨x,hv,hx,_⟩:=jsB h hF o k one;have hR:=jtT (Q:=Q) (fe:=fe) h;have hS:=jkZ (Q:=Q) (fe:=fe) h
 have hc:x=true->(cnt o (vpQ tbs Q).view:Int)<=jmy Q (sv tbs) fe:=λe=>by
  obtain⟨a,b⟩:=jpa h hF (hx e) o;unfold jmy;rw[Kh a];exact b
 obtain⟨f1,_⟩:=B.val_facts hF;obtain⟨_,_,g3⟩:=B.fit_col hF (ok1 h);have k4:Q.kind=4->valK Q.kind/\Q.column ≠ []:=λe=>⟨.inr (.inl e),λa=>(B.fit_col hF (ok1 h)).1.1 a (by rw[e];unfold colK;omega)⟩
 have far0:0<=farB Q:=by unfold farB;omega
 have hg:valK Q.kind->∀r∈(vpQ tbs Q).view,absI (valR (jaR Q (sv tbs)) Q r)<=farB Q:=λk r _=>by
  have:=f1 k;unfold absI valR farB;omega
 have one1:∀r∈(vpQ tbs Q).view,absI ((λ_:PR=>(1:Int)) r)<=1:=λ_ _=>by show absI 1<=1;decide
 have hvb:∀{l:List Tb},FitQ l Q fe->valK Q.kind->∀x∈jc8 l Q,-1000000<=x/\x<=1000000:=λhF k x hx=>by
  have:=B.vals_in hF k x hx;have:=f1 k;omega
 have hcb:∀{l:List Tb} {d:Int},BaseG cs l->FitQ l Q fe->0<=d->d*600<=1000000000->∀{xs:List Int},(∀x∈xs,-d<=x/\x<=d)->xs.length=(vpQ l Q).view.length->∀x∈jcJ l Q xs,-1000000000<=x/\x<=1000000000:=λ{l d} h hF hd hd2 {xs} hx hl x hxm=>by
  have:=jtN h hF hd hx hl x hxm;omega
 have ones:∀n,∀x∈List.replicate n (1:Int),-1<=x/\x<=1:=λn x hx=>by rw[List.eq_of_mem_replicate hx];decide
 have eN:jcJ (nbL o k one tbs) Q=λxs=>jf1 (B.widQ (jaR Q (sv tbs)) Q) ((((vpQ (nbL o k one tbs) Q).view).map (B.cellI (jaR Q (sv tbs)) (B.colI (jaR Q (sv tbs)) Q))).zip xs):=by
  funext xs;unfold jcJ;rw[hsv]
 have cN:∀am:PR->Int,jcJ (nbL o k one tbs) Q ((vpQ (nbL o k one tbs) Q).view.map am)=jce (B.widQ (jaR Q (sv tbs)) Q) (B.cellI (jaR Q (sv tbs)) (B.colI (jaR Q (sv tbs)) Q)) am (woB o x (vpQ tbs Q).view):=λam=>by
  rw[jgN,hsv,hv]
 have vN:jc8 (nbL o k one tbs) Q=(vpQ (nbL o k one tbs) Q).view.map (valR (jaR Q (sv tbs)) Q):=by rw[jgM,hsv]
 refine⟨hFN,⟨jeS h hF,jeS hN hFN⟩,?_,hR,⟨⟨?_,?_⟩,?_,?_⟩,?_,⟨?_,?_,?_,?_⟩,⟨?_,?_,?_,?_⟩,?_,?_,?_⟩
 ·rw[hv];exact jtR hR.1 hc
 ·split
  ·rw[B.vals_len];exact jeS h hF
  ·simp
 ·split
  ·rename_i k;exact λx hx=>by have:=hvb hF k x hx;omega
  ·exact λx hx=>by cases hx
 ·split
  ·rw[B.vals_len];exact jeS hN hFN
  ·simp
 ·split
  ·rename_i k;exact λx hx=>by have:=hvb hFN k x hx;omega
  ·exact λx hx=>by cases hx
 ·intro k2;have kv:valK Q.kind:=.inl k2;rw[Kh kv,Kh kv,vN,jgM,hv];exact X6 (jtS hR.1 hc far0 _ (hg kv)) (jmz h (.inl k2))
 ·split
  ·rw[jdo,jdo,hsv]
  ·rfl
 ·split
  ·rename_i c;rw[jdo];exact(g3 c).2.2
  ·simp
 ·split
  ·exact hcb h hF af af (ones _) ae
  ·exact λx hx=>by cases hx
 ·split
  ·exact hcb hN hFN af af (ones _) ae
  ·exact λx hx=>by cases hx
 ·split
  ·rw[jdo,jdo,hsv]
  ·rfl
 ·split
  ·rename_i c;rw[jdo];exact(g3 (k4 c).2).2.2
  ·simp
 ·split
  ·rename_i c;exact hcb (d:=1000000) h hF af af (hvb hF (k4 c).1) (B.vals_len _ _)
  ·exact λx hx=>by cases hx
 ·split
  ·rename_i c;exact hcb (d:=1000000) hN hFN af af (hvb hFN (k4 c).1) (B.vals_len _ _)
  ·exact λx hx=>by cases hx
 ·by_cases c:Q.column ≠ []
  ·rw[Kh c,Kh c,jh0,jh0,jgN,cN];have:=jj5 hR.1 hc (B:=1) af (B.widQ (jaR Q (sv tbs)) Q) (B.cellI (jaR Q (sv tbs)) (B.colI (jaR Q (sv tbs)) Q)) (λ_=>1) one1;rw[Int.mul_one]at this;exact this
  ·rw[Ke c,Ke c];exact hR.1
 ·by_cases c:Q.kind=4
  ·rw[Kh c,Kh c,vN,jgM,jgN,cN];exact X6 (jj5 hR.1 hc far0 _ _ _ (hg (k4 c).1)) (jmz h (.inr c))
  ·rw[Ke c,Ke c];exact hS
 ·by_cases c:Q.column ≠ []
  ·rw[Kh c,Kh c,jh0,jh0,jgN,cN];intro i hi;rw[ji2]at hi;exact jsD hR.1 hc _ _ hi
  ·rw[Ke c];intro i hi;simp at hi
end
open B (TOK BOK sv svV cpS vpQ tbN FitQ VR rwV jhw RowN iV jsr jc8 jcJ nbL oneB)
theorem jvF(U:S):jah env (ev env) 31 [] U=some (.bool true,U):=rfl
section
variable {Q:Post}{ks:List Kt}{u v:V}{xs ys:List Int}{T:Tm}{U:S}
end
section
variable {cs:List Col}{tbs:List Tb}
theorem fitN(h:BaseG cs tbs){o:Int}{k:Nat}{one:Bool}{Q:Qy}{fe:Int}:FitQ (nbL o k one tbs) Q fe->FitQ tbs Q fe:=λg=>by
 obtain⟨hl,hi⟩:=jhm (tbs:=tbs) o k one;exact⟨(jkU h).2,by rw[<- jkY hl λi h=>(hi i h).1];exact g.2⟩
end
end Go.Proofs.YtajaampgajieeaaGreatDoor.N
namespace Go.Proofs.YtajaampgajieeaaGreatDoor
open Go.Ab
theorem K.env_ok_of(hR:∀f,memN f K.rowsL=true->jcB K.env f [] (.bool true)):K.env.Ok :=
  { mixed:=by kernel_rfl
    glc:=jjz
    hook := λf g h=>by
      simp only[K.env,K.hookK]at h;split at h
      · rename_i hf
        simp only[Ki]at h;subst h;intro args v hv;unfold K.hookT at hv;split at hv
        · simp only[Ki]at hv
          subst hv;exact hR f hf
        · simp at hv
      · split at h
        · simp only[Ki]at h
          subst h;intro args v hv O U w xs hw hg hx;exact jdI YtajaampgajieeaaGreatDoor.env_ok hv hw hg hx
        · split at h
          · simp only[Ki]at h
            subst h;intro args v hv O U w xs hw hg hx;exact jdI F.env_ok hv hw hg hx
          · simp at h }
theorem B.env_ok_of(hR:∀f,memN f K.rowsL=true->jcB K.env f [] (.bool true)):B.env.Ok :=
  { mixed:=by kernel_rfl
    glc:=jjz
    hook := λf g h=>by
      simp only[B.env,B.hookB]at h;split at h
      · simp only[Ki]at h
        subst h;intro args v hv O U w xs hw hg hx;exact jdI YtajaampgajieeaaGreatDoor.env_ok hv hw hg hx
      · split at h
        · simp only[Ki]at h
          subst h;intro args v hv O U w xs hw hg hx;exact jdI (K.env_ok_of hR) hv hw hg hx
        · split at h
          · simp only[Ki]at h
            subst h;intro args v hv O U w xs hw hg hx;exact jdI W.env_ok hv hw hg hx
          · simp at h }
theorem N.env_ok_of(hR:∀f,memN f K.rowsL=true->jcB K.env f [] (.bool true)):N.env.Ok :=
  { mixed:=by kernel_rfl
    glc:=jjz
    hook := fun f g h=>by
      simp only[N.env,N.hookN]at h;split at h
      · rename_i hf
        simp only[Ki]at h;subst h;intro args v hv;unfold K.hookT at hv;split at hv
        · simp only[Ki]at hv
          subst hv;exact hR f hf
        · simp at hv
      · split at h
        · simp only[Ki]at h
          subst h;intro args v hv O U w xs hw hg hx;exact jdI YtajaampgajieeaaGreatDoor.env_ok hv hw hg hx
        · split at h
          · simp only[Ki]at h
            subst h;intro args v hv O U w xs hw hg hx;exact jdI (K.env_ok_of hR) hv hw hg hx
          · split at h
            · simp only[Ki]at h
              subst h;intro args v hv O U w xs hw hg hx;exact jdI (B.env_ok_of hR) hv hw hg hx
            · simp at h }
namespace N
theorem env_gl {W:World}{l:List (String × DataW Unit)}(h:laidMetH Tryz.prog l W)(hp:(l.all λx=>x.2.handleName?.isNone)=true)(m0:("privhouse/schema.reserved",Rows.laid_privhouse_schema_reserved)∈l)
  (m1:("internal/strconv.uint64pow10",Rows.laid_internal_strconv_uint64pow10)∈l):GOK env (Ctx.top W):=YtajaampgajieeaaGreatDoor.env_gl h hp m0 m1
theorem u22i:env.P.underlying 22=some (.slice 3):=ac
theorem u3i:env.P.underlying 3=some (.int .i64):=ac
theorem jum:∀xs:List Int,(xs.map λx=>[V.int .i64 x]).flatten=xs.map (V.int .i64)
 | []=>rfl
 |x::xs=>by simp only[Kw,Vy,jum xs];rfl
theorem jun {v:V}{k:Nat}(h:Tyd env.P (k+2) 22 [v]):∃xs,Tk v xs:=by
 rcases jqC h u22i with h|⟨vss,h,hl,_,ht⟩
 ·simp only[Vj,and_true]at h;exact⟨[],.inl ⟨h,rfl⟩,λx hx=>by simp at hx,ae⟩
 ·simp only[Vj,and_true]at h
  obtain⟨xs,rfl⟩:=jqD (f:=λx:{x:Int // In64 x}=>[V.int .i64 x.1]) (λx hx=>by
   obtain⟨n,rfl,h1,h2⟩:=jqB hx u3i;exact⟨⟨n,h1,h2⟩,rfl⟩) ht
  have e:(xs.map λx=>[V.int .i64 x.1])=((xs.map (·.1)).map λx=>[V.int .i64 x]):=ae;have hm:=jrn;refine⟨xs.map (·.1),.inr (.inl ?_),λx hx => ?_,by simp only[Qt]at hl ⊢;omega⟩
  ·rw[h,e,jum];simp
  ·obtain⟨y,_,rfl⟩:=Jc.1 hx;exact y.2
end N
theorem jzQ {f:Nat}(h:memN f [31]=true):f=31:=by
 unfold memN at h;split at h
 ·exact U7 ‹_›
 ·simp[memN]at h
namespace N
theorem juo {v:V}{k:Nat}(h:Tyd env.P (k+1) 3 [v]):∃n,v=.int .i64 n/\In64 n:=by
 obtain⟨n,e,h1,h2⟩:=jqB h u3i;simp only[Vj,and_true]at e;exact⟨n,e,h1,h2⟩
end N
end Go.Proofs.YtajaampgajieeaaGreatDoor
namespace Go.Proofs.YtajaampgajieeaaGreatDoor.N
open Go.Ab
theorem at39:env.P.funcs[39]? = some Tryz.f39:=ac
def rkB(v:Int)(most:Bool)(x:Int):Bool:=decide (x<v) ||most && decide (x=v)
theorem jgO {u:V}{xs:List Int}(hx:W.IsI u xs)(hl:xs.length<=1000){v p q:Int}{most:Bool}(hp:0<=p/\p<=1000)(hq:0<=q/\q<=1000)(U:S):jah env (ev env) 39 [u,.int .i64 v,.int .i64 p,.int .i64 q,.bool most] U=some (.int .i64 (jcE xs v p q most),U):=by
 refine jaj (by rw[Ks,W.closed_I hx];rfl) at39 rfl ?_ U;have hlen:=W.len_I hx;simp only[Tryz.f39,simprocAttr,zK,Vq,jai]
 refine jaw (λm T D U'=>D=[]/\U'=⟨[],[]⟩/\T 0=u/\T 1=.int .i64 v/\T 2=.int .i64 p/\T 3=.int .i64 q/\T 4=.bool most/\∃i:Nat,T 12=.int .i64 i/\T 11=.int .i64 ((xs.take i).countP (rkB v most):Nat)/\i<=xs.length/\m=xs.length-i) ?_ (xs.length-0) _ _ _
  ⟨rfl,rfl,rfl,rfl,rfl,rfl,rfl,0,rfl,rfl,Qu _,rfl⟩
 rintro m T D U' ⟨rfl,rfl,t0,t1,t2,t3,t4,i,t12,t11,hi,rfl⟩;refine jaB ?_;by_cases hlt:i<xs.length
 ·have c1:((i:Int)<(xs.length:Int))=True:=eq_true aa;have e1:IntKind.i64.wrap ((i:Int)+1)=((i+1:Nat):Int):=by rw[wrap_i64 aa aa];omega
  have hn:(xs.take i).countP (rkB v most)<=i:=Je Vv (by rw[Q7];omega)
  have hnx:(xs.take (i+1)).countP (rkB v most)=(xs.take i).countP (rkB v most)+if rkB v most (xs.getD i 0)=true then 1 else 0:=by
   rw[B.take_next 0 hlt,V7];simp[Uz]
  generalize (xs.take i).countP (rkB v most)=n at *;have e2:IntKind.i64.wrap ((n:Int)+1)=((n+1:Nat):Int):=by rw[wrap_i64 aa aa];omega
  have hix:=W.idx_I hx hlt;unfold rkB at hnx;by_cases d:xs.getD i 0<v
  ·have d1:=eq_true d;rw[Kh (by rw[decide_eq_true d];rfl)]at hnx;simp only[simprocAttr,yK,Vq,hlen,t0,t1,t2,t3,t4,t11,t12,c1,e1,e2,hix,jar,d1];exact⟨xs.length-(i+1),aa,i+1,rfl,by unfold rkB;rw[hnx],aa,rfl⟩
  ·have d1:=eq_false d;rw[decide_eq_false d]at hnx;cases most
   ·rw[Ke ae]at hnx;simp only[simprocAttr,yK,Vq,hlen,t0,t1,t2,t3,t4,t11,t12,c1,e1,e2,hix,jar,d1];exact⟨xs.length-(i+1),aa,i+1,rfl,by unfold rkB;rw[hnx];rfl,aa,rfl⟩
   ·by_cases d2:xs.getD i 0=v
    ·have d3:=eq_true d2;rw[Kh (by rw[decide_eq_true d2];rfl)]at hnx;simp only[simprocAttr,yK,Vq,hlen,t0,t1,t2,t3,t4,t11,t12,c1,e1,e2,hix,jar,d1,d3];exact⟨xs.length-(i+1),aa,i+1,rfl,by unfold rkB;rw[hnx],aa,rfl⟩
    ·have d3:=eq_false d2;rw[Ke (by rw[decide_eq_false d2];decide)]at hnx;simp only[simprocAttr,yK,Vq,hlen,t0,t1,t2,t3,t4,t11,t12,c1,e1,e2,hix,jar,d1,d3];exact⟨xs.length-(i+1),aa,i+1,rfl,by unfold rkB;rw[hnx];rfl,aa,rfl⟩
 ·have hie:i=xs.length:=by omega
  subst hie;have c1:((xs.length:Int)<(xs.length:Int))=False:=eq_false aa;rw[Jp]at t11;have hr:jcE xs v p q most=q*((xs.countP (rkB v most):Nat):Int)-p*xs.length:=rfl;rw[hr];have hn:xs.countP (rkB v most)<=xs.length:=Vv;generalize xs.countP (rkB v most)=n at *;have b1:0<=q*(n:Int):=Vp hq.1 aa;have b2:q*(n:Int)<=1000*1000:=Ut hq.2 aa aa aa;have b3:0<=p*(xs.length:Int):=Vp hp.1 aa;have b4:p*(xs.length:Int)<=1000*1000:=Ut hp.2 aa aa aa;have e1:IntKind.i64.wrap (q*(n:Int))=q*n:=wrap_i64 aa aa;have e2:IntKind.i64.wrap (p*(xs.length:Int))=p*xs.length:=wrap_i64 aa aa;have e3:IntKind.i64.wrap (q*(n:Int)-p*(xs.length:Int))=q*n-p*xs.length:=wrap_i64 aa aa;simp only[simprocAttr,zK,Vq,hlen,t0,t1,t2,t3,t4,t11,t12,c1,e1,e2,e3];rfl
theorem at33:env.P.funcs[33]? = some Tryz.f33:=ac
structure Qn (Q:Qy):Prop where
 k:Q.kind=5
 lo : -3<=Q.lo/\Q.lo<=3
 hi:Q.lo-1<=Q.hi/\Q.hi<=10
 p:1<=Q.p/\Q.p<=99
 q:Q.p<=Q.q/\Q.q<=200
theorem jvG {ss:List Sch}{Q:Qy}(g:jkI ss Q)(hk:Q.kind=5):Qn Q:=by
 obtain⟨i,Q4,hi,hb,r4,m,_,_,h⟩:=g.split
 rcases h with⟨k,rfl⟩|⟨k,e,lo,w,p,q,wf,ek,el,l1,l2,w1,w2,hp,rfl⟩|⟨k,c,rfl⟩|⟨k,bd,b1,b2,rfl⟩|⟨k,rg,st,r1,r2,r3,t1,t2,rfl⟩|⟨k,rfl⟩
 ·exact absurd hk (by show ¬Q4.kind=5;omega)
 ·have h5:Q4.kind=5:=hk;rw[Kh h5]at hp;exact⟨hk,⟨l1,l2⟩,⟨by show lo-1<=lo+w;omega,by show lo+w<=10;omega⟩,⟨by show 1<=p;omega,by show p<=99;omega⟩,⟨by show p<=q;omega,by show q<=200;omega⟩⟩
 ·exact absurd hk (by show ¬Q4.kind=5;omega)
 ·exact absurd hk (by show ¬Q4.kind=5;omega)
 ·exact absurd hk (by show ¬Q4.kind=5;omega)
 ·exact absurd hk (by show ¬Q4.kind=5;omega)
def RQ(L:List AObj)(ts:List Nat)(v:V)(U:S):Prop:=∃(Q:Qy) (ev wv rv:V) (M:List AObj) (ts':List Nat),v=.agg (Q.cells ev wv rv)/\U=⟨M,ts'⟩/\WQ Q ev wv rv/\Q.factor∈facs/\Qn Q/\Ext ts.length ts ts'/\L.length<=M.length/\∀j,j<L.length->M[j]? = L[j]?
theorem jk0 {yv:V}{ys:List Int}(K:Tk yv ys){ss:List Sch}{q:RCap}(hB:KB ss)(L:List AObj)(ts:List Nat) :
  ∃v U',jah env (Go.Ab.ev env) 33 [yv,.row (jba ss) ss.length q] ⟨L,ts⟩=some (v,U')/\RQ L ts v U':=by
 have b39:=jkE K.hx;have cx:=jcd K.hx;obtain⟨v0,_,hQ,Q,ev,wv,rv,M,ts2,rfl,rfl,g,ge,gw,gr,x2,hML,hMk⟩:=jpQ (q:=q) K hB (L++[AObj.cells [.int .i64 0,.nilsl,.int .i64 0,.int .i64 0,.int .i64 0,.int .i64 0,.str [],.int .i64 0,.nilsl,.int .i64 0,.bool false,.str [],.int .i64 0,.str [],.str [],.str [],.int .i64 0,.nilsl,.str [],.int .i64 0] 30]) ts;have hlen:=jtD g;obtain⟨_,fl⟩:=jsm hlen.2.2.2;have wq:WQ Q ev wv rv:=⟨.of ge,.of gw,.of gr,⟨hlen.1,hlen.2.1,hlen.2.2.1⟩,aa⟩;have x1c:=wq.e.nv hlen.1 |>.cell.2
 have x2c:=wq.w.nv hlen.2.1 |>.cell.2
 have x3c:=wq.r.rg hlen.2.2.1 |>.cell.2
 have hl0:L.length<M.length:=by simp at hML;omega
 have hk0:∀j,j<L.length->M[j]? = L[j]? := λj hj=>by rw[hMk j (by simp;omega),Kj hj]
 have z30:=zq;have hPq:(M++[qm Q ev wv rv])[M.length]? = some (qm Q ev wv rv):=jad _ _;have ld1:=ldqm hPq;have z1:(M++[qm Q ev wv rv])[L.length]? = some (AObj.cells [.int .i64 0,.nilsl,.int .i64 0,.int .i64 0,.int .i64 0,.int .i64 0,.str [],.int .i64 0,.nilsl,.int .i64 0,.bool false,.str [],.int .i64 0,.str [],.str [],.str [],.int .i64 0,.nilsl,.str [],.int .i64 0] 30):=by rw[Kj hl0,hMk _ ae];exact jad _ _
 have s1:((M++[qm Q ev wv rv]).set L.length (qm Q ev wv rv))[L.length]? = some (qm Q ev wv rv):=Kl (by simp;omega);have ld2:=ldqm s1;unfold Qy.cells at hQ ld1 ld2;refine jaD at33 rfl ?_;by_cases hk:Q.kind=5
 ·have d1:=eq_true hk;simp only[Tryz.f33,simprocAttr,zK,K0,jaa,al1,uq,fo30,z30,hQ,d1,YW,jad,jao,jae,jan,jac,x1c,x2c,x3c,ld1,z1,s1,ld2];exact⟨Q,ev,wv,rv,_,ts2,rfl,rfl,wq,hlen.2.2.2,jvG g hk,x2,by simp;omega,λj hj=>by rw[Kg aa,Kj aa];exact hk0 j hj⟩
 ·have d1:=eq_false hk;have hH0:Has (M++[qm Q ev wv rv]++[tk yv 0]) (M.length+1) yv ys:=⟨0,Qu _,by rw[show M.length+1=(M++[qm Q ev wv rv]).length by simp];exact jad _ _⟩;have f0:(M++[qm Q ev wv rv]++[tk yv 0])[M.length]? = some (qm Q ev wv rv):=by rw[K9];simp
  have hPb:M.length ≠ M.length+1:=aa;obtain⟨r1,M1,hT1,hH1,hK1,hl1,a0,a1,_⟩:=jaS K hH0 5 (by simp[In64]);have a2:=a1 af;have hT1:jah env (Go.Ab.ev env) 78 [.ptr (M.length+1) 0,.int .i64 5] ⟨M++[qm Q ev wv rv]++[.cells [yv,.int .i64 0] 93],ts2⟩=some (.int .i64 r1,⟨M1,ts2⟩):=hT1 ts2;have f1:=(hK1.2 _ (jam f0) hPb).trans f0;have bl:(M++[qm Q ev wv rv]).length=M.length+1:=ae;obtain⟨Q1,hQ1⟩:∃Q1:Qy,{ Q with kind:=5,ex:=[⟨1,r1,[]⟩],column:=[],bound:=0,rg:=[],strat:=0,cons:=false }=Q1:=⟨_,rfl⟩;obtain⟨u1,hu1⟩:∃u1:V,V.row [.int .i64 1,.int .i64 r1,.str []] 1 .full=u1:=⟨_,rfl⟩;have u1c:u1.isCell=true/\u1.cells=[u1]:=by rw[<- hu1];exact⟨rfl,rfl⟩
  have g1:qm Q1 u1 wv .nilsl=.cells [.int .i64 5,u1,.int .i64 Q.lo,.int .i64 Q.hi,.int .i64 Q.p,.int .i64 Q.q,.str [],.int .i64 0,.nilsl,.int .i64 0,.bool false,.str Q.table,.int .i64 Q.keep,.str Q.other,.str Q.left,.str Q.right,.int .i64 Q.limit,wv,.str Q.factor,.int .i64 Q.bits] 30:=by rw[<- hQ1]
  obtain⟨r2,M2,hT2,hH2,hK2,hl2,b0,b1,_⟩:=jaS K (hH1.setP (qm Q1 u1 wv .nilsl) hPb) 99 (by simp[In64]);have b2:=b1 af;have hT2:=hT2 ts2;have f2:=(hK2.2 _ (jam (Kl (a:=qm Q1 u1 wv .nilsl) (jam f1))) hPb).trans (Kl (jam f1));obtain⟨r3,M3,hT3,hH3,hK3,hl3,c0,c1,_⟩:=jaS K hH2 9 (by simp[In64]);have c2:=c1 af;have hT3:=hT3 ts2;have f3:=(hK3.2 _ (jam f2) hPb).trans f2;have s3:∀o,(M3.set M.length o)[M.length]? = some o:=λo=>Kl (jam f3)
  have e2:IntKind.i64.wrap (1+r2)=1+r2:=wrap_i64 aa aa;rw[g1]at hT2 f2 f3;have s2:∀o,(M1.set M.length o)[M.length]? = some o:=λo=>Kl (jam f1)
  have icn:V.nilsl.isCell=true:=rfl;obtain⟨Q2,hQ2⟩:∃Q2:Qy,{ Q1 with p:=1+r2,lo:=0,hi:=r3 }=Q2:=⟨_,rfl⟩;have g2:qm Q2 u1 wv .nilsl=.cells [.int .i64 5,u1,.int .i64 0,.int .i64 r3,.int .i64 (1+r2),.int .i64 Q.q,.str [],.int .i64 0,.nilsl,.int .i64 0,.bool false,.str Q.table,.int .i64 Q.keep,.str Q.other,.str Q.left,.str Q.right,.int .i64 Q.limit,wv,.str Q.factor,.int .i64 Q.bits] 30:=by rw[<- hQ2,<- hQ1]
  obtain⟨r4,M4,hT4,hH4,hK4,hl4,d0,d2,_⟩:=jaS K (hH3.setP (qm Q2 u1 wv .nilsl) hPb) (100-(1+r2)) (by constructor<;>omega);have d3:=d2 aa;have hT4:=hT4 ts2;have f4:=(hK4.2 _ (jam (Kl (a:=qm Q2 u1 wv .nilsl) (jam f3))) hPb).trans (Kl (jam f3));rw[g2]at hT4 f4;have s4:∀o,(M4.set M.length o)[M.length]? = some o:=λo=>Kl (jam f4)
  have e3:IntKind.i64.wrap (1+r2+1)=1+r2+1:=wrap_i64 aa aa;have e4:IntKind.i64.wrap (1+r2+1+r4)=1+r2+1+r4:=wrap_i64 aa aa;have e5:IntKind.i64.wrap (100-(1+r2))=100-(1+r2):=wrap_i64 aa aa;have m1:M1.length=M.length+2:=by rw[hl1];simp
  have m2:M2.length=M.length+2:=by rw[hl2,Xk,m1]
  have m3:M3.length=M.length+2:=by rw[hl3,m2]
  have m4:M4.length=M.length+2:=by rw[hl4,Xk,m3]
  have hk4:∀j,j<M.length->M4[j]? = M[j]? := λj hj=>by
   rw[hK4.2 j (by rw[Xk];omega) aa,Kg aa,hK3.2 j aa aa,hK2.2 j (by rw[Xk];omega) aa,Kg aa,hK1.2 j (by simp;omega) aa,K9,Kj aa]
  obtain⟨Q3,hQ3⟩:∃Q3:Qy,{ Q2 with q:=1+r2+1+r4 }=Q3:=⟨_,rfl⟩;have g3:qm Q3 u1 wv .nilsl=.cells [.int .i64 5,u1,.int .i64 0,.int .i64 r3,.int .i64 (1+r2),.int .i64 (1+r2+1+r4),.str [],.int .i64 0,.nilsl,.int .i64 0,.bool false,.str Q.table,.int .i64 Q.keep,.str Q.other,.str Q.left,.str Q.right,.int .i64 Q.limit,wv,.str Q.factor,.int .i64 Q.bits] 30:=by rw[<- hQ3,<- hQ2,<- hQ1]
  have z4:(M4.set M.length (qm Q3 u1 wv .nilsl))[L.length]? = some (AObj.cells [.int .i64 0,.nilsl,.int .i64 0,.int .i64 0,.int .i64 0,.int .i64 0,.str [],.int .i64 0,.nilsl,.int .i64 0,.bool false,.str [],.int .i64 0,.str [],.str [],.str [],.int .i64 0,.nilsl,.str [],.int .i64 0] 30):=by rw[Kg aa,hk4 _ hl0,hMk _ ae];exact jad _ _
  have ld4:=ldqm (s4 (qm Q3 u1 wv .nilsl));have s5:((M4.set M.length (qm Q3 u1 wv .nilsl)).set L.length (qm Q3 u1 wv .nilsl))[L.length]? = some (qm Q3 u1 wv .nilsl):=Kl (by rw[Xk];omega);have ld5:=ldqm s5;have c3:Q3.cells u1 wv .nilsl=[.int .i64 5,u1,.int .i64 0,.int .i64 r3,.int .i64 (1+r2),.int .i64 (1+r2+1+r4),.str [],.int .i64 0,.nilsl,.int .i64 0,.bool false,.str Q.table,.int .i64 Q.keep,.str Q.other,.str Q.left,.str Q.right,.int .i64 Q.limit,wv,.str Q.factor,.int .i64 Q.bits]:=by rw[<- hQ3,<- hQ2,<- hQ1];rfl
  rw[c3,g3]at ld4 ld5;rw[g3]at z4 s5;simp only[Tryz.f33,simprocAttr,zK,K0,jaa,al1,uq,fo30,z30,hQ,d1,YW,jad,jao,jae,jan,jac,x1c,x2c,x3c,b39,cx,bl,hT1,f1,s2,jgE,jhf,jap,hu1,u1c,jdb,ja9,icn,hT2,hT3,f3,s3,e2,Xj];refine jcq rfl (λs=>jb9 s.heap[M.length]? 4=some (V.int .i64 (1+r2))) (by show jb9 (M3.set M.length _)[M.length]? 4=_;rw[s3];rfl) ac ?_;simp only[simprocAttr,zK,K0,jaa,Kf,K3,fo30,al1,uq,Qf,jdb,ja9,icn,u1c,x2c,s3,hT4,e3,e4,e5,f4,s4,Xj,ld4,z4,s5,ld5,YW]
  have w3:WQ Q3 u1 wv .nilsl:=by
   subst hQ3;subst hQ2;subst hQ1;subst hu1;exact⟨.inr ⟨.full,rfl⟩,wq.w,.inl ⟨rfl,rfl,rfl⟩,⟨by show 1<=400;omega,hlen.2.1,by show 0<=400;omega⟩,wq.fl⟩
  have n3:Qn Q3/\Q3.factor∈facs:=by
   subst hQ3;subst hQ2;subst hQ1;exact⟨⟨rfl,⟨by show(-3:Int)<=0;omega,by show(0:Int)<=3;omega⟩,⟨by show(0:Int)-1<=r3;omega,by show r3<=10;omega⟩,⟨by show 1<=1+r2;omega,by show 1+r2<=99;omega⟩,⟨by show 1+r2<=1+r2+1+r4;omega,by show 1+r2+1+r4<=200;omega⟩⟩,hlen.2.2.2⟩
  exact⟨λs h=>h,λs h=>h,λ_=>trivial,Q3,u1,wv,.nilsl,_,ts2,by rw[c3];rfl,rfl,w3,n3.2,n3.1,x2,by rw[Xk,Xk];omega,λj hj=>by rw[Kg aa,Kg aa,hk4 j aa];exact hk0 j hj⟩
open B (TOK BOK sv svV cpS vpQ tbN FitQ VR rwV jhw RowN iV jsr jc8 jcJ nbL oneB jgl jhF accX)
theorem at5:env.P.funcs[5]? = some Tryz.f5:=ac
theorem jk1 {xs:List Int}(hl:xs.length<=1000){v p q:Int}{most:Bool}(hp:0<=p/\p<=1000)(hq:0<=q/\q<=1000) : -1000000<=jcE xs v p q most/\jcE xs v p q most<=1000000:=by
 have hr:jcE xs v p q most=q*((xs.countP (rkB v most):Nat):Int)-p*xs.length:=rfl;rw[hr];have hn:xs.countP (rkB v most)<=xs.length:=Vv;generalize xs.countP (rkB v most)=n at *;have b1:0<=q*(n:Int):=Vp hq.1 aa;have b2:q*(n:Int)<=1000*1000:=Ut hq.2 aa aa aa;have b3:0<=p*(xs.length:Int):=Vp hp.1 aa;have b4:p*(xs.length:Int)<=1000*1000:=Ut hp.2 aa aa aa;omega
section
variable {cs:List Col}{tbs:List Tb}{Q:Qy}{ev wv rv:V}{fe:Int}
theorem jvH(h:BaseG cs tbs)(hF:FitQ tbs Q fe)(qn:Qn Q)(o:Int)(k:Nat)(one:Bool)(v:Int)(most:Bool):absI (jcE (jc8 tbs Q) v Q.p Q.q most-jcE (jc8 (nbL o k one tbs) Q) v Q.p Q.q most)<=jjg Q (sv tbs) fe:=by
 obtain⟨hl,hi⟩:=jhm (tbs:=tbs) o k one;have hsv:=jkY hl λi h=>(hi i h).1
 obtain⟨x,hv,hx,_⟩:=jsB h hF o k one;rw[jgM,jgM,hsv,hv];obtain⟨p1,p2⟩:=qn.p;obtain⟨q1,q2⟩:=qn.q;cases x with
 |false =>
  show absI (jcE (List.map _ (vpQ tbs Q).view) v Q.p Q.q most-jcE (List.map _ (vpQ tbs Q).view) v Q.p Q.q most)<=_;rw[Th];exact jkZ h
 |true =>
  obtain⟨a,b⟩:=jpa h hF (hx rfl) o;refine X6 (jqe _ o v Q.p Q.q most aa q1 _) ?_;unfold jjg;rw[Kh a];unfold jhF B.sensK;rw[Ke (by rw[qn.k];decide),Kh qn.k];exact Vl b aa
theorem jsE(h:BaseG cs tbs){q:RCap}(hQ:WQ Q ev wv rv)(hf:K.Fac Q.factor fe)(qn:Qn Q)(o:Int)(k:Nat)(one:Bool):∃vx vy:List Int,vx.length<=1000/\vy.length<=1000 /\
  (∀v most,absI (jcE vx v Q.p Q.q most-jcE vy v Q.p Q.q most)<=jjg Q (sv tbs) fe) /\
  (∀U,jah env (Go.Ab.ev env) 37 [.row (ja7 tbs) tbs.length q,.agg (Q.cells ev wv rv)] U=some (iV vx,U)) /\
  (∀U,jah env (Go.Ab.ev env) 37 [.row (ja7 (nbL o k one tbs)) (nbL o k one tbs).length .unk,.agg (Q.cells ev wv rv)] U=some (iV vy,U)):=by
 obtain⟨hl2,hi2⟩:=jhm (tbs:=tbs) o k one;have hb2:=jmw h hl2 λi h=>(hi2 i h).1
 have kv:valK Q.kind:=.inr (.inr qn.k);by_cases hF:FitQ tbs Q fe
 ·obtain⟨hFN,_⟩:=jmA h hF o k one;refine⟨_,_,?_,?_,jvH h hF qn o k one,λU => ?_,λU => ?_⟩
  ·rw[B.vals_len];have:=jeS h hF;omega
  ·rw[B.vals_len];have:=jeS hb2 hFN;omega
  ·rw[jhZ h hQ hf,Kh ⟨kv,hF⟩]
  ·rw[jhZ hb2 hQ hf,Kh ⟨kv,hFN⟩]
 ·have hFN:¬FitQ (nbL o k one tbs) Q fe:=λa=>hF (fitN h a)
  refine⟨[],[],af,af,λv most => ?_,λU => ?_,λU => ?_⟩
  ·rw[Th];exact jkZ h
  ·rw[jhZ h hQ hf,Ke λa=>hF a.2];rfl
  ·rw[jhZ hb2 hQ hf,Ke λa=>hFN a.2];rfl
end
section
variable {Po:Post}{ks:List Kt}{u v:V}{xs ys:List Int}{T:Tm}{M:List AObj}{ts:List Nat}{Q:Qy}{ev wv rv:V}
theorem jsF {S:Int}{P:Nat}(hx:W.IsI u xs)(hy:W.IsI v ys)(lx:xs.length<=1000)(ly:ys.length<=1000)(hd:∀w most,absI (jcE xs w Q.p Q.q most-jcE ys w Q.p Q.q most)<=S)(qn:Qn Q)(hP:M[P]? = some (qm Q ev wv rv))
  (t11:T 11=.ptr P 0) (t13:T 13=.int .i64 S) (t14:T 14=u) (t15:T 15=v) (t16:T 16=.int .i64 Q.lo)
  (h:∀T':Tm,(∀j,j<=15->T' j=T j)->G env 5 none 88 Po ks .skip T' [] ⟨M,ts⟩) :
  jfc env 5 none 88 (jeK 0 (jaC Tryz.f5)) T [] ⟨M,ts⟩ (Kt.post env 5 none 88 Po (.blk 0::ks)):=by
 simp only[jaC,Tryz.f5,Kv,jeK,blkC,Option.or,Nat.reduceEqDiff,Ko,Km,reduceIte];obtain⟨qk,⟨l1,l2⟩,⟨h1,h2⟩,⟨p1,p2⟩,⟨q1,q2⟩⟩:=qn
 refine jaw (λm T' D U'=>D=[]/\U'=⟨M,ts⟩/\(∀j,j<=15->T' j=T j)/\∃w:Int,T' 16=.int .i64 w/\Q.lo<=w/\w<=Q.hi+1/\m=(Q.hi+1-w).toNat) ?_ (Q.hi+1-Q.lo).toNat _ _ _
  ⟨rfl,rfl,λ_ _=>rfl,Q.lo,t16,Jz _,aa,rfl⟩
 rintro m T' D U' ⟨rfl,rfl,hT,w,u16,w1,w2,rfl⟩;have u11:=(hT 11 aa).trans t11;have u13:=(hT 13 aa).trans t13;have u14:=(hT 14 aa).trans t14;have u15:=(hT 15 aa).trans t15;refine jaB ?_;by_cases hlt:w<=Q.hi
 ·have c1:=eq_true hlt;have e1:IntKind.i64.wrap (w+1)=w+1:=wrap_i64 aa aa;have r1:=jgO hx lx (v:=w) (p:=Q.p) (q:=Q.q) (most:=false) aa aa;have r2:=jgO hy ly (v:=w) (p:=Q.p) (q:=Q.q) (most:=false) aa aa;have r3:=jgO hx lx (v:=w) (p:=Q.p) (q:=Q.q) (most:=true) aa aa;have r4:=jgO hy ly (v:=w) (p:=Q.p) (q:=Q.q) (most:=true) aa aa;have b1:=jk1 lx (v:=w) (p:=Q.p) (q:=Q.q) (most:=false) aa aa;have b2:=jk1 ly (v:=w) (p:=Q.p) (q:=Q.q) (most:=false) aa aa;have b3:=jk1 lx (v:=w) (p:=Q.p) (q:=Q.q) (most:=true) aa aa;have b4:=jk1 ly (v:=w) (p:=Q.p) (q:=Q.q) (most:=true) aa aa;have e2:IntKind.i64.wrap (jcE xs w Q.p Q.q false-jcE ys w Q.p Q.q false)=jcE xs w Q.p Q.q false-jcE ys w Q.p Q.q false:=wrap_i64 aa aa;have e3:IntKind.i64.wrap (jcE xs w Q.p Q.q true-jcE ys w Q.p Q.q true)=jcE xs w Q.p Q.q true-jcE ys w Q.p Q.q true:=wrap_i64 aa aa;have a1:=jo9 (n:=jcE xs w Q.p Q.q false-jcE ys w Q.p Q.q false) aa;have a2:=jo9 (n:=jcE xs w Q.p Q.q true-jcE ys w Q.p Q.q true) aa;have d1:(absI (jcE xs w Q.p Q.q false-jcE ys w Q.p Q.q false)>S)=False:=eq_false (by have:=hd w false;omega);have d2:(absI (jcE xs w Q.p Q.q true-jcE ys w Q.p Q.q true)>S)=False:=eq_false (by have:=hd w true;omega);simp only[simprocAttr,zK,K0,jaa,ty7,al1,uq,fo30,hP,u11,u13,u14,u15,u16,c1,e1,e2,e3,r1,r2,r3,r4,a1,a2,d1,d2];refine⟨ac,(Q.hi+1-(w+1)).toNat,aa,λj hj => ?_,w+1,rfl,aa,aa,rfl⟩
  repeat rw[Ke aa]
  exact hT j hj
 ·have c1:=eq_false hlt;simp only[simprocAttr,zK,K0,jaa,ty7,al1,uq,fo30,hP,u11,u16,c1];refine h _ λj hj => ?_
  rw[<- hT j hj];simp only[Z7];repeat rw[Ke aa]
end
open B (TOK BOK sv svV cpS vpQ tbN FitQ VR rwV jhw RowN iV jsr jc8 jcJ nbL oneB)
theorem jn6 {xv yv:V}{xs ys:List Int}(Kx:Tk xv xs)(Ky:Tk yv ys){ow wh:Int}(ho:In64 ow)(hw:In64 wh):Go.Ab.Found env 5 [xv,yv,.int .i64 ow,.int .i64 wh]:=by
 refine jlF at5 rfl ?_;obtain⟨v,U1,hB,L1,ts1,cs,tbs,q,rfl,rfl,hb,x1,l1,k1⟩:=jsk Kx [] [];have hS:=jnX (q:=q) hb;obtain⟨v,U2,hQ,Q,ev,wv,rv,M,ts2,rfl,rfl,wq,hfac,qn,x2,hML,hMk⟩:=jk0 (q:=.unk) Ky hb.kitSv.kb L1 ts1;obtain⟨fa,fl⟩:=jsm hfac;have hbl:=hb.len;have hP:=pick_call ow 6 ho (by simp[In64]) af;have e6:IntKind.i64.wrap (1+ow % 6)=1+ow % 6:=wrap_i64 aa aa;obtain⟨k,hk⟩:∃k:Nat,wh % ((tbs.length:Int)+1)=k:=⟨(wh % ((tbs.length:Int)+1)).toNat,by have:=Int.emod_nonneg wh (show(tbs.length:Int)+1 ≠ 0 by omega);omega⟩;have hNb:=jn4 hb wq q (1+ow % 6) wh hw hk;obtain⟨vx,vy,lx,ly,hd,hVal,hVal2⟩:=jsE (q:=q) hb wq fa qn (1+ow % 6) k (oneB tbs Q k);generalize nbL (1+ow % 6) k (oneB tbs Q k) tbs=nb at hNb hVal2;have hSen:∀U,jah env (Go.Ab.ev env) 36 [.agg (Q.cells ev wv rv),.row (jba (sv tbs)) (sv tbs).length .unk] U=some (.int .i64 (jjg Q (sv tbs) 0),U):=jw6 hb wq fa;generalize jjg Q (sv tbs) 0=Sn at hd hSen;have kn:=jvF;have x1c:=wq.e.nv wq.l.1 |>.cell.2
 have x2c:=wq.w.nv wq.l.2.1 |>.cell.2
 have x3c:=wq.r.rg wq.l.2.2 |>.cell.2
 have ldG:=jzO;unfold Qy.cells at hVal hVal2 hSen hNb hQ;simp only[Tryz.f5,simprocAttr,zK,K0,jaa,jai,ty7,kn,hB,hS,hQ,al1,uq,fo30,zq,YW,YH,jad,jao,Qf,x1c,x2c,x3c,ldG,hP,e6,hNb,hSen,hVal,hVal2];refine⟨ac,ac,ac,jsF (jsr vx) (jsr vy) lx ly hd qn (jad _ _) rfl rfl rfl rfl rfl λT1 a0 => ?_⟩;have v9:T1 9=.bool true:=a0 9 aa;simp only[simprocAttr,zK,Vq,v9];rfl
end Go.Proofs.YtajaampgajieeaaGreatDoor.N
namespace Go.Proofs.YtajaampgajieeaaGreatDoor
open Go.Ab
namespace N
theorem ranks_foundt {u v w x:V}(h:Tyd Tryz.prog 6 22 [u])(h2:Tyd Tryz.prog 6 22 [v])(h3:Tyd Tryz.prog 6 3 [w])(h4:Tyd Tryz.prog 6 3 [x]):Go.Ab.Found env 5 [u,v,w,x]:=by
 obtain⟨xs,hx⟩:=jun (k:=4) h;obtain⟨ys,hy⟩:=jun (k:=4) h2;obtain⟨a,rfl,ha⟩:=juo (k:=5) h3;obtain⟨b,rfl,hb⟩:=juo (k:=5) h4;exact jn6 hx hy ha hb
end N
end Go.Proofs.YtajaampgajieeaaGreatDoor
namespace Go.Proofs.YtajaampgajieeaaGreatDoor.N
theorem env_ok:env.Ok:=env_ok_of λf h=>by
 have:=jzQ h;subst this;exact r31.known_row
end Go.Proofs.YtajaampgajieeaaGreatDoor.N
