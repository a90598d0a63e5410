/- Proved here: the law. Conditions: each theorem's own. -/
import Derived.Test.YtajaampgajieeaaGreatDoorCpA
import Derived.Test.YtajaampgajieeaaGreatDoorSeA
import Derived.Test.YtajaampgajieeaaGreatDoorWoA
import Derived.Test.YtajaampgajieeaaGreatDoorRnB
set_option linter.unusedSimpArgs false
set_option maxHeartbeats 16000000
set_option maxRecDepth 1000000
set_option linter.unusedVariables false
set_option linter.unusedSectionVars false
namespace Go.Proofs.YtajaampgajieeaaGreatDoor.N
open Go.Ab
open B (TOK BOK sv svV cpS vpQ tbN FitQ jed ja4 CK)
theorem jo4 {M:List AObj}{w:Nat}{x:AObj}(h:M[w]? = some x):M.set w x=M:=by
 refine Xp λi => ?_
 by_cases e:w=i
 ·subst e;rw[Km (jao h),h]
 ·rw[Kh e]
open B (TOK BOK sv svV cpS vpQ tbN FitQ VR rwV ji1 RowN)
theorem VR.rows {n:Nat}{ps:List PR}{u:V}(h:VR n ps u):∃ws:List Rw,IsR u ws/\OkR ws/\(∀r∈ws,r.vs.length=n)/\ws.map Rw.pl=ps:=by
 obtain⟨ws,rfl,h1,h2⟩:=h;exact⟨ws,ji1 ws,λr hr=>⟨(h1 r hr).1,(h1 r hr).2.2.1,(h1 r hr).2.2.2⟩,λr hr=>(h1 r hr).2.1,h2⟩
theorem jAB(L:List AObj)(a0 a1 a2 a3 a4 a5 a6 a7 a8 a9 a10 a11 a12 a13 a14 a15 a16 a17 a18 a19:V):jab (L++[.cells [a0,a1,a2,a3,a4,a5,a6,a7,a8,a9,a10,a11,a12,a13,a14,a15,a16,a17,a18,a19] 30]) 20 (.ptr L.length 0)=some [a0,a1,a2,a3,a4,a5,a6,a7,a8,a9,a10,a11,a12,a13,a14,a15,a16,a17,a18,a19]:=by simp[jab]
open B (TOK BOK sv svV cpS vpQ tbN FitQ jed ja4 iV jsW jcc jsV)
theorem hk43:env.hook 43=some (jbU B.env 43):=rfl
section
variable {cs:List Col}{tbs:List Tb}{Q:Qy}{ev wv rv:V}{fe:Int}
theorem fitW(h:BaseG cs tbs):FitQ (tbs.map jcL) Q fe↔FitQ tbs Q fe:=by
 unfold FitQ;rw[jht h];exact⟨λg=>⟨(jk9 h).2,g.2⟩,λg=>⟨(jk9 h.weak).2,g.2⟩⟩
theorem ok1(h:BaseG cs tbs):∀c∈jaI Q (sv tbs),Ok1 c:=B.colsQ_all λs hs c hc=>by
 unfold sv at hs;obtain⟨t,ht,rfl⟩:=Jd.1 hs;have hk:Kit c:=h.kits ht c hc;obtain⟨j,hj,hn⟩:=hk.1;exact⟨by rw[hn];exact jkU hj,jkV hk⟩
theorem ju4 {f:FuncId}{r:V}(hk:env.hook f=some (jbU B.env f))(hp:B.env.pure f=true)(hn:B.env.hook f=none)(h:BaseG cs tbs)(hQ:WQ Q ev wv rv)(q:RCap){rest:List V}(r1:rest.all V.closed=true)(r2:rest.map V.weak=rest)
  (H:∀l v e w x,l=tbs\/l=tbs.map jcL->BOK v l->K.QV Q e w x->∀U,jah B.env (Go.Ab.ev B.env) f (v::.agg (Q.cells e w x)::rest) U=some (r,U)) (U:S) :
  jah env (Go.Ab.ev env) f (.row (jbc tbs) tbs.length q::.agg (Q.cells ev wv rv)::rest) U=some (r,U):=by
 refine jrC hk (jjq hp hn (λhc => ?_) ?_ ?_) _ U
 ·simp only[Ks,Qt]at hc;exact H _ _ _ _ _ (.inl rfl) (h.bok hc.1) (hQ.qv (jkk hc.2.1))
 ·have h1:=hQ.weak.closed;simp only[K6,r2,Ks,r1,jfY hQ,h1,jh6,(h.bokW q).closed,K8]
 ·simp only[K6,r2,jh6,jfY hQ];exact H _ _ _ _ _ (.inr rfl) (h.bokW q) hQ.weak
theorem jxW(h:BaseG cs tbs)(xs:List Int):jcc (tbs.map jcL) Q xs=jcc tbs Q xs:=by
 unfold jcc;rw[jsS h,jht h]
open Classical in
theorem jpk(h:BaseG cs tbs)(hQ:WQ Q ev wv rv)(hf:K.Fac Q.factor fe)(q:RCap)(U:S):jah env (Go.Ab.ev env) 43 [.row (jbc tbs) tbs.length q,.agg (Q.cells ev wv rv)] U=some (if FitQ tbs Q fe/\Q.column ≠ []then iV (jcc tbs Q (List.replicate (vpQ tbs Q).view.length 1))else .nilsl,U) :=
 ju4 hk43 rfl rfl h hQ q rfl rfl (λl v e w x hl hB hQ U=>by
  rcases hl with rfl|rfl
  ·exact B.counts43 hB hQ hf (ok1 h) U
  ·rw[B.counts43 hB hQ hf (by rw[jht h];exact ok1 h) U,jxW h,jsS h];simp only[fitW h]) U
end
theorem js6 {B:Int}(hB:0<=B):∀l:List Int,(∀x∈l,-B<=x/\x<=B) -> -(B*l.length)<=sumI l/\sumI l<=B*l.length
 | [],_=>by simp[sumI]
 |x::l,h=>by
  have h1:=js6 hB l λy hy=>h y (by simp[hy])
  have h2:=h x ae;have e:B*((x::l).length:Nat)=B*l.length+B:=by rw[Qh,Vh,Int.mul_add];simp
  rw[e,jcP];omega
section
variable {cs:List Col}{tbs:List Tb}{Q:Qy}{fe:Int}
theorem juu(h:BaseG cs tbs)(hF:FitQ tbs Q fe):(vpQ tbs Q).view.length<=600:=by
 have hK:=ja4 hF.2;obtain⟨t1,_,_⟩:=jsU h hK.tab;obtain⟨_,hl⟩:=h.r _ t1;have h2:=(vpQ tbs Q).view_sub.length_le
 have h3:=B.joinedL (vpQ tbs Q) λo pub left right limit e=>by
  unfold vpQ at e;by_cases ho:Q.other=[]
  ·simp only[ho,Kl]at e;cases e
  ·simp only[ho,Kn,Ki,Qg]at e;have:=(hK.other ho).2.2.2.2.1;omega
 have h7:(vpQ tbs Q).rows.length=(tbN tbs Q.table).rows.length:=by simp[vpQ]
 omega
theorem jew(tbs:List Tb)(Q:Qy)(xs:List Int):(jcc tbs Q xs).length=B.widQ (jaI Q (sv tbs)) Q:=jcV _ _
theorem juv(h:BaseG cs tbs)(hF:FitQ tbs Q fe){d:Int}(hd:0<=d){xs:List Int}(hx:∀x∈xs,-d<=x/\x<=d)(hl:xs.length=(vpQ tbs Q).view.length):∀x∈jcc tbs Q xs,-(d*600)<=x/\x<=d*600:=λx hxm=>by
 obtain⟨i,hi,rfl⟩:=Jr hxm;have hi2:=hi;rw[jew]at hi2;have hv:=juu h hF;have hc:=B.cells_le (B.widQ (jaI Q (sv tbs)) Q) hd (((vpQ tbs Q).view.map (B.cellI (jaI Q (sv tbs)) (B.colI (jaI Q (sv tbs)) Q))).zip xs) (λx hx2=>hx _ (List.of_mem_zip hx2).2) i hi2
 have e:(jcD (B.widQ (jaI Q (sv tbs)) Q) (((vpQ tbs Q).view.map (B.cellI (jaI Q (sv tbs)) (B.colI (jaI Q (sv tbs)) Q))).zip xs)).getD i 0=(jcc tbs Q xs)[i]:=by
  show(jcc tbs Q xs).getD i 0=_;simp[List.getD,hi]
 rw[e]at hc;have hz:(((vpQ tbs Q).view.map (B.cellI (jaI Q (sv tbs)) (B.colI (jaI Q (sv tbs)) Q))).zip xs).length<=600:=by simp;omega
 have h2:d*((((vpQ tbs Q).view.map (B.cellI (jaI Q (sv tbs)) (B.colI (jaI Q (sv tbs)) Q))).zip xs).length:Int)<=d*600:=Ue aa hd;omega
end
theorem jjd {xs:List Int}{i:Nat}(h:i<xs.length):sumI (xs.take (i+1))=sumI (xs.take i)+xs.getD i 0:=by
 rw[B.take_next 0 h,jh2,jcP];show _+(_+0)=_;omega
theorem jdr {d:Int}(hd:0<=d){xs:List Int}(hb:∀x∈xs,-d<=x/\x<=d)(i:Nat) : -(d*xs.length)<=sumI (xs.take i)/\sumI (xs.take i)<=d*xs.length:=by
 have h:=js6 hd (xs.take i) λx hx=>hb x (Xw hx)
 have h2:d*((xs.take i).length:Int)<=d*(xs.length:Int):=Ue (Int.ofNat_le.2 (by rw[Qx];omega)) hd;omega
open B (TOK BOK sv svV cpS vpQ tbN FitQ jed ja4 nbL woT cpT woR rwV cpR oneB)
structure LessT (t' t:Tb):Prop where
 s:t'.s=cpS t.s
 r:∃p:Rw->Bool,t'.rows=(t.rows.filter p).map cpR
 v:t'.rv=rwV t'.rows
theorem jwl(t:Tb):LessT (cpT t) t:=⟨rfl,⟨λ_=>true,by rw[Un.2 λ_ _=>rfl];rfl⟩,rfl⟩
theorem js7(o:Int)(t:Tb):LessT (woT o t) t:=⟨rfl,⟨_,rfl⟩,rfl⟩
theorem jwm(v:V):unkV (unkV v)=unkV v:=by cases v<;>rfl
theorem jwn(s:Sch):cpS (cpS s)=cpS s:=by unfold cpS;simp only[jwm]
theorem js8(l:List Rw):(l.map cpR).map Rw.pl=l.map Rw.pl:=by rw[X5];rfl
section
variable {cs:List Col}{tbs nb:List Tb}
theorem jmH(h:BaseG cs tbs)(hl:nb.length=tbs.length)(hi:∀i,i<tbs.length->LessT (nb.getD i Tb.none) (tbs.getD i Tb.none)):BaseG cs nb:=by
 have at':∀t∈nb,∃t0∈tbs,LessT t t0:=λt ht=>by
  obtain⟨i,h1,e⟩:=Jr ht;have:=hi i aa;rw[show nb.getD i Tb.none=t by simp[List.getD,h1,e]]at this;exact⟨_,Tb.mem aa,this⟩
 refine⟨⟨h.k.all,h.k.five,by have:=h.k.n;simp at this ⊢;omega,by have:=h.k.l;simp at this ⊢;omega,λi h1 => ?_⟩,λt ht => ?_,λt ht => ?_⟩
 ·have h2:i<tbs.length:=by simp at h1;omega
  have k:=h.k.at' i (by simpa using h2);have e0:(tbs.map (·.s)).getD i Sch.none=(tbs.getD i Tb.none).s:=by simp[List.getD,h2]
  have e1:(nb.map (·.s)).getD i Sch.none=(nb.getD i Tb.none).s:=by simp[List.getD,show i<nb.length by omega]
  rw[e0]at k;rw[e1,(hi i h2).s];obtain⟨q,hq⟩:=k.row;exact⟨k.nm,k.sub,k.ne,k.le,k.pb,.unk,by show unkV _=_;rw[hq];rfl⟩
 ·obtain⟨t0,h0,⟨hs,⟨p,hr⟩,_⟩⟩:=at' t ht;obtain⟨g,gl⟩:=h.r t0 h0;rw[hs,hr];refine⟨⟨λr hm => ?_,λr hm => ?_,λhp o => ?_⟩,?_⟩
  ·obtain⟨r0,hr0,rfl⟩:=Jd.1 hm;obtain⟨q,hq⟩:=g.v r0 (Vg.1 hr0).1;exact⟨.unk,by show unkV _=_;rw[hq];rfl⟩
  ·obtain⟨r0,hr0,rfl⟩:=Jd.1 hm;exact g.g r0 (Vg.1 hr0).1
  ·rw[js8];exact V5 (Int.ofNat_le.2 (jkY (List.filter_sublist.map _))) (g.m hp o)
  ·rw[Qw];exact Jp (Uj _ _) gl
 ·obtain⟨t0,h0,⟨_,_,hv⟩⟩:=at' t ht;rw[hv];unfold rwV;by_cases e:t.rows=[]
  ·rw[Kg e];exact .inl ⟨rfl,e⟩
  ·rw[Ke e];exact .inr ⟨.unk,rfl⟩
theorem js9(hl:nb.length=tbs.length)(hi:∀i,i<tbs.length->LessT (nb.getD i Tb.none) (tbs.getD i Tb.none)):sv nb=sv tbs:=by
 refine Xp λi => ?_
 unfold sv;rw[J9,J9];by_cases h:i<tbs.length
 ·have:=(hi i h).s;rw[Kz h,Kz (show i<nb.length by omega)];simp only[List.getD,Kz h,Kz (show i<nb.length by omega),Kr]at this;simp only[K9,this,jwn]
 ·rw[Qo aa,Qo aa]
theorem jlb(o:Int)(k:Nat)(one:Bool):(nbL o k one tbs).length=tbs.length/\∀i,i<tbs.length->LessT ((nbL o k one tbs).getD i Tb.none) (tbs.getD i Tb.none)/\((nbL o k one tbs).getD i Tb.none).rows.map Rw.pl=woB o (!(tbs.getD i Tb.none).s.pub && (!one ||decide (i=k))) ((tbs.getD i Tb.none).rows.map Rw.pl):=by
 have hm:∀(f:Tb->Tb) i,i<tbs.length->(tbs.map f).getD i Tb.none=f (tbs.getD i Tb.none):=λf i hi=>by simp[List.getD,hi]
 cases one with
 |false =>
  refine⟨by simp[nbL],λi hi => ?_⟩;show LessT ((tbs.map (woT o)).getD i Tb.none) _/\((tbs.map (woT o)).getD i Tb.none).rows.map Rw.pl=_;rw[hm _ i hi];refine⟨js7 o _,?_⟩;rw[Ji,Ui,Q5];exact B.woR_pl _ _ _
 | true =>
  refine⟨by simp[nbL],λi hi => ?_⟩;show LessT (((tbs.map cpT).set k (woT o (tbs.getD k Tb.none))).getD i Tb.none) _/\(((tbs.map cpT).set k (woT o (tbs.getD k Tb.none))).getD i Tb.none).rows.map Rw.pl=_;by_cases e:i=k
  ·subst e;have:((tbs.map cpT).set i (woT o (tbs.getD i Tb.none))).getD i Tb.none=woT o (tbs.getD i Tb.none):=by simp[List.getD,hi]
   rw[this,decide_eq_true rfl];refine⟨js7 o _,?_⟩;rw[Xj,Q5];exact B.woR_pl _ _ _
  ·have:((tbs.map cpT).set k (woT o (tbs.getD k Tb.none))).getD i Tb.none=cpT (tbs.getD i Tb.none):=by
    rw[<- hm cpT i hi];simp only[List.getD,Kh (Ne.symm e)]
   rw[this,decide_eq_false e];refine⟨jwl _,?_⟩;rw[Q8,Xr,Uh];exact js8 _
theorem jwo(h:BaseG cs tbs){Q:Qy}{fe:Int}(hF:FitQ tbs Q fe)(o:Int)(k:Nat)(one:Bool):∃x:Bool,(vpQ (nbL o k one tbs) Q).view=woB o x (vpQ tbs Q).view/\(x=true->(tbN tbs Q.table).s.pub=false) /\
  x=((!(tbN tbs Q.table).s.pub && (!one ||decide (ja3 (sv tbs) Q.table (sv tbs).length 0=k))) ||(decide (Q.other ≠ []) && (!(tbN tbs Q.other).s.pub && (!one ||decide (ja3 (sv tbs) Q.other (sv tbs).length 0=k))))):=by
 obtain⟨hl,hi⟩:=jlb (tbs:=tbs) o k one;have hK:=ja4 hF.2;have hsv:=js9 hl λi h=>(hi i h).1
 have tab:∀nm,0<=ja3 (sv tbs) nm (sv tbs).length 0->(tbN (nbL o k one tbs) nm).s=cpS (tbN tbs nm).s/\(tbN (nbL o k one tbs) nm).rows.map Rw.pl=woB o (!(tbN tbs nm).s.pub && (!one ||decide (ja3 (sv tbs) nm (sv tbs).length 0=k))) ((tbN tbs nm).rows.map Rw.pl):=λnm hs=>by
  obtain⟨i,h1,h2,h3,_⟩:=B.tbN_spec hs;have e:tbN (nbL o k one tbs) nm=(nbL o k one tbs).getD i Tb.none:=by unfold tbN;rw[hsv,h1,Qj]
  obtain⟨a,b⟩:=hi i h2;rw[e,h3,h1];refine⟨a.s,?_⟩;rw[b];have:decide ((i:Int)=(k:Int))=decide (i=k):=by rw[decide_eq_decide];omega
  rw[this]
 obtain⟨t1,t2⟩:=tab Q.table hK.tab;refine⟨_,?_,?_,rfl⟩
 ·have hv:vpQ (nbL o k one tbs) Q=(vpQ tbs Q).less o (!(tbN tbs Q.table).s.pub && (!one ||decide (ja3 (sv tbs) Q.table (sv tbs).length 0=k))) (!(tbN tbs Q.other).s.pub && (!one ||decide (ja3 (sv tbs) Q.other (sv tbs).length 0=k))):=by
   unfold vpQ VP.less B.ixL B.ixR;simp only;rw[t2,t1,hsv];by_cases ho:Q.other=[]
   ·simp only[ho,Kl];rfl
   ·obtain⟨o1,o2⟩:=tab Q.other (hK.other ho).1;simp only[ho,Kn];rw[o2,o1];rfl
  rw[hv,VP.view_less]
  ·have:(vpQ tbs Q).jn.isSome=decide (Q.other ≠ []):=by
    unfold vpQ;by_cases ho:Q.other=[]
    ·simp only[ho,Kl];rfl
    ·simp only[ho,Kn];rw[decide_eq_true (show Q.other ≠ []from ho)];rfl
   rw[this]
   congr 1
   cases decide (Q.other ≠ [])<;>simp
  ·intro x pub l r m e hb;unfold vpQ at e;by_cases ho:Q.other=[]
   ·simp only[ho,Kl]at e;cases e
   ·simp only[ho,Kn,Ki,Qg]at e;rw[<- e.2.1];cases hp:(tbN tbs Q.other).s.pub with
    |false=>rfl
    |true=>rw[hp]at hb;cases hb
 ·intro hx;cases hp:(tbN tbs Q.table).s.pub with
  |false=>rfl
  | true =>
   rw[hp]at hx;by_cases ho:Q.other=[]
   ·simp[ho]at hx
   ·have:=(hK.other ho).2.2.2.2.2;obtain⟨_,_,_,_,h4,_,_⟩:=B.tbN_spec hK.tab;obtain⟨_,_,_,_,g4,_,_⟩:=B.tbN_spec (hK.other ho).1;rw[h4,g4]at this;have:=this hp;have e:(tbN tbs Q.other).s.pub=true:=this;rw[e]at hx;simp at hx
end
open B (TOK BOK sv svV cpS vpQ tbN FitQ jed ja4 nbL woT cpT woR rwV cpR oneB bsV accX jfa jjx widX)
theorem hk35:env.hook 35=some (jbU B.env 35):=rfl
theorem hk36:env.hook 36=some (jbU B.env 36):=rfl
theorem hk40:env.hook 40=some (jbU B.env 40):=rfl
theorem jpl {cs:List V}{n:Nat}{q:RCap}(h:V.weak.weakL cs=cs):unkV (V.row cs n q).weak=unkV (.row cs n q):=by simp only[V.weak,h,unkV]
section
variable {cs:List Col}{tbs:List Tb}{Q:Qy}{ev wv rv:V}{fe:Int}
theorem jpm(h:BaseG cs tbs){t:Tb}(ht:t∈tbs):cpS (jcL t).s=cpS t.s:=by
 obtain⟨⟨q,e⟩,ok,_⟩:=h.sch ht;show({ jgs t.s with cv:=unkV t.s.cv.weak }:Sch)={ t.s with cv:=unkV t.s.cv };rw[e,jpl (jch ok)];rfl
theorem jmI(h:BaseG cs tbs){t:Tb}(ht:t∈tbs)(p:Rw->Bool)(hp:∀r,p (ji7 r)=p r):(((jcL t).rows.filter p).map cpR)=(t.rows.filter p).map cpR:=by
 show((t.rows.map ji7).filter p).map cpR=_;rw[List.filter_map,X5];have e:p ∘ ji7=p:=funext hp;rw[e];refine Xz λr hr => ?_
 obtain⟨q,hq⟩:=(h.r t ht).1.v r (Vg.1 hr).1;show({ ji7 r with vv:=unkV r.vv.weak }:Rw)={ r with vv:=unkV r.vv };rw[hq,jpl (jd3 _)];rfl
theorem juw(h:BaseG cs tbs)(o:Int)(k:Nat)(one:Bool):nbL o k one (tbs.map jcL)=nbL o k one tbs:=by
 have hw:∀t∈tbs,woT o (jcL t)=woT o t:=λt ht=>by
  have e:=jmI h ht (B.stays o t.s.pub) λ_=>rfl
  unfold woT woR;show(⟨cpS (jcL t).s,rwV (((jcL t).rows.filter (B.stays o t.s.pub)).map cpR),((jcL t).rows.filter (B.stays o t.s.pub)).map cpR⟩:Tb)=_;rw[jpm h ht,e]
 have hc:∀t∈tbs,cpT (jcL t)=cpT t:=λt ht=>by
  have e:=jmI h ht (λ_=>true) λ_=>rfl
  rw[Un.2 λ_ _=>rfl,Un.2 λ_ _=>rfl]at e;unfold cpT;rw[jpm h ht,e]
 have m1:(tbs.map jcL).map (woT o)=tbs.map (woT o):=by rw[X5];exact Xz hw
 have m2:(tbs.map jcL).map cpT=tbs.map cpT:=by rw[X5];exact Xz hc
 unfold nbL;cases one with
 |false=>exact m1
 | true =>
  simp only[Kl];rw[m2];by_cases hk:k<tbs.length
  ·have e:(tbs.map jcL).getD k Tb.none=jcL (tbs.getD k Tb.none):=by simp[List.getD,hk]
   rw[e,hw _ (Tb.mem hk)]
  ·rw[List.set_eq_of_length_le (by simp;omega),List.set_eq_of_length_le (by simp;omega)]
theorem jta(Q:Qy)(k:Nat):oneB (tbs.map jcL) Q k=oneB tbs Q k:=by
 unfold oneB;rw[Qw];by_cases hk:k<tbs.length
 ·have e:(tbs.map jcL).getD k Tb.none=jcL (tbs.getD k Tb.none):=by simp[List.getD,hk]
  rw[e];rfl
 ·rw[decide_eq_false hk];rfl
theorem jod(h:BaseG cs tbs)(hQ:WQ Q ev wv rv)(q:RCap)(o w:Int)(hw:In64 w){k:Nat}(hk:w % ((tbs.length:Int)+1)=k)(U:S) :
  jah env (Go.Ab.ev env) 35 [.row (jbc tbs) tbs.length q,.agg (Q.cells ev wv rv),.int .i64 o,.int .i64 w] U=some (.row (jbc (nbL o k (oneB tbs Q k) tbs)) (nbL o k (oneB tbs Q k) tbs).length .unk,U):=by
 have hl:=h.len;have hlen:=(jlb (tbs:=tbs) o k (oneB tbs Q k)).1
 have hb:bsV (nbL o k (oneB tbs Q k) tbs)=.row (jbc (nbL o k (oneB tbs Q k) tbs)) (nbL o k (oneB tbs Q k) tbs).length .unk:=by
  unfold bsV;rw[Ke λe=>by rw[e]at hlen;simp at hlen;omega]
 rw[<- hb]
 exact ju4 hk35 rfl rfl h hQ q rfl rfl (λl v e w' x hl2 hB hQ U=>by
  rcases hl2 with rfl|rfl
  ·exact B.neighbour_call hB hQ hl.1 o w hw hk U
  ·rw[B.neighbour_call hB hQ (by rw[Qw];exact hl.1) o w hw (by rw[Qw];exact hk) U,juw h,jta]) U
theorem jlc(h:BaseG cs tbs):(sv tbs).map jgs=sv tbs:=by
 unfold sv;rw[X5];refine Xz λt ht => ?_
 obtain⟨⟨q,e⟩,ok,_⟩:=h.sch ht;show({ cpS t.s with cv:=(unkV t.s.cv).weak }:Sch)={ t.s with cv:=unkV t.s.cv };rw[e];show({ cpS t.s with cv:=.row (V.weak.weakL (jaO t.s.cs)) _ _ }:Sch)=_;rw[jch ok];rfl
theorem jtb {f:FuncId}{r:V}(hk:env.hook f=some (jbU B.env f))(hp:B.env.pure f=true)(hn:B.env.hook f=none)(h:BaseG cs tbs)(hQ:WQ Q ev wv rv)
  (H:∀lv e w x,K.SB lv (sv tbs)->K.QV Q e w x->∀U,jah B.env (Go.Ab.ev B.env) f [.agg (Q.cells e w x),lv] U=some (r,U)) (U:S) :
  jah env (Go.Ab.ev env) f [.agg (Q.cells ev wv rv),.row (jaY (sv tbs)) (sv tbs).length .unk] U=some (r,U):=by
 have hS:=jsR h.kitSv;have h2:=hS.weak .unk;rw[jlc h]at h2;refine jrC hk (jjq hp hn (λhc => ?_) ?_ ?_) _ U
 ·simp only[Ks,Qn,Q5,Qt]at hc;exact H _ _ _ _ (hS.sb hc.2) (hQ.qv (jkk hc.1))
 ·have h1:=hQ.weak.closed;have h3:=jda h2.v h2.ok;simp only[K6,J5,Ks,Qn,jfY hQ,h1,h3,K8]
 ·simp only[K6,J5,jfY hQ];exact H _ _ _ _ h2 hQ.weak
theorem joe(h:BaseG cs tbs):∀s∈sv tbs,0<=s.many/\s.many<=1000:=λs hs=>by
 unfold sv at hs;obtain⟨t,ht,rfl⟩:=Jd.1 hs;obtain⟨i,_,_,k⟩:=h.kit ht;show 0<=t.s.many/\t.s.many<=1000
 rcases k.pb with⟨_,b,_⟩|⟨_,b,c⟩<;>omega
open Classical in
theorem jxX(h:BaseG cs tbs)(hQ:WQ Q ev wv rv)(hf:K.Fac Q.factor fe)(U:S):jah env (Go.Ab.ev env) 40 [.agg (Q.cells ev wv rv),.row (jaY (sv tbs)) (sv tbs).length .unk] U=some (.int .i64 (if accX Q (sv tbs) fe then jfa Q (sv tbs)else 0),U) :=
 jtb hk40 rfl rfl h hQ (λlv e w x hS hQ U=>B.rows40 hS hQ hf (joe h) U) U
open Classical in
theorem ju5(h:BaseG cs tbs)(hQ:WQ Q ev wv rv)(hf:K.Fac Q.factor fe)(U:S):jah env (Go.Ab.ev env) 36 [.agg (Q.cells ev wv rv),.row (jaY (sv tbs)) (sv tbs).length .unk] U=some (.int .i64 (if accX Q (sv tbs) fe then jjx Q (sv tbs)else 0),U) :=
 jtb hk36 rfl rfl h hQ (λlv e w x hS hQ U=>B.sens36 hS hQ hf (joe h) (ok1 h) U) U
end
theorem at38:env.P.funcs[38]? = some Tryz.f38:=ac
theorem at42:env.P.funcs[42]? = some Tryz.f42:=ac
theorem jpn {n:Int}(h : -4000000000000000000<=n/\n<=4000000000000000000)(U:S):jah env (ev env) 38 [.int .i64 n] U=some (.int .i64 (absI n),U):=by
 refine jaj rfl at38 rfl ?_ U;have hw:IntKind.i64.wrap (0-n) = -n:=by rw[wrap_i64 aa aa];omega
 have hm:(if -n>n then -n else n)=absI n:=by unfold absI;split<;>omega
 simp only[Tryz.f38,simprocAttr,zK,Vq,jai,hw,hm];rfl
theorem jh7 {vv:V}{xs:List Int}(hx:W.IsI vv xs)(hl:xs.length<=100000)(hb:∀x∈xs,-1000000000<=x/\x<=1000000000)(U:S):jah env (ev env) 42 [vv] U=some (.int .i64 (sumI xs),U):=by
 refine jaj (by simp[W.closed_I hx]) at42 rfl ?_ U;have hlen:=W.len_I hx;simp only[Tryz.f42,simprocAttr,zK,Vq,jai]
 refine jau (λm T D U'=>D=[]/\U'=⟨[],[]⟩/\T 0=vv/\∃i:Nat,T 4=.int .i64 i/\T 3=.int .i64 (sumI (xs.take i))/\i<=xs.length/\m=xs.length-i) ?_ (xs.length-0) _ _ _
  ⟨rfl,rfl,rfl,0,rfl,rfl,Qm _,rfl⟩
 rintro m T D U' ⟨rfl,rfl,t0,i,t4,t3,hi,rfl⟩;refine jaC ?_;by_cases hlt:i<xs.length
 ·have c1:((i:Int)<(xs.length:Int))=True:=eq_true aa;have e1:IntKind.i64.wrap ((i:Int)+1)=((i+1:Nat):Int):=by rw[wrap_i64 aa aa];omega
  have b2:=hb (xs.getD i 0) (by simp[List.getD,hlt]);have b3:=jdr (d:=1000000000) af hb i;have e2:IntKind.i64.wrap (sumI (xs.take i)+xs.getD i 0)=sumI (xs.take (i+1)):=by rw[jjd hlt,wrap_i64 aa aa]
  have hix:=W.idx_I hx hlt;simp only[simprocAttr,yK,Vq,hlen,t0,t3,t4,c1,e1,e2,hix,jaq];exact⟨xs.length-(i+1),aa,i+1,rfl,rfl,aa,rfl⟩
 ·have hie:i=xs.length:=by omega
  subst hie;have c1:((xs.length:Int)<(xs.length:Int))=False:=eq_false aa;rw[Jh]at t3;simp only[simprocAttr,zK,Vq,hlen,t0,t3,t4,c1];rfl
theorem jqt {x y:List Int}{i:Nat}:sumI ((List.range (i+1)).map λj=>absI (x.getD j 0-y.getD j 0))=sumI ((List.range i).map λj=>absI (x.getD j 0-y.getD j 0))+absI (x.getD i 0-y.getD i 0):=by
 rw[List.range_succ,Js,jh2];show _+sumI [_]=_;rw[jcP];show _+(absI (x.getD i 0-y.getD i 0)+0)=_;rw[Int.add_zero]
open B (TOK BOK sv svV cpS vpQ tbN FitQ jed ja4 nbL woT cpT oneB accX jfa jjx widX jsW jsV jcc iV)
section
variable {cs:List Col}{tbs:List Tb}{Q:Qy}{fe:Int}
theorem jux(h:BaseG cs tbs)(hF:FitQ tbs Q fe)(hp:(tbN tbs Q.table).s.pub=false)(o:Int):accX Q (sv tbs) fe/\(cnt o (vpQ tbs Q).view:Int)<=jfa Q (sv tbs):=by
 have hK:=ja4 hF.2;obtain⟨t1,_,_⟩:=jsU h hK.tab;obtain⟨hg,hl⟩:=h.r _ t1;obtain⟨_,_,_,_,h4,_,_⟩:=B.tbN_spec hK.tab;refine⟨⟨hF.2,?_⟩,?_⟩
 ·unfold K.privX;refine decide_eq_true ⟨hK.all,hK.tab,?_⟩;rw[h4];exact hp
 have hj:∀oo pub left right limit,(vpQ tbs Q).jn=some (oo,pub,left,right,limit)->Q.other ≠ []/\limit=Q.limit/\oo=(tbN tbs Q.other).rows.map Rw.pl/\pub=(tbN tbs Q.other).s.pub:=λoo pub left right limit e=>by
  unfold vpQ at e;by_cases ho:Q.other=[]
  ·simp only[ho,Kl]at e;cases e
  ·simp only[ho,Kn,Ki,Qg]at e;exact⟨ho,e.2.2.2.2.symm,e.1.symm,e.2.1.symm⟩
 have hv:=VP.view_cnt (vpQ tbs Q) (w:=o) (many:=(tbN tbs Q.table).s.many) (many2:=(tbN tbs Q.other).s.many) (hg.m hp o) hK.keep.1 λoo pub left right limit e=>by
  obtain⟨ho,e1,e2,e3⟩:=hj _ _ _ _ _ e;refine⟨by rw[e1];have:=(hK.other ho).2.2.2.1;omega,λhpub => ?_⟩;rw[e2];rw[e3]at hpub;obtain⟨u1,_,_⟩:=jsU h (hK.other ho).1;exact(h.r _ u1).1.m hpub o
 refine V5 hv (Int.le_of_eq ?_)
 have eA:(if Q.keep=0 then(tbN tbs Q.table).s.many else min Q.keep (tbN tbs Q.table).s.many)=B.lessX Q.keep (schN (sv tbs) Q.table).many:=by
  rw[h4];show _=B.lessX Q.keep (tbN tbs Q.table).s.many;unfold B.lessX;by_cases e:Q.keep=0
  ·rw[Kg e,Kg (.inl e)]
  ·rw[Ke e];by_cases e2:(tbN tbs Q.table).s.many<Q.keep
   ·rw[Kg (.inr e2)];omega
   ·rw[Ke (λq=>q.elim e e2)];omega
 unfold VP.most jfa;show(if Q.keep=0 then(tbN tbs Q.table).s.many else min Q.keep (tbN tbs Q.table).s.many)*_=_;rw[eA];by_cases ho:Q.other=[]
 ·rw[Kg ho];have e:(vpQ tbs Q).jn=none:=by unfold vpQ;simp only[ho,Kl]
  rw[e];show _*1=_;rw[Int.mul_one]
 ·rw[Ke ho];obtain⟨_,_,_,_,g4,_,_⟩:=B.tbN_spec (hK.other ho).1;have e:(vpQ tbs Q).jn=some ((tbN tbs Q.other).rows.map Rw.pl,(tbN tbs Q.other).s.pub,B.ixL tbs Q,B.ixR tbs Q,Q.limit):=by unfold vpQ;simp only[ho,Kn]
  rw[e,g4];rfl
theorem jgU(tbs:List Tb)(Q:Qy)(am:PR->Int):jcc tbs Q ((vpQ tbs Q).view.map am)=jco (B.widQ (jaI Q (sv tbs)) Q) (B.cellI (jaI Q (sv tbs)) (B.colI (jaI Q (sv tbs)) Q)) am (vpQ tbs Q).view:=by
 unfold jcc jco;rw[List.zip_map']
theorem jh8(X:List PR):List.replicate X.length (1:Int)=X.map λ_=>1:=by rw[Ti]
section
variable {o:Int}{x:Bool}{X:List PR}{R:Int}(hR:0<=R)(hc:x=true->(cnt o X:Int)<=R)
include hR hc
theorem jqu {B:Int}(hB:0<=B)(w:Nat)(ix:PR->Nat)(am:PR->Int)(hg:∀r∈X,absI (am r)<=B):je7 (jco w ix am X) (jco w ix am (woB o x X))<=R*B:=by
 cases x with
 |false=>show je7 _ (jco w ix am X)<=_;rw[jqs];exact Int.mul_nonneg hR hB
 |true =>
  exact V5 (jn8 w ix am o hB X λr hr _=>hg r hr) (Vi (hc rfl) hB)
theorem jtc(w:Nat)(ix:PR->Nat){i:Nat}(hi:i<w):(jco w ix (λ_=>1) (woB o x X)).getD i 0<=(jco w ix (λ_=>1) X).getD i 0/\(jco w ix (λ_=>1) X).getD i 0-R<=(jco w ix (λ_=>1) (woB o x X)).getD i 0:=by
 cases x with
 |false=>show(jco w ix (λ_=>1) X).getD i 0<=_/\_;exact⟨Jt _,by show(jco w ix (λ_=>1) X).getD i 0-R<=(jco w ix (λ_=>1) X).getD i 0;omega⟩
 |true =>
  have h:=jqr w ix o X hi;have h2:=hc rfl;show(jco w ix (λ_=>1) (wo o X)).getD i 0<=_/\_<=(jco w ix (λ_=>1) (wo o X)).getD i 0;omega
end
end
section
variable {cs:List Col}{tbs:List Tb}{Q:Qy}{fe:Int}
open Classical in
noncomputable def jld(Q:Qy)(ss:List Sch)(fe:Int):Int:=if accX Q ss fe then jfa Q ss else 0
open Classical in
noncomputable def jwp(Q:Qy)(ss:List Sch)(fe:Int):Int:=if accX Q ss fe then jjx Q ss else 0
theorem juy(h:BaseG cs tbs):0<=jld Q (sv tbs) fe/\jld Q (sv tbs) fe<=50000:=by
 unfold jld;split
 ·rename_i a;exact B.rows_in (joe h) a
 ·omega
structure SbF (Q:Qy) (nx ny:Nat) (vx vy cx cy tx ty:List Int) (R S:Int):Prop where
 fl:nx<=600/\ny<=600
 fa:absI ((nx:Int)-ny)<=R
 fr:0<=R/\R<=50000
 fv:(vx.length<=600/\∀x∈vx,-1000000000<=x/\x<=1000000000)/\vy.length<=600/\∀x∈vy,-1000000000<=x/\x<=1000000000
 fs:Q.kind=2->absI (sumI vx-sumI vy)<=S
 fc:cx.length=cy.length/\cx.length<=64/\(∀x∈cx,-1000000000<=x/\x<=1000000000)/\∀x∈cy,-1000000000<=x/\x<=1000000000
 ft:tx.length=ty.length/\tx.length<=64/\(∀x∈tx,-1000000000<=x/\x<=1000000000)/\∀x∈ty,-1000000000<=x/\x<=1000000000
 fca:je7 cx cy<=R
 fta:je7 tx ty<=S
 ff:∀i,i<cx.length->cy.getD i 0<=cx.getD i 0/\cx.getD i 0-R<=cy.getD i 0
end
open B (TOK BOK sv svV cpS vpQ tbN FitQ VR rwV ji1 RowN iV jmB jsW jcc nbL oneB)
theorem jwq(U:S):jah env (ev env) 31 [] U=some (.bool true,U):=rfl
end Go.Proofs.YtajaampgajieeaaGreatDoor.N
namespace Go.Proofs.YtajaampgajieeaaGreatDoor
open Go.Ab
theorem K.env_ok_of(hR:∀f,memN f K.rowsL=true->jcE K.env f [] (.bool true)):K.env.Ok :=
  { mixed:=by kernel_rfl
    glc:=jjS
    hook := λf g h=>by
      simp only[K.env,K.hookK]at h;split at h
      · rename_i hf
        simp only[Ki]at h;subst h;intro args v hv;unfold K.hookT at hv;split at hv
        · simp only[Ki]at hv
          subst hv;exact hR f hf
        · simp at hv
      · split at h
        · simp only[Ki]at h
          subst h;intro args v hv O U w xs hw hg hx;exact jdT YtajaampgajieeaaGreatDoor.env_ok hv hw hg hx
        · split at h
          · simp only[Ki]at h
            subst h;intro args v hv O U w xs hw hg hx;exact jdT F.env_ok hv hw hg hx
          · simp at h }
theorem B.env_ok_of(hR:∀f,memN f K.rowsL=true->jcE K.env f [] (.bool true)):B.env.Ok :=
  { mixed:=by kernel_rfl
    glc:=jjS
    hook := λf g h=>by
      simp only[B.env,B.hookB]at h;split at h
      · simp only[Ki]at h
        subst h;intro args v hv O U w xs hw hg hx;exact jdT YtajaampgajieeaaGreatDoor.env_ok hv hw hg hx
      · split at h
        · simp only[Ki]at h
          subst h;intro args v hv O U w xs hw hg hx;exact jdT (K.env_ok_of hR) hv hw hg hx
        · split at h
          · simp only[Ki]at h
            subst h;intro args v hv O U w xs hw hg hx;exact jdT W.env_ok hv hw hg hx
          · simp at h }
theorem N.env_ok_of(hR:∀f,memN f K.rowsL=true->jcE K.env f [] (.bool true)):N.env.Ok :=
  { mixed:=by kernel_rfl
    glc:=jjS
    hook := fun f g h=>by
      simp only[N.env,N.hookN]at h;split at h
      · rename_i hf
        simp only[Ki]at h;subst h;intro args v hv;unfold K.hookT at hv;split at hv
        · simp only[Ki]at hv
          subst hv;exact hR f hf
        · simp at hv
      · split at h
        · simp only[Ki]at h
          subst h;intro args v hv O U w xs hw hg hx;exact jdT YtajaampgajieeaaGreatDoor.env_ok hv hw hg hx
        · split at h
          · simp only[Ki]at h
            subst h;intro args v hv O U w xs hw hg hx;exact jdT (K.env_ok_of hR) hv hw hg hx
          · split at h
            · simp only[Ki]at h
              subst h;intro args v hv O U w xs hw hg hx;exact jdT (B.env_ok_of hR) hv hw hg hx
            · simp at h }
namespace N
theorem env_gl {W:World}{l:List (String × DataW Unit)}(h:laidMetH Tryz.prog l W)(hp:(l.all λx=>x.2.handleName?.isNone)=true)(m0:("privhouse/schema.reserved",Rows.laid_privhouse_schema_reserved)∈l)
  (m1:("internal/strconv.uint64pow10",Rows.laid_internal_strconv_uint64pow10)∈l):GOK env (Ctx.top W):=YtajaampgajieeaaGreatDoor.env_gl h hp m0 m1
theorem u22i:env.P.underlying 22=some (.slice 3):=ac
theorem u3i:env.P.underlying 3=some (.int .i64):=ac
theorem ju6:∀xs:List Int,(xs.map λx=>[V.int .i64 x]).flatten=xs.map (V.int .i64)
 | []=>rfl
 |x::xs=>by simp only[K6,Vj,ju6 xs];rfl
theorem ju7 {v:V}{k:Nat}(h:Tyd env.P (k+2) 22 [v]):∃xs,Tk v xs:=by
 rcases jqX h u22i with h|⟨vss,h,hl,_,ht⟩
 ·simp only[Ve,and_true]at h;exact⟨[],.inl ⟨h,rfl⟩,λx hx=>by simp at hx,ae⟩
 ·simp only[Ve,and_true]at h
  obtain⟨xs,rfl⟩:=jqY (f:=λx:{x:Int // In64 x}=>[V.int .i64 x.1]) (λx hx=>by
   obtain⟨n,rfl,h1,h2⟩:=jqW hx u3i;exact⟨⟨n,h1,h2⟩,rfl⟩) ht
  have e:(xs.map λx=>[V.int .i64 x.1])=((xs.map (·.1)).map λx=>[V.int .i64 x]):=ae;have hm:=jrL;refine⟨xs.map (·.1),.inr (.inl ?_),λx hx => ?_,by simp only[Qw]at hl ⊢;omega⟩
  ·rw[h,e,ju6];simp
  ·obtain⟨y,_,rfl⟩:=Jd.1 hx;exact y.2
end N
theorem jAC {f:Nat}(h:memN f [31]=true):f=31:=by
 unfold memN at h;split at h
 ·exact U9 ‹_›
 ·simp[memN]at h
namespace N
theorem ju8 {v:V}{k:Nat}(h:Tyd env.P (k+1) 3 [v]):∃n,v=.int .i64 n/\In64 n:=by
 obtain⟨n,e,h1,h2⟩:=jqW h u3i;simp only[Ve,and_true]at e;exact⟨n,e,h1,h2⟩
end N
end Go.Proofs.YtajaampgajieeaaGreatDoor
namespace Go.Proofs.YtajaampgajieeaaGreatDoor.N
open Go.Ab
open B (sv FitQ)
def runQ(Q:Qy):Qy:=⟨9,[],0,0,0,0,Q.column,0,[],0,false,Q.table,Q.keep,Q.other,Q.left,Q.right,Q.limit,Q.wh,[50],8⟩
def preQ(Q:Qy)(rg:List (Int × Int)):Qy:={ runQ Q with kind:=10,rg:=rg,strat:=1 }
section
variable {ss:List Sch}{cs:List Col}{Q Q0:Qy}{i:Nat}
theorem juz(h:je2 cs Q0 Q)(hc:Q.column ≠ []):∃m,m<cs.length/\jci cs m/\Q.column=(cs.getD m Col.none).name:=by
 obtain⟨m,hm,hf,h⟩:=h;refine⟨m,hm,hf,?_⟩
 rcases h with⟨k,rfl⟩|⟨k,e,lo,w,p,q,_,_,_,_,_,_,_,hp,rfl⟩|⟨k,c,rfl⟩|⟨k,bd,_,_,rfl⟩|⟨k,rg,st,_,_,_,_,_,rfl⟩|⟨k,rfl⟩
 ·exact absurd rfl hc
 ·by_cases k4:Q0.kind=4
  ·show(if Q0.kind=4 then _ else _)=_;rw[Kg k4]
  ·exact absurd (by show(if Q0.kind=4 then _ else _)=_;rw[Ke k4]) hc
 all_goals rfl
theorem juA(h:KitL cs ss)(ha:(allE ss).1=0)(g:jiQ ss Q)(hc:Q.column ≠ []):∃m,m<(ja5 ss Q).length/\jci (ja5 ss Q) m/\Q.column=((ja5 ss Q).getD m Col.none).name/\jdD (runQ Q) ss 0=(0,[]) /\
  (((ja5 ss Q).getD m Col.none).lo<=((ja5 ss Q).getD m Col.none).hi->jdD (preQ Q [(((ja5 ss Q).getD m Col.none).lo,((ja5 ss Q).getD m Col.none).hi)]) ss 0=(0,[])):=by
 obtain⟨i,Q4,hi,hb,r4,hk⟩:=g.split;have r:=je2.rt hk r4;have f:=jsO ss;obtain⟨m,hm,hf,hn⟩:=juz hk hc;rw[<- je2.cols hk]at hm hf hn;obtain⟨s1,s2⟩:=jhr hm hf;have hw:=jsK (jki h Q ((ja5 ss Q).getD m Col.none) (by simp[List.getD,hm]))
 have key:∀kk rg st,(kk=9/\rg=[]/\st=0\/kk=10)->rgE { runQ Q with kind:=kk,rg:=rg,strat:=st } ((ja5 ss Q).getD m Col.none)=0->jdD { runQ Q with kind:=kk,rg:=rg,strat:=st } ss 0=(0,[]):=λkk rg st hkk hr=>by
  have rr:Rt ss i { runQ Q with kind:=kk,rg:=rg,strat:=st }:=⟨r.table,r.keep,r.join,r.wh,by show([50]:List UInt8)∈facs;simp[facs],by show(1:Int)<=8/\(8:Int)<=12;decide⟩;have ec:jaI { runQ Q with kind:=kk,rg:=rg,strat:=st } ss=ja5 ss Q:=jv6 h f hi rr;have nv:¬valK kk:=by unfold valK;omega
  refine jn4 ha (jqo (by show 1<=kk/\kk<=10;omega) ?_) (jud h f hi rr.two) (jsL h f hi rr.two) (jsM h f hi rr.two) (by rw[ec];exact jqp rr) (Ke nv) ?_ ?_ ?_ rfl (jue rr.two)
  ·rcases hkk with⟨rfl,rfl,rfl⟩|rfl<;>simp[bad1,bad2,bad3,bad4,bad5,bad6,valK,colK,runQ]
  ·rcases hkk with⟨rfl,rfl,rfl⟩|rfl<;>simp[limE,valK]
  ·rw[ec];show(if ¬colK kk then(0:Int)else if ¬0<=jbg (ja5 ss Q) Q.column then 7 else if 64<jcU (colN (ja5 ss Q) Q.column)then 2 else 0)=0;rw[hn,s1,s2,Ke (by unfold colK;omega),Ke aa,Ke aa]
  ·rw[ec];show rgE _ (colN (ja5 ss Q) Q.column)=0;rw[hn,s2];exact hr
 refine⟨m,hm,hf,hn,key 9 [] 0 (.inl ⟨rfl,rfl,rfl⟩) rfl,λhle=>key 10 _ 1 (.inr rfl) ?_⟩;unfold rgE;rw[Ke ae,Ke ae,Ke ae,Ke,Ke ae];rintro⟨r,hr,h⟩;rw[J4.1 hr]at h;simp only at h;omega
theorem jwr {tbs:List Tb}(h:BaseG cs tbs)(g:jiQ (sv tbs) Q)(hc:Q.column ≠ []):∃m,m<(ja5 (sv tbs) Q).length/\jci (ja5 (sv tbs) Q) m/\Q.column=((ja5 (sv tbs) Q).getD m Col.none).name/\FitQ tbs (runQ Q) 0 /\
  FitQ tbs (preQ Q [(((ja5 (sv tbs) Q).getD m Col.none).lo,((ja5 (sv tbs) Q).getD m Col.none).hi)]) 0:=by
 obtain⟨ha,hb⟩:=jk9 h;obtain⟨m,hm,hf,hn,h1,h2⟩:=juA h.kitSv ha g hc;have hle:=((jki h.kitSv Q).bound hm).2.2.2.1;exact⟨m,hm,hf,hn,⟨hb,by rw[h1]⟩,hb,by rw[h2 hle]⟩
end
theorem jle {u:V}{xs:List Int}(hx:W.IsI u xs){a b:Nat}(hab:a<=b)(hb:b<=xs.length):∃w,jbN env 22 u (some (.int .i64 (a:Int))) (some (.int .i64 (b:Int))) none=some w/\W.IsI w ((xs.drop a).take (b-a)):=by
 have s3:sz env 3=some 1:=ac;have u22:env.P.underlying 22=some (.slice 3):=ac;have hl:((xs.drop a).take (b-a)).length=b-a:=by rw[Qx,Jy];omega
 have key:∀q:RCap,jbN env 22 (.row (xs.map (V.int .i64)) xs.length q) (some (.int .i64 (a:Int))) (some (.int .i64 (b:Int))) none=some (.row (((xs.drop a).take (b-a)).map (V.int .i64)) ((xs.drop a).take (b-a)).length (if b=xs.length then jjy 1 q else .unk)):=λq=>by
  rw[hl];have h1:ja0 (some (.int .i64 (b:Int))) xs.length xs.length=some b:=by simp[ja0,hb]
  have h2:ja0 (some (.int .i64 (a:Int))) 0 b=some a:=by simp[ja0,hab]
  simp only[jbN,u22,s3,Kq,jcM,h1,h2,Xc,U4,List.map_drop]
 rcases hx with⟨rfl,rfl⟩|rfl|rfl
 ·have hb0:b=0:=by simpa using hb
  subst hb0;have ha0:a=0:=aa;subst ha0;exact⟨.nilsl,ac,.inl ⟨rfl,rfl⟩⟩
 ·refine⟨_,key .unk,.inr (.inl ?_)⟩;split<;>rfl
 ·by_cases e:b=xs.length
  ·exact⟨_,key .full,.inr (.inr (by rw[Kg e];rfl))⟩
  ·exact⟨_,key .full,.inr (.inl (by rw[Ke e]))⟩
theorem jqv(u:V)(h:Option V):jbN env 22 u none h none=jbN env 22 u (some (.int .i64 (0:Nat))) h none:=by
 have s3:sz env 3=some 1:=ac;have u22:env.P.underlying 22=some (.slice 3):=ac;simp only[jbN,u22,s3,Kq];cases u<;>first|rfl|(simp only[jcM];cases ja0 h _ _<;>rfl)
theorem jtd(x:List Int){a b:Nat}(hab:a<=b):sumI ((x.drop a).take (b-a))=sumI (x.take b)-sumI (x.take a):=by
 have e:x.take b=x.take a++(x.drop a).take (b-a):=by
  rw[show b=a+(b-a) by omega,List.take_add,show a+(b-a)-a=b-a by omega]
 rw[e,jh2];omega
def preD(x y:List Int)(n:Nat):Int:=sumI (x.take n)-sumI (y.take n)
theorem jje(x y:List Int):preD x y 0=0:=by simp[preD]
section
variable {x y:List Int}(hl:x.length=y.length)(ff:∀i,i<x.length->y.getD i 0<=x.getD i 0)
include hl ff
theorem jjf {n:Nat}(h:n<x.length):preD x y (n+1)=preD x y n+(x.getD n 0-y.getD n 0):=by
 unfold preD;rw[jjd h,jjd (show n<y.length by omega)];omega
theorem jfF:∀m n,n<=m->m<=x.length->preD x y n<=preD x y m
 |0,n,h,_=>by rw[show n=0 by omega];exact Jt _
 | m+1,n,h,hm=>by
  rw[jjf hl ff (show m<x.length by omega)];have:=ff m aa;by_cases e:n=m+1
  ·subst e;rw[jjf hl ff (show m<x.length by omega)];exact Jt _
  ·have:=jfF m n aa aa;omega
theorem jpo:∀n,n<=x.length->preD x y n<=sumI ((List.range n).map λj=>absI (x.getD j 0-y.getD j 0))
 |0,_=>by rw[jje];simp[sumI]
 |n+1,h=>by
  rw[jjf hl ff (show n<x.length by omega),jqt];have:=jpo n aa;have:x.getD n 0-y.getD n 0<=absI (x.getD n 0-y.getD n 0):=by unfold absI;omega
  omega
theorem jf0 {n:Nat}(h:n<=x.length):0<=preD x y n/\preD x y n<=je7 x y:=by
 have h1:=jfF hl ff n 0 aa h;rw[jje]at h1;have h2:=jfF hl ff x.length n h (Kw _);have h3:=jpo hl ff x.length (Kw _)
 have e:je7 x y=sumI ((List.range x.length).map λj=>absI (x.getD j 0-y.getD j 0)):=by
  unfold je7;rw[<- hl,Nat.min_self]
 omega
end
open B (levN)
section
variable {Po:Post}{ks:List Kt}{u v:V}{x y:List Int}{T:Tm}{U:S}
theorem jws (hx:W.IsI u x)(hy:W.IsI v y)(hl:x.length=y.length)(hw:x.length<=64)(hbx:∀z∈x,-1000000000<=z/\z<=1000000000)(hby:∀z∈y,-1000000000<=z/\z<=1000000000)(ff:∀i,i<x.length->y.getD i 0<=x.getD i 0)
    {B:Int} (hB:0<=B/\B<=1000000000000000) {i:Nat} (hi:i<=6) (t15:T 15=u) (t16:T 16=v) (t17:T 17=.int .i64 B) (t19:T 19=.int .i64 i) (t20:T 20=.int .i64 0)
    (h:∀T':Tm,(∀j,j<=19->j ≠ 17->T' j=T j)->T' 17=.int .i64 (B+preD x y x.length)->G env 13 none 167 Po ks .skip T' [] U) :
    jdx env 13 none 167 (jcK 2 (jcK 0 (jaz Tryz.f13))) T [] U (Kt.post env 13 none 167 Po (.blk 2::ks)):=by
  simp only[jaz,Tryz.f13,Kr,jcK,blkC,Option.or,Nat.reduceEqDiff,Kn,Kl,reduceIte];have lx:=W.len_I hx;obtain⟨e,he⟩:∃e:Nat,2^i=e:=⟨_,rfl⟩
  have e1:1<=e/\e<=64:=by
    subst he;exact⟨Nat.one_le_two_pow,by have:2^i<=2^6:=Nat.pow_le_pow_right af hi;omega⟩
  refine jau (λm T' D U'=>D=[]/\U'=U/\(∀j,j<=19->j ≠ 17->T' j=T j)/\∃f:Nat,T' 20=.int .i64 f/\f<=x.length+64/\T' 17=.int .i64 (B+preD x y (min x.length f))/\m=x.length-f) ?_ (x.length-0) _ _ _
    ⟨rfl,rfl,λ_ _ _=>rfl,0,t20,aa,by rw[Nat.min_zero,jje,Int.add_zero];exact t17,rfl⟩
  rintro m T' D U' ⟨rfl,rfl,hT,f,u20,hf,u17,rfl⟩;have u15:=(hT 15 aa aa).trans t15;have u16:=(hT 16 aa aa).trans t16;have u19:=(hT 19 aa aa).trans t19;refine jaC ?_;by_cases hlt:f<x.length
  · have c1:((f:Int)<(x.length:Int))=True:=eq_true aa
    have ci:((i:Int)<0)=False:=eq_false aa
    have hs:IntKind.i64.wrap (1*2^min i IntKind.i64.bits)=(e:Int):=by
      rw[show IntKind.i64.bits=64 from rfl,Xt (show i<=64 by omega),Int.one_mul,show((2:Int)^i)=((2^i:Nat):Int) by simp,he];exact wrap_i64 aa aa
    have ha:IntKind.i64.wrap ((f:Int)+(e:Int))=((f+e:Nat):Int):=by rw[wrap_i64 aa aa];omega
    have hm:(if((f+e:Nat):Int)<(x.length:Int)then((f+e:Nat):Int)else(x.length:Int))=((min x.length (f+e):Nat):Int):=by split<;>omega
    obtain⟨to,hto⟩:∃to:Nat,min x.length (f+e)=to:=⟨_,rfl⟩;rw[hto]at hm;have hft:f<=to/\to<=x.length:=aa;obtain⟨a,ha1,ha2⟩:=jle hx hft.1 hft.2;obtain⟨b,hb1,hb2⟩:=jle hy hft.1 (show to<=y.length by omega);have len:∀z:List Int,((z.drop f).take (to-f)).length<=100000:=λz=>by rw[Qx];omega
    have q1:=jh7 ha2 (len x) λz hz=>hbx z (Ul (Xw hz))
    have q2:=jh7 hb2 (len y) λz hz=>hby z (Ul (Xw hz))
    rw[jtd _ hft.1]at q1 q2;have bx:=λn=>jdr (d:=1000000000) af hbx n
    have by':=λn=>jdr (d:=1000000000) af hby n
    have bx1:=bx to;have bx2:=bx f;have by1:=by' to
    have by2:=by' f
    have hmo:=jfF hl ff to f hft.1 hft.2;have hd:sumI (x.take to)-sumI (x.take f)-(sumI (y.take to)-sumI (y.take f))=preD x y to-preD x y f:=by unfold preD;omega
    have w1:IntKind.i64.wrap (sumI (x.take to)-sumI (x.take f)-(sumI (y.take to)-sumI (y.take f)))=preD x y to-preD x y f:=by rw[hd];exact wrap_i64 (by unfold preD;omega) (by unfold preD;omega)
    have a1:=jpn (n:=preD x y to-preD x y f) (by unfold preD;omega);rw[show absI (preD x y to-preD x y f)=preD x y to-preD x y f by unfold absI;omega]at a1;rw[show min x.length f=f by omega]at u17;have w2:IntKind.i64.wrap (B+preD x y f+(preD x y to-preD x y f))=B+preD x y to:=by rw[wrap_i64 (by unfold preD;omega) (by unfold preD;omega)];omega
    simp only[simprocAttr,zK,Vq,ty7,lx,u15,u16,u17,u19,u20,c1,jtq,ci,hs,ha,hm,jbO,jbT,jbP,ha1,hb1,q1,q2,w1,a1,w2];refine⟨ac,x.length-(f+e),aa,λj hj h17 => ?_,f+e,rfl,aa,by rw[hto],rfl⟩
    repeat rw[Ke aa]
    exact hT j hj h17
  · have c1:((f:Int)<(x.length:Int))=False:=eq_false aa
    rw[Xt aa]at u17;simp only[simprocAttr,zK,Vq,ty7,lx,u15,u20,c1]
    refine h _ (fun j hj h17 => ?_) (by simp only[Z7];repeat rw[Ke aa]
                                        exact u17)
    rw[<- hT j hj h17];simp only[Z7];repeat rw[Ke aa]
theorem jte(hbx:∀z∈x,-1000000000<=z/\z<=1000000000)(hby:∀z∈y,-1000000000<=z/\z<=1000000000)(hl:x.length=y.length)(hw:x.length<=64)(n:Nat) : -200000000000<=preD x y n/\preD x y n<=200000000000:=by
 have h1:=jdr (d:=1000000000) af hbx n;have h2:=jdr (d:=1000000000) af hby n;unfold preD;omega
theorem jwt(hx:W.IsI u x)(hy:W.IsI v y)(hl:x.length=y.length)(hw:x.length<=64)(hbx:∀z∈x,-1000000000<=z/\z<=1000000000)(hby:∀z∈y,-1000000000<=z/\z<=1000000000)(ff:∀i,i<x.length->y.getD i 0<=x.getD i 0)
  (t15:T 15=u) (t16:T 16=v) (t17:T 17=.int .i64 0) (t19:T 19=.int .i64 0)
  (h:∀T':Tm,(∀j,j<=18->j ≠ 17->T' j=T j)->T' 17=.int .i64 ((levN x.length:Nat)*preD x y x.length)->G env 13 none 167 Po ks .skip T' [] U) :
  jdx env 13 none 167 (jcK 0 (jaz Tryz.f13)) T [] U (Kt.post env 13 none 167 Po (.blk 0::ks)):=by
 simp only[jaz,Tryz.f13,Kr,jcK,blkC,Option.or,Nat.reduceEqDiff,Kn,Kl,reduceIte];have lx:=W.len_I hx;have hL:∀U,jah env (Go.Ab.ev env) 52 [.int .i64 (x.length:Int)] U=some (.int .i64 (levN x.length:Nat),U):=jrC rfl (B.levels_call hw) _;have hle:=B.lev_le x.length;have hD0:=(jf0 hl ff (Kw x.length)).1;have hD1:=(jte hbx hby hl hw x.length).2;obtain⟨D,hD⟩:∃D,preD x y x.length=D:=⟨_,rfl⟩;rw[hD]at hD0 hD1 h
 refine jau (λm T' D' U'=>D'=[]/\U'=U/\(∀j,j<=18->j ≠ 17->T' j=T j)/\∃i:Nat,T' 19=.int .i64 i/\i<=levN x.length/\T' 17=.int .i64 (i*D)/\m=levN x.length-i) ?_ (levN x.length-0) _ _ _
  ⟨rfl,rfl,λ_ _ _=>rfl,0,t19,Qm _,by rw[t17];simp,rfl⟩
 rintro m T' D' U' ⟨rfl,rfl,hT,i,u19,hi,u17,rfl⟩;have u15:=(hT 15 aa aa).trans t15;have u16:=(hT 16 aa aa).trans t16;refine jaC ?_;by_cases hlt:i<levN x.length
 ·have c1:((i:Int)<((levN x.length:Nat):Int))=True:=eq_true aa;have e1:IntKind.i64.wrap ((i:Int)+1)=((i+1:Nat):Int):=by rw[wrap_i64 aa aa];omega
  have hb0:0<=(i:Int)*D:=Int.mul_nonneg aa hD0;have hb1:(i:Int)*D<=7*200000000000:=Int.mul_le_mul aa hD1 hD0 aa;simp only[simprocAttr,zK,Vq,ty7,lx,u15,u16,u19,hL,c1];refine jws hx hy hl hw hbx hby ff (B:=(i:Int)*D) (i:=i) ⟨hb0,aa⟩ aa u15 u16 u17 u19 rfl λT2 a0 a17 => ?_
  have v19:T2 19=.int .i64 i:=(a0 19 aa aa).trans u19;simp only[simprocAttr,zK,Vq,v19,e1];refine⟨levN x.length-(i+1),aa,λj hj h17 => ?_,i+1,rfl,aa,?_,rfl⟩
  ·repeat rw[Ke aa]
   rw[a0 j aa h17];simp only[Z7]
   repeat rw[Ke aa]
   exact hT j hj h17
  ·rw[a17,hD];have:((i+1:Nat):Int)*D=(i:Int)*D+D:=by rw[Vh,Int.add_mul];simp
   rw[this]
 ·have hie:i=levN x.length:=by omega
  subst hie;have c1:(((levN x.length:Nat):Int)<((levN x.length:Nat):Int))=False:=eq_false aa;simp only[simprocAttr,zK,Vq,ty7,lx,u15,u19,hL,c1];refine h _ (λj hj h17 => ?_) ?_
  ·rw[<- hT j hj h17];simp only[Z7];repeat rw[Ke aa]
  ·simp only[Z7];repeat rw[Ke aa]
   exact u17
end
section
variable {Po:Post}{ks:List Kt}{u v:V}{x y:List Int}{T:Tm}{U:S}
theorem juB(hx:W.IsI u x)(hy:W.IsI v y)(hl:x.length=y.length)(hw:x.length<=64)(hbx:∀z∈x,-1000000000<=z/\z<=1000000000)(hby:∀z∈y,-1000000000<=z/\z<=1000000000)(ff:∀i,i<x.length->y.getD i 0<=x.getD i 0)
  (t15:T 15=u) (t16:T 16=v) (t18:T 18=.int .i64 0) (t22:T 22=.int .i64 1)
  (h:∀(T':Tm) (F:Int),(∀j,j<=17->T' j=T j)->T' 18=.int .i64 F->0<=F->F<=(x.length:Int)*preD x y x.length->G env 13 none 167 Po ks .skip T' [] U) :
  jdx env 13 none 167 (jcK 4 (jaz Tryz.f13)) T [] U (Kt.post env 13 none 167 Po (.blk 4::ks)):=by
 simp only[jaz,Tryz.f13,Kr,jcK,blkC,Option.or,Nat.reduceEqDiff,Kn,Kl,reduceIte];have lx:=W.len_I hx;have hD0:=(jf0 hl ff (Kw x.length)).1;have hD1:=(jte hbx hby hl hw x.length).2;have hDn:∀n,n<=x.length->0<=preD x y n/\preD x y n<=preD x y x.length:=λn hn=>⟨(jf0 hl ff hn).1,jfF hl ff _ _ hn (Kw _)⟩
 obtain⟨D,hD⟩:∃D,preD x y x.length=D:=⟨_,rfl⟩;rw[hD]at hD0 hD1 h hDn
 refine jau (λm T' D' U'=>D'=[]/\U'=U/\(∀j,j<=17->T' j=T j)/\∃(n:Nat) (F:Int),T' 22=.int .i64 ((n+1:Nat):Int)/\T' 18=.int .i64 F/\n<=x.length/\0<=F/\F<=(n:Int)*D/\m=x.length-n) ?_ (x.length-0) _ _ _
  ⟨rfl,rfl,λ_ _=>rfl,0,0,t22,t18,Qm _,Jt _,ae,rfl⟩
 rintro m T' D' U' ⟨rfl,rfl,hT,n,F,u22,u18,hn,f0,f1,rfl⟩;have u15:=(hT 15 aa).trans t15;have u16:=(hT 16 aa).trans t16;refine jaC ?_;by_cases hlt:n<x.length
 ·have c1:(((n+1:Nat):Int)<=(x.length:Int))=True:=eq_true aa;have e1:IntKind.i64.wrap (((n+1:Nat):Int)+1)=((n+1+1:Nat):Int):=by rw[wrap_i64 aa aa];omega
  obtain⟨a,ha1,ha2⟩:=jle hx (Qm (n+1)) (show n+1<=x.length by omega);obtain⟨b,hb1,hb2⟩:=jle hy (Qm (n+1)) (show n+1<=y.length by omega);rw[<- jqv]at ha1 hb1;have len:∀z:List Int,((z.drop 0).take (n+1-0)).length<=100000:=λz=>by rw[Qx];omega
  have q1:=jh7 ha2 (len x) λz hz=>hbx z (Ul (Xw hz))
  have q2:=jh7 hb2 (len y) λz hz=>hby z (Ul (Xw hz))
  rw[jtd _ (Qm _)]at q1 q2;have bx:=jdr (d:=1000000000) af hbx (n+1);have by':=jdr (d:=1000000000) af hby (n+1)
  have z0:∀z:List Int,sumI (z.take 0)=0:=λz=>by simp[sumI]
  rw[z0,Int.sub_zero]at q1 q2;obtain⟨p0,p1⟩:=hDn (n+1) aa;have w1:IntKind.i64.wrap (sumI (x.take (n+1))-sumI (y.take (n+1)))=preD x y (n+1):=wrap_i64 aa aa;have a1:=jpn (n:=preD x y (n+1)) aa;rw[show absI (preD x y (n+1))=preD x y (n+1) by unfold absI;omega]at a1;have nD:(n:Int)*D<=64*200000000000:=Int.mul_le_mul aa hD1 hD0 aa;have w2:IntKind.i64.wrap (F+preD x y (n+1))=F+preD x y (n+1):=wrap_i64 aa aa;have nx:((n+1:Nat):Int)*D=(n:Int)*D+D:=by rw[Vh,Int.add_mul];simp
  simp only[simprocAttr,zK,Vq,ty7,lx,u15,u16,u18,u22,c1,e1,jbO,jbT,jbP,ha1,hb1,q1,q2,w1,a1,w2];refine⟨ac,x.length-(n+1),aa,λj hj => ?_,n+1,F+preD x y (n+1),rfl,rfl,aa,aa,by rw[nx];omega,rfl⟩
  repeat rw[Ke aa]
  exact hT j hj
 ·have hie:n=x.length:=by omega
  subst hie;have c1:(((x.length+1:Nat):Int)<=(x.length:Int))=False:=eq_false aa;simp only[simprocAttr,zK,Vq,ty7,lx,u15,u22,c1];refine h _ F (λj hj => ?_) ?_ f0 f1
  ·rw[<- hT j hj];simp only[Z7];repeat rw[Ke aa]
  ·simp only[Z7];repeat rw[Ke aa]
   exact u18
end
theorem jjg {L pre post:List Col}{c:Col}{nm:List UInt8}{m:Nat}(e:L=pre++c::post)(hp:∀d∈pre,d.name ≠ nm)(hc:c.name=nm)(hm:m<L.length)(hf:jci L m)(hn:nm=(L.getD m Col.none).name):L.getD m Col.none=c:=by
 have h0:L.getD pre.length Col.none=c:=by rw[e];simp[List.getD]
 by_cases h1:m<pre.length
 ·have h2:L.getD m Col.none=pre.getD m Col.none:=by rw[e];simp[List.getD,Kj h1]
  exact absurd (by rw[hn,h2]) (hp (pre.getD m Col.none) (by simp[List.getD,h1]))
 ·by_cases h2:pre.length<m
  ·exact absurd (by rw[h0,hc,hn]) (hf _ h2)
  ·rw[show m=pre.length by omega];exact h0
theorem juC {ss:List Sch}{nm:List UInt8}{i:Nat}(hi:i<ss.length)(hn:nm ≠ [])(he:(ss.getD i Sch.none).name=nm):∃post,jcb ss nm=jcb (ss.take i) nm++(ss.getD i Sch.none).cs++post:=by
 have e:ss=ss.take i++ss.getD i Sch.none::ss.drop (i+1):=by
  have:ss.getD i Sch.none=ss[i]:=by simp[List.getD,hi]
  rw[this,List.getElem_cons_drop,Xg]
 refine⟨jcb (ss.drop (i+1)) nm,?_⟩
 conv=>lhs;rw[e]
 unfold jcb;rw[Ke hn,Ke hn,Ke hn,V9,Xi (by simpa using he),List.flatMap_append,Uy,K7]
theorem at71:env.P.funcs[71]? = some Tryz.f71:=ac
theorem jxY(a b:List UInt8):rowO env 39 2 [(0,.str a),(1,.str b)]=some (.row [.str a,.str b] 2 .full):=ac
theorem jAD(a b:Int):rowO env 27 1 [(0,.agg [.int .i64 a,.int .i64 b])]=some (.row [.int .i64 a,.int .i64 b] 1 .full):=ac
theorem jtf {E:Env}{fn:FuncId}{rnd:Option Nat}{n:Nat}{Q:Post}{T:Tm}{D:List DE}{U:S}:∀ks:List Kt,G E fn rnd n Q ks .ret T D U=Q.ret T D U
 | []=>rfl
 |k::ks=>by cases k<;>exact jtf ks
def rgV(c:Col):V:=.row [.int .i64 c.lo,.int .i64 c.hi] 1 .unk
section
variable {ss:List Sch}(hS:KS ss){q:RCap}{Q:Qy}{ev wv rv:V}{ks:List Kt}{T:Tm}{L:List AObj}{Po:Post}{nm:List UInt8}
include hS
theorem jqw {i:Nat}(hi:i<ss.length)(h0:L[0]? = some (qm Q ev wv rv))(t0:T 0=.row (jaY ss) ss.length q)(t3:T 3=.ptr 0 0)(t6:T 6=.str nm)(t7:T 7=.int .i64 i)(t8:T 8=.int .i64 0)
  (hr:∀j,(ss.getD i Sch.none).name=nm->j<(ss.getD i Sch.none).cs.length->((ss.getD i Sch.none).cs.getD j Col.none).name=Q.column->(∀d∈(ss.getD i Sch.none).cs.take j,d.name ≠ Q.column)->∀(T':Tm) (L':List AObj),T' 4=.row [.int .i64 ((ss.getD i Sch.none).cs.getD j Col.none).lo,.int .i64 ((ss.getD i Sch.none).cs.getD j Col.none).hi] 1 .full->Po.ret T' [] ⟨L',[]⟩)
  (h:((ss.getD i Sch.none).name=nm->∀d∈(ss.getD i Sch.none).cs,d.name ≠ Q.column)->∀(T':Tm) (L':List AObj),(∀j,j<=7->T' j=T j)->L'[0]? = some (qm Q ev wv rv)->G env 71 none 66 Po ks .skip T' [] ⟨L',[]⟩) :
  jdx env 71 none 66 (jcK 4 (jaz Tryz.f71)) T [] ⟨L,[]⟩ (Kt.post env 71 none 66 Po (.blk 4::ks)):=by
 simp only[jaz,Tryz.f71,Kr,jcK,blkC,Option.or,Nat.reduceEqDiff,Kn,Kl,reduceIte];obtain⟨ok,hcl,qc,hcv⟩:=hS.at' i hi;have hl:=hS.l;obtain⟨r,hx⟩:=jiP ss q hi;have lenC:jbb (some (.slice 41)) (ss.getD i Sch.none).cv=some (.int .i64 (ss.getD i Sch.none).cs.length):=by rw[hcv];rfl
 refine jau (λm T' D U=>D=[]/\(∀j,j<=7->T' j=T j)/\∃(j:Nat) (L':List AObj),U=⟨L',[]⟩/\T' 8=.int .i64 j/\L'[0]? = some (qm Q ev wv rv)/\j<=(ss.getD i Sch.none).cs.length/\m=(ss.getD i Sch.none).cs.length-j/\((ss.getD i Sch.none).name=nm->∀d∈(ss.getD i Sch.none).cs.take j,d.name ≠ Q.column)) ?_ ((ss.getD i Sch.none).cs.length-0) _ _ _
  ⟨rfl,λ_ _=>rfl,0,L,rfl,t8,h0,Qm _,rfl,λ_ d hd=>by simp at hd⟩
 rintro m T' D U ⟨rfl,hT,j,L',rfl,u8,g0,hj,rfl,hnone⟩;refine jaC ?_;have u0:=(hT 0 aa).trans t0;have u3:=(hT 3 aa).trans t3;have u6:=(hT 6 aa).trans t6;have u7:=(hT 7 aa).trans t7;generalize ss.getD i Sch.none=s at *;by_cases he:s.name=nm
 ·have he1:=eq_true he;by_cases hlt:j<s.cs.length
  ·have k1:((j:Int)<(s.cs.length:Int))=True:=eq_true aa;have e1:IntKind.i64.wrap ((j:Int)+1)=((j+1:Nat):Int):=by rw[wrap_i64 aa aa];omega
   obtain⟨rr,hxc⟩:=jfx s.cs qc hlt;rw[<- hcv]at hxc;have hw:=jbf (ok.at hlt);have zc:jba env 41=some (.agg [.str [],.int .i64 0,.int .i64 0,.nilsl]):=ac;have gN:∀o,(L'++[o])[0]? = some (qm Q ev wv rv):=λo=>jaE g0 _
   have ld4:=jaM;have cn:=hr j he hlt;have nx:=hnone he;have htk:s.cs.take (j+1)=s.cs.take j++[s.cs.getD j Col.none]:=B.take_next Col.none hlt;generalize s.cs.getD j Col.none=c at *;by_cases hc:c.name=Q.column
   ·have hc1:=eq_true hc;simp only[simprocAttr,yK,K0,jaa,uq,al1,fo30,jaJ,u0,u3,u6,u7,u8,k1,hx,hxc,lenC,jaq,ld4,zc,K2,jac,jae,hw,gN,jax,he1,hc1,jar,jAD,bd86,K3,jtf];exact cn hc nx _ _ rfl
   ·have hc1:=eq_false hc;simp only[simprocAttr,yK,K0,jaa,uq,al1,fo30,jaJ,u0,u3,u6,u7,u8,k1,e1,hx,hxc,lenC,jaq,ld4,zc,K2,jac,jae,hw,gN,jax,he1,hc1,K3];refine⟨s.cs.length-(j+1),aa,λk hk => ?_,j+1,_,rfl,rfl,gN _,aa,rfl,λd hd => ?_⟩
    ·repeat rw[Ke aa]
     exact hT k hk
    ·rw[htk]at hd
     rcases Jl.1 hd with hd|hd
     ·exact nx d hd
     ·rw[J4.1 hd];exact hc
  ·have hje:j=s.cs.length:=by omega
   subst hje;have k1:((s.cs.length:Int)<(s.cs.length:Int))=False:=eq_false aa;rw[Jh]at hnone;simp only[simprocAttr,yK,K0,jaa,uq,al1,fo30,jaJ,u0,u3,u6,u7,u8,k1,hx,lenC,jaq,jax,he1];refine h hnone _ L' (λk hk => ?_) g0;rw[<- hT k hk];simp only[Z7];repeat rw[Ke aa]
 ·have he1:=eq_false he;simp only[simprocAttr,yK,K0,jaa,uq,al1,fo30,jaJ,u0,u3,u6,u7,u8,hx,lenC,jaq,jax,he1];refine h (λe=>absurd e he) _ L' (λk hk => ?_) g0;rw[<- hT k hk];simp only[Z7];repeat rw[Ke aa]
theorem jqx(hne:∀i,i<ss.length->(ss.getD i Sch.none).name ≠ [])(h0:L[0]? = some (qm Q ev wv rv))(t0:T 0=.row (jaY ss) ss.length q)(t3:T 3=.ptr 0 0)(t6:T 6=.str nm)(t7:T 7=.int .i64 0)
  (hr:∀(c:Col) (a b:List Col),nm ≠ []->jcb ss nm=a++c::b->c.name=Q.column->(∀d∈a,d.name ≠ Q.column)->∀(T':Tm) (L':List AObj),T' 4=.row [.int .i64 c.lo,.int .i64 c.hi] 1 .full->Po.ret T' [] ⟨L',[]⟩)
  (h:(∀d∈jcb ss nm,d.name ≠ Q.column)->∀(T':Tm) (L':List AObj),(∀j,j<=6->T' j=T j)->L'[0]? = some (qm Q ev wv rv)->G env 71 none 66 Po ks .skip T' [] ⟨L',[]⟩) :
  jdx env 71 none 66 (jcK 2 (jaz Tryz.f71)) T [] ⟨L,[]⟩ (Kt.post env 71 none 66 Po (.blk 2::ks)):=by
 have inner:=λ(Po:Post) (ks:List Kt) (T:Tm) (L:List AObj) (i:Nat)=>jqw (Po:=Po) (ks:=ks) (T:=T) (L:=L) (q:=q) (Q:=Q) (ev:=ev) (wv:=wv) (rv:=rv) (nm:=nm) (i:=i) hS
 simp only[jaz,Tryz.f71,Kr,jcK,blkC,Option.or,Nat.reduceEqDiff,Kn,Kl,reduceIte]at inner ⊢;have hl:=hS.l;have lS:jbb (some (.slice 38)) (.row (jaY ss) ss.length q)=some (.int .i64 ss.length):=rfl
 refine jau (λm T' D U=>D=[]/\(∀j,j<=6->T' j=T j)/\∃(i:Nat) (L':List AObj),U=⟨L',[]⟩/\T' 7=.int .i64 i/\L'[0]? = some (qm Q ev wv rv)/\i<=ss.length/\m=ss.length-i/\∀d∈jcb (ss.take i) nm,d.name ≠ Q.column) ?_ (ss.length-0) _ _ _
  ⟨rfl,λ_ _=>rfl,0,L,rfl,t7,h0,Qm _,rfl,λd hd=>by unfold jcb at hd;split at hd<;>simp at hd⟩
 rintro m T' D U ⟨rfl,hT,i,L',rfl,u7,g0,hi,rfl,hnone⟩;refine jaC ?_;have u0:=(hT 0 aa).trans t0;have u3:=(hT 3 aa).trans t3;have u6:=(hT 6 aa).trans t6;by_cases hlt:i<ss.length
 ·have k1:((i:Int)<(ss.length:Int))=True:=eq_true aa;have e1:IntKind.i64.wrap ((i:Int)+1)=((i+1:Nat):Int):=by rw[wrap_i64 aa aa];omega
  simp only[simprocAttr,zK,K0,jaa,uq,lS,u0,u7,k1];refine inner _ _ _ L' i hlt g0 ?_ ?_ ?_ ?_ ?_ (λj he hj hc hp T3 L3 h4 => ?_) λhno T2 L2 a0 g2 => ?_
  ·exact u0
  ·exact u3
  ·exact u6
  ·exact u7
  ·rfl
  ·have hn:nm ≠ []:=λe=>hne i hlt (by rw[he,e])
   obtain⟨post,hp2⟩:=juC hlt hn he;show G env 71 none 66 Po (.blk 2::ks) .ret T3 [] ⟨L3,[]⟩;rw[jtf];refine hr ((ss.getD i Sch.none).cs.getD j Col.none) (jcb (ss.take i) nm++(ss.getD i Sch.none).cs.take j) ((ss.getD i Sch.none).cs.drop (j+1)++post) hn ?_ hc (λd hd=>(Jl.1 hd).elim (hnone d) (hp d)) T3 L3 h4;rw[hp2]
   have e:(ss.getD i Sch.none).cs=(ss.getD i Sch.none).cs.take j++(ss.getD i Sch.none).cs.getD j Col.none::(ss.getD i Sch.none).cs.drop (j+1):=by
    generalize (ss.getD i Sch.none).cs=l at hj ⊢;have:l.getD j Col.none=l[j]:=by simp[List.getD,hj]
    rw[this,List.getElem_cons_drop,Xg]
   conv=>lhs;rw[e]
   simp only[K7,Jn]
  ·have v7:=(a0 7 aa).trans u7;simp only[simprocAttr,zK,K0,jaa,v7,e1];refine⟨ss.length-(i+1),aa,λk hk => ?_,i+1,L2,rfl,rfl,g2,aa,rfl,λd hd => ?_⟩
   ·repeat rw[Ke aa]
    rw[a0 k aa];simp only[Z7]
    repeat rw[Ke aa]
    exact hT k hk
   ·by_cases hn:nm=[]
    ·unfold jcb at hd;rw[Kg hn]at hd;cases hd
    ·rw[jfV hlt hn]at hd
     rcases Jl.1 hd with hd|hd
     ·exact hnone d hd
     ·split at hd
      ·rename_i he;exact hno he d hd
      ·cases hd
 ·have hie:i=ss.length:=by omega
  subst hie;have k1:((ss.length:Int)<(ss.length:Int))=False:=eq_false aa;rw[Jh]at hnone;simp only[simprocAttr,zK,K0,jaa,uq,lS,u0,u7,k1];refine h hnone _ L' (λk hk => ?_) g0;rw[<- hT k hk];simp only[Z7];repeat rw[Ke aa]
theorem je1(hne:∀i,i<ss.length->(ss.getD i Sch.none).name ≠ [])(hc:(V.row (jaY ss) ss.length q).closed=true)(hQ:(V.agg (Q.cells ev wv rv)).closed=true){m:Nat}(hm:m<(ja5 ss Q).length)(hf:jci (ja5 ss Q) m)(hn:Q.column=((ja5 ss Q).getD m Col.none).name)(U:S) :
  jah env (Go.Ab.ev env) 71 [.row (jaY ss) ss.length q,.agg (Q.cells ev wv rv)] U=some (rgV ((ja5 ss Q).getD m Col.none),U):=by
 refine jaj (by rw[Ks,hc,Ks,hQ];rfl) at71 rfl ?_ U;have inner:=λ(Po:Post) (ks:List Kt) (T:Tm) (L:List AObj) (nm:List UInt8)=>jqx (Po:=Po) (ks:=ks) (T:=T) (L:=L) (q:=q) (Q:=Q) (ev:=ev) (wv:=wv) (rv:=rv) (nm:=nm) hS hne
 simp only[jaz,Tryz.f71,Kr,jcK,blkC,Option.or,Nat.reduceEqDiff,Kn,Kl,reduceIte]at inner;unfold Qy.cells;simp only[Tryz.f71,simprocAttr,zK,K0,jaa,jai,uq,al1]
 refine jau (λm' T D U=>D=[]/\T 0=.row (jaY ss) ss.length q/\T 3=.ptr 0 0/\∃(k:Nat) (L:List AObj),U=⟨L,[]⟩/\T 5=.int .i64 k/\L[0]? = some (qm Q ev wv rv)/\k<=2/\m'=2-k/\(1<=k->∀d∈jcb ss Q.table,d.name ≠ Q.column)/\(2<=k->∀d∈jcb ss Q.other,d.name ≠ Q.column)) ?_ (2-0) _ _ _
  ⟨rfl,rfl,rfl,0,_,rfl,rfl,rfl,aa,rfl,λh=>aa,λh=>aa⟩
 rintro m' T D U ⟨rfl,t0,t3,k,L,rfl,t5,g0,hk,rfl,h1,h2⟩;refine jaC ?_;have:k=0\/k=1\/k=2:=aa
 rcases this with rfl|rfl|rfl
 ·have w1:IntKind.i64.wrap (0+1)=1:=by decide
  simp only[simprocAttr,zK,K0,jaa,uq,al1,fo30,t0,t3,t5,g0,jaq,jar,jxY,Uk,K3];refine inner _ _ _ L Q.table g0 ?_ ?_ ?_ ?_ (λc a b hnm e hc hp T3 L3 h4 => ?_) λhno T2 L2 a0 g2 => ?_
  ·exact t0
  ·exact t3
  ·rfl
  ·rfl
  ·rw[jjg (L:=ja5 ss Q) (pre:=a) (post:=b++jcb ss Q.other) (by unfold ja5;rw[e];simp) hp hc hm hf hn];simp only[Tryz.f71,simprocAttr,zK,Vq,h4];rfl
  ·have v5:T2 5=.int .i64 0:=(a0 5 aa).trans t5;have v0:=(a0 0 aa).trans t0;have v3:=(a0 3 aa).trans t3;simp only[simprocAttr,zK,K0,jaa,v0,v3,v5,w1];exact⟨2-1,aa,1,L2,rfl,rfl,g2,aa,rfl,λ_=>hno,λh=>aa⟩
 ·have w1:IntKind.i64.wrap (1+1)=2:=by decide
  simp only[simprocAttr,zK,K0,jaa,uq,al1,fo30,t0,t3,t5,g0,jaq,jar,jxY,Xk,show Int.toNat 1=1 from rfl,K3];refine inner _ _ _ L Q.other g0 ?_ ?_ ?_ ?_ (λc a b hnm e hc hp T3 L3 h4 => ?_) λhno T2 L2 a0 g2 => ?_
  ·exact t0
  ·exact t3
  ·rfl
  ·rfl
  ·rw[jjg (L:=ja5 ss Q) (pre:=jcb ss Q.table++a) (post:=b) (by unfold ja5;rw[e];simp) (λd hd=>(Jl.1 hd).elim (h1 aa d) (hp d)) hc hm hf hn];simp only[Tryz.f71,simprocAttr,zK,Vq,h4];rfl
  ·have v5:T2 5=.int .i64 1:=(a0 5 aa).trans t5;have v0:=(a0 0 aa).trans t0;have v3:=(a0 3 aa).trans t3;simp only[simprocAttr,zK,K0,jaa,v0,v3,v5,w1];exact⟨2-2,aa,2,L2,rfl,rfl,g2,aa,rfl,λ_=>h1 aa,λ_=>hno⟩
 ·exfalso
  have hmem:(ja5 ss Q).getD m Col.none∈ja5 ss Q:=by simp[List.getD,hm]
  rcases Jl.1 hmem with h|h
  ·exact h1 aa _ h hn.symm
  ·exact h2 aa _ h hn.symm
end
open B (TOK BOK sv svV cpS vpQ tbN FitQ VR jcc nbL oneB iV jmB levN accX jfa jjx widX)
theorem at13:env.P.funcs[13]? = some Tryz.f13:=ac
theorem hk49:env.hook 49=some (jbU B.env 49):=rfl
section
variable {cs:List Col}{tbs:List Tb}{Q:Qy}{ev wv rv:V}{fe:Int}
open Classical in
theorem jwu(h:BaseG cs tbs)(hQ:WQ Q ev wv rv)(hf:K.Fac Q.factor fe)(U:S):jah env (Go.Ab.ev env) 49 [.agg (Q.cells ev wv rv),.row (jaY (sv tbs)) (sv tbs).length .unk] U=some (.int .i64 (if accX Q (sv tbs) fe then widX Q (sv tbs)else 0),U) :=
 jtb hk49 rfl rfl h hQ (λlv e w x hS hQ U=>B.width49 hS hQ hf U) U
theorem juD(h:BaseG cs tbs)(hQ:WQ Q ev wv rv){m:Nat}(hm:m<(ja5 (sv tbs) Q).length)(hf:jci (ja5 (sv tbs) Q) m)(hn:Q.column=((ja5 (sv tbs) Q).getD m Col.none).name)(U:S) :
  jah env (Go.Ab.ev env) 71 [.row (jaY (sv tbs)) (sv tbs).length .unk,.agg (Q.cells ev wv rv)] U=some (rgV ((ja5 (sv tbs) Q).getD m Col.none),U):=by
 have hS:=jsR h.kitSv;have h2:=hS.weak .unk;have ew:(V.row (jaY (sv tbs)) (sv tbs).length .unk).weak=.row (jaY (sv tbs)) (sv tbs).length .unk:=by simp only[V.weak,jgt,jlc h,RCap.weak]
 rw[jlc h,ew]at h2;have hcl:=jda h2.v h2.ok;have hks:=h.kitSv.kb.ks;have hne:=λi hi=>(h.kitSv.kb.kit i hi).2.2
 have h1:=hQ.weak.closed;refine jjq rfl rfl (λhc U => ?_) ?_ (λU => ?_) U
 ·simp only[Ks,Qn,Q5,Qt]at hc;exact je1 hks hne hcl hc.2 hm hf hn U
 ·simp only[K6,J5,Ks,Qn,ew,hcl,jfY hQ,h1,K8]
 ·simp only[K6,J5,ew,jfY hQ];exact je1 hks hne hcl h1 hm hf hn U
theorem jqy(h:BaseG cs tbs){rg:List (Int × Int)}(hF:FitQ tbs (runQ Q) fe)(hP:FitQ tbs (preQ Q rg) fe){D:Int}(h0:0<=D)(h1:D<=jld (runQ Q) (sv tbs) fe) :
  ((levN (B.widQ (jaI (runQ Q) (sv tbs)) (runQ Q)):Nat):Int)*D<=jwp (runQ Q) (sv tbs) fe/\((B.widQ (jaI (runQ Q) (sv tbs)) (runQ Q):Nat):Int)*D<=jwp (preQ Q rg) (sv tbs) fe:=by
 unfold jld at h1;unfold jwp;by_cases a:accX (runQ Q) (sv tbs) fe
 ·have a':accX (preQ Q rg) (sv tbs) fe:=⟨hP.2,a.2⟩;rw[Kg a]at h1 ⊢;rw[Kg a'];have e1:jjx (runQ Q) (sv tbs)=jfa (runQ Q) (sv tbs)*(levN (B.widQ (jaI (runQ Q) (sv tbs)) (runQ Q)):Nat):=rfl;have e2:jjx (preQ Q rg) (sv tbs)=jfa (runQ Q) (sv tbs)*(B.widQ (jaI (runQ Q) (sv tbs)) (runQ Q):Nat):=rfl;rw[e1,e2,Int.mul_comm _ D,Int.mul_comm _ D];exact⟨Vi h1 aa,Vi h1 aa⟩
 ·have a':¬accX (preQ Q rg) (sv tbs) fe:=λb=>a ⟨hF.2,b.2⟩
  rw[Ke a]at h1 ⊢;rw[Ke a',show D=0 by omega,Int.mul_zero,Int.mul_zero];exact⟨Jt _,Jt _⟩
theorem jxZ(hQ:WQ Q ev wv rv):WQ (runQ Q) .nilsl wv .nilsl:=⟨.inl ⟨rfl,rfl,rfl⟩,hQ.w,.inl ⟨rfl,rfl,rfl⟩,⟨Qm _,hQ.l.2.1,Qm _⟩,by show 1<_;decide⟩
theorem jx0(hQ:WQ Q ev wv rv)(c:Col):WQ (preQ Q [(c.lo,c.hi)]) .nilsl wv (rgV c):=⟨.inl ⟨rfl,rfl,rfl⟩,hQ.w,.inr ⟨.unk,rfl⟩,⟨Qm _,hQ.l.2.1,by show 1<=400;decide⟩,by show 1<_;decide⟩
theorem jqz(h:BaseG cs tbs)(hF:FitQ tbs Q fe)(hc:Q.column ≠ [])(o:Int)(k:Nat)(one:Bool)(x y:List Int)(ex:x=jcc tbs Q (List.replicate (vpQ tbs Q).view.length 1))(ey:y=jcc (nbL o k one tbs) Q (List.replicate (vpQ (nbL o k one tbs) Q).view.length 1)):FitQ (nbL o k one tbs) Q fe /\
  x.length=y.length/\x.length<=64/\(∀z∈x,-1000000000<=z/\z<=1000000000)/\(∀z∈y,-1000000000<=z/\z<=1000000000)/\je7 x y<=jld Q (sv tbs) fe/\∀i,i<x.length->y.getD i 0<=x.getD i 0:=by
 obtain⟨hl,hi⟩:=jlb (tbs:=tbs) o k one;have hN:=jmH h hl λi h=>(hi i h).1
 have hsv:=js9 hl λi h=>(hi i h).1
 have hFN:FitQ (nbL o k one tbs) Q fe:=⟨(jk9 hN).2,by rw[hsv];exact hF.2⟩;obtain⟨v,hv,hx,_⟩:=jwo h hF o k one;have hR:=juy (Q:=Q) (fe:=fe) h
 have hcn:v=true->(cnt o (vpQ tbs Q).view:Int)<=jld Q (sv tbs) fe:=λe=>by
  obtain⟨a,b⟩:=jux h hF (hx e) o;unfold jld;rw[Kg a];exact b
 have ones:∀n,∀x∈List.replicate n (1:Int),-1<=x/\x<=1:=λn x hx=>by rw[List.eq_of_mem_replicate hx];decide
 have hb:∀{l:List Tb},BaseG cs l->FitQ l Q fe->∀z∈jcc l Q (List.replicate (vpQ l Q).view.length 1),-1000000000<=z/\z<=1000000000:=λh hF z hz=>by
  have:=juv (d:=1) h hF af (ones _) ae z hz;omega
 subst ex ey;refine⟨hFN,by rw[jew,jew,hsv],by rw[jew];exact((B.fit_col hF (ok1 h)).2.2 hc).2.2,hb h hF,hb hN hFN,?_,?_⟩
 ·rw[jh8,jh8,jgU,jgU,hsv,hv];have:=jqu hR.1 hcn (B:=1) af (B.widQ (jaI Q (sv tbs)) Q) (B.cellI (jaI Q (sv tbs)) (B.colI (jaI Q (sv tbs)) Q)) (λ_=>1) λ_ _=>by show absI 1<=1;decide
  rw[Int.mul_one]at this;exact this
 ·rw[jh8,jh8,jgU,jgU,hsv,hv];intro i hi;rw[jjb]at hi;exact(jtc hR.1 hcn _ _ hi).1
open Classical in
theorem jtg(h:BaseG cs tbs){q:RCap}(hQ:WQ Q ev wv rv)(g:jiQ (sv tbs) Q)(hc:Q.column ≠ [])(o:Int)(k:Nat)(one:Bool):∃(x y:List Int) (c:Col) (R W Sr Sp:Int),
  x.length=y.length/\1<=x.length/\x.length<=64/\(∀z∈x,-1000000000<=z/\z<=1000000000)/\(∀z∈y,-1000000000<=z/\z<=1000000000)/\(∀i,i<x.length->y.getD i 0<=x.getD i 0)/\(W=x.length\/R=0) /\
  ((levN x.length:Nat):Int)*preD x y x.length<=Sr/\(x.length:Int)*preD x y x.length<=Sp /\
  (∀U,jah env (Go.Ab.ev env) 43 [.row (jbc tbs) tbs.length q,.agg ((runQ Q).cells .nilsl wv .nilsl)] U=some (iV x,U)) /\
  (∀U,jah env (Go.Ab.ev env) 43 [.row (jbc (nbL o k one tbs)) (nbL o k one tbs).length .unk,.agg ((runQ Q).cells .nilsl wv .nilsl)] U=some (iV y,U)) /\
  (∀U,jah env (Go.Ab.ev env) 49 [.agg ((runQ Q).cells .nilsl wv .nilsl),.row (jaY (sv tbs)) (sv tbs).length .unk] U=some (.int .i64 W,U)) /\
  (∀U,jah env (Go.Ab.ev env) 40 [.agg ((runQ Q).cells .nilsl wv .nilsl),.row (jaY (sv tbs)) (sv tbs).length .unk] U=some (.int .i64 R,U)) /\
  (∀U,jah env (Go.Ab.ev env) 36 [.agg ((runQ Q).cells .nilsl wv .nilsl),.row (jaY (sv tbs)) (sv tbs).length .unk] U=some (.int .i64 Sr,U)) /\
  (∀U,jah env (Go.Ab.ev env) 71 [.row (jaY (sv tbs)) (sv tbs).length .unk,.agg ((runQ Q).cells .nilsl wv .nilsl)] U=some (rgV c,U)) /\
  (∀U,jah env (Go.Ab.ev env) 36 [.agg ((preQ Q [(c.lo,c.hi)]).cells .nilsl wv (rgV c)),.row (jaY (sv tbs)) (sv tbs).length .unk] U=some (.int .i64 Sp,U)):=by
 obtain⟨m,hm,hfst,hnm,hF,hP⟩:=jwr h g hc;have wR:=jxZ hQ;have wP:=jx0 hQ ((ja5 (sv tbs) Q).getD m Col.none);have hRg:∀U,jah env (Go.Ab.ev env) 71 [.row (jaY (sv tbs)) (sv tbs).length .unk,.agg ((runQ Q).cells .nilsl wv .nilsl)] U=some (rgV ((ja5 (sv tbs) Q).getD m Col.none),U):=juD h wR hm hfst hnm;generalize (ja5 (sv tbs) Q).getD m Col.none=c at *;have f2:K.Fac [50] 0:=(jsP (by simp[facs])).1;have hcr:(runQ Q).column ≠ []:=hc;obtain⟨hFN,f1,f2',f3,f4,f5,ff⟩:=jqz h hF hcr o k one _ _ rfl rfl;obtain⟨hl2,hi2⟩:=jlb (tbs:=tbs) o k one;have hb2:=jmH h hl2 λi h=>(hi2 i h).1
 have hC1:=jpk (q:=q) h wR f2;have hC2:=jpk (q:=.unk) hb2 wR f2;simp only[hF,hcr,true_and,Kl,ne_eq,Je]at hC1;simp only[hFN,hcr,true_and,Kl,ne_eq,Je]at hC2;have hw:=(B.fit_col hF (ok1 h)).2.2 hcr;have hx:=jew tbs (runQ Q) (List.replicate (vpQ tbs (runQ Q)).view.length 1);have hWd:=jwu h wR f2;have hRw:=jxX h wR f2;have hSn:=ju5 h wR f2;have hSp:=ju5 h wP f2;have hD:∀D,0<=D->D<=jld (runQ Q) (sv tbs) 0->_:=λD=>jqy (D:=D) h hF hP
 have hWR:(if accX (runQ Q) (sv tbs) 0 then widX (runQ Q) (sv tbs)else 0)=((B.widQ (jaI (runQ Q) (sv tbs)) (runQ Q):Nat):Int)\/(if accX (runQ Q) (sv tbs) 0 then jfa (runQ Q) (sv tbs)else 0)=0:=by
  by_cases a:accX (runQ Q) (sv tbs) 0
  ·left;rw[Kg a];have hb:=B.wid_in (ok1 h) a;have e:widX (runQ Q) (sv tbs)=jcU ((jaI (runQ Q) (sv tbs)).getD (B.colI (jaI (runQ Q) (sv tbs)) (runQ Q)) Col.none):=rfl;unfold B.widQ;omega
  ·right;rw[Ke a]
 rw[<- hx]at hw hD hWR;generalize jcc tbs (runQ Q) (List.replicate (vpQ tbs (runQ Q)).view.length 1)=x at *;generalize jcc (nbL o k one tbs) (runQ Q) (List.replicate (vpQ (nbL o k one tbs) (runQ Q)).view.length 1)=y at *;have hap:=jf0 f1 ff (Kw x.length);obtain⟨s1,s2⟩:=hD _ hap.1 aa;exact⟨x,y,c,_,_,_,_,f1,aa,aa,f3,f4,ff,hWR,s1,s2,hC1,hC2,hWd,hRw,hSn,hRg,hSp⟩
end
theorem ldG2(L:List AObj)(o:AObj)(a0 a1 a2 a3 a4 a5 a6 a7 a8 a9 a10 a11 a12 a13 a14 a15 a16 a17 a18 a19:V):jab (L++[.cells [a0,a1,a2,a3,a4,a5,a6,a7,a8,a9,a10,a11,a12,a13,a14,a15,a16,a17,a18,a19] 30]++[o]) 20 (.ptr L.length 0)=some [a0,a1,a2,a3,a4,a5,a6,a7,a8,a9,a10,a11,a12,a13,a14,a15,a16,a17,a18,a19]:=by simp[jab]
theorem jAE {wv:V}{n:Nat}{cs:List V}(h:WV wv n cs)(c t o l r:List UInt8)(kp lm:Int):jbD env 30 [(0,.int .i64 9),(6,.str c),(11,.str t),(12,.int .i64 kp),(13,.str o),(14,.str l),(15,.str r),(16,.int .i64 lm),(17,wv),(18,.str [50]),(19,.int .i64 8)]=some (.agg [.int .i64 9,.nilsl,.int .i64 0,.int .i64 0,.int .i64 0,.int .i64 0,.str c,.int .i64 0,.nilsl,.int .i64 0,.bool false,.str t,.int .i64 kp,.str o,.str l,.str r,.int .i64 lm,wv,.str [50],.int .i64 8]):=by
 rcases h with⟨rfl,_,_⟩|⟨q,rfl⟩<;>kernel_rfl
theorem jof {xv yv:V}{xs ys:List Int}(Kx:Tk xv xs)(Ky:Tk yv ys){ow wh:Int}(ho:In64 ow)(hw:In64 wh):Go.Ab.Found env 13 [xv,yv,.int .i64 ow,.int .i64 wh]:=by
 refine jlP at13 rfl ?_;obtain⟨v,U1,hB,L1,ts1,cs,tbs,q,rfl,rfl,hb,x1,l1,k1⟩:=jsJ Kx [] [];have hS:=jn7 (q:=q) hb;obtain⟨v,U2,hQ,Q,ev,wv,rv,M,ts2,rfl,rfl,g,ge,gw,gr,x2,hML,hMk⟩:=jp4 (q:=.unk) Ky hb.kitSv.kb L1 ts1;have hlen:=juf g;obtain⟨fa,fl⟩:=jsP hlen.2.2.2;have wq:WQ Q ev wv rv:=⟨.of ge,.of gw,.of gr,⟨hlen.1,hlen.2.1,hlen.2.2.1⟩,aa⟩;have hbl:=hb.len;have hP:=pick_call ow 6 ho (by simp[In64]) af;have e6:IntKind.i64.wrap (1+ow % 6)=1+ow % 6:=wrap_i64 aa aa;obtain⟨k,hk⟩:∃k:Nat,wh % ((tbs.length:Int)+1)=k:=⟨(wh % ((tbs.length:Int)+1)).toNat,by have:=Int.emod_nonneg wh (show(tbs.length:Int)+1 ≠ 0 by omega);omega⟩;have hNb:=jod hb wq q (1+ow % 6) wh hw hk;have kn:=jwq;have x1c:=wq.e.nv hlen.1 |>.cell.2
 have x2c:=wq.w.nv hlen.2.1 |>.cell.2
 have x3c:=wq.r.rg hlen.2.2.1 |>.cell.2
 have ldG:=jAB;by_cases hc:Q.column=[]
 ·have d0:=eq_true hc;unfold Qy.cells at hNb hQ;simp only[Tryz.f13,simprocAttr,zK,K0,jaa,jai,ty7,kn,hB,hS,hQ,al1,uq,fo30,zq,YW,YH,jad,jan,Qf,x1c,x2c,x3c,ldG,hP,e6,hNb,jax,d0];exact⟨ac,rfl⟩
 have d0:=eq_false hc;obtain⟨x,y,c,R,Wi,Sr,Sp,hl,h1,hw64,hbx,hby,ff,hWR,s1,s2,hCx,hCy,hWd,hRw,hSr,hRg,hSp⟩:=jtg (q:=q) hb wq g hc (1+ow % 6) k (oneB tbs Q k);generalize nbL (1+ow % 6) k (oneB tbs Q k) tbs=nb at hNb hCy;have bdR:=jAE wq.w;have ldG':=ldG2;have lx:=W.len_I (jmB x);have ly:=W.len_I (jmB y);have d3:((x.length:Int)=(y.length:Int))=True:=eq_true aa;have d4:((x.length:Int)=0)=False:=eq_false aa;simp only[Qy.cells,runQ,preQ]at hQ hNb hCx hCy hWd hRw hSr hRg hSp;unfold rgV at hRg hSp;have c1:(((levN x.length:Nat):Int)*preD x y x.length<=Sr)=True:=eq_true s1
 have fin:∀(T:Tm),T 9=.bool true->T 13=.row (jaY (sv tbs)) (sv tbs).length .unk->T 14=.ptr (M++[qm Q ev wv rv]).length 0->T 15=iV x->T 16=iV y->T 17=.int .i64 0->T 18=.int .i64 0->T 19=.int .i64 0 ->
   jdx env 13 none 167 (jcK 0 (jaz Tryz.f13)) T [] ⟨M++[qm Q ev wv rv]++[qm (runQ Q) .nilsl wv .nilsl],ts2⟩ (Kt.post env 13 none 167 ⟨wpR env Tryz.f13.results.toList λv _=>v=.bool true,λ_ _ _ _=>False,wpR env Tryz.f13.results.toList λv _=>v=.bool true⟩ [.blk 0,.code (jbQ 12 (jaz Tryz.f13))]):=by
  intro T t9 t13 t14 t15 t16 t17 t18 t19;refine jwt (jmB x) (jmB y) hl hw64 hbx hby ff t15 t16 t17 t19 λT1 a1 a17 => ?_
  have v9:=(a1 9 aa aa).trans t9;have v13:=(a1 13 aa aa).trans t13;have v14:=(a1 14 aa aa).trans t14;have v15:=(a1 15 aa aa).trans t15;have v16:=(a1 16 aa aa).trans t16;have v18:=(a1 18 aa aa).trans t18;simp only[jaz,Tryz.f13,jbQ,Kr,simprocAttr,zK,Vq];refine juB (jmB x) (jmB y) hl hw64 hbx hby ff v15 v16 v18 rfl λT2 F a2 b18 f0 f1 => ?_
  have w9:=(a2 9 aa).trans v9;have w13:=(a2 13 aa).trans v13;have w14:=(a2 14 aa).trans v14;have w17:=(a2 17 aa).trans a17;have c2:(F<=Sp)=True:=eq_true (V5 f1 s2);simp only[runQ];simp only[simprocAttr,zK,K0,jaa,al1,uq,fo30,zq,w9,w13,w14,w17,b18,ldG,ldG',YW,YH,jad,jan,Qf,x2c,hRg,hSr,hSp,c1,c2];exact⟨ac,rfl⟩
 by_cases hW:Wi=x.length
 ·have d5:=eq_true hW;simp only[Tryz.f13,simprocAttr,zK,K0,jaa,jai,ty7,kn,hB,hS,hQ,al1,uq,fo30,zq,YW,YH,jad,jan,Qf,x1c,x2c,x3c,ldG,hP,e6,hNb,jax,d0,bdR,hCx,hCy,lx,ly,d3,d4,hWd,d5];exact⟨ac,ac,ac,fin _ rfl rfl rfl rfl rfl rfl rfl rfl⟩
 ·have d5:=eq_false hW;have hR0:R=0:=hWR.resolve_left hW;subst hR0;have d6:((0:Int)>0)=False:=eq_false af;simp only[Tryz.f13,simprocAttr,zK,K0,jaa,jai,ty7,kn,hB,hS,hQ,al1,uq,fo30,zq,YW,YH,jad,jan,Qf,x1c,x2c,x3c,ldG,hP,e6,hNb,jax,d0,bdR,hCx,hCy,lx,ly,d3,d4,hWd,d5,hRw,d6];exact⟨ac,ac,ac,fin _ rfl rfl rfl rfl rfl rfl rfl rfl⟩
theorem trees_foundt {u v w x:V}(h:Tyd Tryz.prog 6 22 [u])(h2:Tyd Tryz.prog 6 22 [v])(h3:Tyd Tryz.prog 6 3 [w])(h4:Tyd Tryz.prog 6 3 [x]):Go.Ab.Found env 13 [u,v,w,x]:=by
 obtain⟨xs,hx⟩:=ju7 (k:=4) h;obtain⟨ys,hy⟩:=ju7 (k:=4) h2;obtain⟨a,rfl,ha⟩:=ju8 (k:=5) h3;obtain⟨b,rfl,hb⟩:=ju8 (k:=5) h4;exact jof hx hy ha hb
theorem env_ok:env.Ok:=env_ok_of λf h=>by
 have:=jAC h;subst this;exact r31.known_row
end Go.Proofs.YtajaampgajieeaaGreatDoor.N
