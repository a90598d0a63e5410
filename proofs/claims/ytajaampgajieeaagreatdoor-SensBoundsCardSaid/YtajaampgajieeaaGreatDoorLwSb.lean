/- Proved here: the law. Conditions: each theorem's own. -/
import Derived.Test.YtajaampgajieeaaGreatDoorCpA
import Derived.Test.YtajaampgajieeaaGreatDoorSeA
import Derived.Test.YtajaampgajieeaaGreatDoorWoA
import Derived.Test.YtajaampgajieeaaGreatDoorRnB
set_option linter.unusedSimpArgs false
set_option maxHeartbeats 16000000
set_option maxRecDepth 1000000
set_option linter.unusedVariables false
set_option linter.unusedSectionVars false
namespace Go.Proofs.YtajaampgajieeaaGreatDoor.N
open Go.Ab
open B (TOK BOK sv svV cpS vpQ tbN FitQ jdH jaY CK)
section
variable {cs:List Col}{tbs:List Tb}{Q:Qy}
end
section
variable {Q:Post}{ks:List Kt}{av bv:V}{ra rb:List Rw}
end
theorem jpf {M:List AObj}{w:Nat}{x:AObj}(h:M[w]? = some x):M.set w x=M:=by
 refine Xo λi => ?_
 by_cases e:w=i
 ·subst e;rw[Km (jam h),h]
 ·rw[Kh e]
section
variable {Q:Post}{ks:List Kt}{av:V}{ra:List Rw}
end
open B (TOK BOK sv svV cpS vpQ tbN FitQ VR rwV jgU RowN)
theorem VR.rows {n:Nat}{ps:List PR}{u:V}(h:VR n ps u):∃ws:List Rw,IsR u ws/\OkR ws/\(∀r∈ws,r.vs.length=n)/\ws.map Rw.pl=ps:=by
 obtain⟨ws,rfl,h1,h2⟩:=h;exact⟨ws,jgU ws,λr hr=>⟨(h1 r hr).1,(h1 r hr).2.2.1,(h1 r hr).2.2.2⟩,λr hr=>(h1 r hr).2.1,h2⟩
theorem jAh(L:List AObj)(a0 a1 a2 a3 a4 a5 a6 a7 a8 a9 a10 a11 a12 a13 a14 a15 a16 a17 a18 a19:V):jab (L++[.cells [a0,a1,a2,a3,a4,a5,a6,a7,a8,a9,a10,a11,a12,a13,a14,a15,a16,a17,a18,a19] 30]) 20 (.ptr L.length 0)=some [a0,a1,a2,a3,a4,a5,a6,a7,a8,a9,a10,a11,a12,a13,a14,a15,a16,a17,a18,a19]:=by simp[jab]
open B (TOK BOK sv svV cpS vpQ tbN FitQ jdH jaY iV jdc jbw jhO)
theorem hk37:env.hook 37=some (jbN B.env 37):=rfl
theorem hk43:env.hook 43=some (jbN B.env 43):=rfl
theorem hk45:env.hook 45=some (jbN B.env 45):=rfl
section
variable {cs:List Col}{tbs:List Tb}{Q:Qy}{ev wv rv:V}{fe:Int}
theorem fitW(h:BaseG cs tbs):FitQ (tbs.map jcy) Q fe↔FitQ tbs Q fe:=by
 unfold FitQ;rw[je3 h];exact⟨λg=>⟨(jja h).2,g.2⟩,λg=>⟨(jja h.weak).2,g.2⟩⟩
theorem ok1(h:BaseG cs tbs):∀c∈jaD Q (sv tbs),Ok1 c:=B.colsQ_all λs hs c hc=>by
 unfold sv at hs;obtain⟨t,ht,rfl⟩:=Ja.1 hs;have hk:Kit c:=h.kits ht c hc;obtain⟨j,hj,hn⟩:=hk.1;exact⟨by rw[hn];exact jnY hj,jo8 hk⟩
theorem jmL {f:FuncId}{r:V}(hk:env.hook f=some (jbN B.env f))(hp:B.env.pure f=true)(hn:B.env.hook f=none)(h:BaseG cs tbs)(hQ:WQ Q ev wv rv)(q:RCap){rest:List V}(r1:rest.all V.closed=true)(r2:rest.map V.weak=rest)
  (H:∀l v e w x,l=tbs\/l=tbs.map jcy->BOK v l->K.QV Q e w x->∀U,jaf B.env (Go.Ab.ev B.env) f (v::.agg (Q.cells e w x)::rest) U=some (r,U)) (U:S) :
  jaf env (Go.Ab.ev env) f (.row (ja0 tbs) tbs.length q::.agg (Q.cells ev wv rv)::rest) U=some (r,U):=by
 refine joW hk (jkQ hp hn (λhc => ?_) ?_ ?_) _ U
 ·simp only[Kr,Qu]at hc;exact H _ _ _ _ _ (.inl rfl) (h.bok hc.1) (hQ.qv (jhw hc.2.1))
 ·have h1:=hQ.weak.closed;simp only[Kw,r2,Kr,r1,jfV hQ,h1,jfW,(h.bokW q).closed,K8]
 ·simp only[Kw,r2,jfW,jfV hQ];exact H _ _ _ _ _ (.inr rfl) (h.bokW q) hQ.weak
theorem jxy(h:BaseG cs tbs):jdc (tbs.map jcy) Q=jdc tbs Q:=by
 unfold jdc;rw[jk8 h,je3 h]
theorem juN(h:BaseG cs tbs)(xs:List Int):jbw (tbs.map jcy) Q xs=jbw tbs Q xs:=by
 unfold jbw;rw[jk8 h,je3 h]
open Classical in
theorem jh7(h:BaseG cs tbs)(hQ:WQ Q ev wv rv)(hf:K.Fac Q.factor fe)(q:RCap)(U:S):jaf env (Go.Ab.ev env) 37 [.row (ja0 tbs) tbs.length q,.agg (Q.cells ev wv rv)] U=some (if valK Q.kind/\FitQ tbs Q fe then iV (jdc tbs Q)else .nilsl,U) :=
 jmL hk37 rfl rfl h hQ q rfl rfl (λl v e w x hl hB hQ U=>by
  rw[B.values37 hB hQ hf]
  rcases hl with rfl|rfl
  ·rfl
  ·rw[jxy h];simp only[fitW h]) U
open Classical in
theorem jh8(h:BaseG cs tbs)(hQ:WQ Q ev wv rv)(hf:K.Fac Q.factor fe)(q:RCap)(U:S):jaf env (Go.Ab.ev env) 43 [.row (ja0 tbs) tbs.length q,.agg (Q.cells ev wv rv)] U=some (if FitQ tbs Q fe/\Q.column ≠ []then iV (jbw tbs Q (List.replicate (vpQ tbs Q).view.length 1))else .nilsl,U) :=
 jmL hk43 rfl rfl h hQ q rfl rfl (λl v e w x hl hB hQ U=>by
  rcases hl with rfl|rfl
  ·exact B.counts43 hB hQ hf (ok1 h) U
  ·rw[B.counts43 hB hQ hf (by rw[je3 h];exact ok1 h) U,juN h,jk8 h];simp only[fitW h]) U
open Classical in
theorem jh9(h:BaseG cs tbs)(hQ:WQ Q ev wv rv)(hf:K.Fac Q.factor fe)(q:RCap)(U:S):jaf env (Go.Ab.ev env) 45 [.row (ja0 tbs) tbs.length q,.agg (Q.cells ev wv rv)] U=some (if FitQ tbs Q fe/\Q.kind=4 then iV (jbw tbs Q (jdc tbs Q))else .nilsl,U) :=
 jmL hk45 rfl rfl h hQ q rfl rfl (λl v e w x hl hB hQ U=>by
  rcases hl with rfl|rfl
  ·exact B.totals45 hB hQ hf (ok1 h) U
  ·rw[B.totals45 hB hQ hf (by rw[je3 h];exact ok1 h) U,juN h,jxy h];simp only[fitW h]) U
end
theorem joo {B:Int}(hB:0<=B):∀l:List Int,(∀x∈l,-B<=x/\x<=B) -> -(B*l.length)<=sumI l/\sumI l<=B*l.length
 | [],_=>by simp[sumI]
 |x::l,h=>by
  have h1:=joo hB l λy hy=>h y (by simp[hy])
  have h2:=h x ae;have e:B*((x::l).length:Nat)=B*l.length+B:=by rw[Qh,Vt,Int.mul_add];simp
  rw[e,jb3];omega
section
variable {cs:List Col}{tbs:List Tb}{Q:Qy}{fe:Int}
theorem jgY(h:BaseG cs tbs)(hF:FitQ tbs Q fe):(vpQ tbs Q).view.length<=600:=by
 have hK:=jaY hF.2;obtain⟨t1,_,_⟩:=jsM h hK.tab;obtain⟨_,hl⟩:=h.r _ t1;have h2:=(vpQ tbs Q).view_sub.length_le
 have h3:=B.joinedL (vpQ tbs Q) λo pub left right limit e=>by
  unfold vpQ at e;by_cases ho:Q.other=[]
  ·simp only[ho,Kl]at e;cases e
  ·simp only[ho,Kn,Ki,Kz]at e;have:=(hK.other ho).2.2.2.2.1;omega
 have h7:(vpQ tbs Q).rows.length=(tbN tbs Q.table).rows.length:=by simp[vpQ]
 omega
theorem jds(tbs:List Tb)(Q:Qy)(xs:List Int):(jbw tbs Q xs).length=B.widQ (jaD Q (sv tbs)) Q:=jct _ _
theorem jue(h:BaseG cs tbs)(hF:FitQ tbs Q fe){d:Int}(hd:0<=d){xs:List Int}(hx:∀x∈xs,-d<=x/\x<=d)(hl:xs.length=(vpQ tbs Q).view.length):∀x∈jbw tbs Q xs,-(d*600)<=x/\x<=d*600:=λx hxm=>by
 obtain⟨i,hi,rfl⟩:=Jo hxm;have hi2:=hi;rw[jds]at hi2;have hv:=jgY h hF;have hc:=B.cells_le (B.widQ (jaD Q (sv tbs)) Q) hd (((vpQ tbs Q).view.map (B.cellI (jaD Q (sv tbs)) (B.colI (jaD Q (sv tbs)) Q))).zip xs) (λx hx2=>hx _ (List.of_mem_zip hx2).2) i hi2
 have e:(jb7 (B.widQ (jaD Q (sv tbs)) Q) (((vpQ tbs Q).view.map (B.cellI (jaD Q (sv tbs)) (B.colI (jaD Q (sv tbs)) Q))).zip xs)).getD i 0=(jbw tbs Q xs)[i]:=by
  show(jbw tbs Q xs).getD i 0=_;simp[List.getD,hi]
 rw[e]at hc;have hz:(((vpQ tbs Q).view.map (B.cellI (jaD Q (sv tbs)) (B.colI (jaD Q (sv tbs)) Q))).zip xs).length<=600:=by simp;omega
 have h2:d*((((vpQ tbs Q).view.map (B.cellI (jaD Q (sv tbs)) (B.colI (jaD Q (sv tbs)) Q))).zip xs).length:Int)<=d*600:=Uc aa hd;omega
end
theorem jsX {xs:List Int}{i:Nat}(h:i<xs.length):sumI (xs.take (i+1))=sumI (xs.take i)+xs.getD i 0:=by
 rw[B.take_next 0 h,jkY,jb3];show _+(_+0)=_;omega
theorem jqy {d:Int}(hd:0<=d){xs:List Int}(hb:∀x∈xs,-d<=x/\x<=d)(i:Nat) : -(d*xs.length)<=sumI (xs.take i)/\sumI (xs.take i)<=d*xs.length:=by
 have h:=joo hd (xs.take i) λx hx=>hb x (Vy hx)
 have h2:d*((xs.take i).length:Int)<=d*(xs.length:Int):=Uc (Int.ofNat_le.2 (by rw[Q6];omega)) hd;omega
section
variable {Q:Post}{ks:List Kt}{vv:V}{xs:List Int}{T:Tm}{U:S}
end
open B (TOK BOK sv svV cpS vpQ tbN FitQ jdH jaY nbL woT cpT woR rwV cpR oneB)
structure LessT (t' t:Tb):Prop where
 s:t'.s=cpS t.s
 r:∃p:Rw->Bool,t'.rows=(t.rows.filter p).map cpR
 v:t'.rv=rwV t'.rows
theorem jv8(t:Tb):LessT (cpT t) t:=⟨rfl,⟨λ_=>true,by rw[Ul.2 λ_ _=>rfl];rfl⟩,rfl⟩
theorem jsY(o:Int)(t:Tb):LessT (woT o t) t:=⟨rfl,⟨_,rfl⟩,rfl⟩
theorem jv9(v:V):unkV (unkV v)=unkV v:=by cases v<;>rfl
theorem jwa(s:Sch):cpS (cpS s)=cpS s:=by unfold cpS;simp only[jv9]
theorem jsZ(l:List Rw):(l.map cpR).map Rw.pl=l.map Rw.pl:=by rw[Xv];rfl
section
variable {cs:List Col}{tbs nb:List Tb}
theorem jmM(h:BaseG cs tbs)(hl:nb.length=tbs.length)(hi:∀i,i<tbs.length->LessT (nb.getD i Tb.none) (tbs.getD i Tb.none)):BaseG cs nb:=by
 have at':∀t∈nb,∃t0∈tbs,LessT t t0:=λt ht=>by
  obtain⟨i,h1,e⟩:=Jo ht;have:=hi i aa;rw[show nb.getD i Tb.none=t by simp[List.getD,h1,e]]at this;exact⟨_,Tb.mem aa,this⟩
 refine⟨⟨h.k.all,h.k.five,by have:=h.k.n;simp at this ⊢;omega,by have:=h.k.l;simp at this ⊢;omega,λi h1 => ?_⟩,λt ht => ?_,λt ht => ?_⟩
 ·have h2:i<tbs.length:=by simp at h1;omega
  have k:=h.k.at' i (by simpa using h2);have e0:(tbs.map (·.s)).getD i Sch.none=(tbs.getD i Tb.none).s:=by simp[List.getD,h2]
  have e1:(nb.map (·.s)).getD i Sch.none=(nb.getD i Tb.none).s:=by simp[List.getD,show i<nb.length by omega]
  rw[e0]at k;rw[e1,(hi i h2).s];obtain⟨q,hq⟩:=k.row;exact⟨k.nm,k.sub,k.ne,k.le,k.pb,.unk,by show unkV _=_;rw[hq];rfl⟩
 ·obtain⟨t0,h0,⟨hs,⟨p,hr⟩,_⟩⟩:=at' t ht;obtain⟨g,gl⟩:=h.r t0 h0;rw[hs,hr];refine⟨⟨λr hm => ?_,λr hm => ?_,λhp o => ?_⟩,?_⟩
  ·obtain⟨r0,hr0,rfl⟩:=Ja.1 hm;obtain⟨q,hq⟩:=g.v r0 (Vh.1 hr0).1;exact⟨.unk,by show unkV _=_;rw[hq];rfl⟩
  ·obtain⟨r0,hr0,rfl⟩:=Ja.1 hm;exact g.g r0 (Vh.1 hr0).1
  ·rw[jsZ];exact X9 (Int.ofNat_le.2 (jkV (List.filter_sublist.map _))) (g.m hp o)
  ·rw[Qn];exact Jj (Ui _ _) gl
 ·obtain⟨t0,h0,⟨_,_,hv⟩⟩:=at' t ht;rw[hv];unfold rwV;by_cases e:t.rows=[]
  ·rw[Kg e];exact .inl ⟨rfl,e⟩
  ·rw[Ke e];exact .inr ⟨.unk,rfl⟩
theorem jop(hl:nb.length=tbs.length)(hi:∀i,i<tbs.length->LessT (nb.getD i Tb.none) (tbs.getD i Tb.none)):sv nb=sv tbs:=by
 refine Xo λi => ?_
 unfold sv;rw[Xh,Xh];by_cases h:i<tbs.length
 ·have:=(hi i h).s;rw[K4 h,K4 (show i<nb.length by omega)];simp only[List.getD,K4 h,K4 (show i<nb.length by omega),Ku]at this;simp only[K9,this,jwa]
 ·rw[Qq aa,Qq aa]
theorem jjf(o:Int)(k:Nat)(one:Bool):(nbL o k one tbs).length=tbs.length/\∀i,i<tbs.length->LessT ((nbL o k one tbs).getD i Tb.none) (tbs.getD i Tb.none)/\((nbL o k one tbs).getD i Tb.none).rows.map Rw.pl=woB o (!(tbs.getD i Tb.none).s.pub && (!one ||decide (i=k))) ((tbs.getD i Tb.none).rows.map Rw.pl):=by
 have hm:∀(f:Tb->Tb) i,i<tbs.length->(tbs.map f).getD i Tb.none=f (tbs.getD i Tb.none):=λf i hi=>by simp[List.getD,hi]
 cases one with
 |false =>
  refine⟨by simp[nbL],λi hi => ?_⟩;show LessT ((tbs.map (woT o)).getD i Tb.none) _/\((tbs.map (woT o)).getD i Tb.none).rows.map Rw.pl=_;rw[hm _ i hi];refine⟨jsY o _,?_⟩;rw[Jh,Uh,Qx];exact B.woR_pl _ _ _
 | true =>
  refine⟨by simp[nbL],λi hi => ?_⟩;show LessT (((tbs.map cpT).set k (woT o (tbs.getD k Tb.none))).getD i Tb.none) _/\(((tbs.map cpT).set k (woT o (tbs.getD k Tb.none))).getD i Tb.none).rows.map Rw.pl=_;by_cases e:i=k
  ·subst e;have:((tbs.map cpT).set i (woT o (tbs.getD i Tb.none))).getD i Tb.none=woT o (tbs.getD i Tb.none):=by simp[List.getD,hi]
   rw[this,decide_eq_true rfl];refine⟨jsY o _,?_⟩;rw[Xg,Qx];exact B.woR_pl _ _ _
  ·have:((tbs.map cpT).set k (woT o (tbs.getD k Tb.none))).getD i Tb.none=cpT (tbs.getD i Tb.none):=by
    rw[<- hm cpT i hi];simp only[List.getD,Kh (Ne.symm e)]
   rw[this,decide_eq_false e];refine⟨jv8 _,?_⟩;rw[Q7,Xq,Ug];exact jsZ _
theorem jwb(h:BaseG cs tbs){Q:Qy}{fe:Int}(hF:FitQ tbs Q fe)(o:Int)(k:Nat)(one:Bool):∃x:Bool,(vpQ (nbL o k one tbs) Q).view=woB o x (vpQ tbs Q).view/\(x=true->(tbN tbs Q.table).s.pub=false) /\
  x=((!(tbN tbs Q.table).s.pub && (!one ||decide (ja3 (sv tbs) Q.table (sv tbs).length 0=k))) ||(decide (Q.other ≠ []) && (!(tbN tbs Q.other).s.pub && (!one ||decide (ja3 (sv tbs) Q.other (sv tbs).length 0=k))))):=by
 obtain⟨hl,hi⟩:=jjf (tbs:=tbs) o k one;have hK:=jaY hF.2;have hsv:=jop hl λi h=>(hi i h).1
 have tab:∀nm,0<=ja3 (sv tbs) nm (sv tbs).length 0->(tbN (nbL o k one tbs) nm).s=cpS (tbN tbs nm).s/\(tbN (nbL o k one tbs) nm).rows.map Rw.pl=woB o (!(tbN tbs nm).s.pub && (!one ||decide (ja3 (sv tbs) nm (sv tbs).length 0=k))) ((tbN tbs nm).rows.map Rw.pl):=λnm hs=>by
  obtain⟨i,h1,h2,h3,_⟩:=B.tbN_spec hs;have e:tbN (nbL o k one tbs) nm=(nbL o k one tbs).getD i Tb.none:=by unfold tbN;rw[hsv,h1,Qj]
  obtain⟨a,b⟩:=hi i h2;rw[e,h3,h1];refine⟨a.s,?_⟩;rw[b];have:decide ((i:Int)=(k:Int))=decide (i=k):=by rw[decide_eq_decide];omega
  rw[this]
 obtain⟨t1,t2⟩:=tab Q.table hK.tab;refine⟨_,?_,?_,rfl⟩
 ·have hv:vpQ (nbL o k one tbs) Q=(vpQ tbs Q).less o (!(tbN tbs Q.table).s.pub && (!one ||decide (ja3 (sv tbs) Q.table (sv tbs).length 0=k))) (!(tbN tbs Q.other).s.pub && (!one ||decide (ja3 (sv tbs) Q.other (sv tbs).length 0=k))):=by
   unfold vpQ VP.less B.ixL B.ixR;simp only;rw[t2,t1,hsv];by_cases ho:Q.other=[]
   ·simp only[ho,Kl];rfl
   ·obtain⟨o1,o2⟩:=tab Q.other (hK.other ho).1;simp only[ho,Kn];rw[o2,o1];rfl
  rw[hv,VP.view_less]
  ·have:(vpQ tbs Q).jn.isSome=decide (Q.other ≠ []):=by
    unfold vpQ;by_cases ho:Q.other=[]
    ·simp only[ho,Kl];rfl
    ·simp only[ho,Kn];rw[decide_eq_true (show Q.other ≠ []from ho)];rfl
   rw[this]
   congr 1
   cases decide (Q.other ≠ [])<;>simp
  ·intro x pub l r m e hb;unfold vpQ at e;by_cases ho:Q.other=[]
   ·simp only[ho,Kl]at e;cases e
   ·simp only[ho,Kn,Ki,Kz]at e;rw[<- e.2.1];cases hp:(tbN tbs Q.other).s.pub with
    |false=>rfl
    |true=>rw[hp]at hb;cases hb
 ·intro hx;cases hp:(tbN tbs Q.table).s.pub with
  |false=>rfl
  | true =>
   rw[hp]at hx;by_cases ho:Q.other=[]
   ·simp[ho]at hx
   ·have:=(hK.other ho).2.2.2.2.2;obtain⟨_,_,_,_,h4,_,_⟩:=B.tbN_spec hK.tab;obtain⟨_,_,_,_,g4,_,_⟩:=B.tbN_spec (hK.other ho).1;rw[h4,g4]at this;have:=this hp;have e:(tbN tbs Q.other).s.pub=true:=this;rw[e]at hx;simp at hx
end
open B (TOK BOK sv svV cpS vpQ tbN FitQ jdH jaY nbL woT cpT woR rwV cpR oneB bsV accX jgt jjt widX)
theorem hk35:env.hook 35=some (jbN B.env 35):=rfl
theorem hk36:env.hook 36=some (jbN B.env 36):=rfl
theorem hk40:env.hook 40=some (jbN B.env 40):=rfl
theorem jpt {cs:List V}{n:Nat}{q:RCap}(h:V.weak.weakL cs=cs):unkV (V.row cs n q).weak=unkV (.row cs n q):=by simp only[V.weak,h,unkV]
section
variable {cs:List Col}{tbs:List Tb}{Q:Qy}{ev wv rv:V}{fe:Int}
theorem jpu(h:BaseG cs tbs){t:Tb}(ht:t∈tbs):cpS (jcy t).s=cpS t.s:=by
 obtain⟨⟨q,e⟩,ok,_⟩:=h.sch ht;show({ jgr t.s with cv:=unkV t.s.cv.weak }:Sch)={ t.s with cv:=unkV t.s.cv };rw[e,jpt (jck ok)];rfl
theorem jmN(h:BaseG cs tbs){t:Tb}(ht:t∈tbs)(p:Rw->Bool)(hp:∀r,p (ji7 r)=p r):(((jcy t).rows.filter p).map cpR)=(t.rows.filter p).map cpR:=by
 show((t.rows.map ji7).filter p).map cpR=_;rw[List.filter_map,Xv];have e:p ∘ ji7=p:=funext hp;rw[e];refine Xy λr hr => ?_
 obtain⟨q,hq⟩:=(h.r t ht).1.v r (Vh.1 hr).1;show({ ji7 r with vv:=unkV r.vv.weak }:Rw)={ r with vv:=unkV r.vv };rw[hq,jpt (jdY _)];rfl
theorem juf(h:BaseG cs tbs)(o:Int)(k:Nat)(one:Bool):nbL o k one (tbs.map jcy)=nbL o k one tbs:=by
 have hw:∀t∈tbs,woT o (jcy t)=woT o t:=λt ht=>by
  have e:=jmN h ht (B.stays o t.s.pub) λ_=>rfl
  unfold woT woR;show(⟨cpS (jcy t).s,rwV (((jcy t).rows.filter (B.stays o t.s.pub)).map cpR),((jcy t).rows.filter (B.stays o t.s.pub)).map cpR⟩:Tb)=_;rw[jpu h ht,e]
 have hc:∀t∈tbs,cpT (jcy t)=cpT t:=λt ht=>by
  have e:=jmN h ht (λ_=>true) λ_=>rfl
  rw[Ul.2 λ_ _=>rfl,Ul.2 λ_ _=>rfl]at e;unfold cpT;rw[jpu h ht,e]
 have m1:(tbs.map jcy).map (woT o)=tbs.map (woT o):=by rw[Xv];exact Xy hw
 have m2:(tbs.map jcy).map cpT=tbs.map cpT:=by rw[Xv];exact Xy hc
 unfold nbL;cases one with
 |false=>exact m1
 | true =>
  simp only[Kl];rw[m2];by_cases hk:k<tbs.length
  ·have e:(tbs.map jcy).getD k Tb.none=jcy (tbs.getD k Tb.none):=by simp[List.getD,hk]
   rw[e,hw _ (Tb.mem hk)]
  ·rw[List.set_eq_of_length_le (by simp;omega),List.set_eq_of_length_le (by simp;omega)]
theorem js0(Q:Qy)(k:Nat):oneB (tbs.map jcy) Q k=oneB tbs Q k:=by
 unfold oneB;rw[Qn];by_cases hk:k<tbs.length
 ·have e:(tbs.map jcy).getD k Tb.none=jcy (tbs.getD k Tb.none):=by simp[List.getD,hk]
  rw[e];rfl
 ·rw[decide_eq_false hk];rfl
theorem joq(h:BaseG cs tbs)(hQ:WQ Q ev wv rv)(q:RCap)(o w:Int)(hw:In64 w){k:Nat}(hk:w % ((tbs.length:Int)+1)=k)(U:S) :
  jaf env (Go.Ab.ev env) 35 [.row (ja0 tbs) tbs.length q,.agg (Q.cells ev wv rv),.int .i64 o,.int .i64 w] U=some (.row (ja0 (nbL o k (oneB tbs Q k) tbs)) (nbL o k (oneB tbs Q k) tbs).length .unk,U):=by
 have hl:=h.len;have hlen:=(jjf (tbs:=tbs) o k (oneB tbs Q k)).1
 have hb:bsV (nbL o k (oneB tbs Q k) tbs)=.row (ja0 (nbL o k (oneB tbs Q k) tbs)) (nbL o k (oneB tbs Q k) tbs).length .unk:=by
  unfold bsV;rw[Ke λe=>by rw[e]at hlen;simp at hlen;omega]
 rw[<- hb]
 exact jmL hk35 rfl rfl h hQ q rfl rfl (λl v e w' x hl2 hB hQ U=>by
  rcases hl2 with rfl|rfl
  ·exact B.neighbour_call hB hQ hl.1 o w hw hk U
  ·rw[B.neighbour_call hB hQ (by rw[Qn];exact hl.1) o w hw (by rw[Qn];exact hk) U,juf h,js0]) U
theorem jug(h:BaseG cs tbs):(sv tbs).map jgr=sv tbs:=by
 unfold sv;rw[Xv];refine Xy λt ht => ?_
 obtain⟨⟨q,e⟩,ok,_⟩:=h.sch ht;show({ cpS t.s with cv:=(unkV t.s.cv).weak }:Sch)={ t.s with cv:=unkV t.s.cv };rw[e];show({ cpS t.s with cv:=.row (V.weak.weakL (jaO t.s.cs)) _ _ }:Sch)=_;rw[jck ok];rfl
theorem juO {f:FuncId}{r:V}(hk:env.hook f=some (jbN B.env f))(hp:B.env.pure f=true)(hn:B.env.hook f=none)(h:BaseG cs tbs)(hQ:WQ Q ev wv rv)
  (H:∀lv e w x,K.SB lv (sv tbs)->K.QV Q e w x->∀U,jaf B.env (Go.Ab.ev B.env) f [.agg (Q.cells e w x),lv] U=some (r,U)) (U:S) :
  jaf env (Go.Ab.ev env) f [.agg (Q.cells ev wv rv),.row (ja9 (sv tbs)) (sv tbs).length .unk] U=some (r,U):=by
 have hS:=juH h.kitSv;have h2:=hS.weak .unk;rw[jug h]at h2;refine joW hk (jkQ hp hn (λhc => ?_) ?_ ?_) _ U
 ·simp only[Kr,Qo,Qx,Qu]at hc;exact H _ _ _ _ (hS.sb hc.2) (hQ.qv (jhw hc.1))
 ·have h1:=hQ.weak.closed;have h3:=jdo h2.v h2.ok;simp only[Kw,Jz,Kr,Qo,jfV hQ,h1,h3,K8]
 ·simp only[Kw,Jz,jfV hQ];exact H _ _ _ _ h2 hQ.weak
theorem jlb(h:BaseG cs tbs):∀s∈sv tbs,0<=s.many/\s.many<=1000:=λs hs=>by
 unfold sv at hs;obtain⟨t,ht,rfl⟩:=Ja.1 hs;obtain⟨i,_,_,k⟩:=h.kit ht;show 0<=t.s.many/\t.s.many<=1000
 rcases k.pb with⟨_,b,_⟩|⟨_,b,c⟩<;>omega
open Classical in
theorem jxz(h:BaseG cs tbs)(hQ:WQ Q ev wv rv)(hf:K.Fac Q.factor fe)(U:S):jaf env (Go.Ab.ev env) 40 [.agg (Q.cells ev wv rv),.row (ja9 (sv tbs)) (sv tbs).length .unk] U=some (.int .i64 (if accX Q (sv tbs) fe then jgt Q (sv tbs)else 0),U) :=
 juO hk40 rfl rfl h hQ (λlv e w x hS hQ U=>B.rows40 hS hQ hf (jlb h) U) U
open Classical in
theorem jxA(h:BaseG cs tbs)(hQ:WQ Q ev wv rv)(hf:K.Fac Q.factor fe)(U:S):jaf env (Go.Ab.ev env) 36 [.agg (Q.cells ev wv rv),.row (ja9 (sv tbs)) (sv tbs).length .unk] U=some (.int .i64 (if accX Q (sv tbs) fe then jjt Q (sv tbs)else 0),U) :=
 juO hk36 rfl rfl h hQ (λlv e w x hS hQ U=>B.sens36 hS hQ hf (jlb h) (ok1 h) U) U
end
theorem at38:env.P.funcs[38]? = some Tryz.f38:=ac
theorem at42:env.P.funcs[42]? = some Tryz.f42:=ac
theorem at44:env.P.funcs[44]? = some Tryz.f44:=ac
theorem jlc {n:Int}(h : -4000000000000000000<=n/\n<=4000000000000000000)(U:S):jaf env (ev env) 38 [.int .i64 n] U=some (.int .i64 (absI n),U):=by
 refine jaj rfl at38 rfl ?_ U;have hw:IntKind.i64.wrap (0-n) = -n:=by rw[wrap_i64 aa aa];omega
 have hm:(if -n>n then -n else n)=absI n:=by unfold absI;split<;>omega
 simp only[Tryz.f38,simprocAttr,zK,Vq,jai,hw,hm];rfl
theorem jpv {vv:V}{xs:List Int}(hx:W.IsI vv xs)(hl:xs.length<=100000)(hb:∀x∈xs,-1000000000<=x/\x<=1000000000)(U:S):jaf env (ev env) 42 [vv] U=some (.int .i64 (sumI xs),U):=by
 refine jaj (by simp[W.closed_I hx]) at42 rfl ?_ U;have hlen:=W.len_I hx;simp only[Tryz.f42,simprocAttr,zK,Vq,jai]
 refine jav (λm T D U'=>D=[]/\U'=⟨[],[]⟩/\T 0=vv/\∃i:Nat,T 4=.int .i64 i/\T 3=.int .i64 (sumI (xs.take i))/\i<=xs.length/\m=xs.length-i) ?_ (xs.length-0) _ _ _
  ⟨rfl,rfl,rfl,0,rfl,rfl,Qr _,rfl⟩
 rintro m T D U' ⟨rfl,rfl,t0,i,t4,t3,hi,rfl⟩;refine jaC ?_;by_cases hlt:i<xs.length
 ·have c1:((i:Int)<(xs.length:Int))=True:=eq_true aa;have e1:IntKind.i64.wrap ((i:Int)+1)=((i+1:Nat):Int):=by rw[wrap_i64 aa aa];omega
  have b2:=hb (xs.getD i 0) (by simp[List.getD,hlt]);have b3:=jqy (d:=1000000000) af hb i;have e2:IntKind.i64.wrap (sumI (xs.take i)+xs.getD i 0)=sumI (xs.take (i+1)):=by rw[jsX hlt,wrap_i64 aa aa]
  have hix:=W.idx_I hx hlt;simp only[simprocAttr,yK,Vq,hlen,t0,t3,t4,c1,e1,e2,hix,jar];exact⟨xs.length-(i+1),aa,i+1,rfl,rfl,aa,rfl⟩
 ·have hie:i=xs.length:=by omega
  subst hie;have c1:((xs.length:Int)<(xs.length:Int))=False:=eq_false aa;rw[Jp]at t3;simp only[simprocAttr,zK,Vq,hlen,t0,t3,t4,c1];rfl
theorem jkh {x y:List Int}{i:Nat}:sumI ((List.range (i+1)).map λj=>absI (x.getD j 0-y.getD j 0))=sumI ((List.range i).map λj=>absI (x.getD j 0-y.getD j 0))+absI (x.getD i 0-y.getD i 0):=by
 rw[List.range_succ,Jn,jkY];show _+sumI [_]=_;rw[jb3];show _+(absI (x.getD i 0-y.getD i 0)+0)=_;rw[Int.add_zero]
theorem jki {u v:V}{xs ys:List Int}(hx:W.IsI u xs)(hy:W.IsI v ys)(hl:xs.length=ys.length)(hn:xs.length<=100000)(hb:∀i,i<xs.length->(-1000000000000<=xs.getD i 0/\xs.getD i 0<=1000000000000) /\ -1000000000000<=ys.getD i 0/\ys.getD i 0<=1000000000000)(U:S):jaf env (ev env) 44 [u,v] U=some (.int .i64 (jek xs ys),U):=by
 refine jaj (by rw[Kr,W.closed_I hx,Kr,W.closed_I hy];rfl) at44 rfl ?_ U;have lx:=W.len_I hx;have ly:=W.len_I hy;rw[<- hl]at ly
 have hA:∀i,i<=xs.length->0<=sumI ((List.range i).map λj=>absI (xs.getD j 0-ys.getD j 0))/\sumI ((List.range i).map λj=>absI (xs.getD j 0-ys.getD j 0))<=2000000000000*i:=λi=>by
  induction i with
  |zero=>intro _;simp[sumI]
  |succ i ih =>
   intro h;have h1:=ih aa;have h2:=hb i aa;rw[jkh];have:absI (xs.getD i 0-ys.getD i 0)<=2000000000000/\0<=absI (xs.getD i 0-ys.getD i 0):=by unfold absI;omega
   omega
 generalize hr:jek xs ys=r;simp only[Tryz.f44,simprocAttr,zK,Vq,jai]
 refine jav (λm T D U'=>D=[]/\U'=⟨[],[]⟩/\T 0=u/\T 1=v/\∃i:Nat,T 6=.int .i64 i/\T 5=.int .i64 (sumI ((List.range i).map λj=>absI (xs.getD j 0-ys.getD j 0)))/\i<=xs.length/\m=xs.length-i) ?_ (xs.length-0) _ _ _
  ⟨rfl,rfl,rfl,rfl,0,rfl,rfl,Qr _,rfl⟩
 rintro m T D U' ⟨rfl,rfl,t0,t1,i,t6,t5,hi,rfl⟩;refine jaC ?_;by_cases hlt:i<xs.length
 ·have c1:((i:Int)<(xs.length:Int))=True:=eq_true aa;have e1:IntKind.i64.wrap ((i:Int)+1)=((i+1:Nat):Int):=by rw[wrap_i64 aa aa];omega
  have b:=hb i hlt;have e0:IntKind.i64.wrap (xs.getD i 0-ys.getD i 0)=xs.getD i 0-ys.getD i 0:=wrap_i64 aa aa;have hab:=jlc (n:=xs.getD i 0-ys.getD i 0) aa;have h1:=hA i hi;have h2:=hA (i+1) aa
  have e2:IntKind.i64.wrap (sumI ((List.range i).map λj=>absI (xs.getD j 0-ys.getD j 0))+absI (xs.getD i 0-ys.getD i 0))=sumI ((List.range (i+1)).map λj=>absI (xs.getD j 0-ys.getD j 0)):=by
   rw[jkh]at h2 ⊢;exact wrap_i64 aa aa
  have ix:=W.idx_I hx hlt;have iy:=W.idx_I hy (show i<ys.length by omega);simp only[simprocAttr,yK,Vq,lx,ly,t0,t1,t5,t6,c1,e0,e1,hab,e2,ix,iy,jar];exact⟨ac,xs.length-(i+1),aa,i+1,rfl,rfl,aa,rfl⟩
 ·have hie:i=xs.length:=by omega
  subst hie;have c1:((xs.length:Int)<(xs.length:Int))=False:=eq_false aa;have e:jek xs ys=sumI ((List.range xs.length).map λj=>absI (xs.getD j 0-ys.getD j 0)):=by unfold jek;rw[<- hl,Nat.min_self]
  rw[<- e,hr]at t5;simp only[simprocAttr,zK,Vq,lx,ly,t0,t1,t5,t6,c1];rfl
open B (TOK BOK sv svV cpS vpQ tbN FitQ jdH jaY nbL woT cpT oneB accX jgt jjt widX jdc jhO jbw iV)
section
variable {cs:List Col}{tbs:List Tb}{Q:Qy}{fe:Int}
theorem juh(h:BaseG cs tbs)(hF:FitQ tbs Q fe)(hp:(tbN tbs Q.table).s.pub=false)(o:Int):accX Q (sv tbs) fe/\(cnt o (vpQ tbs Q).view:Int)<=jgt Q (sv tbs):=by
 have hK:=jaY hF.2;obtain⟨t1,_,_⟩:=jsM h hK.tab;obtain⟨hg,hl⟩:=h.r _ t1;obtain⟨_,_,_,_,h4,_,_⟩:=B.tbN_spec hK.tab;refine⟨⟨hF.2,?_⟩,?_⟩
 ·unfold K.privX;refine decide_eq_true ⟨hK.all,hK.tab,?_⟩;rw[h4];exact hp
 have hj:∀oo pub left right limit,(vpQ tbs Q).jn=some (oo,pub,left,right,limit)->Q.other ≠ []/\limit=Q.limit/\oo=(tbN tbs Q.other).rows.map Rw.pl/\pub=(tbN tbs Q.other).s.pub:=λoo pub left right limit e=>by
  unfold vpQ at e;by_cases ho:Q.other=[]
  ·simp only[ho,Kl]at e;cases e
  ·simp only[ho,Kn,Ki,Kz]at e;exact⟨ho,e.2.2.2.2.symm,e.1.symm,e.2.1.symm⟩
 have hv:=VP.view_cnt (vpQ tbs Q) (w:=o) (many:=(tbN tbs Q.table).s.many) (many2:=(tbN tbs Q.other).s.many) (hg.m hp o) hK.keep.1 λoo pub left right limit e=>by
  obtain⟨ho,e1,e2,e3⟩:=hj _ _ _ _ _ e;refine⟨by rw[e1];have:=(hK.other ho).2.2.2.1;omega,λhpub => ?_⟩;rw[e2];rw[e3]at hpub;obtain⟨u1,_,_⟩:=jsM h (hK.other ho).1;exact(h.r _ u1).1.m hpub o
 refine X9 hv (Int.le_of_eq ?_)
 have eA:(if Q.keep=0 then(tbN tbs Q.table).s.many else min Q.keep (tbN tbs Q.table).s.many)=B.lessX Q.keep (schN (sv tbs) Q.table).many:=by
  rw[h4];show _=B.lessX Q.keep (tbN tbs Q.table).s.many;unfold B.lessX;by_cases e:Q.keep=0
  ·rw[Kg e,Kg (.inl e)]
  ·rw[Ke e];by_cases e2:(tbN tbs Q.table).s.many<Q.keep
   ·rw[Kg (.inr e2)];omega
   ·rw[Ke (λq=>q.elim e e2)];omega
 unfold VP.most jgt;show(if Q.keep=0 then(tbN tbs Q.table).s.many else min Q.keep (tbN tbs Q.table).s.many)*_=_;rw[eA];by_cases ho:Q.other=[]
 ·rw[Kg ho];have e:(vpQ tbs Q).jn=none:=by unfold vpQ;simp only[ho,Kl]
  rw[e];show _*1=_;rw[Int.mul_one]
 ·rw[Ke ho];obtain⟨_,_,_,_,g4,_,_⟩:=B.tbN_spec (hK.other ho).1;have e:(vpQ tbs Q).jn=some ((tbN tbs Q.other).rows.map Rw.pl,(tbN tbs Q.other).s.pub,B.ixL tbs Q,B.ixR tbs Q,Q.limit):=by unfold vpQ;simp only[ho,Kn]
  rw[e,g4];rfl
noncomputable def valR(cs:List Col)(Q:Qy)(r:PR):Int:=max Q.lo (min Q.hi (W.valueV Q.ex cs r.2))
theorem jld(tbs:List Tb)(Q:Qy):jdc tbs Q=(vpQ tbs Q).view.map (valR (jaD Q (sv tbs)) Q):=rfl
theorem jgZ(tbs:List Tb)(Q:Qy)(am:PR->Int):jbw tbs Q ((vpQ tbs Q).view.map am)=jcl (B.widQ (jaD Q (sv tbs)) Q) (B.cellI (jaD Q (sv tbs)) (B.colI (jaD Q (sv tbs)) Q)) am (vpQ tbs Q).view:=by
 unfold jbw jcl;rw[List.zip_map']
theorem jia(X:List PR):List.replicate X.length (1:Int)=X.map λ_=>1:=by rw[Tj]
def farB(Q:Qy):Int:=max (max Q.lo (-Q.lo)) (max Q.hi (-Q.hi))
theorem jui(hk:Q.kind=2\/Q.kind=4):jjt Q (sv tbs)=max 1 (jgt Q (sv tbs)*farB Q):=by
 unfold jjt B.sensK farB;rw[Ke aa,Ke aa,Ke aa,Ke aa,Kg hk]
section
variable {o:Int}{x:Bool}{X:List PR}{R:Int}(hR:0<=R)(hc:x=true->(cnt o X:Int)<=R)
include hR hc
theorem juj:absI ((X.length:Int)-(woB o x X).length)<=R:=by
 cases x with
 |false=>show absI ((X.length:Int)-X.length)<=R;rw[Int.sub_self];exact hR
 |true =>
  have h1:=juE o X;have h2:=hc rfl;show absI ((X.length:Int)-(wo o X).length)<=R;unfold absI;omega
theorem juk {B:Int}(hB:0<=B)(g:PR->Int)(hg:∀r∈X,absI (g r)<=B):absI (sumI (X.map g)-sumI ((woB o x X).map g))<=R*B:=by
 cases x with
 |false=>show absI (sumI (X.map g)-sumI (X.map g))<=_;rw[Int.sub_self];exact Int.mul_nonneg hR hB
 |true =>
  exact X9 (jxt g o B X λr hr _=>hg r hr) (V7 (hc rfl) hB)
theorem jkj {B:Int}(hB:0<=B)(w:Nat)(ix:PR->Nat)(am:PR->Int)(hg:∀r∈X,absI (am r)<=B):jek (jcl w ix am X) (jcl w ix am (woB o x X))<=R*B:=by
 cases x with
 |false=>show jek _ (jcl w ix am X)<=_;rw[jqx];exact Int.mul_nonneg hR hB
 |true =>
  exact X9 (joi w ix am o hB X λr hr _=>hg r hr) (V7 (hc rfl) hB)
theorem js1(w:Nat)(ix:PR->Nat){i:Nat}(hi:i<w):(jcl w ix (λ_=>1) (woB o x X)).getD i 0<=(jcl w ix (λ_=>1) X).getD i 0/\(jcl w ix (λ_=>1) X).getD i 0-R<=(jcl w ix (λ_=>1) (woB o x X)).getD i 0:=by
 cases x with
 |false=>show(jcl w ix (λ_=>1) X).getD i 0<=_/\_;exact⟨J5 _,by show(jcl w ix (λ_=>1) X).getD i 0-R<=(jcl w ix (λ_=>1) X).getD i 0;omega⟩
 |true =>
  have h:=jqw w ix o X hi;have h2:=hc rfl;show(jcl w ix (λ_=>1) (wo o X)).getD i 0<=_/\_<=(jcl w ix (λ_=>1) (wo o X)).getD i 0;omega
end
end
section
variable {cs:List Col}{tbs:List Tb}{Q:Qy}{fe:Int}
open Classical in
noncomputable def jjg(Q:Qy)(ss:List Sch)(fe:Int):Int:=if accX Q ss fe then jgt Q ss else 0
open Classical in
noncomputable def jmO(Q:Qy)(ss:List Sch)(fe:Int):Int:=if accX Q ss fe then jjt Q ss else 0
theorem jpw(h:BaseG cs tbs):0<=jjg Q (sv tbs) fe/\jjg Q (sv tbs) fe<=50000:=by
 unfold jjg;split
 ·rename_i a;exact B.rows_in (jlb h) a
 ·omega
theorem jwc {a b:Int}(ha:0<=a)(hb:0<=b):0<=a*b:=Int.mul_nonneg ha hb
theorem jpx(h:BaseG cs tbs):0<=jmO Q (sv tbs) fe:=by
 unfold jmO;split
 ·rename_i a;have hr:=(B.rows_in (jlb h) a).1;have hw:=B.wid_in (ok1 h) a;unfold jjt B.sensK;split
  ·split<;>omega
  split
  ·rename_i k5;have:=(B.lim_in a).2 k5;exact jwc hr aa
  split
  ·exact jwc hr aa
  split
  ·refine jwc hr ?_;split
   ·omega
   split<;>omega
  split<;>omega
 ·exact J5 _
theorem jmP(h:BaseG cs tbs)(hk:Q.kind=2\/Q.kind=4):jjg Q (sv tbs) fe*farB Q<=jmO Q (sv tbs) fe:=by
 unfold jjg jmO;split
 ·rw[jui hk];omega
 ·rw[Int.zero_mul];exact J5 _
structure SbF (Q:Qy) (nx ny:Nat) (vx vy cx cy tx ty:List Int) (R S:Int):Prop where
 fl:nx<=600/\ny<=600
 fa:absI ((nx:Int)-ny)<=R
 fr:0<=R/\R<=50000
 fv:(vx.length<=600/\∀x∈vx,-1000000000<=x/\x<=1000000000)/\vy.length<=600/\∀x∈vy,-1000000000<=x/\x<=1000000000
 fs:Q.kind=2->absI (sumI vx-sumI vy)<=S
 fc:cx.length=cy.length/\cx.length<=64/\(∀x∈cx,-1000000000<=x/\x<=1000000000)/\∀x∈cy,-1000000000<=x/\x<=1000000000
 ft:tx.length=ty.length/\tx.length<=64/\(∀x∈tx,-1000000000<=x/\x<=1000000000)/\∀x∈ty,-1000000000<=x/\x<=1000000000
 fca:jek cx cy<=R
 fta:jek tx ty<=S
 ff:∀i,i<cx.length->cy.getD i 0<=cx.getD i 0/\cx.getD i 0-R<=cy.getD i 0
theorem jmQ(h:BaseG cs tbs)(hF:FitQ tbs Q fe)(o:Int)(k:Nat)(one:Bool):FitQ (nbL o k one tbs) Q fe /\
  SbF Q (vpQ tbs Q).view.length (vpQ (nbL o k one tbs) Q).view.length (if valK Q.kind then jdc tbs Q else []) (if valK Q.kind then jdc (nbL o k one tbs) Q else [])
   (if Q.column ≠ []then jbw tbs Q (List.replicate (vpQ tbs Q).view.length 1)else []) (if Q.column ≠ []then jbw (nbL o k one tbs) Q (List.replicate (vpQ (nbL o k one tbs) Q).view.length 1)else [])
   (if Q.kind=4 then jbw tbs Q (jdc tbs Q)else []) (if Q.kind=4 then jbw (nbL o k one tbs) Q (jdc (nbL o k one tbs) Q)else []) (jjg Q (sv tbs) fe) (jmO Q (sv tbs) fe):=by
 obtain⟨hl,hi⟩:=jjf (tbs:=tbs) o k one;have hN:=jmM h hl λi h=>(hi i h).1
 have hsv:=jop hl λi h=>(hi i h).1
 have hFN:FitQ (nbL o k one tbs) Q fe:=⟨(jja hN).2,by rw[hsv];exact hF.2⟩;obtain⟨x,hv,hx,_⟩:=jwb h hF o k one;have hR:=jpw (Q:=Q) (fe:=fe) h;have hS:=jpx (Q:=Q) (fe:=fe) h
 have hc:x=true->(cnt o (vpQ tbs Q).view:Int)<=jjg Q (sv tbs) fe:=λe=>by
  obtain⟨a,b⟩:=juh h hF (hx e) o;unfold jjg;rw[Kg a];exact b
 obtain⟨f1,_⟩:=B.val_facts hF;obtain⟨_,_,g3⟩:=B.fit_col hF (ok1 h);have k4:Q.kind=4->valK Q.kind/\Q.column ≠ []:=λe=>⟨.inr (.inl e),λa=>(B.fit_col hF (ok1 h)).1.1 a (by rw[e];unfold colK;omega)⟩
 have far0:0<=farB Q:=by unfold farB;omega
 have hg:valK Q.kind->∀r∈(vpQ tbs Q).view,absI (valR (jaD Q (sv tbs)) Q r)<=farB Q:=λk r _=>by
  have:=f1 k;unfold absI valR farB;omega
 have one1:∀r∈(vpQ tbs Q).view,absI ((λ_:PR=>(1:Int)) r)<=1:=λ_ _=>by show absI 1<=1;decide
 have hvb:∀{l:List Tb},FitQ l Q fe->valK Q.kind->∀x∈jdc l Q,-1000000<=x/\x<=1000000:=λhF k x hx=>by
  have:=B.vals_in hF k x hx;have:=f1 k;omega
 have hcb:∀{l:List Tb} {d:Int},BaseG cs l->FitQ l Q fe->0<=d->d*600<=1000000000->∀{xs:List Int},(∀x∈xs,-d<=x/\x<=d)->xs.length=(vpQ l Q).view.length->∀x∈jbw l Q xs,-1000000000<=x/\x<=1000000000:=λ{l d} h hF hd hd2 {xs} hx hl x hxm=>by
  have:=jue h hF hd hx hl x hxm;omega
 have ones:∀n,∀x∈List.replicate n (1:Int),-1<=x/\x<=1:=λn x hx=>by rw[List.eq_of_mem_replicate hx];decide
 have eN:jbw (nbL o k one tbs) Q=λxs=>jb7 (B.widQ (jaD Q (sv tbs)) Q) ((((vpQ (nbL o k one tbs) Q).view).map (B.cellI (jaD Q (sv tbs)) (B.colI (jaD Q (sv tbs)) Q))).zip xs):=by
  funext xs;unfold jbw;rw[hsv]
 have cN:∀am:PR->Int,jbw (nbL o k one tbs) Q ((vpQ (nbL o k one tbs) Q).view.map am)=jcl (B.widQ (jaD Q (sv tbs)) Q) (B.cellI (jaD Q (sv tbs)) (B.colI (jaD Q (sv tbs)) Q)) am (woB o x (vpQ tbs Q).view):=λam=>by
  rw[jgZ,hsv,hv]
 have vN:jdc (nbL o k one tbs) Q=(vpQ (nbL o k one tbs) Q).view.map (valR (jaD Q (sv tbs)) Q):=by rw[jld,hsv]
 refine⟨hFN,⟨jgY h hF,jgY hN hFN⟩,?_,hR,⟨⟨?_,?_⟩,?_,?_⟩,?_,⟨?_,?_,?_,?_⟩,⟨?_,?_,?_,?_⟩,?_,?_,?_⟩
 ·rw[hv];exact juj hR.1 hc
 ·split
  ·rw[B.vals_len];exact jgY h hF
  ·simp
 ·split
  ·rename_i k;exact λx hx=>by have:=hvb hF k x hx;omega
  ·exact λx hx=>by cases hx
 ·split
  ·rw[B.vals_len];exact jgY hN hFN
  ·simp
 ·split
  ·rename_i k;exact λx hx=>by have:=hvb hFN k x hx;omega
  ·exact λx hx=>by cases hx
 ·intro k2;have kv:valK Q.kind:=.inl k2;rw[Kg kv,Kg kv,vN,jld,hv];exact X9 (juk hR.1 hc far0 _ (hg kv)) (jmP h (.inl k2))
 ·split
  ·rw[jds,jds,hsv]
  ·rfl
 ·split
  ·rename_i c;rw[jds];exact(g3 c).2.2
  ·simp
 ·split
  ·exact hcb h hF af af (ones _) ae
  ·exact λx hx=>by cases hx
 ·split
  ·exact hcb hN hFN af af (ones _) ae
  ·exact λx hx=>by cases hx
 ·split
  ·rw[jds,jds,hsv]
  ·rfl
 ·split
  ·rename_i c;rw[jds];exact(g3 (k4 c).2).2.2
  ·simp
 ·split
  ·rename_i c;exact hcb (d:=1000000) h hF af af (hvb hF (k4 c).1) (B.vals_len _ _)
  ·exact λx hx=>by cases hx
 ·split
  ·rename_i c;exact hcb (d:=1000000) hN hFN af af (hvb hFN (k4 c).1) (B.vals_len _ _)
  ·exact λx hx=>by cases hx
 ·by_cases c:Q.column ≠ []
  ·rw[Kg c,Kg c,jia,jia,jgZ,cN];have:=jkj hR.1 hc (B:=1) af (B.widQ (jaD Q (sv tbs)) Q) (B.cellI (jaD Q (sv tbs)) (B.colI (jaD Q (sv tbs)) Q)) (λ_=>1) one1;rw[Int.mul_one]at this;exact this
  ·rw[Ke c,Ke c];exact hR.1
 ·by_cases c:Q.kind=4
  ·rw[Kg c,Kg c,vN,jld,jgZ,cN];exact X9 (jkj hR.1 hc far0 _ _ _ (hg (k4 c).1)) (jmP h (.inr c))
  ·rw[Ke c,Ke c];exact hS
 ·by_cases c:Q.column ≠ []
  ·rw[Kg c,Kg c,jia,jia,jgZ,cN];intro i hi;rw[jjd]at hi;exact js1 hR.1 hc _ _ hi
  ·rw[Ke c];intro i hi;simp at hi
end
open B (TOK BOK sv svV cpS vpQ tbN FitQ VR rwV jgU RowN iV jgW jdc jbw nbL oneB)
theorem at6:env.P.funcs[6]? = some Tryz.f6:=ac
theorem jwd(U:S):jaf env (ev env) 31 [] U=some (.bool true,U):=rfl
theorem iV_q {q p:Prop}{_:Decidable q}[Decidable p](h:q↔p)(xs:List Int):(if q then iV xs else V.nilsl)=iV (if p then xs else []):=by
 by_cases k:p
 ·rw[Kg (h.2 k),Kg k]
 ·rw[Ke (λa=>k (h.1 a)),Ke k];rfl
section
variable {Q:Post}{ks:List Kt}{u v:V}{xs ys:List Int}{T:Tm}{U:S}
theorem jmR {R:Int}(hx:W.IsI u xs)(hy:W.IsI v ys)(hl:xs.length=ys.length)(hn:xs.length<=1000)(hR:0<=R/\R<=50000)(hb:∀x∈xs,-1000000000<=x/\x<=1000000000)(hf:∀i,i<xs.length->ys.getD i 0<=xs.getD i 0/\xs.getD i 0-R<=ys.getD i 0)
  (t14:T 14=.int .i64 R) (t16:T 16=u) (t17:T 17=v) (t18:T 18=.int .i64 0)
  (h:∀T':Tm,(∀j,j<=17->T' j=T j)->G env 6 none 128 Q ks .skip T' [] U) :
  jew env 6 none 128 (jdE 0 (jaA Tryz.f6)) T [] U (Kt.post env 6 none 128 Q (.blk 0::ks)):=by
 simp only[jaA,Tryz.f6,Ku,jdE,blkC,Option.or,Nat.reduceEqDiff,Kn,Kl,reduceIte];have lx:=W.len_I hx
 refine jav (λm T' D U'=>D=[]/\U'=U/\(∀j,j<=17->T' j=T j)/\∃i:Nat,T' 18=.int .i64 i/\i<=xs.length/\m=xs.length-i) ?_ (xs.length-0) _ _ _
  ⟨rfl,rfl,λ_ _=>rfl,0,t18,Qr _,rfl⟩
 rintro m T' D U' ⟨rfl,rfl,hT,i,u18,hi,rfl⟩;have u14:=(hT 14 aa).trans t14;have u16:=(hT 16 aa).trans t16;have u17:=(hT 17 aa).trans t17;refine jaC ?_;by_cases hlt:i<xs.length
 ·have c1:((i:Int)<(xs.length:Int))=True:=eq_true aa;have e1:IntKind.i64.wrap ((i:Int)+1)=((i+1:Nat):Int):=by rw[wrap_i64 aa aa];omega
  have b1:=hb (xs.getD i 0) (by simp[List.getD,hlt]);have b2:=hf i hlt;have e2:IntKind.i64.wrap (xs.getD i 0-R)=xs.getD i 0-R:=wrap_i64 aa aa;have c2:(ys.getD i 0>xs.getD i 0)=False:=eq_false aa;have c3:(ys.getD i 0<xs.getD i 0-R)=False:=eq_false aa;have ix:=W.idx_I hx hlt;have iy:=W.idx_I hy (show i<ys.length by omega);simp only[simprocAttr,yK,Vq,ty7,lx,u14,u16,u17,u18,c1,c2,c3,e1,e2,ix,iy,jar];refine⟨ac,xs.length-(i+1),aa,λj hj => ?_,i+1,rfl,aa,rfl⟩
  repeat rw[Ke aa]
  exact hT j hj
 ·have hie:i=xs.length:=by omega
  subst hie;have c1:((xs.length:Int)<(xs.length:Int))=False:=eq_false aa;simp only[simprocAttr,zK,Vq,ty7,lx,u16,u18,c1];refine h _ λj hj => ?_
  rw[<- hT j hj];simp only[Z7];repeat rw[Ke aa]
end
section
variable {cs:List Col}{tbs:List Tb}
theorem fitN(h:BaseG cs tbs){o:Int}{k:Nat}{one:Bool}{Q:Qy}{fe:Int}:FitQ (nbL o k one tbs) Q fe->FitQ tbs Q fe:=λg=>by
 obtain⟨hl,hi⟩:=jjf (tbs:=tbs) o k one;exact⟨(jja h).2,by rw[<- jop hl λi h=>(hi i h).1];exact g.2⟩
theorem js2(h:BaseG cs tbs){q:RCap}{Q:Qy}{ev wv rv:V}{fe:Int}(hQ:WQ Q ev wv rv)(hf:K.Fac Q.factor fe)(hF:¬FitQ tbs Q fe)(U:S):jaf env (Go.Ab.ev env) 41 [.row (ja0 tbs) tbs.length q,.agg (Q.cells ev wv rv)] U=some (.nilsl,U) :=
 jmL hk41 rfl rfl h hQ q rfl rfl (λl v e w x hl hB hQ U=>by
  obtain⟨u,hu,hcall⟩:=B.view_call hB hQ hf
  rw[hcall,hu.2 (by
   rcases hl with rfl|rfl
   ·exact hF
   ·rw[fitW h];exact hF)]) U
theorem jxB(h:BaseG cs tbs){q:RCap}{Q:Qy}{ev wv rv:V}{fe:Int}(hQ:WQ Q ev wv rv)(hf:K.Fac Q.factor fe)(o:Int)(k:Nat)(one:Bool):∃(b a:V) (rb ra:List Rw) (vx vy cx cy tx ty:List Int),
  SbF Q rb.length ra.length vx vy cx cy tx ty (jjg Q (sv tbs) fe) (jmO Q (sv tbs) fe)/\IsR b rb/\IsR a ra /\
  (∀U,jaf env (Go.Ab.ev env) 41 [.row (ja0 tbs) tbs.length q,.agg (Q.cells ev wv rv)] U=some (b,U)) /\
  (∀U,jaf env (Go.Ab.ev env) 41 [.row (ja0 (nbL o k one tbs)) (nbL o k one tbs).length .unk,.agg (Q.cells ev wv rv)] U=some (a,U)) /\
  (∀U,jaf env (Go.Ab.ev env) 37 [.row (ja0 tbs) tbs.length q,.agg (Q.cells ev wv rv)] U=some (iV vx,U)) /\
  (∀U,jaf env (Go.Ab.ev env) 37 [.row (ja0 (nbL o k one tbs)) (nbL o k one tbs).length .unk,.agg (Q.cells ev wv rv)] U=some (iV vy,U)) /\
  (∀U,jaf env (Go.Ab.ev env) 43 [.row (ja0 tbs) tbs.length q,.agg (Q.cells ev wv rv)] U=some (iV cx,U)) /\
  (∀U,jaf env (Go.Ab.ev env) 43 [.row (ja0 (nbL o k one tbs)) (nbL o k one tbs).length .unk,.agg (Q.cells ev wv rv)] U=some (iV cy,U)) /\
  (∀U,jaf env (Go.Ab.ev env) 45 [.row (ja0 tbs) tbs.length q,.agg (Q.cells ev wv rv)] U=some (iV tx,U)) /\
  (∀U,jaf env (Go.Ab.ev env) 45 [.row (ja0 (nbL o k one tbs)) (nbL o k one tbs).length .unk,.agg (Q.cells ev wv rv)] U=some (iV ty,U)):=by
 obtain⟨hl2,hi2⟩:=jjf (tbs:=tbs) o k one;have hb2:=jmM h hl2 λi h=>(hi2 i h).1
 have hR:=jpw (Q:=Q) (fe:=fe) h;have hS:=jpx (Q:=Q) (fe:=fe) h;by_cases hF:FitQ tbs Q fe
 ·obtain⟨hFN,f⟩:=jmQ h hF o k one;obtain⟨bv,hbv,hV⟩:=juJ (q:=q) h hQ hf hF;obtain⟨rb,rb1,rb2,rb3,rb4⟩:=VR.rows hbv;obtain⟨av,hav,hV2⟩:=juJ (q:=.unk) hb2 hQ hf hFN;obtain⟨ra,ra1,ra2,ra3,ra4⟩:=VR.rows hav;rw[show(vpQ tbs Q).view.length=rb.length by rw[<- rb4,Qn],show(vpQ (nbL o k one tbs) Q).view.length=ra.length by rw[<- ra4,Qn]]at f;refine⟨bv,av,rb,ra,_,_,_,_,_,_,f,rb1,ra1,hV,hV2,λU => ?_,λU => ?_,λU => ?_,λU => ?_,λU => ?_,λU => ?_⟩
  ·rw[jh7 h hQ hf];simp only[hF,and_true];rw[iV_q Iff.rfl]
  ·rw[jh7 hb2 hQ hf];simp only[hFN,and_true];rw[iV_q Iff.rfl]
  ·rw[jh8 h hQ hf,<- rb4,Qn];simp only[hF,true_and];rw[iV_q Iff.rfl]
  ·rw[jh8 hb2 hQ hf,<- ra4,Qn];simp only[hFN,true_and];rw[iV_q Iff.rfl]
  ·rw[jh9 h hQ hf];simp only[hF,true_and];rw[iV_q Iff.rfl]
  ·rw[jh9 hb2 hQ hf];simp only[hFN,true_and];rw[iV_q Iff.rfl]
 ·have hFN:¬FitQ (nbL o k one tbs) Q fe:=λa=>hF (fitN h a)
  have n0:∀x∈([]:List Int),-1000000000<=x/\x<=1000000000:=λx hx=>by cases hx
  refine⟨.nilsl,.nilsl,[],[],[],[],[],[],[],[],⟨af,hR.1,hR,⟨⟨af,n0⟩,af,n0⟩,λ_=>hS,⟨rfl,af,n0,n0⟩,⟨rfl,af,n0,n0⟩,hR.1,hS,λi hi=>by simp at hi⟩,.inl ⟨rfl,rfl⟩,.inl ⟨rfl,rfl⟩,js2 h hQ hf hF,js2 hb2 hQ hf hFN,λU => ?_,λU => ?_,λU => ?_,λU => ?_,λU => ?_,λU => ?_⟩
  ·rw[jh7 h hQ hf,Ke λa=>hF a.2];rfl
  ·rw[jh7 hb2 hQ hf,Ke λa=>hFN a.2];rfl
  ·rw[jh8 h hQ hf,Ke λa=>hF a.1];rfl
  ·rw[jh8 hb2 hQ hf,Ke λa=>hFN a.1];rfl
  ·rw[jh9 h hQ hf,Ke λa=>hF a.1];rfl
  ·rw[jh9 hb2 hQ hf,Ke λa=>hFN a.1];rfl
end
theorem jmS {xv yv:V}{xs ys:List Int}(Kx:Tk xv xs)(Ky:Tk yv ys){ow wh:Int}(ho:In64 ow)(hw:In64 wh):Go.Ab.Found env 6 [xv,yv,.int .i64 ow,.int .i64 wh]:=by
 refine jlR at6 rfl ?_;obtain⟨v,U1,hB,L1,ts1,cs,tbs,q,rfl,rfl,hb,x1,l1,k1⟩:=jsI Kx [] [];have hS:=joh (q:=q) hb;obtain⟨v,U2,hQ,Q,ev,wv,rv,M,ts2,rfl,rfl,g,ge,gw,gr,x2,hML,hMk⟩:=jqd (q:=.unk) Ky hb.kitSv.kb L1 ts1;have hlen:=jtX g;obtain⟨fa,fl⟩:=jvU hlen.2.2.2;have wq:WQ Q ev wv rv:=⟨.of ge,.of gw,.of gr,⟨hlen.1,hlen.2.1,hlen.2.2.1⟩,aa⟩;have hbl:=hb.len;have hP:=pick_call ow 6 ho (by simp[In64]) af;have e6:IntKind.i64.wrap (1+ow % 6)=1+ow % 6:=wrap_i64 aa aa;obtain⟨k,hk⟩:∃k:Nat,wh % ((tbs.length:Int)+1)=k:=⟨(wh % ((tbs.length:Int)+1)).toNat,by have:=Int.emod_nonneg wh (show(tbs.length:Int)+1 ≠ 0 by omega);omega⟩;have hNb:=joq hb wq q (1+ow % 6) wh hw hk;obtain⟨bv,av,rb,ra,vx,vy,cx,cy,tx,ty,hF,rb1,ra1,hV,hV2,hVal,hVal2,hCnt,hCnt2,hTot,hTot2⟩:=jxB (q:=q) hb wq fa (1+ow % 6) k (oneB tbs Q k);generalize nbL (1+ow % 6) k (oneB tbs Q k) tbs=nb at hNb hV2 hVal2 hCnt2 hTot2;have hRow:∀U,jaf env (Go.Ab.ev env) 40 [.agg (Q.cells ev wv rv),.row (ja9 (sv tbs)) (sv tbs).length .unk] U=some (.int .i64 (jjg Q (sv tbs) 0),U):=jxz hb wq fa;have hSen:∀U,jaf env (Go.Ab.ev env) 36 [.agg (Q.cells ev wv rv),.row (ja9 (sv tbs)) (sv tbs).length .unk] U=some (.int .i64 (jmO Q (sv tbs) 0),U):=jxA hb wq fa;generalize jjg Q (sv tbs) 0=R at hF hRow;generalize jmO Q (sv tbs) 0=Sn at hF hSen;obtain⟨⟨f1,f2⟩,fa1,fr,⟨⟨v1,v2⟩,v3,v4⟩,fs,⟨c1,c2,c3,c4⟩,⟨t1,t2,t3,t4⟩,fca,fta,ff⟩:=hF;have ksum:=λ(l:List Int) (n:Nat) (hl:l.length<=n) (hb:∀x∈l,-1000000000<=x/\x<=1000000000)=>joo (B:=1000000000) af l hb
 have s1:=ksum vx _ v1 v2;have s2:=ksum vy _ v3 v4;have kn:=jwd;have lB:=jhN rb1 70;have lA:=jhN ra1 70;have lcx:=W.len_I (jgW cx);have lcy:=W.len_I (jgW cy);have x1c:=wq.e.nv hlen.1 |>.cell.2
 have x2c:=wq.w.nv hlen.2.1 |>.cell.2
 have x3c:=wq.r.rg hlen.2.2.1 |>.cell.2
 have w1:IntKind.i64.wrap ((rb.length:Int)-(ra.length:Int))=(rb.length:Int)-ra.length:=wrap_i64 aa aa;have w2:IntKind.i64.wrap (sumI vx-sumI vy)=sumI vx-sumI vy:=wrap_i64 aa aa;have a1:=jlc (n:=(rb.length:Int)-ra.length) aa;have a2:=jlc (n:=sumI vx-sumI vy) aa;have q1:=jpv (jgW vx) aa v2;have q2:=jpv (jgW vy) aa v4
 have gb:∀(l:List Int) (hb:∀x∈l,-1000000000<=x/\x<=1000000000) (i:Nat),-1000000000000<=l.getD i 0/\l.getD i 0<=1000000000000:=λl hb i=>by
  by_cases h:i<l.length
  ·have:=hb (l.getD i 0) (by simp[List.getD,h]);omega
  ·rw[show l.getD i 0=0 by simp[List.getD,h]];omega
 have p1:=jki (jgW cx) (jgW cy) c1 aa λi _=>⟨gb _ c3 i,gb _ c4 i⟩
 have p2:=jki (jgW tx) (jgW ty) t1 aa λi _=>⟨gb _ t3 i,gb _ t4 i⟩
 have d1:(absI ((rb.length:Int)-ra.length)>R)=False:=eq_false aa;have d3:((cx.length:Int)=(cy.length:Int))=True:=eq_true aa;have d4:(jek cx cy>R)=False:=eq_false aa;have d5:(jek tx ty>Sn)=False:=eq_false aa;have ldG:=jAh;unfold Qy.cells at hV hV2 hVal hVal2 hCnt hCnt2 hTot hTot2 hRow hSen hNb hQ;by_cases hk2:Q.kind=2
 ·have d2:=eq_true hk2;have d6:(absI (sumI vx-sumI vy)>Sn)=False:=eq_false (by have:=fs hk2;omega);simp only[Tryz.f6,simprocAttr,zK,K0,jaa,jai,ty7,kn,hB,hS,hQ,al1,uq,fo30,zq,YW,YH,jad,jan,Qf,x1c,x2c,x3c,ldG,hP,e6,hNb,hRow,hSen,hV,hV2,lB,lA,w1,a1,d1,d2,hVal,hVal2,q1,q2,w2,a2,d6,hCnt,hCnt2,lcx,lcy,d3,p1,d4,hTot,hTot2,p2,d5,not_true_eq_false,Jc];refine⟨ac,ac,ac,ac,ac,ac,jmR (jgW cx) (jgW cy) c1 aa fr c3 ff rfl rfl rfl rfl λT1 a0 => ?_⟩;have v9:T1 9=.bool true:=a0 9 aa;simp only[simprocAttr,zK,Vq,v9];rfl
 ·have d2:=eq_false hk2;simp only[Tryz.f6,simprocAttr,zK,K0,jaa,jai,ty7,kn,hB,hS,hQ,al1,uq,fo30,zq,YW,YH,jad,jan,Qf,x1c,x2c,x3c,ldG,hP,e6,hNb,hRow,hSen,hV,hV2,lB,lA,w1,a1,d1,d2,hCnt,hCnt2,lcx,lcy,d3,p1,d4,hTot,hTot2,p2,d5,not_true_eq_false,Jc];refine⟨ac,ac,ac,ac,ac,ac,jmR (jgW cx) (jgW cy) c1 aa fr c3 ff rfl rfl rfl rfl λT1 a0 => ?_⟩;have v9:T1 9=.bool true:=a0 9 aa;simp only[simprocAttr,zK,Vq,v9];rfl
end Go.Proofs.YtajaampgajieeaaGreatDoor.N
namespace Go.Proofs.YtajaampgajieeaaGreatDoor
open Go.Ab
theorem K.env_ok_of(hR:∀f,memN f K.rowsL=true->jcG K.env f [] (.bool true)):K.env.Ok :=
  { mixed:=by kernel_rfl
    glc:=jjM
    hook := λf g h=>by
      simp only[K.env,K.hookK]at h;split at h
      · rename_i hf
        simp only[Ki]at h;subst h;intro args v hv;unfold K.hookT at hv;split at hv
        · simp only[Ki]at hv
          subst hv;exact hR f hf
        · simp at hv
      · split at h
        · simp only[Ki]at h
          subst h;intro args v hv O U w xs hw hg hx;exact jdO YtajaampgajieeaaGreatDoor.env_ok hv hw hg hx
        · split at h
          · simp only[Ki]at h
            subst h;intro args v hv O U w xs hw hg hx;exact jdO F.env_ok hv hw hg hx
          · simp at h }
theorem B.env_ok_of(hR:∀f,memN f K.rowsL=true->jcG K.env f [] (.bool true)):B.env.Ok :=
  { mixed:=by kernel_rfl
    glc:=jjM
    hook := λf g h=>by
      simp only[B.env,B.hookB]at h;split at h
      · simp only[Ki]at h
        subst h;intro args v hv O U w xs hw hg hx;exact jdO YtajaampgajieeaaGreatDoor.env_ok hv hw hg hx
      · split at h
        · simp only[Ki]at h
          subst h;intro args v hv O U w xs hw hg hx;exact jdO (K.env_ok_of hR) hv hw hg hx
        · split at h
          · simp only[Ki]at h
            subst h;intro args v hv O U w xs hw hg hx;exact jdO W.env_ok hv hw hg hx
          · simp at h }
theorem N.env_ok_of(hR:∀f,memN f K.rowsL=true->jcG K.env f [] (.bool true)):N.env.Ok :=
  { mixed:=by kernel_rfl
    glc:=jjM
    hook := fun f g h=>by
      simp only[N.env,N.hookN]at h;split at h
      · rename_i hf
        simp only[Ki]at h;subst h;intro args v hv;unfold K.hookT at hv;split at hv
        · simp only[Ki]at hv
          subst hv;exact hR f hf
        · simp at hv
      · split at h
        · simp only[Ki]at h
          subst h;intro args v hv O U w xs hw hg hx;exact jdO YtajaampgajieeaaGreatDoor.env_ok hv hw hg hx
        · split at h
          · simp only[Ki]at h
            subst h;intro args v hv O U w xs hw hg hx;exact jdO (K.env_ok_of hR) hv hw hg hx
          · split at h
            · simp only[Ki]at h
              subst h;intro args v hv O U w xs hw hg hx;exact jdO (B.env_ok_of hR) hv hw hg hx
            · simp at h }
namespace N
theorem env_gl {W:World}{l:List (String × DataW Unit)}(h:laidMetH Tryz.prog l W)(hp:(l.all λx=>x.2.handleName?.isNone)=true)(m0:("privhouse/schema.reserved",Rows.laid_privhouse_schema_reserved)∈l)
  (m1:("internal/strconv.uint64pow10",Rows.laid_internal_strconv_uint64pow10)∈l):GOK env (Ctx.top W):=YtajaampgajieeaaGreatDoor.env_gl h hp m0 m1
theorem u22i:env.P.underlying 22=some (.slice 3):=ac
theorem u3i:env.P.underlying 3=some (.int .i64):=ac
theorem juP:∀xs:List Int,(xs.map λx=>[V.int .i64 x]).flatten=xs.map (V.int .i64)
 | []=>rfl
 |x::xs=>by simp only[Kw,Vi,juP xs];rfl
theorem juQ {v:V}{k:Nat}(h:Tyd env.P (k+2) 22 [v]):∃xs,Tk v xs:=by
 rcases jqW h u22i with h|⟨vss,h,hl,_,ht⟩
 ·simp only[Vg,and_true]at h;exact⟨[],.inl ⟨h,rfl⟩,λx hx=>by simp at hx,ae⟩
 ·simp only[Vg,and_true]at h
  obtain⟨xs,rfl⟩:=jqX (f:=λx:{x:Int // In64 x}=>[V.int .i64 x.1]) (λx hx=>by
   obtain⟨n,rfl,h1,h2⟩:=jqV hx u3i;exact⟨⟨n,h1,h2⟩,rfl⟩) ht
  have e:(xs.map λx=>[V.int .i64 x.1])=((xs.map (·.1)).map λx=>[V.int .i64 x]):=ae;have hm:=jrK;refine⟨xs.map (·.1),.inr (.inl ?_),λx hx => ?_,by simp only[Qn]at hl ⊢;omega⟩
  ·rw[h,e,juP];simp
  ·obtain⟨y,_,rfl⟩:=Ja.1 hx;exact y.2
end N
theorem jAi {f:Nat}(h:memN f [31]=true):f=31:=by
 unfold memN at h;split at h
 ·exact U9 ‹_›
 ·simp[memN]at h
namespace N
theorem juR {v:V}{k:Nat}(h:Tyd env.P (k+1) 3 [v]):∃n,v=.int .i64 n/\In64 n:=by
 obtain⟨n,e,h1,h2⟩:=jqV h u3i;simp only[Vg,and_true]at e;exact⟨n,e,h1,h2⟩
theorem bounds_foundt {u v w x:V}(h:Tyd Tryz.prog 6 22 [u])(h2:Tyd Tryz.prog 6 22 [v])(h3:Tyd Tryz.prog 6 3 [w])(h4:Tyd Tryz.prog 6 3 [x]):Go.Ab.Found env 6 [u,v,w,x]:=by
 obtain⟨xs,hx⟩:=juQ (k:=4) h;obtain⟨ys,hy⟩:=juQ (k:=4) h2;obtain⟨a,rfl,ha⟩:=juR (k:=5) h3;obtain⟨b,rfl,hb⟩:=juR (k:=5) h4;exact jmS hx hy ha hb
end N
end Go.Proofs.YtajaampgajieeaaGreatDoor
namespace Go.Proofs.YtajaampgajieeaaGreatDoor.N
theorem env_ok:env.Ok:=env_ok_of λf h=>by
 have:=jAi h;subst this;exact r31.known_row
end Go.Proofs.YtajaampgajieeaaGreatDoor.N
