/- Proved here: the law. Conditions: each theorem's own. -/
import Derived.Test.YtajaampgajieeaaGreatDoorCpA
import Derived.Test.YtajaampgajieeaaGreatDoorSeA
import Derived.Test.YtajaampgajieeaaGreatDoorWoA
import Derived.Test.YtajaampgajieeaaGreatDoorRnB
set_option linter.unusedSimpArgs false
set_option maxHeartbeats 16000000
set_option maxRecDepth 1000000
set_option linter.unusedVariables false
set_option linter.unusedSectionVars false
namespace Go.Proofs.YtajaampgajieeaaGreatDoor.N
open Go.Ab
open B (TOK BOK sv svV cpS vpQ tbN FitQ jd1 jbw CK)
section
variable {cs:List Col}{tbs:List Tb}{Q:Qy}
end
section
variable {Q:Post}{ks:List Kt}{av bv:V}{ra rb:List Rw}
end
theorem jn8 {M:List AObj}{w:Nat}{x:AObj}(h:M[w]? = some x):M.set w x=M:=by
 refine Xv λi => ?_
 by_cases e:w=i
 ·subst e;rw[Kn (jan h),h]
 ·rw[Kg e]
section
variable {Q:Post}{ks:List Kt}{av:V}{ra:List Rw}
end
open B (TOK BOK sv svV cpS vpQ tbN FitQ VR rwV rwV_is RowN)
theorem VR.rows {n:Nat}{ps:List PR}{u:V}(h:VR n ps u):∃ws:List Rw,IsR u ws/\OkR ws/\(∀r∈ws,r.vs.length=n)/\ws.map Rw.pl=ps:=by
 obtain⟨ws,rfl,h1,h2⟩:=h;exact⟨ws,rwV_is ws,λr hr=>⟨(h1 r hr).1,(h1 r hr).2.2.1,(h1 r hr).2.2.2⟩,λr hr=>(h1 r hr).2.1,h2⟩
theorem ldG30(L:List AObj)(a0 a1 a2 a3 a4 a5 a6 a7 a8 a9 a10 a11 a12 a13 a14 a15 a16 a17 a18 a19:V):jab (L++[.cells [a0,a1,a2,a3,a4,a5,a6,a7,a8,a9,a10,a11,a12,a13,a14,a15,a16,a17,a18,a19] 30]) 20 (.ptr L.length 0)=some [a0,a1,a2,a3,a4,a5,a6,a7,a8,a9,a10,a11,a12,a13,a14,a15,a16,a17,a18,a19]:=by simp[jab]
open B (TOK BOK sv svV cpS vpQ tbN FitQ jd1 jbw iV jrA jlT jrz)
section
variable {cs:List Col}{tbs:List Tb}{Q:Qy}{ev wv rv:V}{fe:Int}
theorem fitW(h:BaseG cs tbs):FitQ (tbs.map jby) Q fe↔FitQ tbs Q fe:=by
 unfold FitQ;rw[jiI h];exact⟨λg=>⟨(jiJ h).2,g.2⟩,λg=>⟨(jiJ h.weak).2,g.2⟩⟩
theorem jwi {f:FuncId}{r:V}(hk:env.hook f=some (jbR B.env f))(hp:B.env.pure f=true)(hn:B.env.hook f=none)(h:BaseG cs tbs)(hQ:WQ Q ev wv rv)(q:RCap){rest:List V}(r1:rest.all V.closed=true)(r2:rest.map V.weak=rest)
  (H:∀l v e w x,l=tbs\/l=tbs.map jby->BOK v l->K.QV Q e w x->∀U,jaf B.env (Go.Ab.ev B.env) f (v::.agg (Q.cells e w x)::rest) U=some (r,U)) (U:S) :
  jaf env (Go.Ab.ev env) f (.row (jaV tbs) tbs.length q::.agg (Q.cells ev wv rv)::rest) U=some (r,U):=by
 refine jjg hk (jhp hp hn (λhc => ?_) ?_ ?_) _ U
 ·simp only[Ku,Qo]at hc;exact H _ _ _ _ _ (.inl rfl) (h.bok hc.1) (hQ.qv (jjG hc.2.1))
 ·have h1:=hQ.weak.closed;simp only[K7,r2,Ku,r1,agg_weak hQ,h1,jcq,(h.bokW q).closed,K6]
 ·simp only[K7,r2,jcq,agg_weak hQ];exact H _ _ _ _ _ (.inr rfl) (h.bokW q) hQ.weak
end
section
variable {cs:List Col}{tbs:List Tb}{Q:Qy}{fe:Int}
theorem jsI(h:BaseG cs tbs)(hF:FitQ tbs Q fe):(vpQ tbs Q).view.length<=600:=by
 have hK:=jbw hF.2;obtain⟨t1,_,_⟩:=jok h hK.tab;obtain⟨_,hl⟩:=h.r _ t1;have h2:=(vpQ tbs Q).view_sub.length_le
 have h3:=B.joinedL (vpQ tbs Q) λo pub left right limit e=>by
  unfold vpQ at e;by_cases ho:Q.other=[]
  ·simp only[ho,Km]at e;cases e
  ·simp only[ho,Kq,Ke,K5]at e;have:=(hK.other ho).2.2.2.2.1;omega
 have h7:(vpQ tbs Q).rows.length=(tbN tbs Q.table).rows.length:=by simp[vpQ]
 omega
end
section
variable {Q:Post}{ks:List Kt}{vv:V}{xs:List Int}{T:Tm}{U:S}
end
open B (TOK BOK sv svV cpS vpQ tbN FitQ jd1 jbw nbL woT cpT woR rwV cpR oneB)
structure LessT (t' t:Tb):Prop where
 s:t'.s=cpS t.s
 r:∃p:Rw->Bool,t'.rows=(t.rows.filter p).map cpR
 v:t'.rv=rwV t'.rows
theorem jus(t:Tb):LessT (cpT t) t:=⟨rfl,⟨λ_=>true,by rw[Ue.2 λ_ _=>rfl];rfl⟩,rfl⟩
theorem jrC(o:Int)(t:Tb):LessT (woT o t) t:=⟨rfl,⟨_,rfl⟩,rfl⟩
theorem jut(v:V):unkV (unkV v)=unkV v:=by cases v<;>rfl
theorem juu(s:Sch):cpS (cpS s)=cpS s:=by unfold cpS;simp only[jut]
theorem jrD(l:List Rw):(l.map cpR).map Rw.pl=l.map Rw.pl:=by rw[Xw];rfl
section
variable {cs:List Col}{tbs nb:List Tb}
theorem less_base(h:BaseG cs tbs)(hl:nb.length=tbs.length)(hi:∀i,i<tbs.length->LessT (nb.getD i Tb.none) (tbs.getD i Tb.none)):BaseG cs nb:=by
 have at':∀t∈nb,∃t0∈tbs,LessT t t0:=λt ht=>by
  obtain⟨i,h1,e⟩:=Jt ht;have:=hi i aa;rw[show nb.getD i Tb.none=t by simp[List.getD,h1,e]]at this;exact⟨_,Tb.mem aa,this⟩
 refine⟨⟨h.k.all,h.k.five,by have:=h.k.n;simp at this ⊢;omega,by have:=h.k.l;simp at this ⊢;omega,λi h1 => ?_⟩,λt ht => ?_,λt ht => ?_⟩
 ·have h2:i<tbs.length:=by simp at h1;omega
  have k:=h.k.at' i (by simpa using h2);have e0:(tbs.map (·.s)).getD i Sch.none=(tbs.getD i Tb.none).s:=by simp[List.getD,h2]
  have e1:(nb.map (·.s)).getD i Sch.none=(nb.getD i Tb.none).s:=by simp[List.getD,show i<nb.length by omega]
  rw[e0]at k;rw[e1,(hi i h2).s];obtain⟨q,hq⟩:=k.row;exact⟨k.nm,k.sub,k.ne,k.le,k.pb,.unk,by show unkV _=_;rw[hq];rfl⟩
 ·obtain⟨t0,h0,⟨hs,⟨p,hr⟩,_⟩⟩:=at' t ht;obtain⟨g,gl⟩:=h.r t0 h0;rw[hs,hr];refine⟨⟨λr hm => ?_,λr hm => ?_,λhp o => ?_⟩,?_⟩
  ·obtain⟨r0,hr0,rfl⟩:=Ji.1 hm;obtain⟨q,hq⟩:=g.v r0 (Xz.1 hr0).1;exact⟨.unk,by show unkV _=_;rw[hq];rfl⟩
  ·obtain⟨r0,hr0,rfl⟩:=Ji.1 hm;exact g.g r0 (Xz.1 hr0).1
  ·rw[jrD];exact Int.le_trans (Int.ofNat_le.2 (jua (List.filter_sublist.map _))) (g.m hp o)
  ·rw[Qw];exact Je (Vn _ _) gl
 ·obtain⟨t0,h0,⟨_,_,hv⟩⟩:=at' t ht;rw[hv];unfold rwV;by_cases e:t.rows=[]
  ·rw[Kj e];exact .inl ⟨rfl,e⟩
  ·rw[Kh e];exact .inr ⟨.unk,rfl⟩
theorem jni(hl:nb.length=tbs.length)(hi:∀i,i<tbs.length->LessT (nb.getD i Tb.none) (tbs.getD i Tb.none)):sv nb=sv tbs:=by
 refine Xv λi => ?_
 unfold sv;rw[J4,J4];by_cases h:i<tbs.length
 ·have:=(hi i h).s;rw[Kz h,Kz (show i<nb.length by omega)];simp only[List.getD,Kz h,Kz (show i<nb.length by omega),Kv]at this;simp only[Kw,this,juu]
 ·rw[Ql aa,Ql aa]
theorem nb_less(o:Int)(k:Nat)(one:Bool):(nbL o k one tbs).length=tbs.length/\∀i,i<tbs.length->LessT ((nbL o k one tbs).getD i Tb.none) (tbs.getD i Tb.none)/\((nbL o k one tbs).getD i Tb.none).rows.map Rw.pl=woB o (!(tbs.getD i Tb.none).s.pub && (!one ||decide (i=k))) ((tbs.getD i Tb.none).rows.map Rw.pl):=by
 have hm:∀(f:Tb->Tb) i,i<tbs.length->(tbs.map f).getD i Tb.none=f (tbs.getD i Tb.none):=λf i hi=>by simp[List.getD,hi]
 cases one with
 |false =>
  refine⟨by simp[nbL],λi hi => ?_⟩;show LessT ((tbs.map (woT o)).getD i Tb.none) _/\((tbs.map (woT o)).getD i Tb.none).rows.map Rw.pl=_;rw[hm _ i hi];refine⟨jrC o _,?_⟩;rw[Jd,Ua,Qt];exact B.woR_pl _ _ _
 | true =>
  refine⟨by simp[nbL],λi hi => ?_⟩;show LessT (((tbs.map cpT).set k (woT o (tbs.getD k Tb.none))).getD i Tb.none) _/\(((tbs.map cpT).set k (woT o (tbs.getD k Tb.none))).getD i Tb.none).rows.map Rw.pl=_;by_cases e:i=k
  ·subst e;have:((tbs.map cpT).set i (woT o (tbs.getD i Tb.none))).getD i Tb.none=woT o (tbs.getD i Tb.none):=by simp[List.getD,hi]
   rw[this,decide_eq_true rfl];refine⟨jrC o _,?_⟩;rw[Xj,Qt];exact B.woR_pl _ _ _
  ·have:((tbs.map cpT).set k (woT o (tbs.getD k Tb.none))).getD i Tb.none=cpT (tbs.getD i Tb.none):=by
    rw[<- hm cpT i hi];simp only[List.getD,Kg (Ne.symm e)]
   rw[this,decide_eq_false e];refine⟨jus _,?_⟩;rw[Q7,Xo,Un];exact jrD _
theorem juv(h:BaseG cs tbs){Q:Qy}{fe:Int}(hF:FitQ tbs Q fe)(o:Int)(k:Nat)(one:Bool):∃x:Bool,(vpQ (nbL o k one tbs) Q).view=woB o x (vpQ tbs Q).view/\(x=true->(tbN tbs Q.table).s.pub=false) /\
  x=((!(tbN tbs Q.table).s.pub && (!one ||decide (ja3 (sv tbs) Q.table (sv tbs).length 0=k))) ||(decide (Q.other ≠ []) && (!(tbN tbs Q.other).s.pub && (!one ||decide (ja3 (sv tbs) Q.other (sv tbs).length 0=k))))):=by
 obtain⟨hl,hi⟩:=nb_less (tbs:=tbs) o k one;have hK:=jbw hF.2;have hsv:=jni hl λi h=>(hi i h).1
 have tab:∀nm,0<=ja3 (sv tbs) nm (sv tbs).length 0->(tbN (nbL o k one tbs) nm).s=cpS (tbN tbs nm).s/\(tbN (nbL o k one tbs) nm).rows.map Rw.pl=woB o (!(tbN tbs nm).s.pub && (!one ||decide (ja3 (sv tbs) nm (sv tbs).length 0=k))) ((tbN tbs nm).rows.map Rw.pl):=λnm hs=>by
  obtain⟨i,h1,h2,h3,_⟩:=B.tbN_spec hs;have e:tbN (nbL o k one tbs) nm=(nbL o k one tbs).getD i Tb.none:=by unfold tbN;rw[hsv,h1,Qi]
  obtain⟨a,b⟩:=hi i h2;rw[e,h3,h1];refine⟨a.s,?_⟩;rw[b];have:decide ((i:Int)=(k:Int))=decide (i=k):=by rw[decide_eq_decide];omega
  rw[this]
 obtain⟨t1,t2⟩:=tab Q.table hK.tab;refine⟨_,?_,?_,rfl⟩
 ·have hv:vpQ (nbL o k one tbs) Q=(vpQ tbs Q).less o (!(tbN tbs Q.table).s.pub && (!one ||decide (ja3 (sv tbs) Q.table (sv tbs).length 0=k))) (!(tbN tbs Q.other).s.pub && (!one ||decide (ja3 (sv tbs) Q.other (sv tbs).length 0=k))):=by
   unfold vpQ VP.less B.ixL B.ixR;simp only;rw[t2,t1,hsv];by_cases ho:Q.other=[]
   ·simp only[ho,Km];rfl
   ·obtain⟨o1,o2⟩:=tab Q.other (hK.other ho).1;simp only[ho,Kq];rw[o2,o1];rfl
  rw[hv,VP.view_less]
  ·have:(vpQ tbs Q).jn.isSome=decide (Q.other ≠ []):=by
    unfold vpQ;by_cases ho:Q.other=[]
    ·simp only[ho,Km];rfl
    ·simp only[ho,Kq];rw[decide_eq_true (show Q.other ≠ []from ho)];rfl
   rw[this]
   congr 1
   cases decide (Q.other ≠ [])<;>simp
  ·intro x pub l r m e hb;unfold vpQ at e;by_cases ho:Q.other=[]
   ·simp only[ho,Km]at e;cases e
   ·simp only[ho,Kq,Ke,K5]at e;rw[<- e.2.1];cases hp:(tbN tbs Q.other).s.pub with
    |false=>rfl
    |true=>rw[hp]at hb;cases hb
 ·intro hx;cases hp:(tbN tbs Q.table).s.pub with
  |false=>rfl
  | true =>
   rw[hp]at hx;by_cases ho:Q.other=[]
   ·simp[ho]at hx
   ·have:=(hK.other ho).2.2.2.2.2;obtain⟨_,_,_,_,h4,_,_⟩:=B.tbN_spec hK.tab;obtain⟨_,_,_,_,g4,_,_⟩:=B.tbN_spec (hK.other ho).1;rw[h4,g4]at this;have:=this hp;have e:(tbN tbs Q.other).s.pub=true:=this;rw[e]at hx;simp at hx
end
open B (TOK BOK sv svV cpS vpQ tbN FitQ jd1 jbw nbL woT cpT woR rwV cpR oneB bsV accX jsH jur widX)
theorem jol {cs:List V}{n:Nat}{q:RCap}(h:V.weak.weakL cs=cs):unkV (V.row cs n q).weak=unkV (.row cs n q):=by simp only[V.weak,h,unkV]
section
variable {cs:List Col}{tbs:List Tb}{Q:Qy}{ev wv rv:V}{fe:Int}
theorem cpS_weak(h:BaseG cs tbs){t:Tb}(ht:t∈tbs):cpS (jby t).s=cpS t.s:=by
 obtain⟨⟨q,e⟩,ok,_⟩:=h.sch ht;show({ jf9 t.s with cv:=unkV t.s.cv.weak }:Sch)={ t.s with cv:=unkV t.s.cv };rw[e,jol (jcz ok)];rfl
theorem rows_weak(h:BaseG cs tbs){t:Tb}(ht:t∈tbs)(p:Rw->Bool)(hp:∀r,p (jiG r)=p r):(((jby t).rows.filter p).map cpR)=(t.rows.filter p).map cpR:=by
 show((t.rows.map jiG).filter p).map cpR=_;rw[List.filter_map,Xw];have e:p ∘ jiG=p:=funext hp;rw[e];refine Vx λr hr => ?_
 obtain⟨q,hq⟩:=(h.r t ht).1.v r (Xz.1 hr).1;show({ jiG r with vv:=unkV r.vv.weak }:Rw)={ r with vv:=unkV r.vv };rw[hq,jol (jdM _)];rfl
theorem nbL_weak(h:BaseG cs tbs)(o:Int)(k:Nat)(one:Bool):nbL o k one (tbs.map jby)=nbL o k one tbs:=by
 have hw:∀t∈tbs,woT o (jby t)=woT o t:=λt ht=>by
  have e:=rows_weak h ht (B.stays o t.s.pub) λ_=>rfl
  unfold woT woR;show(⟨cpS (jby t).s,rwV (((jby t).rows.filter (B.stays o t.s.pub)).map cpR),((jby t).rows.filter (B.stays o t.s.pub)).map cpR⟩:Tb)=_;rw[cpS_weak h ht,e]
 have hc:∀t∈tbs,cpT (jby t)=cpT t:=λt ht=>by
  have e:=rows_weak h ht (λ_=>true) λ_=>rfl
  rw[Ue.2 λ_ _=>rfl,Ue.2 λ_ _=>rfl]at e;unfold cpT;rw[cpS_weak h ht,e]
 have m1:(tbs.map jby).map (woT o)=tbs.map (woT o):=by rw[Xw];exact Vx hw
 have m2:(tbs.map jby).map cpT=tbs.map cpT:=by rw[Xw];exact Vx hc
 unfold nbL;cases one with
 |false=>exact m1
 | true =>
  simp only[Km];rw[m2];by_cases hk:k<tbs.length
  ·have e:(tbs.map jby).getD k Tb.none=jby (tbs.getD k Tb.none):=by simp[List.getD,hk]
   rw[e,hw _ (Tb.mem hk)]
  ·rw[Vv (by simp;omega),Vv (by simp;omega)]
end
open B (TOK BOK sv svV cpS vpQ tbN FitQ jd1 jbw nbL woT cpT oneB accX jsH jur widX jrA jrz jlT iV)
section
variable {cs:List Col}{tbs:List Tb}{Q:Qy}{fe:Int}
section
variable {o:Int}{x:Bool}{X:List PR}{R:Int}(hR:0<=R)(hc:x=true->(cnt o X:Int)<=R)
include hR hc
end
end
section
variable {cs:List Col}{tbs:List Tb}{Q:Qy}{fe:Int}
structure SbF (Q:Qy) (nx ny:Nat) (vx vy cx cy tx ty:List Int) (R S:Int):Prop where
 fl:nx<=600/\ny<=600
 fa:absI ((nx:Int)-ny)<=R
 fr:0<=R/\R<=50000
 fv:(vx.length<=600/\∀x∈vx,-1000000000<=x/\x<=1000000000)/\vy.length<=600/\∀x∈vy,-1000000000<=x/\x<=1000000000
 fs:Q.kind=2->absI (sumI vx-sumI vy)<=S
 fc:cx.length=cy.length/\cx.length<=64/\(∀x∈cx,-1000000000<=x/\x<=1000000000)/\∀x∈cy,-1000000000<=x/\x<=1000000000
 ft:tx.length=ty.length/\tx.length<=64/\(∀x∈tx,-1000000000<=x/\x<=1000000000)/\∀x∈ty,-1000000000<=x/\x<=1000000000
 fca:js8 cx cy<=R
 fta:js8 tx ty<=S
 ff:∀i,i<cx.length->cy.getD i 0<=cx.getD i 0/\cx.getD i 0-R<=cy.getD i 0
end
open B (TOK BOK sv svV cpS vpQ tbN FitQ VR rwV rwV_is RowN iV jyT jrA jlT nbL oneB)
section
variable {Q:Post}{ks:List Kt}{u v:V}{xs ys:List Int}{T:Tm}{U:S}
end
section
variable {cs:List Col}{tbs:List Tb}
theorem fitN(h:BaseG cs tbs){o:Int}{k:Nat}{one:Bool}{Q:Qy}{fe:Int}:FitQ (nbL o k one tbs) Q fe->FitQ tbs Q fe:=λg=>by
 obtain⟨hl,hi⟩:=nb_less (tbs:=tbs) o k one;exact⟨(jiJ h).2,by rw[<- jni hl λi h=>(hi i h).1];exact g.2⟩
theorem jrE(h:BaseG cs tbs){q:RCap}{Q:Qy}{ev wv rv:V}{fe:Int}(hQ:WQ Q ev wv rv)(hf:K.Fac Q.factor fe)(hF:¬FitQ tbs Q fe)(U:S):jaf env (Go.Ab.ev env) 41 [.row (jaV tbs) tbs.length q,.agg (Q.cells ev wv rv)] U=some (.nilsl,U) :=
 jwi hk41 rfl rfl h hQ q rfl rfl (λl v e w x hl hB hQ U=>by
  obtain⟨u,hu,hcall⟩:=B.view_call hB hQ hf
  rw[hcall,hu.2 (by
   rcases hl with rfl|rfl
   ·exact hF
   ·rw[fitW h];exact hF)]) U
end
end Go.Proofs.YtajaampgajieeaaGreatDoor.N
namespace Go.Proofs.YtajaampgajieeaaGreatDoor
open Go.Ab
theorem K.env_ok_of(hR:∀f,memN f K.rowsL=true->jdm K.env f [] (.bool true)):K.env.Ok :=
  { mixed:=by kernel_rfl
    glc:=jid
    hook := λf g h=>by
      simp only[K.env,K.hookK]at h;split at h
      · rename_i hf
        simp only[Ke]at h;subst h;intro args v hv;unfold K.hookT at hv;split at hv
        · simp only[Ke]at hv
          subst hv;exact hR f hf
        · simp at hv
      · split at h
        · simp only[Ke]at h
          subst h;intro args v hv Γ U w xs hw hg hx;exact jcB YtajaampgajieeaaGreatDoor.env_ok hv hw hg hx
        · split at h
          · simp only[Ke]at h
            subst h;intro args v hv Γ U w xs hw hg hx;exact jcB F.env_ok hv hw hg hx
          · simp at h }
theorem B.env_ok_of(hR:∀f,memN f K.rowsL=true->jdm K.env f [] (.bool true)):B.env.Ok :=
  { mixed:=by kernel_rfl
    glc:=jid
    hook := λf g h=>by
      simp only[B.env,B.hookB]at h;split at h
      · simp only[Ke]at h
        subst h;intro args v hv Γ U w xs hw hg hx;exact jcB YtajaampgajieeaaGreatDoor.env_ok hv hw hg hx
      · split at h
        · simp only[Ke]at h
          subst h;intro args v hv Γ U w xs hw hg hx;exact jcB (K.env_ok_of hR) hv hw hg hx
        · split at h
          · simp only[Ke]at h
            subst h;intro args v hv Γ U w xs hw hg hx;exact jcB W.env_ok hv hw hg hx
          · simp at h }
theorem N.env_ok_of(hR:∀f,memN f K.rowsL=true->jdm K.env f [] (.bool true)):N.env.Ok :=
  { mixed:=by kernel_rfl
    glc:=jid
    hook := fun f g h=>by
      simp only[N.env,N.hookN]at h;split at h
      · rename_i hf
        simp only[Ke]at h;subst h;intro args v hv;unfold K.hookT at hv;split at hv
        · simp only[Ke]at hv
          subst hv;exact hR f hf
        · simp at hv
      · split at h
        · simp only[Ke]at h
          subst h;intro args v hv Γ U w xs hw hg hx;exact jcB YtajaampgajieeaaGreatDoor.env_ok hv hw hg hx
        · split at h
          · simp only[Ke]at h
            subst h;intro args v hv Γ U w xs hw hg hx;exact jcB (K.env_ok_of hR) hv hw hg hx
          · split at h
            · simp only[Ke]at h
              subst h;intro args v hv Γ U w xs hw hg hx;exact jcB (B.env_ok_of hR) hv hw hg hx
            · simp at h }
namespace N
theorem env_gl {W:World}{l:List (String × DataW Unit)}(h:laidMetH Tryz.prog l W)(hp:(l.all λx=>x.2.handleName?.isNone)=true)(m0:("privhouse/schema.reserved",Rows.laid_privhouse_schema_reserved)∈l)
  (m1:("internal/strconv.uint64pow10",Rows.laid_internal_strconv_uint64pow10)∈l):GOK env (Ctx.top W):=YtajaampgajieeaaGreatDoor.env_gl h hp m0 m1
theorem u22i:env.P.underlying 22=some (.slice 3):=ac
theorem u3i:env.P.underlying 3=some (.int .i64):=ac
theorem js9:∀xs:List Int,(xs.map λx=>[V.int .i64 x]).flatten=xs.map (V.int .i64)
 | []=>rfl
 |x::xs=>by simp only[K7,Vr,js9 xs];rfl
theorem jta {v:V}{k:Nat}(h:Tyd env.P (k+2) 22 [v]):∃xs,Tk v xs:=by
 rcases jpL h u22i with h|⟨vss,h,hl,_,ht⟩
 ·simp only[X9,and_true]at h;exact⟨[],.inl ⟨h,rfl⟩,λx hx=>by simp at hx,ae⟩
 ·simp only[X9,and_true]at h
  obtain⟨xs,rfl⟩:=jpM (f:=λx:{x:Int // In64 x}=>[V.int .i64 x.1]) (λx hx=>by
   obtain⟨n,rfl,h1,h2⟩:=jpK hx u3i;exact⟨⟨n,h1,h2⟩,rfl⟩) ht
  have e:(xs.map λx=>[V.int .i64 x.1])=((xs.map (·.1)).map λx=>[V.int .i64 x]):=ae;have hm:=jqw;refine⟨xs.map (·.1),.inr (.inl ?_),λx hx => ?_,by simp only[Qw]at hl ⊢;omega⟩
  ·rw[h,e,js9];simp
  ·obtain⟨y,_,rfl⟩:=Ji.1 hx;exact y.2
end N
namespace O
def isH:V->Bool
 | .hsl _ _ _ _ _=>true
 |_=>false
noncomputable def jpl(args:List V)(U:S):Option (V × S) :=
 match args.any isH with
 |true=>(jdO args U).bind λp=>(jbR N.env 41 p.1).map λv=>(v,p.2)
 |false=>(jbR N.env 41 args).map λv=>(v,U)
noncomputable def jwj(args:List V)(U:S):Option (V × S):=jaf B.env (ev B.env) 69 (wargs args) U
def jwk:List Nat:=[34,20,65,58,67]
def jwl:List Nat:=[68,70]
noncomputable def jwm(f:FuncId):Option (List V->Option V):=match memN f K.rowsL with|true=>some K.hookT|false=>match memN f jwk with|true=>some (jbR N.env f)|false=>match memN f jwl with|true=>some (jbR B.env f)|false=>none
noncomputable def jtb(f:FuncId):Option (List V->S->Option (V × S)):=match Nat.beq f 32 with|true=>some (jaf N.env (ev N.env) 32)|false=>match Nat.beq f 16 with|true=>some (jaf N.env (ev N.env) 16)|false=>match Nat.beq f 69 with|true=>some jwj|false=>match Nat.beq f 41 with|true=>some jpl|false=>none
noncomputable def env:Env:={ P:=Tryz.prog,pure:=λ_=>false,mutb:=λ_ _=>false,gl:=glV,hook:=jwm,hookS:=jtb,rowB:=true }
theorem env_ok_of(hR:∀f,memN f K.rowsL=true->jdm K.env f [] (.bool true)):env.Ok :=
  { mixed := by kernel_rfl
    glc:=jid
    hook := λf g h=>by
      simp only[env,jwm]at h;split at h
      · rename_i hf
        simp only[Ke]at h;subst h;intro args v hv;unfold K.hookT at hv;split at hv
        · simp only[Ke]at hv
          subst hv;exact hR f hf
        · simp at hv
      · split at h
        · simp only[Ke]at h
          subst h;intro args v hv Γ U w xs hw hg hx;exact jcB (N.env_ok_of hR) hv hw hg hx
        · split at h
          · simp only[Ke]at h
            subst h;intro args v hv Γ U w xs hw hg hx;exact jcB (B.env_ok_of hR) hv hw hg hx
          · simp at h
    hookS:=by
      intro f g h args U v U' hv Γ w xs hw hg hx;have hN:=N.env_ok_of hR;have hB:=B.env_ok_of hR;simp only[env,jtb]at h;split at h
      · rename_i hf
        have e:=Xg hf;subst e;simp only[Ke]at h;subst h;exact jcR hN (λt r h=>jgj hN h) hv hw hg hx
      · split at h
        · rename_i hf
          have e:=Xg hf;subst e;simp only[Ke]at h;subst h;exact jcR hN (λt r h=>jgj hN h) hv hw hg hx
        · split at h
          · rename_i hf
            have e:=Xg hf;subst e;simp only[Ke]at h;subst h;exact jcR hB (λt r h=>jgj hB h) hv hw hg hx.wargs
          · split at h
            · rename_i hf
              have e:=Xg hf;subst e;simp only[Ke]at h;subst h;unfold jpl at hv;split at hv
              · simp only[Ko,Ks,K5]at hv
                obtain⟨⟨args',U1⟩,hfz,v',hk,rfl,rfl⟩:=hv;obtain⟨Γ1,m1,hx1,hcl⟩:=jfY args (xs:=xs.toList) hw (by simpa using hx) hfz;simp only[Ub]at hx1;obtain⟨Γ',w',y,m,hy,hc⟩:=jcB hN hk m1.rel (hg.mono m1.le) hx1;exact⟨Γ',w',y,m1.trans m,hy,hc⟩
              · simp only[Ks,K5]at hv
                obtain⟨v',hk,rfl,rfl⟩:=hv;exact jcB hN hk hw hg hx
            · simp at h }
theorem jjK {f:FuncId}{args:List V}{v:V}(hf:env.hook f=some (jbR N.env f))(h:∀U,jaf N.env (ev N.env) f args U=some (v,U))(rec:Task->Option Res)(U:S):jaf env rec f args U=some (v,U):=by
 unfold jaf;rw[hf];simp only[jcA h,Kw]
theorem jjg {f:FuncId}{args:List V}{v:V}(hf:env.hook f=some (jbR B.env f))(h:∀U,jaf B.env (ev B.env) f args U=some (v,U))(rec:Task->Option Res)(U:S):jaf env rec f args U=some (v,U):=by
 unfold jaf;rw[hf];simp only[jcA h,Kw]
theorem jlU {f:FuncId}{g:List V->S->Option (V × S)}(hk:env.hook f=none)(hs:env.hookS f=some g)(args:List V)(U:S)(rec:Task->Option Res):jaf env rec f args U=g args U:=by
 unfold jaf;have hp:env.pure f=false:=rfl;have hz:env.frz f=false:=rfl;simp only[hk,hp,hz,hs,Kr,Kq]
theorem jwn(args:List V)(U:S)(rec:Task->Option Res):jaf env rec 32 args U=jaf N.env (ev N.env) 32 args U:=jlU rfl rfl args U rec
theorem juw(args:List V)(U:S)(rec:Task->Option Res):jaf env rec 16 args U=jaf N.env (ev N.env) 16 args U:=jlU rfl rfl args U rec
theorem jwo(args:List V)(U:S)(rec:Task->Option Res):jaf env rec 69 args U=jaf B.env (ev B.env) 69 (wargs args) U:=(jlU rfl rfl args U rec:jaf env rec 69 args U=jwj args U)
theorem jtc {args:List V}{v:V}(ha:args.any isH=false)(h:∀U,jaf N.env (ev N.env) 41 args U=some (v,U))(U:S)(rec:Task->Option Res):jaf env rec 41 args U=some (v,U):=by
 rw[jlU (g:=jpl) rfl rfl];unfold jpl;rw[ha];simp only[jcA h,Kw]
theorem jwp {args args':List V}{v:V}{U U1:S}(ha:args.any isH=true)(hz:jdO args U=some (args',U1))(h:∀U,jaf N.env (ev N.env) 41 args' U=some (v,U))(rec:Task->Option Res):jaf env rec 41 args U=some (v,U1):=by
 rw[jlU (g:=jpl) rfl rfl];unfold jpl;rw[ha];simp only[hz,Kl,jcA h,Kw]
end O
end Go.Proofs.YtajaampgajieeaaGreatDoor
namespace Go.Proofs.YtajaampgajieeaaGreatDoor.N
open Go.Ab
theorem at58:env.P.funcs[58]? = some Tryz.f58:=ac
theorem at67:env.P.funcs[67]? = some Tryz.f67:=ac
theorem jfk {u v:V}{ra rb:List Rw}(hu:IsR u ra)(hv:IsR v rb)(oka:OkR ra)(okb:OkR rb)(hl:ra.length<=100000)(hs:∀r∈ra,r.vs.length<=100000)(he:ra.map Rw.pl=rb.map Rw.pl)(U:S):jaf env (ev env) 58 [u,v] U=some (.bool true,U):=by
 refine jak (by rw[Ku,jd8 hu oka,Ku,jd8 hv okb];rfl) at58 rfl ?_ U;have lu:=jlG hu 70;have lv:=jlG hv 70;have hll:ra.length=rb.length:=by have:=congrArg List.length he;simpa using this
 rw[<- hll]at lv;have c0:((ra.length:Int)=(ra.length:Int))=True:=eq_true rfl;simp only[Tryz.f58,simprocAttr,zK,Vq,jaj,ty7,lu,lv,c0]
 refine jax (λm T D U'=>D=[]/\U'=⟨[],[]⟩/\T 0=u/\T 1=v/\∃i:Nat,T 5=.int .i64 i/\i<=ra.length/\m=ra.length-i) ?_ (ra.length-0) _ _ _
  ⟨rfl,rfl,rfl,rfl,0,rfl,Qr _,rfl⟩
 rintro m T D U' ⟨rfl,rfl,t0,t1,i,t5,hi,rfl⟩;refine jaB ?_;by_cases hlt:i<ra.length
 ·have c1:((i:Int)<(ra.length:Int))=True:=eq_true aa;have e1:IntKind.i64.wrap ((i:Int)+1)=((i+1:Nat):Int):=by rw[wrap_i64 aa aa];omega
  have xu:=jlH hu hlt;have xv:=jlH hv (show i<rb.length by omega)
  have hb:(ra.getD i Rw.none).pl=(rb.getD i Rw.none).pl:=by
   have:=congrArg (λl=>l[i]?) he;simp only[J4,Kz hlt,Kz (show i<rb.length by omega),Kw,Ke]at this;simpa[List.getD,hlt,show i<rb.length by omega]using this
  have h1:(ra.getD i Rw.none).own=(rb.getD i Rw.none).own:=congrArg Prod.fst hb;have h2:(ra.getD i Rw.none).vs=(rb.getD i Rw.none).vs:=congrArg Prod.snd hb;have oa:=(oka.at hlt).1;have ob:=(okb.at (show i<rb.length by omega)).1;have hsl:=hs (ra.getD i Rw.none) (by simp[List.getD,hlt]);have hS:=jry oa ob hsl;rw[decide_eq_true h2]at hS;rw[<- h1]at xv;have c2:((ra.getD i Rw.none).own=(ra.getD i Rw.none).own)=True:=eq_true rfl;simp only[simprocAttr,yK,Vq,ty7,uq,lu,t0,t1,t5,c1,c2,e1,xu,xv,jar,hS];exact⟨ac,ra.length-(i+1),aa,i+1,rfl,aa,rfl⟩
 ·have hie:i=ra.length:=by omega
  subst hie;have c1:((ra.length:Int)<(ra.length:Int))=False:=eq_false aa;simp only[simprocAttr,zK,Vq,ty7,lu,t0,t1,t5,c1];rfl
def jdG(o:Int)(l:List Rw):List Rw:=l.filter λr=>decide (r.own ≠ o)
theorem jhJ(o:Int)(l:List Rw):(jdG o l).map Rw.pl=wo o (l.map Rw.pl):=by
 unfold jdG wo;rw[List.filter_map];rfl
theorem jgG {u:V}{ra:List Rw}(hu:IsR u ra)(ok:OkR ra)(hl:ra.length<=100000)(o:Int)(U:S):jaf env (ev env) 67 [u,.int .i64 o] U=some (B.rwV ((jdG o ra).map B.cpR),U):=by
 refine jak (by rw[Ku,jd8 hu ok];rfl) at67 rfl ?_ U;have lu:=jlG hu 70;have hlim:lim=2^40:=rfl;simp only[Tryz.f67,simprocAttr,zK,Vq,jaj,ty7]
 refine jax (λm T D U'=>D=[]/\T 0=u/\T 1=.int .i64 o/\∃(i:Nat) (ts:List Nat) (w:V),U'=⟨[],ts⟩/\T 5=w/\T 6=.int .i64 i/\i<=ra.length/\m=ra.length-i/\GrowV 0 ts 2 w (jdG o (ra.take i)).length (jcf (jdG o (ra.take i)))/\(jdG o (ra.take i)=[]->w=.nilsl)) ?_ (ra.length-0) _ _ _
  ⟨rfl,rfl,rfl,0,[],.nilsl,rfl,rfl,rfl,Qr _,rfl,.nil,λ_=>rfl⟩
 rintro m T D U' ⟨rfl,t0,t1,i,ts,w,rfl,t5,t6,hi,rfl,g,g0⟩;refine jaB ?_;by_cases hlt:i<ra.length
 ·have c1:((i:Int)<(ra.length:Int))=True:=eq_true aa;have e1:IntKind.i64.wrap ((i:Int)+1)=((i+1:Nat):Int):=by rw[wrap_i64 aa aa];omega
  have xu:=jlH hu hlt;have oa:=(ok.at hlt).1;have hn:(jdG o (ra.take i)).length<=i:=Je (Vn ..) (by rw[Qz];omega);by_cases d:(ra.getD i Rw.none).own=o
  ·have d1:=eq_true d
   have hnx:jdG o (ra.take (i+1))=jdG o (ra.take i):=by
    unfold jdG;rw[B.take_next Rw.none hlt,Vz,Vd (by rw[Jc];exact λh=>h d)];simp
   simp only[simprocAttr,yK,Vq,ty7,uq,lu,t0,t1,t5,t6,c1,d1,e1,xu,jar];exact⟨ra.length-(i+1),aa,i+1,ts,w,rfl,rfl,rfl,aa,rfl,by rw[hnx];exact g,by rw[hnx];exact g0⟩
  ·have d1:=eq_false d
   have hnx:jdG o (ra.take (i+1))=jdG o (ra.take i)++[ra.getD i Rw.none]:=by
    unfold jdG;rw[B.take_next Rw.none hlt,Vz,Xr (by rw[Jc];exact d)];rfl
   obtain⟨w',ts',hA,g',_⟩:=GrowV.push (E:=env) (hp:=[]) (q:=.full) (new:=[.int .i64 (ra.getD i Rw.none).own,(ra.getD i Rw.none).vv]) eRw ⟨70,eRw.slice⟩ g (Qr _) rfl (by simp only[Ku,Qk,jac,jcp oa,K6]) ⟨by rw[hlim];omega,by rw[hlim];omega⟩;simp only[simprocAttr,yK,Vq,ty7,uq,lu,t0,t1,t5,t6,c1,d1,e1,xu,jar,B.load2_rptr,jaq,jm8,hA];refine⟨ra.length-(i+1),aa,i+1,ts',w',rfl,rfl,rfl,aa,rfl,?_,λh => ?_⟩
   ·rw[hnx,Kk,Jm,jev];exact g'
   ·rw[hnx]at h;simp at h
 ·have hie:i=ra.length:=by omega
  subst hie;have c1:((ra.length:Int)<(ra.length:Int))=False:=eq_false aa;rw[Jp]at g g0;simp only[simprocAttr,zK,Vq,ty7,lu,t0,t1,t5,t6,c1];show jaL _ (11+1) w=_;unfold B.rwV;by_cases hn:jdG o ra=[]
  ·rw[Kj (by rw[hn];rfl),g0 hn];rfl
  ·have hp:0<(jdG o ra).length:=Xn.2 hn;obtain⟨q,rfl⟩:=g.isrow hp;rw[Kh (by simpa using hn),ja2,B.seal_rows _ (l:=jdG o ra) λr hr=>(ok r (Xz.1 hr).1).1,Qw];rfl
open B (TOK BOK sv svV cpS vpQ tbN FitQ jd1 jbw nbL woT cpT oneB jnN VR)
section
variable {cs:List Col}{tbs:List Tb}{Q:Qy}{ev wv rv:V}{fe:Int}
def ownC(tbs:List Tb)(Q:Qy)(k:Nat):Prop:=(tbs.getD k Tb.none).s.pub=false/\((tbs.getD k Tb.none).s.name=Q.table\/(tbs.getD k Tb.none).s.name=Q.other)
theorem jnj(h:BaseG cs tbs){k:Nat}(hk:k<tbs.length):(tbs.getD k Tb.none).s.name=tabs.getD k []:=by
 have k2:=(h.k.at' k (by simpa using hk)).nm;rw[<- k2];simp only[List.getD,J4,Kz hk,Kw,Kv]
theorem jf5(h:BaseG cs tbs){nm:List UInt8}(hs:0<=ja3 (sv tbs) nm (sv tbs).length 0){k:Nat}(hk:k<tbs.length)(e:(tbs.getD k Tb.none).s.name=nm):ja3 (sv tbs) nm (sv tbs).length 0=(k:Int):=by
 obtain⟨i,h1,h2,h3,_,_,h6⟩:=B.tbN_spec hs;have hl:=h.len;rw[h3,jnj h h2]at h6;rw[jnj h hk]at e;have:=joj aa aa (e.trans h6.symm);omega
theorem jsJ(h:BaseG cs tbs)(hF:FitQ tbs Q fe)(o:Int)(k:Nat)(one:Bool)(hk:one=true->k<tbs.length) :
  (((one=true->ownC tbs Q k)/\jcN Q.table tbs=true)->(vpQ (nbL o k one tbs) Q).view=wo o (vpQ tbs Q).view)/\(¬((one=true->ownC tbs Q k)/\jcN Q.table tbs=true)->(vpQ (nbL o k one tbs) Q).view=(vpQ tbs Q).view):=by
 obtain⟨x,hv,hx,e⟩:=juv h hF o k one;have hK:=jbw hF.2;obtain⟨_,tp,_⟩:=jok h hK.tab
 have at':∀nm,0<=ja3 (sv tbs) nm (sv tbs).length 0->ja3 (sv tbs) nm (sv tbs).length 0=(k:Int)->tbN tbs nm=tbs.getD k Tb.none/\(tbs.getD k Tb.none).s.name=nm:=λnm hs hk=>by
  obtain⟨i,h1,h2,h3,_,_,h6⟩:=B.tbN_spec hs;have:i=k:=aa;subst this;exact⟨h3,by rw[<- h3];exact h6⟩
 have key:x=true↔(one=true->ownC tbs Q k)/\jcN Q.table tbs=true:=by
  rw[tp];constructor
  ·intro hxt;have hp:=hx hxt;refine⟨λh1 => ?_,by rw[hp];rfl⟩;rw[hxt,hp,h1]at e;by_cases a:ja3 (sv tbs) Q.table (sv tbs).length 0=(k:Int)
   ·obtain⟨b,c⟩:=at' _ hK.tab a;exact⟨by rw[<- b];exact hp,.inl c⟩
   ·rw[decide_eq_false a]at e
    have e2:Q.other ≠ []/\(tbN tbs Q.other).s.pub=false/\ja3 (sv tbs) Q.other (sv tbs).length 0=(k:Int):=by
     simpa using e
    obtain⟨b,c⟩:=at' _ (hK.other e2.1).1 e2.2.2;exact⟨by rw[<- b];exact e2.2.1,.inr c⟩
  ·rintro⟨h1,hp⟩;have hp:(tbN tbs Q.table).s.pub=false:=by simpa using hp
   rw[e,hp];cases one with
   |false=>simp
   | true =>
    obtain⟨c1,c2⟩:=h1 rfl
    rcases c2 with c2|c2
    ·have:=jf5 h hK.tab (hk rfl) c2;rw[decide_eq_true this];simp
    ·have ho:Q.other ≠ []:=λa=>by
      rw[jnj h (hk rfl),a]at c2;have hl:=h.len;have hk3:=hk rfl;have:∀i,i<3->tabs.getD i [] ≠ []:=af;exact this k aa c2
     have:=jf5 h (hK.other ho).1 (hk rfl) c2;obtain⟨b,_⟩:=at' _ (hK.other ho).1 this;rw[decide_eq_true this,b,c1,decide_eq_true ho];simp
 rw[hv];unfold woB;exact⟨λc=>by rw[Kj (key.2 c)],λc=>by rw[Kh λa=>c (key.1 a)]⟩
theorem jwq(h:BaseG cs tbs)(hF:FitQ tbs Q fe):jnN tbs Q (tbN tbs Q.table).s.cs.length<=100000:=by
 have hK:=jbw hF.2
 have le:∀t∈tbs,t.s.cs.length<=5:=λt ht=>by
  obtain⟨i,_,_,k⟩:=h.kit ht;exact k.le
 have h1:=le _ (jok h hK.tab).1;unfold jnN;split
 ·omega
 ·rename_i ho;have:=le _ (jok h (hK.other ho).1).1;omega
structure OwR (v:V) (l:List Rw):Prop where
 is:IsR v l
 ok:OkR l
 n:l.length<=600
 s:∀r∈l,r.vs.length<=100000
theorem OwR.nil:OwR .nilsl []:=⟨.inl ⟨rfl,rfl⟩,λr h=>(by cases h),af,λr h=>(by cases h)⟩
theorem jwr(h:BaseG cs tbs)(hQ:WQ Q ev wv rv)(hf:K.Fac Q.factor fe)(hF:FitQ tbs Q fe)(q:RCap):∃(b:V) (rb:List Rw),OwR b rb/\rb.map Rw.pl=(vpQ tbs Q).view/\∀U,jaf env (Go.Ab.ev env) 41 [.row (jaV tbs) tbs.length q,.agg (Q.cells ev wv rv)] U=some (b,U):=by
 obtain⟨bv,hbv,hV⟩:=jwe (q:=q) h hQ hf hF;obtain⟨rb,rb1,rb2,rb3,rb4⟩:=VR.rows hbv;exact⟨bv,rb,⟨rb1,rb2,by have:=jsI h hF;rw[<- rb4,Qw]at this;exact this,λr hr=>by rw[rb3 r hr];exact jwq h hF⟩,rb4,hV⟩
theorem jyX(h:BaseG cs tbs)(hF:FitQ tbs Q fe)(o:Int)(k:Nat)(one:Bool):FitQ (nbL o k one tbs) Q fe:=by
 obtain⟨hl,hi⟩:=nb_less (tbs:=tbs) o k one;exact⟨(jiJ (less_base h hl λi h=>(hi i h).1)).2,by rw[jni hl λi h=>(hi i h).1];exact hF.2⟩
theorem own_pack(h:BaseG cs tbs)(hQ:WQ Q ev wv rv)(hf:K.Fac Q.factor fe)(o:Int)(q:RCap):∃(b:V) (rb:List Rw),OwR b rb/\(∀U,jaf env (Go.Ab.ev env) 41 [.row (jaV tbs) tbs.length q,.agg (Q.cells ev wv rv)] U=some (b,U)) /\
  ∀(k:Nat) (one:Bool) (l:List Tb) (ev' wv' rv':V),(one=true->k<tbs.length)->(l=nbL o k one tbs\/l=(nbL o k one tbs).map jby)->WQ Q ev' wv' rv'->∃(a:V) (ra:List Rw),OwR a ra/\(∀U,jaf env (Go.Ab.ev env) 41 [.row (jaV l) l.length .unk,.agg (Q.cells ev' wv' rv')] U=some (a,U)) /\
   (((one=true->ownC tbs Q k)/\jcN Q.table tbs=true)->ra.map Rw.pl=wo o (rb.map Rw.pl))/\(¬((one=true->ownC tbs Q k)/\jcN Q.table tbs=true)->ra.map Rw.pl=rb.map Rw.pl):=by
 have hb2:∀k one,BaseG cs (nbL o k one tbs):=λk one=>by
  obtain⟨hl2,hi2⟩:=nb_less (tbs:=tbs) o k one;exact less_base h hl2 λi h=>(hi2 i h).1
 by_cases hF:FitQ tbs Q fe
 ·obtain⟨b,rb,h1,h2,h3⟩:=jwr h hQ hf hF q;refine⟨b,rb,h1,h3,λk one l ev' wv' rv' hk hl hQ' => ?_⟩;have hB:=hb2 k one;have hFN:=jyX h hF o k one;obtain⟨v1,v2⟩:=jsJ h hF o k one hk
  have hA:BaseG cs l/\FitQ l Q fe/\(vpQ l Q).view=(vpQ (nbL o k one tbs) Q).view:=by
   rcases hl with rfl|rfl
   ·exact⟨hB,hFN,rfl⟩
   ·exact⟨hB.weak,(fitW hB).2 hFN,by rw[jrw hB]⟩
  obtain⟨a,ra,g1,g2,g3⟩:=jwr hA.1 hQ' hf hA.2.1 .unk;exact⟨a,ra,g1,g3,λc=>by rw[g2,h2,hA.2.2];exact v1 c,λc=>by rw[g2,h2,hA.2.2];exact v2 c⟩
 ·refine⟨.nilsl,[],.nil,jrE h hQ hf hF,λk one l ev' wv' rv' hk hl hQ' => ?_⟩;have hB:=hb2 k one;have hN:¬FitQ (nbL o k one tbs) Q fe:=λa=>hF (fitN h a)
  have hA:BaseG cs l/\¬FitQ l Q fe:=by
   rcases hl with rfl|rfl
   ·exact⟨hB,hN⟩
   ·exact⟨hB.weak,λa=>hN ((fitW hB).1 a)⟩
  exact⟨.nilsl,[],.nil,jrE hA.1 hQ' hf hA.2,λ_=>rfl,λ_=>rfl⟩
end
end Go.Proofs.YtajaampgajieeaaGreatDoor.N
namespace Go.Proofs.YtajaampgajieeaaGreatDoor.O
open Go.Ab
open N (BaseG WQ OwR jby ownC jcN jfk jgG jdG jhJ qm jhp jcq Tk)
open B (TOK BOK sv svV cpS vpQ tbN FitQ nbL woT cpT)
theorem mb(f:FuncId)(r:Nat):env.mutb f r=false:=rfl
theorem stb(f:FuncId)(r:Nat):env.stab f r=false:=rfl
theorem tys:env.P.underlying 3=some (.int .i64)/\env.P.underlying 4=some .bool/\env.P.underlying 9=some .string/\env.P.underlying 51=some (.slice 79)/\env.P.underlying 60=some (.slice 70) /\
  sz env 3=some 1/\sz env 4=some 1/\sz env 9=some 1/\sz env 30=some 20/\sz env 51=some 1/\sz env 60=some 1/\sz env 79=some 5 /\
  jas env 30 11=some 11/\jas env 30 13=some 13/\jas env 79 0=some 0/\jas env 38 0=some 0/\jas env 38 1=some 1 /\
  (∀h p,jaF env h 3 p=(jab h 1 p).bind (·[0]?))/\(∀h p,jaF env h 4 p=(jab h 1 p).bind (·[0]?))/\(∀h p,jaF env h 9 p=(jab h 1 p).bind (·[0]?))/\(∀h p,jaF env h 51 p=(jab h 1 p).bind (·[0]?))/\(∀h p,jaF env h 60 p=(jab h 1 p).bind (·[0]?)) /\
  (∀h p,jaF env h 30 p=(jab h 20 p).map .agg)/\(∀h p,jaF env h 79 p=(jab h 5 p).map .agg):=by
 have g30:aggT env 30=some true:=ac;have s30:sz env 30=some 20:=ac;have g79:aggT env 79=some true:=ac;have s79:sz env 79=some 5:=ac
 exact⟨ac,ac,ac,ac,ac,ac,ac,ac,s30,ac,ac,s79,ac,ac,ac,ac,ac,
  λ_ _=>jau ac,λ_ _=>jau ac,λ_ _=>jau ac,λ_ _=>jau ac,λ_ _=>jau ac,λh p=>by unfold jaF;rw[g30,s30];rfl,λh p=>by unfold jaF;rw[g79,s79];rfl⟩
theorem Kc:type_of% (Kd @mb (Kd @stb @tys)):=Kd @mb (Kd @stb @tys)
theorem zK:type_of% (Kd @Ka (Kd @Ys (Kd @Y0 @Kc))):=Kd @Ka (Kd @Ys (Kd @Y0 @Kc))
theorem yK:type_of% (Kd @Ka (Kd @Y0 @Kc)):=Kd @Ka (Kd @Y0 @Kc)
theorem zq:ja8 env 30=some (.agg [.int .i64 0,.nilsl,.int .i64 0,.int .i64 0,.int .i64 0,.int .i64 0,.str [],.int .i64 0,.nilsl,.int .i64 0,.bool false,.str [],.int .i64 0,.str [],.str [],.str [],.int .i64 0,.nilsl,.str [],.int .i64 0]):=ac
theorem at12:env.P.funcs[12]? = some Tryz.f12:=ac
section
variable {cs:List Col}{tbs:List Tb}{Q:Qy}{ev wv rv:V}
theorem jyY(tbs:List Tb)(q:RCap){i:Nat}(hi:i<tbs.length):jaw 5 (.row (jaV tbs) tbs.length q) (.int .i64 (i:Int))=some (.rptr (.str (tbs.getD i Tb.none).s.name::.bool (tbs.getD i Tb.none).s.pub::.int .i64 (tbs.getD i Tb.none).s.many::(tbs.getD i Tb.none).s.cv::(tbs.getD i Tb.none).rv::jaV (tbs.drop (i+1)))):=by
 rw[Ys,Kj aa,Qi,jfB,jn6 hi]
theorem jkz(h:BaseG cs tbs){t:Tb}(ht:t∈tbs)(o:Int):woT o (jby t)=woT o t:=by
 have e:=N.rows_weak h ht (B.stays o t.s.pub) λ_=>rfl
 unfold woT B.woR;show(⟨cpS (jby t).s,B.rwV (((jby t).rows.filter (B.stays o t.s.pub)).map B.cpR),((jby t).rows.filter (B.stays o t.s.pub)).map B.cpR⟩:Tb)=_;rw[N.cpS_weak h ht,e]
theorem jsK(h:BaseG cs tbs):(tbs.map jby).map cpT=tbs.map cpT:=by
 have e:=N.nbL_weak h 0 tbs.length true;unfold nbL at e;rw[Kj rfl,Kj rfl,Vv ae,Vv ae]at e;exact e
theorem jws(h:BaseG cs tbs)(q:RCap)(L:List AObj)(ts:List Nat)(rec:Task->Option Res):∃b L',jaf env rec 69 [.row (jaV tbs) tbs.length q] ⟨L,ts⟩=some (.hsl b 0 tbs.length tbs.length (.grow 5),⟨L',ts⟩)/\L'[b]? = some (.cells (jaV (tbs.map cpT)) 79)/\L.length<=b/\L.length<=L'.length/\∀j,j<L.length->L'[j]? = L[j]? := by
 rw[jwo];have hl:=h.len;by_cases hc:([V.row (jaV tbs) tbs.length q]:List V).all V.closed=true
 ·unfold wargs;rw[Kj hc];simp only[Ku,Qk,Qt]at hc;exact B.copyOf_call (h.bok hc) hl.1 L ts
 ·unfold wargs;rw[Kh hc];simp only[K7,Jv,jcq];obtain⟨b,L',h1,h2,h3⟩:=B.copyOf_call (h.bokW q) (by rw[Qw];exact hl.1) L ts;rw[jsK h]at h2;rw[Qw]at h1 ⊢;exact⟨b,L',h1,h2,h3⟩
theorem wtok(h:BaseG cs tbs){k:Nat}(hk:k<tbs.length):TOK (jby (tbs.getD k Tb.none)):=by
 have hk2:k<(tbs.map jby).length:=by rw[Qw];exact hk
 have:=(h.bokW .unk).at hk2;rwa[show(tbs.map jby).getD k Tb.none=jby (tbs.getD k Tb.none) by simp[List.getD,hk]]at this
theorem jrF(h:BaseG cs tbs){k:Nat}(hk:k<tbs.length)(o:Int)(U:S):jaf env (Go.Ab.ev env) 70 [.agg (tbs.getD k Tb.none).cells,.int .i64 o] U=some (.agg (woT o (tbs.getD k Tb.none)).cells,U):=by
 have hm:tbs.getD k Tb.none∈tbs:=Tb.mem hk;have hw:(V.agg (tbs.getD k Tb.none).cells).weak=.agg (jby (tbs.getD k Tb.none)).cells:=rfl;refine jjg rfl (jhp rfl rfl (λhc => ?_) ?_ ?_) _ U
 ·simp only[Ku,Qk,Qt,Qo]at hc;have hc:=hc.1;simp only[Tb.cells,V.closed,V.closed.closedL,J6,Qt,Qo]at hc;exact B.without_call (h.tok hm hc.1 hc.2) o
 ·have ht:=wtok h hk
  have hcl:(V.agg (jby (tbs.getD k Tb.none)).cells).closed=true:=by
   simp only[Tb.cells,V.closed,V.closed.closedL,ja5 ht.cv ht.ok,jd8 ht.rv ht.ro,K6]
  rw[K7,hw,Ku,hcl];rfl
 ·simp only[K7,Jv,hw];have:=B.without_call (wtok h hk) o;rw[jkz h hm]at this;exact this
theorem jwt(h:BaseG cs tbs)(q:RCap)(o:Int)(U:S):jaf env (Go.Ab.ev env) 68 [.row (jaV tbs) tbs.length q,.int .i64 o] U=some (.row (jaV (nbL o 0 false tbs)) (nbL o 0 false tbs).length .unk,U):=by
 have hl:=h.len
 have e:B.bsV (tbs.map (woT o))=.row (jaV (nbL o 0 false tbs)) (nbL o 0 false tbs).length .unk:=by
  unfold B.bsV;rw[Kh λe=>by rw[<- Uo,Qw]at e;omega];rfl
 have e2:(tbs.map jby).map (woT o)=tbs.map (woT o):=by rw[Xw];exact Vx λt ht=>jkz h ht o
 rw[<- e];refine jjg rfl (jhp rfl rfl (λhc => ?_) ?_ ?_) _ U
 ·simp only[Ku,Qk,Qt,Qo]at hc;exact B.withoutOf_call (h.bok hc.1) o
 ·simp only[K7,Jv,Ku,Qk,jcq,(h.bokW q).closed];rfl
 ·simp only[K7,Jv,jcq];have:=B.withoutOf_call (h.bokW q) o;rw[e2]at this;exact this
end
open N (BaseG WQ OwR jby ownC jcN jfk jgG jdG jhJ qm jcq Tk)
section
variable {cs:List Col}{tbs:List Tb}{Q:Qy}{ev wv rv:V}{Po:Post}{ks:List Kt}{T:Tm}{M:List AObj}{ts:List Nat}
theorem jom(h:BaseG cs tbs)(hQ:WQ Q ev wv rv)(q:RCap){o:Int}{b l:V}{rb rl:List Rw}(hb:OwR b rb)(hl:OwR l rl)
  (l1:jcN Q.table tbs=true->rl.map Rw.pl=wo o (rb.map Rw.pl)) (l2:¬jcN Q.table tbs=true->rl.map Rw.pl=rb.map Rw.pl)
  (hv:∀k,k<tbs.length->∃(a:V) (ra:List Rw),OwR a ra/\(∀U,jaf N.env (Go.Ab.ev N.env) 41 [.row (jaV ((nbL o k true tbs).map jby)) tbs.length .unk,.agg (Q.cells ev.weak wv.weak rv.weak)] U=some (a,U)) /\
   ((ownC tbs Q k/\jcN Q.table tbs=true)->ra.map Rw.pl=wo o (rb.map Rw.pl))/\(¬(ownC tbs Q k/\jcN Q.table tbs=true)->ra.map Rw.pl=rb.map Rw.pl))
  {P:Nat} (hP:M[P]? = some (qm Q ev wv rv)) (t2:T 2=.int .i64 o) (t8:T 8=.row (jaV tbs) tbs.length q) (t9:T 9=.ptr P 0) (t10:T 10=b) (t11:T 11=l) (t12:T 12=.int .i64 0)
  (hk:∀(T':Tm) (M':List AObj),(∀j,j<=11->T' j=T j)->G env 12 none 101 Po ks .skip T' [] ⟨M',ts⟩) :
  je6 env 12 none 101 (jeH 0 (jaC Tryz.f12)) T [] ⟨M,ts⟩ (Kt.post env 12 none 101 Po (.blk 0::ks)):=by
 simp only[jaC,Tryz.f12,Kv,jeH,blkC,Option.or,Nat.reduceEqDiff,Kq,Km,reduceIte];have hlen:=h.len;have lB:ja9 (some (.slice 79)) (.row (jaV tbs) tbs.length q)=some (.int .i64 tbs.length):=by simp[ja9]
 refine jax (λm T' D U'=>D=[]/\(∀j,j<=11->T' j=T j)/\∃(H:List AObj) (i:Nat),U'=⟨H,ts⟩/\H[P]? = some (qm Q ev wv rv)/\T' 12=.int .i64 i/\i<=tbs.length/\m=tbs.length-i) ?_ (tbs.length-0) _ _ _
  ⟨rfl,λ_ _=>rfl,M,0,rfl,hP,t12,Qr _,rfl⟩
 rintro m T' D U' ⟨rfl,hT,H,i,rfl,hPH,u12,hi,rfl⟩;have u2:=(hT 2 aa).trans t2;have u8:=(hT 8 aa).trans t8;have u9:=(hT 9 aa).trans t9;have u10:=(hT 10 aa).trans t10;have u11:=(hT 11 aa).trans t11;refine jaB ?_;by_cases hlt:i<tbs.length
 case neg =>
  have hie:i=tbs.length:=aa;subst hie;have c1:((tbs.length:Int)<(tbs.length:Int))=False:=eq_false aa;simp only[simprocAttr,zK,K1,jaa,lB,u8,u12,c1];refine hk _ _ λj hj => ?_
  rw[<- hT j hj];simp only[Z7];repeat rw[Kh aa]
 have c1:((i:Int)<(tbs.length:Int))=True:=eq_true aa;have dd:((tbs.length:Int)=(tbs.length:Int))=True:=eq_true rfl;have e1:IntKind.i64.wrap ((i:Int)+1)=((i+1:Nat):Int):=by rw[wrap_i64 aa aa];omega
 obtain⟨bb,L',hC,g1,g2,g3,g4⟩:=jws h q H ts (Go.Ab.ev env);have lH:ja9 (some (.slice 79)) (.hsl bb 0 tbs.length tbs.length (.grow 5))=some (.int .i64 tbs.length):=rfl;have hx:=jyY tbs q hlt;have hWo:=jrF h hlt o;have hcc:=(B.woT_cp o (wtok h hlt)).cell;rw[jkz h (Tb.mem hlt)]at hcc
 have hix:jaw 5 (.hsl bb 0 tbs.length tbs.length (.grow 5)) (.int .i64 (i:Int))=some (.ptr bb (i*5)):=by
  simp only[jaw];rw[Kj aa];simp
 have hfit:i*5+5<=(jaV (tbs.map cpT)).length:=by rw[jiw,Qw];omega
 have hput:=B.flatT_put (a:=tbs.map cpT) (k:=i) (by rw[Qw];exact hlt) (woT o (tbs.getD i Tb.none));have hnb:(tbs.map cpT).set i (woT o (tbs.getD i Tb.none))=nbL o i true tbs:=rfl;rw[hnb]at hput;have hPl:=jan hPH;have hP2:∀x,(L'.set bb x)[P]? = some (qm Q ev wv rv):=λx=>by rw[Kg aa,g4 P hPl];exact hPH
 have hP1:L'[P]? = some (qm Q ev wv rv):=by rw[g4 P hPl];exact hPH
 have ldP:=N.ldqm (hP2 (.cells (jaV (nbL o i true tbs)) 79));obtain⟨a,ra,ha,hview,hv1,hv2⟩:=hv i hlt;have sB:∀x,(L'.set bb x)[bb]? = some x:=λx=>Kn (jan g1)
 have hz:jdO [.hsl bb 0 tbs.length tbs.length (.grow 5),.agg (Q.cells ev wv rv)] ⟨L'.set bb (.cells (jaV (nbL o i true tbs)) 79),ts⟩=some ([.row (jaV ((nbL o i true tbs).map jby)) tbs.length .unk,.agg (Q.cells ev.weak wv.weak rv.weak)],⟨(L'.set bb (.cells (jaV (nbL o i true tbs)) 79)).set bb (.ro (jaV ((nbL o i true tbs).map jby)) 79),ts⟩):=by
  obtain⟨hl2,hi2⟩:=N.nb_less (tbs:=tbs) o i true;have hB:=N.less_base h hl2 λi h=>(hi2 i h).1
  have hcl:=(hB.bokW .unk).closed;have h1:=hQ.weak.closed
  have hcl2:(jaV ((nbL o i true tbs).map jby)).all V.closed=true:=by
   have:∀l:List V,V.closed.closedL l=true->l.all V.closed=true:=λl=>by
    induction l with
    |nil=>intro _;rfl
    |cons x l ih=>intro h;simp only[V.closed.closedL,Qo]at h;simp only[Ku,h.1,ih h.2,K6]
   exact this _ (by simpa[V.closed,RCap.weak]using hcl)
  unfold jdO jhN;simp only[sB,N.weakL_flatT,hcl2,K8,and_self,Km,Q6];unfold jdO jhN;simp only[N.agg_weak hQ,h1,Km,Kw];rfl
 have hZ:=jwp (by rfl) hz hview (Go.Ab.ev env);unfold Qy.cells at hZ ldP;have hput:List.take (i*5) (jaV (tbs.map cpT))++(woT o (tbs.getD i Tb.none)).cells++List.drop (i*5+5) (jaV (tbs.map cpT))=jaV (nbL o i true tbs):=hput;unfold Tb.cells at hWo hput;have fin:∀(w:V) (rw':List Rw),OwR w rw'->ra.map Rw.pl=rw'.map Rw.pl->∀U,jaf env (Go.Ab.ev env) 58 [a,w] U=some (.bool true,U):=λw rw' ho he U=>jjK rfl (λU=>jfk ha.is ho.is ha.ok ho.ok (by have:=ha.n;omega) ha.s he U) _ U
 have hP3:∀x y,((L'.set bb x).set bb y)[P]? = some (qm Q ev wv rv):=λx y=>by rw[Kg aa];exact hP2 x
 have less:ownC tbs Q i->ra.map Rw.pl=rl.map Rw.pl:=λc=>by
  by_cases p:jcN Q.table tbs=true
  ·rw[hv1 ⟨c,p⟩,l1 p]
  ·rw[hv2 λe=>p e.2,l2 p]
 cases hpub:(tbs.getD i Tb.none).s.pub
 ·have hx2:=hx;have hWo2:=hWo;rw[hpub]at hx hWo;by_cases k2:(tbs.getD i Tb.none).s.name=Q.table
  ·have d2:=eq_true k2;have hF:=fin l rl hl (less ⟨hpub,.inl k2⟩);simp only[simprocAttr,yK,K1,jaa,YW,lB,lH,u2,u8,u9,u10,u11,u12,c1,dd,e1,hC,hx,jar,B.load5_rptr,hWo,g1,hix,hput,hfit,jae,jam,jac,hcc.1,hcc.2,hP2,jaA,d2,ldP,hZ,hF];refine⟨tbs.length-(i+1),aa,λj hj => ?_,_,i+1,rfl,hP3 _ _,rfl,aa,rfl⟩
   repeat rw[Kh aa]
   exact hT j hj
  ·have d2:=eq_false k2;by_cases k3:(tbs.getD i Tb.none).s.name=Q.other
   ·have d3:=eq_true k3;have hF:=fin l rl hl (less ⟨hpub,.inr k3⟩);simp only[simprocAttr,yK,K1,jaa,YW,lB,lH,u2,u8,u9,u10,u11,u12,c1,dd,e1,hC,hx,jar,B.load5_rptr,hWo,g1,hix,hput,hfit,jae,jam,jac,hcc.1,hcc.2,hP2,jaA,d2,d3,ldP,hZ,hF];refine⟨tbs.length-(i+1),aa,λj hj => ?_,_,i+1,rfl,hP3 _ _,rfl,aa,rfl⟩
    repeat rw[Kh aa]
    exact hT j hj
   ·have d3:=eq_false k3;have hF:=fin b rb hb (hv2 λe=>e.1.2.elim k2 k3);simp only[simprocAttr,yK,K1,jaa,YW,lB,lH,u2,u8,u9,u10,u11,u12,c1,dd,e1,hC,hx,jar,B.load5_rptr,hWo,g1,hix,hput,hfit,jae,jam,jac,hcc.1,hcc.2,hP2,jaA,d2,d3,ldP,hZ,hF];refine⟨tbs.length-(i+1),aa,λj hj => ?_,_,i+1,rfl,hP3 _ _,rfl,aa,rfl⟩
    repeat rw[Kh aa]
    exact hT j hj
 ·rw[hpub]at hx hWo;have hF:=fin b rb hb (hv2 λe=>by have:=e.1.1;rw[hpub]at this;cases this);simp only[simprocAttr,yK,K1,jaa,YW,lB,lH,u2,u8,u9,u10,u11,u12,c1,dd,e1,hC,hx,jar,B.load5_rptr,hWo,g1,hix,hput,hfit,jae,jam,jac,hcc.1,hcc.2,hP2,jaA,ldP,hZ,hF];refine⟨tbs.length-(i+1),aa,λj hj => ?_,_,i+1,rfl,hP3 _ _,rfl,aa,rfl⟩
  repeat rw[Kh aa]
  exact hT j hj
end
theorem jsL {b:V}{rb:List Rw}(h:OwR b rb)(o:Int):OwR (B.rwV ((jdG o rb).map B.cpR)) ((jdG o rb).map B.cpR)/\((jdG o rb).map B.cpR).map Rw.pl=wo o (rb.map Rw.pl):=by
 have sub:∀r∈(jdG o rb).map B.cpR,∃r0∈rb,r=B.cpR r0:=λr hr=>by
  obtain⟨r0,h0,rfl⟩:=Ji.1 hr;exact⟨r0,(Xz.1 h0).1,rfl⟩
 refine⟨⟨B.rwV_is _,λr hr => ?_,?_,λr hr => ?_⟩,?_⟩
 ·obtain⟨r0,h0,rfl⟩:=sub r hr;obtain⟨a,b⟩:=h.ok r0 h0;exact⟨B.isI_unk a,b⟩
 ·rw[Qw];exact Je (Vn ..) h.n
 ·obtain⟨r0,h0,rfl⟩:=sub r hr;exact h.s r0 h0
 ·rw[<- jhJ,Xw];rfl
theorem jux(U:S):jaf env (Go.Ab.ev env) 64 [] U=some (.bool true,U):=rfl
theorem owners_found {xv yv:V}{xs ys:List Int}(Kx:Tk xv xs)(Ky:Tk yv ys){ow:Int}(hw:In64 ow):Go.Ab.Found env 12 [xv,yv,.int .i64 ow]:=by
 refine jlc at12 rfl ?_;obtain⟨v,U1,hB,L1,ts1,cs,tbs,q,rfl,rfl,hb,x1,l1,k1⟩:=N.base_call Kx [] [];have hB:=(jwn [xv] ⟨[],[]⟩ (Go.Ab.ev env)).trans hB;have hS:∀U,jaf env (Go.Ab.ev env) 34 [.row (jaV tbs) tbs.length q] U=_:=jjK rfl (N.schemasOf_N (q:=q) hb) _;obtain⟨v,U2,hQ,Q,ev,wv,rv,M,ts2,rfl,rfl,g,ge,gw,gr,x2,hML,hMk⟩:=N.query_call (q:=.unk) Ky hb.kitSv.kb L1 ts1;have hQ:=(juw [yv,.row (jbl (sv tbs)) (sv tbs).length .unk] ⟨L1,ts1⟩ (Go.Ab.ev env)).trans hQ;have hlen:=N.good_len g;obtain⟨fa,fl⟩:=N.facs_ok hlen.2.2.2;have wq:WQ Q ev wv rv:=⟨.of ge,.of gw,.of gr,⟨hlen.1,hlen.2.1,hlen.2.2.1⟩,aa⟩;have wqW:WQ Q ev.weak wv.weak rv.weak:=⟨wq.e.weak (N.weakL_flatN _),wq.w.weak (N.weakL_flatN _),wq.r.weak (N.flatR_weak _),wq.l,wq.fl⟩;have hP:∀U,jaf env (Go.Ab.ev env) 20 [.int .i64 ow,.int .i64 6] U=_:=jjK rfl (N.pick_call ow 6 hw (by simp[In64]) af) _;obtain⟨o,e6⟩:∃o,IntKind.i64.wrap (1+ow % 6)=o:=⟨_,rfl⟩;obtain⟨b,rb,hbR,hV,hnb⟩:=N.own_pack (q:=q) hb wq fa o;have hV:∀U,jaf env (Go.Ab.ev env) 41 [.row (jaV tbs) tbs.length q,.agg (Q.cells ev wv rv)] U=some (b,U):=λU=>jtc rfl hV U _
 have hPr:∀U,jaf env (Go.Ab.ev env) 65 [.row (jaV tbs) tbs.length q,.str Q.table] U=some (.bool (jcN Q.table tbs),U):=jjK rfl (N.priv_N hb Q.table) _;have hLs:∀U,jaf env (Go.Ab.ev env) 67 [b,.int .i64 o] U=_:=jjK rfl (jgG hbR.is hbR.ok (by have:=hbR.n;omega) o) _;have hWo:=jwt hb q o;have hLR:=jsL hbR o;obtain⟨a0,ra0,ha0,hv0,w1,w2⟩:=hnb 0 false _ ev wv rv ae (.inl rfl) wq;have hV0:∀U,jaf env (Go.Ab.ev env) 41 [.row (jaV (nbL o 0 false tbs)) (nbL o 0 false tbs).length .unk,.agg (Q.cells ev wv rv)] U=some (a0,U):=λU=>jtc rfl hv0 U _
 have fin:∀(w:V) (rw':List Rw),OwR w rw'->ra0.map Rw.pl=rw'.map Rw.pl->∀U,jaf env (Go.Ab.ev env) 58 [a0,w] U=some (.bool true,U):=λw rw' ho he U=>jjK rfl (λU=>jfk ha0.is ho.is ha0.ok ho.ok (by have:=ha0.n;omega) ha0.s he U) _ U
 have hvk:∀k,k<tbs.length->∃(a:V) (ra:List Rw),OwR a ra/\(∀U,jaf N.env (Go.Ab.ev N.env) 41 [.row (jaV ((nbL o k true tbs).map jby)) tbs.length .unk,.agg (Q.cells ev.weak wv.weak rv.weak)] U=some (a,U)) /\
   ((ownC tbs Q k/\jcN Q.table tbs=true)->ra.map Rw.pl=wo o (rb.map Rw.pl))/\(¬(ownC tbs Q k/\jcN Q.table tbs=true)->ra.map Rw.pl=rb.map Rw.pl):=λk hk=>by
  obtain⟨a,ra,h1,h2,h3,h4⟩:=hnb k true _ ev.weak wv.weak rv.weak (λ_=>hk) (.inr rfl) wqW;rw[show((nbL o k true tbs).map jby).length=tbs.length by simp[nbL]]at h2;exact⟨a,ra,h1,h2,λc=>h3 ⟨λ_=>c.1,c.2⟩,λc=>h4 λe=>c ⟨e.1 rfl,e.2⟩⟩
 have kn:=jux;have x1c:=wq.e.nv hlen.1 |>.cell.2
 have x2c:=wq.w.nv hlen.2.1 |>.cell.2
 have x3c:=wq.r.rg hlen.2.2.1 |>.cell.2
 have ldG:=N.ldG30;unfold Qy.cells at hV hV0 hQ;by_cases hp:jcN Q.table tbs=true
 ·rw[hp]at hPr;have hF:=fin _ _ hLR.1 (by rw[hLR.2];exact w1 ⟨λe=>(by cases e),hp⟩);generalize B.rwV ((jdG o rb).map B.cpR)=lv at hLs hLR hF;simp only[Tryz.f12,simprocAttr,zK,K1,jaa,jaj,kn,hB,hS,hQ,zq,YW,YH,jad,jao,Qf,x1c,x2c,x3c,ldG,hP,e6,hV,hPr,hLs,hWo,hV0,hF];refine⟨ac,jom hb wq q hbR hLR.1 (λ_=>hLR.2) (λh=>absurd hp h) hvk (jad _ _) rfl rfl rfl rfl rfl rfl λT1 M1 a0 => ?_⟩;have v7:T1 7=.bool true:=a0 7 aa;simp only[simprocAttr,zK,Vq,v7];rfl
 ·rw[Bool.not_eq_true]at hp;rw[hp]at hPr;have hF:=fin _ _ hbR (w2 λe=>by rw[hp]at e;exact absurd e.2 af);simp only[Tryz.f12,simprocAttr,zK,K1,jaa,jaj,kn,hB,hS,hQ,zq,YW,YH,jad,jao,Qf,x1c,x2c,x3c,ldG,hP,e6,hV,hPr,hWo,hV0,hF];refine⟨ac,jom hb wq q hbR hbR (λh=>by rw[hp]at h;cases h) (λ_=>rfl) hvk (jad _ _) rfl rfl rfl rfl rfl rfl λT1 M1 a0 => ?_⟩;have v7:T1 7=.bool true:=a0 7 aa;simp only[simprocAttr,zK,Vq,v7];rfl
end Go.Proofs.YtajaampgajieeaaGreatDoor.O
namespace Go.Proofs.YtajaampgajieeaaGreatDoor
open Go.Ab
namespace N
theorem owners_foundt {u v w:V}(h:Tyd Tryz.prog 6 22 [u])(h2:Tyd Tryz.prog 6 22 [v])(h3:Tyd Tryz.prog 6 3 [w]):Go.Ab.Found O.env 12 [u,v,w]:=by
 obtain⟨xs,hx⟩:=jta (k:=4) h;obtain⟨ys,hy⟩:=jta (k:=4) h2;obtain⟨a,e,p1,p2⟩:=jpK h3 u3i;simp only[X9,and_true]at e;subst e;exact O.owners_found hx hy ⟨p1,p2⟩
end N
end Go.Proofs.YtajaampgajieeaaGreatDoor
namespace Go.Proofs.YtajaampgajieeaaGreatDoor.O
open Go.Ab
theorem jyZ {f:Nat}(h:memN f [64]=true):f=64:=by
 unfold memN at h;split at h
 ·exact Xg ‹_›
 ·simp[memN]at h
theorem env_ok:env.Ok:=env_ok_of λf h=>by
 have:=jyZ h;subst this;exact r64.known_row
theorem env_gl {W:World}{l:List (String × DataW Unit)}(h:laidMetH Tryz.prog l W)(hp:(l.all λx=>x.2.handleName?.isNone)=true)(m0:("privhouse/schema.reserved",Rows.laid_privhouse_schema_reserved)∈l)
  (m1:("internal/strconv.uint64pow10",Rows.laid_internal_strconv_uint64pow10)∈l):GOK env (Ctx.top W):=N.env_gl h hp m0 m1
end Go.Proofs.YtajaampgajieeaaGreatDoor.O
