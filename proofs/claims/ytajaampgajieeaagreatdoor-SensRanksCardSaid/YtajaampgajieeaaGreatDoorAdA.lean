/- Proved here: values, counts and totals. Conditions: each theorem's own. -/
import Derived.Test.YtajaampgajieeaaGreatDoorVxA
set_option linter.unusedSimpArgs false
set_option maxHeartbeats 16000000
set_option maxRecDepth 1000000
set_option linter.unusedVariables false
set_option linter.unusedSectionVars false
namespace Go.Proofs.YtajaampgajieeaaGreatDoor.B
open Go.Ab
open W (IsI)
theorem jzv:env.hook 114=some (jbP K.env 114):=rfl
theorem jzw:env.hook 116=some (jbP W.env 116):=rfl
theorem jsq(a b c:Int):rowO env 22 3 [(0,.int .i64 a),(1,.int .i64 b),(2,.int .i64 c)]=some (.row [.int .i64 a,.int .i64 b,.int .i64 c] 3 .full):=ac
theorem jvs(a:Int):rowO env 22 1 [(0,.int .i64 a)]=some (.row [.int .i64 a] 1 .full):=ac
theorem joinedL(v:VP)(hj:∀o pub left right limit,v.jn=some (o,pub,left,right,limit)->limit<=50):v.joined.length<=v.rows.length*50:=by
 have hk:v.kept.length<=v.rows.length:=by
  unfold VP.kept;split
  ·exact K7 _
  ·exact(jfl _ _ _).length_le
 unfold VP.joined;split
 ·omega
 ·rename_i o pub left right limit e;have hl:=hj _ _ _ _ _ e
  have:∀l:List PR,(jfk pub left right limit o l).length<=l.length*50:=λl=>by
   induction l with
   |nil=>simp[jfk]
   |cons r l ih =>
    rw[jdR,Kk,Qh];have:=jfn pub left right limit r o 0;omega
  have:=this v.kept;omega
def iV(xs:List Int):V:=if xs=[]then .nilsl else .row (xs.map (V.int .i64)) xs.length .unk
noncomputable def jhE(Q:Qy)(cs:List Col)(rs:List PR):List Int:=rs.map λr=>max Q.lo (min Q.hi (W.valueV Q.ex cs r.2))
noncomputable def jc8(l:List Tb)(Q:Qy):List Int:=jhE Q (jaR Q (sv l)) (vpQ l Q).view
theorem eI22:Elt env 22 3 1 8:=⟨ac,ac,ac,ac,ac⟩
section
variable {v:V}{l:List Tb}{Q:Qy}{ev' wv rv:V}{fe:Int}
open Classical in
theorem values37(hB:BOK v l)(hQ:K.QV Q ev' wv rv)(hf:K.Fac Q.factor fe)(U:S) :
  jah env (ev env) 37 [v,.agg (Q.cells ev' wv rv)] U=some (if valK Q.kind/\FitQ l Q fe then iV (jc8 l Q)else .nilsl,U):=by
 refine jaj (by rw[Ks,Ks,hB.closed,hQ.closed];rfl) at37 rfl ?_ U;have hl30:jab [K.qc30 Q ev' wv rv] 20 (.ptr 0 0)=_:=K.ld30 (Q:=Q) (ev:=ev') (wv:=wv) (rv:=rv) rfl;have hC:=λU=>jgv jzv (λU=>K.containsI_call (v:=.row [.int .i64 2,.int .i64 4,.int .i64 5] 3 .full) (ks:=[2,4,5]) (.inr (.inr rfl)) af Q.kind U) (Go.Ab.ev env) U
 have hmem:decide (Q.kind∈([2,4,5]:List Int))=decide (valK Q.kind):=by rw[decide_eq_decide];simp[valK]
 rw[hmem]at hC;unfold Qy.cells at *;by_cases hk:valK Q.kind
 case neg =>
  rw[decide_eq_false hk]at hC;rw[Ke λh=>hk h.1];simp only[Tryz.f37,simprocAttr,zK,K0,jaa,jai,tyb,fo,YW,hl30,jap,jsq,hC];rfl
 rw[decide_eq_true hk]at hC;simp only[hk,true_and];have hS:=jcA hB;obtain⟨cu,hcu,_,hCC⟩:=K.columns_call (jp9 hB) hQ;have hC26:=λU=>jgv hk26 hCC (ev env) U
 obtain⟨u,⟨hu1,hu2⟩,hV⟩:=jsh hB hQ hf;unfold Qy.cells at hC26 hV
 obtain⟨ws,hw1,hw2,hw3,hw4⟩:∃ws:List Rw,u=rwV ws/\(∀r∈ws,RowN (jnN l Q (tbN l Q.table).s.cs.length) r)/\(FitQ l Q fe->ws.map Rw.pl=(vpQ l Q).view)/\(¬FitQ l Q fe->ws=[]):=by
  by_cases hfit:FitQ l Q fe
  ·obtain⟨ws,a,b,c⟩:=hu1 hfit;exact⟨ws,a,b,λ_=>c,λh=>absurd hfit h⟩
  ·exact⟨[],hu2 hfit,λr h=>(by cases h),λh=>absurd h hfit,λ_=>rfl⟩
 have hR:=jhw ws;rw[<- hw1]at hR;have hlen:=jpY hR 70;simp only[Tryz.f37,simprocAttr,zK,K0,jaa,jai,tyb,fo,YW,hl30,jap,jsq,hC,hS,hC26,hV,hlen];refine⟨ac,?_⟩;generalize hr:(if FitQ l Q fe then iV (jc8 l Q)else V.nilsl)=res
 refine jaw (λm T D U=>D=[]/\T 3=.ptr 0 0/\T 6=cu/\T 20=u/\T 21=.int .i64 ws.length/\∃(L:List AObj) (ts:List Nat) (i:Nat) (g:V),U=⟨L,ts⟩/\T 22=.int .i64 i/\T 5=g/\i<=ws.length/\m=ws.length-i/\L[0]? = some (K.qc30 Q ev' wv rv)/\GrowV 0 ts 1 g i ((jhE Q (jaR Q (sv l)) ((ws.take i).map Rw.pl)).map (V.int .i64))/\(i=0->g=.nilsl)) ?_ (ws.length-0) _ _ _
  ⟨rfl,rfl,rfl,rfl,rfl,_,_,0,.nilsl,rfl,rfl,rfl,Qu _,rfl,rfl,.nil,λ_=>rfl⟩
 rintro m T D U ⟨rfl,t3,t6,t20,t21,L,ts,i,g,rfl,t22,t5,hi,rfl,q0,gg,g0⟩;refine jaB ?_;by_cases hlt:i<ws.length
 ·have c1:((i:Int)<(ws.length:Int))=True:=eq_true aa;have hfit:FitQ l Q fe:=Ji λh=>by rw[hw4 h]at hlt;simp at hlt
  have hK:=jbe hfit.2
  have hcu:=hcu ⟨hK.all,hK.tab,by
   by_cases ho:Q.other=[]
   ·exact .inl ho
   ·exact .inr (hK.other ho).1⟩
  have hx:=jpZ hR hlt;have hrow:=hw2 (ws.getD i Rw.none) (by simp[List.getD,hlt])
  have hn:jnN l Q (tbN l Q.table).s.cs.length<=400:=by
   obtain⟨_,_,_,_,_,h5,_⟩:=tbN_spec hK.tab;have h1:=(hB.t _ h5).cl;unfold jnN;split
   ·omega
   ·rename_i ho;obtain⟨_,_,_,_,_,h6,_⟩:=tbN_spec (hK.other ho).1;have h2:=(hB.t _ h6).cl;omega
  have hF:=jsg (jp9 hB) (Q:=Q) hQ.e hQ.cl.1 hcu;have hW:=λU=>jua jzw (λU=>W.value_call hF ⟨hrow.1,by rw[hrow.2.1];omega,hrow.2.2.1⟩ U) (ev env) U
  have hlim:lim=2^40:=rfl
  have hle:ws.length<=100000:=by
   have h1:=congrArg List.length (hw3 hfit);rw[Qt]at h1;have h2:=(vpQ l Q).view_sub.length_le
   have h3:=joinedL (vpQ l Q) λo pub left right limit e=>by
    unfold vpQ at e;by_cases ho:Q.other=[]
    ·simp only[ho,Km]at e;cases e
    ·simp only[ho,Ko,Ki,K6]at e;have:=(hK.other ho).2.2.2.2.1;omega
   obtain⟨_,_,_,_,_,h5,_⟩:=tbN_spec hK.tab;have h6:=((jj0 hfit.1).2 _ h5).l;have h7:(vpQ l Q).rows.length=(tbN l Q.table).rows.length:=by simp[vpQ]
   omega
  have e1:IntKind.i64.wrap ((i:Int)+1)=((i+1:Nat):Int):=by rw[wrap_i64 aa aa];omega
  have htk:(ws.take (i+1)).map Rw.pl=(ws.take i).map Rw.pl++[(ws.getD i Rw.none).pl]:=by
   rw[take_next Rw.none hlt,Jq];rfl
  have icv:=jcd hrow.1;generalize ws.getD i Rw.none=r at *;have q1:(L++[AObj.cells [.int .i64 r.own,r.vv] 70])[0]? = some (K.qc30 Q ev' wv rv):=jaE q0 _;have q2:(L++[AObj.cells [.int .i64 r.own,r.vv] 70])[L.length]? = some (.cells [.int .i64 r.own,r.vv] 70):=jad _ _;obtain⟨g',ts',hA,ga,_⟩:=GrowV.push (E:=env) (hp:=L++[AObj.cells [.int .i64 r.own,r.vv] 70]) (q:=.full) (new:=[.int .i64 (max Q.lo (min Q.hi (W.valueV Q.ex (jaR Q (sv l)) r.vs)))]) eI22 ⟨3,eI22.slice⟩ gg (Qu _) rfl rfl ⟨by rw[hlim];omega,by rw[hlim];omega⟩;have hmm:∀a b c:Int,(if(if a<b then a else b)>c then(if a<b then a else b)else c)=max c (min b a):=λa b c=>by split<;>split<;>omega
  have hrw:rowO env 22 1 [(0,.int .i64 (max Q.lo (min Q.hi (W.valueV Q.ex (jaR Q (sv l)) r.vs))))]=some (.row [.int .i64 (max Q.lo (min Q.hi (W.valueV Q.ex (jaR Q (sv l)) r.vs)))] 1 .full):=jvs _;simp only[simprocAttr,yK,K0,jaa,tyb,fo,t3,t5,t6,t20,t21,t22,c1,e1,hx,jbv,K2,jac,icv];refine jcq rfl (λs0=>s0.heap[0]? = some (K.qc30 Q ev' wv rv)/\s0.heap[L.length]? = some (.cells [.int .i64 r.own,r.vv] 70)) ⟨q1,q2⟩ ac ?_;simp only[simprocAttr,yK,K0,jaa,Kf,tyb,fo,t3,t5,t6,t20,t21,t22,q1,q2,hW,hmm,jap,hrw,hA,e1];refine⟨λs h=>by rw[h.1];rfl,λs h=>by rw[h.1];rfl,λs h=>by rw[h.1];rfl,λs h=>by rw[h.2];rfl,λ_=>trivial,λ_=>trivial,λ_=>trivial,λ_=>trivial,ws.length-(i+1),aa,_,ts',i+1,g',rfl,rfl,rfl,aa,rfl,q1,?_,λh=>aa⟩;rw[htk];simp only[jhE,Jq,Kw,Xc];simp only[jhE]at ga;exact ga
 ·have hie:i=ws.length:=by omega
  subst hie;have c1:((ws.length:Int)<(ws.length:Int))=False:=eq_false aa;rw[Jp]at gg;simp only[simprocAttr,zK,Vq,tyb,fo,t3,t5,t6,t20,t21,t22,c1];subst hr;by_cases hfit:FitQ l Q fe
  ·rw[Kh hfit];have e:(jhE Q (jaR Q (sv l)) (ws.map Rw.pl))=jc8 l Q:=by unfold jc8;rw[hw3 hfit]
   have el:(jc8 l Q).length=ws.length:=by rw[<- e];simp[jhE]
   rw[e]at gg;unfold iV;by_cases hz:ws.length=0
   ·rw[Kh (X8.1 aa),g0 hz];rfl
   ·rw[Ke λh=>by rw[h]at el;simp at el;omega];obtain⟨q,rfl⟩:=gg.isrow aa;show jaK L (11+1) (.row _ _ _)=_;rw[jaZ,jdt,el];rfl
  ·rw[Ke hfit,g0 (by rw[hw4 hfit];rfl)];rfl
end
theorem cells_le(w:Nat){B:Int}(hB:0<=B):∀(l:List (Nat × Int)),(∀x∈l,-B<=x.2/\x.2<=B)->∀i,i<w -> -(B*l.length)<=(jf1 w l).getD i 0/\(jf1 w l).getD i 0<=B*l.length:=λl h i hi=>by
 rw[jgJ hi]
 have key:∀l:List (Nat × Int),(∀x∈l,-B<=x.2/\x.2<=B) -> -(B*l.length)<=l.foldl (λa x=>a+x.2) 0/\l.foldl (λa x=>a+x.2) 0<=B*l.length:=λl=>by
  induction l with
  |nil=>intro _;simp
  |cons x l ih =>
   intro h;have h1:=ih λy hy=>h y (by simp[hy])
   have h2:=h x ae;rw[X4,jmb];have e:B*((x::l).length:Nat)=B*l.length+B:=by rw[Qh,X5,Int.mul_add];simp
   rw[e];omega
 have h1:=key (l.filter λx=>decide (x.1=i)) λx hx=>h x (Vk.1 hx).1
 have h2:B*((l.filter λx=>decide (x.1=i)).length:Int)<=B*(l.length:Int):=Int.mul_le_mul_of_nonneg_left (Int.ofNat_le.2 (Ui _ _)) hB;omega
section
variable {Q:Post}{ks:List Kt}{T:Tm}{H:List AObj}{ts:List Nat}{b w k n:Nat}{cu av u:V}{cs:List Col}{ws:List Rw}
end
theorem ji1 {c:Col}(h:Ok1 c):c.name ≠ []/\c.lo<=c.hi /\ -1000000<=c.lo/\c.hi<=1000000/\jea c=c.hi-c.lo+1:=by
 have hk:c.lo<=c.hi /\ -1000000<=c.lo/\c.hi<=1000000:=by
  have h2:=h.2;unfold colE at h2;by_cases a:c.ws.length=0
  ·rw[Kh a]at h2;by_cases b:c.lo < -1000000\/1000000<c.hi\/c.hi<c.lo
   ·rw[Kh b]at h2;cases h2
   ·omega
  ·rw[Ke a]at h2;by_cases b:64<c.ws.length
   ·rw[Kh b]at h2;cases h2
   rw[Ke b]at h2;by_cases d:∃i,i<c.ws.length/\¬jaY (c.ws.getD i [])
   ·rw[Kh d]at h2;cases h2
   rw[Ke d]at h2;by_cases e:jit c.ws
   ·rw[Kh e]at h2;cases h2
   rw[Ke e]at h2;by_cases f:c.lo ≠ 0\/c.hi ≠ (c.ws.length:Int)-1
   ·rw[Kh f]at h2;cases h2
   ·omega
 refine⟨λe => ?_,hk.1,hk.2.1,hk.2.2,?_⟩
 ·have:=h.1.1;rw[e]at this;simp at this
 ·unfold jea;have w1:IntKind.i64.wrap (c.hi-c.lo)=c.hi-c.lo:=wrap_i64 aa aa;rw[Kh h,w1,wrap_i64 aa aa]
def colI(cs:List Col)(Q:Qy):Nat:=(jbK cs Q.column).toNat
def cellI(cs:List Col)(k:Nat)(r:PR):Nat:=(r.2.getD k 0-(cs.getD k Col.none).lo).toNat
noncomputable def widQ(cs:List Col)(Q:Qy):Nat:=(jea (cs.getD (colI cs Q) Col.none)).toNat
section
variable {l:List Tb}{Q:Qy}{fe:Int}
theorem fit_col(h:FitQ l Q fe)(hC:∀c∈jaR Q (sv l),Ok1 c):(Q.column=[]↔¬colK Q.kind)/\(0<=jbK (jaR Q (sv l)) Q.column↔Q.column ≠ [])/\(Q.column ≠ []->colI (jaR Q (sv l)) Q<(jaR Q (sv l)).length/\1<=widQ (jaR Q (sv l)) Q/\widQ (jaR Q (sv l)) Q<=64):=by
 have hK:=jbe h.2
 have hn:0<=jbK (jaR Q (sv l)) Q.column->Q.column ≠ []:=λhp e=>by
  rcases jcn (jaR Q (sv l)) Q.column with a|⟨j,a,hj,b,_⟩
  ·omega
  ·exact(ji1 (hC ((jaR Q (sv l)).getD j Col.none) (by simp[List.getD,hj]))).1 (b.trans e)
 have hk:=hK.kind;have hc:=hK.col
 have h3:¬colK Q.kind->Q.column=[]:=λa=>by
  unfold jlS at hk;by_cases g:Q.kind<1\/10<Q.kind
  ·rw[Kh g]at hk;cases hk
  ·rw[Ke g]at hk;by_cases b:bad1 Q\/bad2 Q\/bad3 Q\/bad4 Q\/bad5 Q\/bad6 Q
   ·rw[Kh b]at hk;cases hk
   ·refine Ji λe=>b (.inr (.inr (.inl ⟨a,e⟩)))
 have h4:colK Q.kind->0<=jbK (jaR Q (sv l)) Q.column/\jea (colN (jaR Q (sv l)) Q.column)<=64:=λa=>by
  unfold jnr at hc;rw[Ke (λq=>q a)]at hc;by_cases b:0<=jbK (jaR Q (sv l)) Q.column
  ·rw[Ke (λq=>q b)]at hc;by_cases d:64<jea (colN (jaR Q (sv l)) Q.column)
   ·rw[Kh d]at hc;cases hc
   ·exact⟨b,aa⟩
  ·rw[Kh b]at hc;cases hc
 have h5:Q.column=[]↔¬colK Q.kind:=⟨λe a=>hn (h4 a).1 e,h3⟩;have h6:Q.column ≠ []->colK Q.kind:=λe=>Ji λa=>e (h3 a)
 refine⟨h5,⟨hn,λe=>(h4 (h6 e)).1⟩,λe => ?_⟩;obtain⟨a,b⟩:=h4 (h6 e);obtain⟨c,d⟩:=jft a
 have e2:colN (jaR Q (sv l)) Q.column=(jaR Q (sv l)).getD (colI (jaR Q (sv l)) Q) Col.none:=by
  unfold colN;rw[Kh a];rfl
 rw[e2]at b;have f:=ji1 (hC ((jaR Q (sv l)).getD (colI (jaR Q (sv l)) Q) Col.none) (by have:colI (jaR Q (sv l)) Q<_:=d;simp[List.getD,this]));exact⟨d,by unfold widQ;omega,by unfold widQ;omega⟩
theorem val_facts(hF:FitQ l Q fe):(valK Q.kind->Q.lo<=Q.hi /\ -1000000<=Q.lo/\Q.hi<=1000000/\0<Q.ex.length)/\(¬valK Q.kind->Q.ex.length=0):=by
 have hK:=jbe hF.2;refine⟨λhv => ?_,λhv => ?_⟩
 ·have hl:=hK.lim;have he:=hK.exp;unfold limE at hl;by_cases b:far Q.lo\/far Q.hi\/Q.hi<Q.lo
  ·rw[Kh ⟨hv,b⟩]at hl;cases hl
  unfold far at b
  have h0:0<Q.ex.length:=by
   rcases V6 Q.ex.length with e|e
   ·unfold expE at he;rw[Kh hv,X8.1 e]at he;cases he
   ·exact e
  exact⟨aa,aa,aa,h0⟩
 ·have hk:=hK.kind;unfold jlS at hk;by_cases g:Q.kind<1\/10<Q.kind
  ·rw[Kh g]at hk;cases hk
  ·rw[Ke g]at hk;by_cases b:bad1 Q\/bad2 Q\/bad3 Q\/bad4 Q\/bad5 Q\/bad6 Q
   ·rw[Kh b]at hk;cases hk
   ·rcases V6 Q.ex.length with e|e
    ·exact e
    ·exact absurd (.inl ⟨hv,.inl e⟩) b
theorem vals_len(l:List Tb)(Q:Qy):(jc8 l Q).length=(vpQ l Q).view.length:=by unfold jc8 jhE;rw[Qt]
theorem vals_in(hF:FitQ l Q fe)(hv:valK Q.kind):∀x∈jc8 l Q,Q.lo<=x/\x<=Q.hi:=λx hx=>by
 have h:=(val_facts hF).1 hv;unfold jc8 jhE at hx;obtain⟨r,_,rfl⟩:=Jc.1 hx;omega
noncomputable def jcJ(l:List Tb)(Q:Qy)(xs:List Int):List Int:=jf1 (widQ (jaR Q (sv l)) Q) (((vpQ l Q).view.map (cellI (jaR Q (sv l)) (colI (jaR Q (sv l)) Q))).zip xs)
end
theorem juS:env.hook 133=some (jbP YtajaampgajieeaaGreatDoor.env 133):=rfl
theorem jzx:jbE env 38 [(3,.nilsl)]=some (.agg [.str [],.bool false,.int .i64 0,.nilsl]):=ac
theorem jzy(cs:List V)(n:Nat):jbE env 38 [(3,.row cs n .unk)]=some (.agg [.str [],.bool false,.int .i64 0,.row cs n .unk]):=ac
theorem jzz {u:V}{cs:List Col}(h:K.CpV u cs):jbE env 38 [(3,u)]=some (.agg [.str [],.bool false,.int .i64 0,u]):=by
 rcases h with⟨rfl,_⟩|rfl
 ·exact jzx
 ·exact jzy _ _
theorem jsr(xs:List Int):IsI (iV xs) xs:=by
 unfold iV;split
 ·rename_i h;exact .inl ⟨rfl,h⟩
 ·exact .inr (.inl rfl)
theorem jss {lv:V}{ss:List Sch}{Q:Qy}{ev' wv rv:V}(hS:K.SB lv ss)(hQ:K.QV Q ev' wv rv):∃cu cs,K.CpV cu cs/\(K.tells Q ss->cs=jaR Q ss)/\OkC cs/\cs.length<=1000/\(∀i,i<cs.length->jdB (cs.getD i Col.none))/\∀U,jah env (ev env) 26 [.agg (Q.cells ev' wv rv),lv] U=some (cu,U):=by
 obtain⟨cu,h1,h2,h3⟩:=K.columns_call hS hQ;have hC:=λU=>jgv hk26 h3 (ev env) U
 by_cases ht:K.tells Q ss
 ·have hle:=joY (Q:=Q) hS.cl;refine⟨cu,_,h1 ht,λ_=>rfl,colsQ_all λs hs c hcm=>(hS.ok s hs).2 c hcm,aa,?_,hC⟩
  have:=colsQ_all (P:=λc=>jdB c) (Q:=Q) (ss:=ss) λs hs c hcm=>by
   obtain⟨i,hi,e⟩:=Jo hs;have hsh:=hS.sh i hi;rw[show ss.getD i Sch.none=s by simp[List.getD,hi,e]]at hsh;obtain⟨j,hj,e2⟩:=Jo hcm;have:=hsh.2.2 j hj;rwa[show s.cs.getD j Col.none=c by simp[List.getD,hj,e2]]at this
  exact λi hi=>this _ (by simp[List.getD,hi])
 ·exact⟨cu,[],.inl ⟨h2 ht,rfl⟩,λh=>absurd h ht,λc h=>(by cases h),ae,λi hi=>by simp at hi,hC⟩
section
variable {v:V}{l:List Tb}{Q:Qy}{ev' wv rv:V}{fe:Int}
end
end Go.Proofs.YtajaampgajieeaaGreatDoor.B
