/- Proved here: values, counts and totals. Conditions: each theorem's own. -/
import Derived.Test.YtajaampgajieeaaGreatDoorVxA
set_option linter.unusedSimpArgs false
set_option maxHeartbeats 16000000
set_option maxRecDepth 1000000
set_option linter.unusedVariables false
set_option linter.unusedSectionVars false
namespace Go.Proofs.YtajaampgajieeaaGreatDoor.B
open Go.Ab
open W (IsI)
theorem jzZ:env.hook 114=some (jbN K.env 114):=rfl
theorem jz0:env.hook 116=some (jbN W.env 116):=rfl
theorem jsN(a b c:Int):rowO env 22 3 [(0,.int .i64 a),(1,.int .i64 b),(2,.int .i64 c)]=some (.row [.int .i64 a,.int .i64 b,.int .i64 c] 3 .full):=ac
theorem jvW(a:Int):rowO env 22 1 [(0,.int .i64 a)]=some (.row [.int .i64 a] 1 .full):=ac
theorem joinedL(v:VP)(hj:∀o pub left right limit,v.jn=some (o,pub,left,right,limit)->limit<=50):v.joined.length<=v.rows.length*50:=by
 have hk:v.kept.length<=v.rows.length:=by
  unfold VP.kept;split
  ·exact K7 _
  ·exact(jeD _ _ _).length_le
 unfold VP.joined;split
 ·omega
 ·rename_i o pub left right limit e;have hl:=hj _ _ _ _ _ e
  have:∀l:List PR,(je7 pub left right limit o l).length<=l.length*50:=λl=>by
   induction l with
   |nil=>simp[je7]
   |cons r l ih =>
    rw[jdX,Kk,Qh];have:=jfv pub left right limit r o 0;omega
  have:=this v.kept;omega
def iV(xs:List Int):V:=if xs=[]then .nilsl else .row (xs.map (V.int .i64)) xs.length .unk
noncomputable def jhO(Q:Qy)(cs:List Col)(rs:List PR):List Int:=rs.map λr=>max Q.lo (min Q.hi (W.valueV Q.ex cs r.2))
noncomputable def jdc(l:List Tb)(Q:Qy):List Int:=jhO Q (jaD Q (sv l)) (vpQ l Q).view
theorem eI22:Elt env 22 3 1 8:=⟨ac,ac,ac,ac,ac⟩
section
variable {v:V}{l:List Tb}{Q:Qy}{ev' wv rv:V}{fe:Int}
open Classical in
theorem values37(hB:BOK v l)(hQ:K.QV Q ev' wv rv)(hf:K.Fac Q.factor fe)(U:S) :
  jaf env (ev env) 37 [v,.agg (Q.cells ev' wv rv)] U=some (if valK Q.kind/\FitQ l Q fe then iV (jdc l Q)else .nilsl,U):=by
 refine jaj (by rw[Kr,Kr,hB.closed,hQ.closed];rfl) at37 rfl ?_ U;have hl30:jab [K.qc30 Q ev' wv rv] 20 (.ptr 0 0)=_:=K.ld30 (Q:=Q) (ev:=ev') (wv:=wv) (rv:=rv) rfl;have hC:=λU=>jgE jzZ (λU=>K.containsI_call (v:=.row [.int .i64 2,.int .i64 4,.int .i64 5] 3 .full) (ks:=[2,4,5]) (.inr (.inr rfl)) af Q.kind U) (Go.Ab.ev env) U
 have hmem:decide (Q.kind∈([2,4,5]:List Int))=decide (valK Q.kind):=by rw[decide_eq_decide];simp[valK]
 rw[hmem]at hC;unfold Qy.cells at *;by_cases hk:valK Q.kind
 case neg =>
  rw[decide_eq_false hk]at hC;rw[Ke λh=>hk h.1];simp only[Tryz.f37,simprocAttr,zK,K0,jaa,jai,Q1,YW,hl30,jap,jsN,hC];rfl
 rw[decide_eq_true hk]at hC;simp only[hk,true_and];have hS:=jb2 hB;obtain⟨cu,hcu,_,hCC⟩:=K.columns_call (jmz hB) hQ;have hC26:=λU=>jgE hk26 hCC (ev env) U
 obtain⟨u,⟨hu1,hu2⟩,hV⟩:=view_call hB hQ hf;unfold Qy.cells at hC26 hV
 obtain⟨ws,hw1,hw2,hw3,hw4⟩:∃ws:List Rw,u=rwV ws/\(∀r∈ws,RowN (jnN l Q (tbN l Q.table).s.cs.length) r)/\(FitQ l Q fe->ws.map Rw.pl=(vpQ l Q).view)/\(¬FitQ l Q fe->ws=[]):=by
  by_cases hfit:FitQ l Q fe
  ·obtain⟨ws,a,b,c⟩:=hu1 hfit;exact⟨ws,a,b,λ_=>c,λh=>absurd hfit h⟩
  ·exact⟨[],hu2 hfit,λr h=>(by cases h),λh=>absurd h hfit,λ_=>rfl⟩
 have hR:=jgU ws;rw[<- hw1]at hR;have hlen:=jhN hR 70;simp only[Tryz.f37,simprocAttr,zK,K0,jaa,jai,Q1,YW,hl30,jap,jsN,hC,hS,hC26,hV,hlen];refine⟨ac,?_⟩;generalize hr:(if FitQ l Q fe then iV (jdc l Q)else V.nilsl)=res
 refine jav (λm T D U=>D=[]/\T 3=.ptr 0 0/\T 6=cu/\T 20=u/\T 21=.int .i64 ws.length/\∃(L:List AObj) (ts:List Nat) (i:Nat) (g:V),U=⟨L,ts⟩/\T 22=.int .i64 i/\T 5=g/\i<=ws.length/\m=ws.length-i/\L[0]? = some (K.qc30 Q ev' wv rv)/\GrowV 0 ts 1 g i ((jhO Q (jaD Q (sv l)) ((ws.take i).map Rw.pl)).map (V.int .i64))/\(i=0->g=.nilsl)) ?_ (ws.length-0) _ _ _
  ⟨rfl,rfl,rfl,rfl,rfl,_,_,0,.nilsl,rfl,rfl,rfl,Qr _,rfl,rfl,.nil,λ_=>rfl⟩
 rintro m T D U ⟨rfl,t3,t6,t20,t21,L,ts,i,g,rfl,t22,t5,hi,rfl,q0,gg,g0⟩;refine jaC ?_;by_cases hlt:i<ws.length
 ·have c1:((i:Int)<(ws.length:Int))=True:=eq_true aa;have hfit:FitQ l Q fe:=Ji λh=>by rw[hw4 h]at hlt;simp at hlt
  have hK:=jaY hfit.2
  have hcu:=hcu ⟨hK.all,hK.tab,by
   by_cases ho:Q.other=[]
   ·exact .inl ho
   ·exact .inr (hK.other ho).1⟩
  have hx:=jkZ hR hlt;have hrow:=hw2 (ws.getD i Rw.none) (by simp[List.getD,hlt])
  have hn:jnN l Q (tbN l Q.table).s.cs.length<=400:=by
   obtain⟨_,_,_,_,_,h5,_⟩:=tbN_spec hK.tab;have h1:=(hB.t _ h5).cl;unfold jnN;split
   ·omega
   ·rename_i ho;obtain⟨_,_,_,_,_,h6,_⟩:=tbN_spec (hK.other ho).1;have h2:=(hB.t _ h6).cl;omega
  have hF:=jsF (jmz hB) (Q:=Q) hQ.e hQ.cl.1 hcu;have hW:=λU=>juB jz0 (λU=>W.value_call hF ⟨hrow.1,by rw[hrow.2.1];omega,hrow.2.2.1⟩ U) (ev env) U
  have hlim:lim=2^40:=rfl
  have hle:ws.length<=100000:=by
   have h1:=congrArg List.length (hw3 hfit);rw[Qn]at h1;have h2:=(vpQ l Q).view_sub.length_le
   have h3:=joinedL (vpQ l Q) λo pub left right limit e=>by
    unfold vpQ at e;by_cases ho:Q.other=[]
    ·simp only[ho,Kl]at e;cases e
    ·simp only[ho,Kn,Ki,Kz]at e;have:=(hK.other ho).2.2.2.2.1;omega
   obtain⟨_,_,_,_,_,h5,_⟩:=tbN_spec hK.tab;have h6:=((jfT hfit.1).2 _ h5).l;have h7:(vpQ l Q).rows.length=(tbN l Q.table).rows.length:=by simp[vpQ]
   omega
  have e1:IntKind.i64.wrap ((i:Int)+1)=((i+1:Nat):Int):=by rw[wrap_i64 aa aa];omega
  have htk:(ws.take (i+1)).map Rw.pl=(ws.take i).map Rw.pl++[(ws.getD i Rw.none).pl]:=by
   rw[take_next Rw.none hlt,Jn];rfl
  have icv:=jb8 hrow.1;generalize ws.getD i Rw.none=r at *;have q1:(L++[AObj.cells [.int .i64 r.own,r.vv] 70])[0]? = some (K.qc30 Q ev' wv rv):=jaF q0 _;have q2:(L++[AObj.cells [.int .i64 r.own,r.vv] 70])[L.length]? = some (.cells [.int .i64 r.own,r.vv] 70):=jad _ _;obtain⟨g',ts',hA,ga,_⟩:=GrowV.push (E:=env) (hp:=L++[AObj.cells [.int .i64 r.own,r.vv] 70]) (q:=.full) (new:=[.int .i64 (max Q.lo (min Q.hi (W.valueV Q.ex (jaD Q (sv l)) r.vs)))]) eI22 ⟨3,eI22.slice⟩ gg (Qr _) rfl rfl ⟨by rw[hlim];omega,by rw[hlim];omega⟩;have hmm:∀a b c:Int,(if(if a<b then a else b)>c then(if a<b then a else b)else c)=max c (min b a):=λa b c=>by split<;>split<;>omega
  have hrw:rowO env 22 1 [(0,.int .i64 (max Q.lo (min Q.hi (W.valueV Q.ex (jaD Q (sv l)) r.vs))))]=some (.row [.int .i64 (max Q.lo (min Q.hi (W.valueV Q.ex (jaD Q (sv l)) r.vs)))] 1 .full):=jvW _;simp only[simprocAttr,yK,K0,jaa,Q1,t3,t5,t6,t20,t21,t22,c1,e1,hx,jbb,K2,jac,icv];refine jcz rfl (λs0=>s0.heap[0]? = some (K.qc30 Q ev' wv rv)/\s0.heap[L.length]? = some (.cells [.int .i64 r.own,r.vv] 70)) ⟨q1,q2⟩ ac ?_;simp only[simprocAttr,yK,K0,jaa,Kf,Q1,t3,t5,t6,t20,t21,t22,q1,q2,hW,hmm,jap,hrw,hA,e1];refine⟨λs h=>by rw[h.1];rfl,λs h=>by rw[h.1];rfl,λs h=>by rw[h.1];rfl,λs h=>by rw[h.2];rfl,λ_=>trivial,λ_=>trivial,λ_=>trivial,λ_=>trivial,ws.length-(i+1),aa,_,ts',i+1,g',rfl,rfl,rfl,aa,rfl,q1,?_,λh=>aa⟩;rw[htk];simp only[jhO,Jn,Kw,Jz];simp only[jhO]at ga;exact ga
 ·have hie:i=ws.length:=by omega
  subst hie;have c1:((ws.length:Int)<(ws.length:Int))=False:=eq_false aa;rw[Jp]at gg;simp only[simprocAttr,zK,Vq,Q1,t3,t5,t6,t20,t21,t22,c1];subst hr;by_cases hfit:FitQ l Q fe
  ·rw[Kg hfit];have e:(jhO Q (jaD Q (sv l)) (ws.map Rw.pl))=jdc l Q:=by unfold jdc;rw[hw3 hfit]
   have el:(jdc l Q).length=ws.length:=by rw[<- e];simp[jhO]
   rw[e]at gg;unfold iV;by_cases hz:ws.length=0
   ·rw[Kg (X5.1 aa),g0 hz];rfl
   ·rw[Ke λh=>by rw[h]at el;simp at el;omega];obtain⟨q,rfl⟩:=gg.isrow aa;show jaJ L (11+1) (.row _ _ _)=_;rw[ja1,jcM,el];rfl
  ·rw[Ke hfit,g0 (by rw[hw4 hfit];rfl)];rfl
end
theorem jt0 {r:Rw}{n:Nat}(h:RowN n r)(U:S):jaf env (ev env) 129 [.agg [.int .i64 r.own,r.vv]] U=some (.int .i64 1,U):=by
 have hc:V.closed r.vv=true:=W.closed_I h.1;refine jaj (by simp[V.closed,V.closed.closedL,hc]) jzF rfl ?_ U;simp only[Tryz.f129,simprocAttr,zK,Vq,jai,Q1];rfl
theorem jvX(a:Int)(U:S):jaf env (ev env) 131 [.int .i64 a] U=some (.int .i64 a,U):=by
 refine jaj rfl jzG rfl ?_ U;simp only[Tryz.f131,simprocAttr,zK,Vq,jai,Q1];rfl
theorem juK(b w:Nat){o:Nat}(h:o<w):jaw 1 (.hsl b 0 w w .exact) (.int .i64 (o:Int))=some (.ptr b o):=by
 simp only[jaw];rw[Kg aa];simp
theorem jmE {l:List Int}{n:Nat}(h:n<l.length)(x:Int):jaa (l.map (V.int .i64)) n [.int .i64 x]=(l.set n x).map (V.int .i64):=by
 rw[List.map_set,Vz,Kg (by simpa using h)];simp[jaa]
theorem jt1 {Q:Post}{ks:List Kt}{T:Tm}{H:List AObj}{ts:List Nat}{b w p i k:Nat}{cu av:V}{cs:List Col}{r:Rw}{xs os:List Int}{n:Nat}(hcu:IsC cu cs)(hk:k<cs.length)(hr:RowN n r)(hkn:k<n)(hx:IsI av xs)(hi:i<xs.length)
  {o:Nat} (ho:(r.vs.getD k 0)-(cs.getD k Col.none).lo=(o:Int)) (how:o<w) (hosl:os.length=w) (hlo:IntKind.i64.wrap (r.vs.getD k 0-(cs.getD k Col.none).lo)=r.vs.getD k 0-(cs.getD k Col.none).lo) (hsum:IntKind.i64.wrap (os.getD o 0+xs.getD i 0)=os.getD o 0+xs.getD i 0)
  (t2:T 2=av) (t3:T 3=.func 131 [] []) (t9:T 9=cu) (t10:T 10=.int .i64 k) (t12:T 12=.hsl b 0 w w .exact) (t13:T 13=.int .i64 i) (t14:T 14=.ptr p 0)
  (hp:H[p]? = some (.cells [.int .i64 r.own,r.vv] 70)) (hb:H[b]? = some (.cells (os.map (V.int .i64)) 3))
  (h:∀T',(∀j,j<=49->T' j=T j)->G env 130 none 74 Q ks .skip T' [] ⟨H.set b (.cells ((os.set o (os.getD o 0+xs.getD i 0)).map (V.int .i64)) 3),ts⟩) :
  G env 130 none 74 Q ks (regB 9 (jaA Tryz.f130)) T [] ⟨H,ts⟩:=by
 simp only[regB,jaA,Tryz.f130,Ku,regO,Option.or,Nat.reduceEqDiff,Kn,Kl,reduceIte];have hv:=W.idx_I hr.1 (i:=k) (by rw[hr.2.1];exact hkn);have hc:=jd2 hcu hk;have ha:=W.idx_I hx hi;have hix:=juK b w how;rw[<- ho]at hix;have hat:jb5 (some (AObj.cells (os.map (V.int .i64)) 3)) o=some (.int .i64 (os.getD o 0)):=by simp[jb5,List.getD,hosl,how]
 have hid:=jvX (xs.getD i 0);refine ju5 rfl [(false,[]),(false,[]),(false,[1]),(false,[]),(false,[]),(false,[1]),(false,[]),(false,[]),(false,[]),(false,[]),(false,[1]),(false,[]),(false,[]),(false,[1]),(false,[]),(false,[]),(false,[]),(false,[]),(false,[]),(true,[]),(false,[]),(false,[]),(true,[])] (λm s0=>m<=1->s0.heap=H) (λ_=>rfl) ac ac ?_;simp only[Ka,Nat.reduceLT,Nat.reduceEqDiff,Kl,Kn,reduceIte,Ys,Y0,Int.reduceEq,Int.reduceLT,Int.reduceLE,Int.reduceNeg,mb,Nat.reduceBEq,tys,stb,Vq,Nat.reduceGcd,jry,ju6,ju7,jrz,ju8,jrA,ju9,jnw,jkH,jgD,jiA,jbz,K7,-Ys,Q1,t2,t3,t9,t10,t12,t13,t14,hp,hb,hv,hc,ha,hix,jar,hlo,hat,hid,hsum];have hst:=jmE (show o<os.length by omega) (os.getD o 0+xs.getD i 0);rw[hst];refine⟨⟨λs e=>by rw[e,hp];rfl,trivial⟩,⟨λ_ _=>trivial,trivial⟩,⟨λ_ _=>trivial,trivial⟩,⟨λs e=>by rw[e,hb];exact hat,trivial⟩,⟨by simp;omega,rfl⟩,λh=>absurd h aa,h _ λj hj => ?_⟩;simp only[Z7]
 repeat rw[Ke aa]
theorem jt2 {Q:Post}{ks:List Kt}{T:Tm}{H:List AObj}{ts:List Nat}{b w p i k:Nat}{cu av:V}{cs:List Col}{r:Rw}{xs:List Rw}{os:List Int}{n:Nat}(hcu:IsC cu cs)(hk:k<cs.length)(hr:RowN n r)(hkn:k<n)(hx:IsR av xs)(hi:i<xs.length){n2:Nat}(hr2:RowN n2 (xs.getD i Rw.none))
  {o:Nat} (ho:(r.vs.getD k 0)-(cs.getD k Col.none).lo=(o:Int)) (how:o<w) (hosl:os.length=w) (hlo:IntKind.i64.wrap (r.vs.getD k 0-(cs.getD k Col.none).lo)=r.vs.getD k 0-(cs.getD k Col.none).lo) (hsum:IntKind.i64.wrap (os.getD o 0+1)=os.getD o 0+1)
  (t2:T 2=av) (t3:T 3=.func 129 [] []) (t9:T 9=cu) (t10:T 10=.int .i64 k) (t12:T 12=.hsl b 0 w w .exact) (t13:T 13=.int .i64 i) (t14:T 14=.ptr p 0)
  (hp:H[p]? = some (.cells [.int .i64 r.own,r.vv] 70)) (hb:H[b]? = some (.cells (os.map (V.int .i64)) 3))
  (h:∀T',(∀j,j<=49->T' j=T j)->G env 128 none 74 Q ks .skip T' [] ⟨H.set b (.cells ((os.set o (os.getD o 0+1)).map (V.int .i64)) 3),ts⟩) :
  G env 128 none 74 Q ks (regB 9 (jaA Tryz.f128)) T [] ⟨H,ts⟩:=by
 simp only[regB,jaA,Tryz.f128,Ku,regO,Option.or,Nat.reduceEqDiff,Kn,Kl,reduceIte];have hv:=W.idx_I hr.1 (i:=k) (by rw[hr.2.1];exact hkn);have hc:=jd2 hcu hk;have ha:=jkZ hx hi;have hix:=juK b w how;rw[<- ho]at hix;have hat:jb5 (some (AObj.cells (os.map (V.int .i64)) 3)) o=some (.int .i64 (os.getD o 0)):=by simp[jb5,List.getD,hosl,how]
 have hid:=jt0 hr2;refine ju5 rfl [(false,[]),(false,[]),(false,[1]),(false,[]),(false,[]),(false,[1]),(false,[]),(false,[]),(false,[]),(false,[]),(false,[1]),(false,[]),(false,[]),(false,[1]),(false,[]),(false,[]),(false,[]),(false,[]),(false,[]),(true,[]),(false,[]),(false,[]),(true,[])] (λm s0=>m<=1->s0.heap=H) (λ_=>rfl) ac ac ?_;simp only[Ka,Nat.reduceLT,Nat.reduceEqDiff,Kl,Kn,reduceIte,Ys,Y0,Int.reduceEq,Int.reduceLT,Int.reduceLE,Int.reduceNeg,mb,Nat.reduceBEq,tys,stb,Vq,Nat.reduceGcd,jry,ju6,ju7,jrz,ju8,jrA,ju9,jnw,jkH,jgD,jiA,jbz,K7,-Ys,Q1,t2,t3,t9,t10,t12,t13,t14,hp,hb,hv,hc,ha,hix,jar,jbb,hlo,hat,hid,hsum];have hst:=jmE (show o<os.length by omega) (os.getD o 0+1);rw[hst];refine⟨⟨λs e=>by rw[e,hp];rfl,trivial⟩,⟨λ_ _=>trivial,trivial⟩,⟨λ_ _=>trivial,trivial⟩,⟨λs e=>by rw[e,hb];exact hat,trivial⟩,⟨by simp;omega,rfl⟩,λh=>absurd h aa,h _ λj hj => ?_⟩;simp only[Z7]
 repeat rw[Ke aa]
theorem cells_le(w:Nat){B:Int}(hB:0<=B):∀(l:List (Nat × Int)),(∀x∈l,-B<=x.2/\x.2<=B)->∀i,i<w -> -(B*l.length)<=(jb7 w l).getD i 0/\(jb7 w l).getD i 0<=B*l.length:=λl h i hi=>by
 rw[jeb hi]
 have key:∀l:List (Nat × Int),(∀x∈l,-B<=x.2/\x.2<=B) -> -(B*l.length)<=l.foldl (λa x=>a+x.2) 0/\l.foldl (λa x=>a+x.2) 0<=B*l.length:=λl=>by
  induction l with
  |nil=>intro _;simp
  |cons x l ih =>
   intro h;have h1:=ih λy hy=>h y (by simp[hy])
   have h2:=h x ae;rw[Xz,jmo];have e:B*((x::l).length:Nat)=B*l.length+B:=by rw[Qh,Vt,Int.mul_add];simp
   rw[e];omega
 have h1:=key (l.filter λx=>decide (x.1=i)) λx hx=>h x (Vh.1 hx).1
 have h2:B*((l.filter λx=>decide (x.1=i)).length:Int)<=B*(l.length:Int):=Uc (Int.ofNat_le.2 (Ui _ _)) hB;omega
def jbu(cs:List Col)(k:Nat)(r:Rw):Nat:=(r.vs.getD k 0-(cs.getD k Col.none).lo).toNat
section
variable {Q:Post}{ks:List Kt}{T:Tm}{H:List AObj}{ts:List Nat}{b w k n:Nat}{cu av u:V}{cs:List Col}{ws:List Rw}
theorem jt3 {xs:List Int}(hcu:IsC cu cs)(hk:k<cs.length)(hkn:k<n)(hR:IsR u ws)(hw2:∀r∈ws,RowN n r)(hx:IsI av xs)(hxl:xs.length=ws.length)(hlen:ws.length<=100000)
  (hin:∀r∈ws,(cs.getD k Col.none).lo<=r.vs.getD k 0/\r.vs.getD k 0-(cs.getD k Col.none).lo<w) (hwl:w<=100000) (hxb:∀x∈xs,-(2^40:Int)<=x/\x<=2^40)
  (t2:T 2=av) (t3:T 3=.func 131 [] []) (t9:T 9=cu) (t10:T 10=.int .i64 k) (t12:T 12=.hsl b 0 w w .exact) (t43:T 43=u) (t44:T 44=.int .i64 ws.length) (t45:T 45=.int .i64 0)
  (hb:H[b]? = some (.cells ((List.replicate w (0:Int)).map (V.int .i64)) 3))
  (h:∀T' H',(∀j,j<=12->T' j=T j)->H'[b]? = some (.cells ((jb7 w ((ws.map (jbu cs k)).zip xs)).map (V.int .i64)) 3)->G env 130 none 74 Q ks .skip T' [] ⟨H',ts⟩) :
  jew env 130 none 74 (jdE 0 (jaA Tryz.f130)) T [] ⟨H,ts⟩ (Kt.post env 130 none 74 Q (.blk 0::ks)):=by
 have l9:regB 9 (jaA Tryz.f130)=regB 9 (jdE 0 (jaA Tryz.f130)):=rfl;simp only[jaA,Tryz.f130,Ku,jdE,blkC,Option.or,Nat.reduceEqDiff,Kn,Kl,reduceIte];have hlen2:=jhN hR 70;have hzl:∀i,i<=ws.length->(((ws.map (jbu cs k)).zip xs).take i).length=i:=λi hi=>by simp;omega
 refine jav (λm T' D U=>D=[]/\(∀j,j<=12->T' j=T j)/\T' 43=u/\T' 44=.int .i64 ws.length/\∃(i:Nat) (L:List AObj),U=⟨L,ts⟩/\T' 45=.int .i64 i/\i<=ws.length/\m=ws.length-i/\L[b]? = some (.cells ((jb7 w (((ws.map (jbu cs k)).zip xs).take i)).map (V.int .i64)) 3)) ?_ (ws.length-0) _ _ _
  ⟨rfl,λ_ _=>rfl,t43,t44,0,H,rfl,t45,Qr _,rfl,by rw[Jd,jj6];exact hb⟩
 rintro m T' D U ⟨rfl,hT,u43,u44,i,L,rfl,u45,hi,rfl,hLb⟩;refine jaC ?_;by_cases hlt:i<ws.length
 ·have c1:((i:Int)<(ws.length:Int))=True:=eq_true aa;have e1:IntKind.i64.wrap ((i:Int)+1)=((i+1:Nat):Int):=by rw[wrap_i64 aa aa];omega
  have hx2:=jkZ hR hlt;have hrm:ws.getD i Rw.none∈ws:=by simp[List.getD,hlt]
  have hrow:=hw2 _ hrm;have hinr:=hin _ hrm;have icv:=jb8 hrow.1;have u2:=(hT 2 aa).trans t2;have u3:=(hT 3 aa).trans t3;have u9:=(hT 9 aa).trans t9;have u10:=(hT 10 aa).trans t10;have u12:=(hT 12 aa).trans t12;have hxm:xs.getD i 0∈xs:=by simp[List.getD,show i<xs.length by omega]
  have hxbi:=hxb _ hxm;have hcl:=cells_le w (B:=2^40) af (((ws.map (jbu cs k)).zip xs).take i) (λx hx=>hxb _ (List.of_mem_zip (Vy hx)).2) (jbu cs k (ws.getD i Rw.none)) (by unfold jbu;omega);rw[hzl i hi]at hcl
  have htk:((ws.map (jbu cs k)).zip xs).take (i+1)=((ws.map (jbu cs k)).zip xs).take i++[(jbu cs k (ws.getD i Rw.none),xs.getD i 0)]:=by
   rw[Vj]
   congr 1
   simp[List.getD,hlt,show i<xs.length by omega,List.getElem?_zip_eq_some]
  generalize hrr:ws.getD i Rw.none=r at *;simp only[simprocAttr,yK,K0,jaa,Q1,u43,u44,u45,c1,hx2,jbb,K2,jac,icv];refine jt1 (b:=b) (w:=w) (p:=L.length) (i:=i) (k:=k) (cs:=cs) (r:=r) (xs:=xs) (os:=jb7 w (((ws.map (jbu cs k)).zip xs).take i)) (n:=n) (o:=jbu cs k r) hcu hk hrow hkn hx aa (by unfold jbu;omega) (by unfold jbu;omega) (jct _ _) (wrap_i64 aa aa) (wrap_i64 aa aa) u2 u3 u9 u10 u12 rfl rfl (jad _ _) (jaF hLb _) λT2 hT2 => ?_
  have v45:T2 45=.int .i64 i:=(hT2 45 aa).trans u45;have v43:T2 43=u:=(hT2 43 aa).trans u43;have v44:T2 44=.int .i64 ws.length:=(hT2 44 aa).trans u44;simp only[simprocAttr,zK,Vq,Q1,v43,v44,v45,e1];refine⟨ws.length-(i+1),aa,λj hj => ?_,i+1,_,rfl,rfl,aa,rfl,?_⟩
  ·repeat rw[Ke aa]
   rw[hT2 j aa,<- hT j hj];simp only[Z7]
   repeat rw[Ke aa]
  ·rw[htk,jiW,Km (by have:=jam hLb;simp;omega)]
 ·have hie:i=ws.length:=by omega
  subst hie;have c1:((ws.length:Int)<(ws.length:Int))=False:=eq_false aa;simp only[simprocAttr,zK,Vq,Q1,u43,u44,u45,c1];refine h _ L (λj hj => ?_) ?_
  ·rw[<- hT j hj];simp only[Z7];repeat rw[Ke aa]
  ·rw[Qt (by simp;omega)]at hLb;exact hLb
theorem jt4(hcu:IsC cu cs)(hk:k<cs.length)(hkn:k<n)(hR:IsR u ws)(hw2:∀r∈ws,RowN n r)(hlen:ws.length<=100000)
  (hin:∀r∈ws,(cs.getD k Col.none).lo<=r.vs.getD k 0/\r.vs.getD k 0-(cs.getD k Col.none).lo<w) (hwl:w<=100000)
  (t2:T 2=u) (t3:T 3=.func 129 [] []) (t9:T 9=cu) (t10:T 10=.int .i64 k) (t12:T 12=.hsl b 0 w w .exact) (t43:T 43=u) (t44:T 44=.int .i64 ws.length) (t45:T 45=.int .i64 0)
  (hb:H[b]? = some (.cells ((List.replicate w (0:Int)).map (V.int .i64)) 3))
  (h:∀T' H',(∀j,j<=12->T' j=T j)->H'[b]? = some (.cells ((jb7 w ((ws.map (jbu cs k)).zip (List.replicate ws.length 1))).map (V.int .i64)) 3)->G env 128 none 74 Q ks .skip T' [] ⟨H',ts⟩) :
  jew env 128 none 74 (jdE 0 (jaA Tryz.f128)) T [] ⟨H,ts⟩ (Kt.post env 128 none 74 Q (.blk 0::ks)):=by
 obtain⟨xs,hxs⟩:∃xs:List Int,xs=List.replicate ws.length 1:=⟨_,rfl⟩;rw[<- hxs]at h;have hxl:xs.length=ws.length:=by rw[hxs];simp
 have hxb:∀x∈xs,-(2^40:Int)<=x/\x<=2^40:=λx hx=>by rw[hxs]at hx;rw[List.eq_of_mem_replicate hx];decide
 have hx1:∀i,i<ws.length->xs.getD i 0=1:=λi hi=>by rw[hxs];simp[List.getD,hi]
 have l9:regB 9 (jaA Tryz.f128)=regB 9 (jdE 0 (jaA Tryz.f128)):=rfl;simp only[jaA,Tryz.f128,Ku,jdE,blkC,Option.or,Nat.reduceEqDiff,Kn,Kl,reduceIte];have hlen2:=jhN hR 70;have hzl:∀i,i<=ws.length->(((ws.map (jbu cs k)).zip xs).take i).length=i:=λi hi=>by simp;omega
 refine jav (λm T' D U=>D=[]/\(∀j,j<=12->T' j=T j)/\T' 43=u/\T' 44=.int .i64 ws.length/\∃(i:Nat) (L:List AObj),U=⟨L,ts⟩/\T' 45=.int .i64 i/\i<=ws.length/\m=ws.length-i/\L[b]? = some (.cells ((jb7 w (((ws.map (jbu cs k)).zip xs).take i)).map (V.int .i64)) 3)) ?_ (ws.length-0) _ _ _
  ⟨rfl,λ_ _=>rfl,t43,t44,0,H,rfl,t45,Qr _,rfl,by rw[Jd,jj6];exact hb⟩
 rintro m T' D U ⟨rfl,hT,u43,u44,i,L,rfl,u45,hi,rfl,hLb⟩;refine jaC ?_;by_cases hlt:i<ws.length
 ·have c1:((i:Int)<(ws.length:Int))=True:=eq_true aa;have e1:IntKind.i64.wrap ((i:Int)+1)=((i+1:Nat):Int):=by rw[wrap_i64 aa aa];omega
  have hx2:=jkZ hR hlt;have hrm:ws.getD i Rw.none∈ws:=by simp[List.getD,hlt]
  have hrow:=hw2 _ hrm;have hinr:=hin _ hrm;have icv:=jb8 hrow.1;have u2:=(hT 2 aa).trans t2;have u3:=(hT 3 aa).trans t3;have u9:=(hT 9 aa).trans t9;have u10:=(hT 10 aa).trans t10;have u12:=(hT 12 aa).trans t12;have hxm:xs.getD i 0∈xs:=by simp[List.getD,show i<xs.length by omega]
  have hxbi:=hxb _ hxm;have h1x:=hx1 i hlt;rw[h1x]at hxbi;have hcl:=cells_le w (B:=2^40) af (((ws.map (jbu cs k)).zip xs).take i) (λx hx=>hxb _ (List.of_mem_zip (Vy hx)).2) (jbu cs k (ws.getD i Rw.none)) (by unfold jbu;omega);rw[hzl i hi]at hcl
  have htk:((ws.map (jbu cs k)).zip xs).take (i+1)=((ws.map (jbu cs k)).zip xs).take i++[(jbu cs k (ws.getD i Rw.none),xs.getD i 0)]:=by
   rw[Vj]
   congr 1
   simp[List.getD,hlt,show i<xs.length by omega,List.getElem?_zip_eq_some]
  rw[h1x]at htk;generalize hrr:ws.getD i Rw.none=r at *;simp only[simprocAttr,yK,K0,jaa,Q1,u43,u44,u45,c1,hx2,jbb,K2,jac,icv];refine jt2 (b:=b) (w:=w) (p:=L.length) (i:=i) (k:=k) (cs:=cs) (r:=r) (xs:=ws) (os:=jb7 w (((ws.map (jbu cs k)).zip xs).take i)) (n:=n) (o:=jbu cs k r) hcu hk hrow hkn hR hlt (n2:=n) (by rw[hrr];exact hrow) (by unfold jbu;omega) (by unfold jbu;omega) (jct _ _) (wrap_i64 aa aa) (wrap_i64 aa aa) u2 u3 u9 u10 u12 rfl rfl (jad _ _) (jaF hLb _) λT2 hT2 => ?_
  have v45:T2 45=.int .i64 i:=(hT2 45 aa).trans u45;have v43:T2 43=u:=(hT2 43 aa).trans u43;have v44:T2 44=.int .i64 ws.length:=(hT2 44 aa).trans u44;simp only[simprocAttr,zK,Vq,Q1,v43,v44,v45,e1];refine⟨ws.length-(i+1),aa,λj hj => ?_,i+1,_,rfl,rfl,aa,rfl,?_⟩
  ·repeat rw[Ke aa]
   rw[hT2 j aa,<- hT j hj];simp only[Z7]
   repeat rw[Ke aa]
  ·rw[htk,jiW,Km (by have:=jam hLb;simp;omega)]
 ·have hie:i=ws.length:=by omega
  subst hie;have c1:((ws.length:Int)<(ws.length:Int))=False:=eq_false aa;simp only[simprocAttr,zK,Vq,Q1,u43,u44,u45,c1];refine h _ L (λj hj => ?_) ?_
  ·rw[<- hT j hj];simp only[Z7];repeat rw[Ke aa]
  ·rw[Qt (by simp;omega)]at hLb;exact hLb
end
theorem jfC {c:Col}(h:Ok1 c):c.name ≠ []/\c.lo<=c.hi /\ -1000000<=c.lo/\c.hi<=1000000/\jdf c=c.hi-c.lo+1:=by
 have hk:c.lo<=c.hi /\ -1000000<=c.lo/\c.hi<=1000000:=by
  have h2:=h.2;unfold colE at h2;by_cases a:c.ws.length=0
  ·rw[Kg a]at h2;by_cases b:c.lo < -1000000\/1000000<c.hi\/c.hi<c.lo
   ·rw[Kg b]at h2;cases h2
   ·omega
  ·rw[Ke a]at h2;by_cases b:64<c.ws.length
   ·rw[Kg b]at h2;cases h2
   rw[Ke b]at h2;by_cases d:∃i,i<c.ws.length/\¬jaZ (c.ws.getD i [])
   ·rw[Kg d]at h2;cases h2
   rw[Ke d]at h2;by_cases e:jiE c.ws
   ·rw[Kg e]at h2;cases h2
   rw[Ke e]at h2;by_cases f:c.lo ≠ 0\/c.hi ≠ (c.ws.length:Int)-1
   ·rw[Kg f]at h2;cases h2
   ·omega
 refine⟨λe => ?_,hk.1,hk.2.1,hk.2.2,?_⟩
 ·have:=h.1.1;rw[e]at this;simp at this
 ·unfold jdf;have w1:IntKind.i64.wrap (c.hi-c.lo)=c.hi-c.lo:=wrap_i64 aa aa;rw[Kg h,w1,wrap_i64 aa aa]
theorem jvY {a b:List Col}{x y:List Int}(hx:InC a x)(hy:InC b y)(hl:x.length=a.length):InC (a++b) (x++y):=λk hk=>by
 by_cases h:k<a.length
 ·have e1:(a++b).getD k Col.none=a.getD k Col.none:=by simp only[List.getD,Kj h]
  have e2:(x++y).getD k 0=x.getD k 0:=by simp only[List.getD,Kj (show k<x.length by omega)]
  rw[e1,e2];exact hx k h
 ·have e1:(a++b).getD k Col.none=b.getD (k-a.length) Col.none:=by simp only[List.getD,Jt (show a.length<=k by omega)]
  have e2:(x++y).getD k 0=y.getD (k-a.length) 0:=by simp only[List.getD,Jt (show x.length<=k by omega),hl]
  rw[Kk]at hk;rw[e1,e2];exact hy _ aa
def colI(cs:List Col)(Q:Qy):Nat:=(jbf cs Q.column).toNat
def cellI(cs:List Col)(k:Nat)(r:PR):Nat:=(r.2.getD k 0-(cs.getD k Col.none).lo).toNat
noncomputable def widQ(cs:List Col)(Q:Qy):Nat:=(jdf (cs.getD (colI cs Q) Col.none)).toNat
section
variable {l:List Tb}{Q:Qy}{fe:Int}
theorem jpq(ht:0<=ja3 (sv l) Q.table (sv l).length 0)(ho:Q.other ≠ []->0<=ja3 (sv l) Q.other (sv l).length 0):jaD Q (sv l)=(tbN l Q.table).s.cs++if Q.other=[]then []else(tbN l Q.other).s.cs:=by
 obtain⟨_,_,_,_,h4,_,_⟩:=tbN_spec ht;unfold jaD;rw[h4];by_cases h:Q.other=[]
 ·rw[Kg h,Kg h];rfl
 ·obtain⟨_,_,_,_,g4,_,_⟩:=tbN_spec (ho h);rw[Ke h,Ke h,g4];rfl
theorem jsO(h:FitQ l Q fe):∀r∈(vpQ l Q).view,InC (jaD Q (sv l)) r.2/\r.2.length=(jaD Q (sv l)).length:=λr hr=>by
 have hK:=jaY h.2;have hG:=(jfT h.1).2;obtain⟨_,_,_,_,_,h5,_⟩:=tbN_spec hK.tab;have hr:=(vpQ l Q).view_sub.subset hr;rw[jpq hK.tab λho=>(hK.other ho).1]
 have hrow:∀r∈(vpQ l Q).kept,InC (tbN l Q.table).s.cs r.2/\r.2.length=(tbN l Q.table).s.cs.length:=λr hr=>by
  have hr:r∈(vpQ l Q).rows:=by
   unfold VP.kept at hr;split at hr
   ·exact hr
   ·exact(jeD _ _ _).subset hr
  obtain⟨s,hs,rfl⟩:=Ja.1 hr;have:=(hG _ h5).r s hs;exact⟨this.2.1,this.1⟩
 by_cases ho:Q.other=[]
 ·have e:(vpQ l Q).joined=(vpQ l Q).kept:=by
   unfold VP.joined vpQ;simp only[ho,Kl]
  rw[e]at hr;rw[Kg ho,Jk];exact hrow r hr
 ·obtain⟨_,_,_,_,_,g5,_⟩:=tbN_spec (hK.other ho).1
  have e:(vpQ l Q).joined=je7 (tbN l Q.other).s.pub (ixL l Q) (ixR l Q) Q.limit ((tbN l Q.other).rows.map Rw.pl) (vpQ l Q).kept:=by
   unfold VP.joined vpQ;simp only[ho,Kn]
  rw[e]at hr;obtain⟨s,hs,hr⟩:=U7.1 hr;obtain⟨_,s2,hs2,e2,_⟩:=jeE _ _ _ _ _ _ _ r hr;obtain⟨s3,hs3,rfl⟩:=Ja.1 hs2;have h1:=hrow s hs;have h2:=(hG _ g5).r s3 hs3;rw[Ke ho,e2];exact⟨jvY h1.1 h2.2.1 h1.2,by rw[Kk,Kk,h1.2,h2.1]⟩
theorem jsP(h:FitQ l Q fe):(vpQ l Q).view.length<=100000:=by
 have hK:=jaY h.2;have h2:=(vpQ l Q).view_sub.length_le
 have h3:=joinedL (vpQ l Q) λo pub left right limit e=>by
  unfold vpQ at e;by_cases ho:Q.other=[]
  ·simp only[ho,Kl]at e;cases e
  ·simp only[ho,Kn,Ki,Kz]at e;have:=(hK.other ho).2.2.2.2.1;omega
 obtain⟨_,_,_,_,_,h5,_⟩:=tbN_spec hK.tab;have h6:=((jfT h.1).2 _ h5).l;have h7:(vpQ l Q).rows.length=(tbN l Q.table).rows.length:=by simp[vpQ]
 omega
theorem juL(ht:0<=ja3 (sv l) Q.table (sv l).length 0)(ho:Q.other ≠ []->0<=ja3 (sv l) Q.other (sv l).length 0):(jaD Q (sv l)).length=jnN l Q (tbN l Q.table).s.cs.length:=by
 rw[jpq ht ho,Kk];unfold jnN;by_cases h:Q.other=[]
 ·rw[Kg h,Kg h];rfl
 ·rw[Ke h,Ke h]
theorem fit_col(h:FitQ l Q fe)(hC:∀c∈jaD Q (sv l),Ok1 c):(Q.column=[]↔¬colK Q.kind)/\(0<=jbf (jaD Q (sv l)) Q.column↔Q.column ≠ [])/\(Q.column ≠ []->colI (jaD Q (sv l)) Q<(jaD Q (sv l)).length/\1<=widQ (jaD Q (sv l)) Q/\widQ (jaD Q (sv l)) Q<=64):=by
 have hK:=jaY h.2
 have hn:0<=jbf (jaD Q (sv l)) Q.column->Q.column ≠ []:=λhp e=>by
  rcases jcs (jaD Q (sv l)) Q.column with a|⟨j,a,hj,b,_⟩
  ·omega
  ·exact(jfC (hC ((jaD Q (sv l)).getD j Col.none) (by simp[List.getD,hj]))).1 (b.trans e)
 have hk:=hK.kind;have hc:=hK.col
 have h3:¬colK Q.kind->Q.column=[]:=λa=>by
  unfold jl4 at hk;by_cases g:Q.kind<1\/10<Q.kind
  ·rw[Kg g]at hk;cases hk
  ·rw[Ke g]at hk;by_cases b:bad1 Q\/bad2 Q\/bad3 Q\/bad4 Q\/bad5 Q\/bad6 Q
   ·rw[Kg b]at hk;cases hk
   ·refine Ji λe=>b (.inr (.inr (.inl ⟨a,e⟩)))
 have h4:colK Q.kind->0<=jbf (jaD Q (sv l)) Q.column/\jdf (colN (jaD Q (sv l)) Q.column)<=64:=λa=>by
  unfold jnK at hc;rw[Ke (λq=>q a)]at hc;by_cases b:0<=jbf (jaD Q (sv l)) Q.column
  ·rw[Ke (λq=>q b)]at hc;by_cases d:64<jdf (colN (jaD Q (sv l)) Q.column)
   ·rw[Kg d]at hc;cases hc
   ·exact⟨b,aa⟩
  ·rw[Kg b]at hc;cases hc
 have h5:Q.column=[]↔¬colK Q.kind:=⟨λe a=>hn (h4 a).1 e,h3⟩;have h6:Q.column ≠ []->colK Q.kind:=λe=>Ji λa=>e (h3 a)
 refine⟨h5,⟨hn,λe=>(h4 (h6 e)).1⟩,λe => ?_⟩;obtain⟨a,b⟩:=h4 (h6 e);obtain⟨c,d⟩:=jed a
 have e2:colN (jaD Q (sv l)) Q.column=(jaD Q (sv l)).getD (colI (jaD Q (sv l)) Q) Col.none:=by
  unfold colN;rw[Kg a];rfl
 rw[e2]at b;have f:=jfC (hC ((jaD Q (sv l)).getD (colI (jaD Q (sv l)) Q) Col.none) (by have:colI (jaD Q (sv l)) Q<_:=d;simp[List.getD,this]));exact⟨d,by unfold widQ;omega,by unfold widQ;omega⟩
theorem val_facts(hF:FitQ l Q fe):(valK Q.kind->Q.lo<=Q.hi /\ -1000000<=Q.lo/\Q.hi<=1000000/\0<Q.ex.length)/\(¬valK Q.kind->Q.ex.length=0):=by
 have hK:=jaY hF.2;refine⟨λhv => ?_,λhv => ?_⟩
 ·have hl:=hK.lim;have he:=hK.exp;unfold limE at hl;by_cases b:far Q.lo\/far Q.hi\/Q.hi<Q.lo
  ·rw[Kg ⟨hv,b⟩]at hl;cases hl
  unfold far at b
  have h0:0<Q.ex.length:=by
   rcases V6 Q.ex.length with e|e
   ·unfold expE at he;rw[Kg hv,X5.1 e]at he;cases he
   ·exact e
  exact⟨aa,aa,aa,h0⟩
 ·have hk:=hK.kind;unfold jl4 at hk;by_cases g:Q.kind<1\/10<Q.kind
  ·rw[Kg g]at hk;cases hk
  ·rw[Ke g]at hk;by_cases b:bad1 Q\/bad2 Q\/bad3 Q\/bad4 Q\/bad5 Q\/bad6 Q
   ·rw[Kg b]at hk;cases hk
   ·rcases V6 Q.ex.length with e|e
    ·exact e
    ·exact absurd (.inl ⟨hv,.inl e⟩) b
theorem vals_len(l:List Tb)(Q:Qy):(jdc l Q).length=(vpQ l Q).view.length:=by unfold jdc jhO;rw[Qn]
theorem vals_in(hF:FitQ l Q fe)(hv:valK Q.kind):∀x∈jdc l Q,Q.lo<=x/\x<=Q.hi:=λx hx=>by
 have h:=(val_facts hF).1 hv;unfold jdc jhO at hx;obtain⟨r,_,rfl⟩:=Ja.1 hx;omega
noncomputable def jbw(l:List Tb)(Q:Qy)(xs:List Int):List Int:=jb7 (widQ (jaD Q (sv l)) Q) (((vpQ l Q).view.map (cellI (jaD Q (sv l)) (colI (jaD Q (sv l)) Q))).zip xs)
end
theorem jr0:env.hook 133=some (jbN YtajaampgajieeaaGreatDoor.env 133):=rfl
theorem jz1:jbI env 38 [(3,.nilsl)]=some (.agg [.str [],.bool false,.int .i64 0,.nilsl]):=ac
theorem jz2(cs:List V)(n:Nat):jbI env 38 [(3,.row cs n .unk)]=some (.agg [.str [],.bool false,.int .i64 0,.row cs n .unk]):=ac
theorem jvZ {u:V}{cs:List Col}(h:K.CpV u cs):jbI env 38 [(3,u)]=some (.agg [.str [],.bool false,.int .i64 0,u]):=by
 rcases h with⟨rfl,_⟩|rfl
 ·exact jz1
 ·exact jz2 _ _
theorem mkw(L:List AObj)(ts:List Nat){w:Nat}(h0:1<=w)(h:w<=100000):jre env true ⟨L,ts⟩ 22 (.int .i64 w) (.int .i64 w)=some (.hsl L.length 0 w w .exact,⟨L++[.cells ((List.replicate w (0:Int)).map (V.int .i64)) 3],ts⟩):=by
 have z3:jbc env 3=some (.int .i64 0):=ac;have hlim:lim=2^40:=rfl;have hl:(w:Int)<=(lim:Int)/\(w:Int)*8<=(lim:Int):=by rw[hlim];omega
 have w0:¬w=0:=aa
 have hf:∀n:Nat,(List.replicate n [V.int .i64 0]).flatten=List.replicate n (V.int .i64 0):=λn=>by
  induction n with
  |zero=>rfl
  |succ n ih=>rw[Vn,Vi,ih,Vn];rfl
 simp only[jre,eI22.elem,eI22.size,eI22.bytes,Kq,z3];simp[hl,S.push,V.cells,hf,w0]
theorem jgW(xs:List Int):IsI (iV xs) xs:=by
 unfold iV;split
 ·rename_i h;exact .inl ⟨rfl,h⟩
 ·exact .inr (.inl rfl)
theorem jjc {lv:V}{ss:List Sch}{Q:Qy}{ev' wv rv:V}(hS:K.SB lv ss)(hQ:K.QV Q ev' wv rv):∃cu cs,K.CpV cu cs/\(K.tells Q ss->cs=jaD Q ss)/\OkC cs/\cs.length<=1000/\(∀i,i<cs.length->jdF (cs.getD i Col.none))/\∀U,jaf env (ev env) 26 [.agg (Q.cells ev' wv rv),lv] U=some (cu,U):=by
 obtain⟨cu,h1,h2,h3⟩:=K.columns_call hS hQ;have hC:=λU=>jgE hk26 h3 (ev env) U
 by_cases ht:K.tells Q ss
 ·have hle:=jpj (Q:=Q) hS.cl;refine⟨cu,_,h1 ht,λ_=>rfl,colsQ_all λs hs c hcm=>(hS.ok s hs).2 c hcm,aa,?_,hC⟩
  have:=colsQ_all (P:=λc=>jdF c) (Q:=Q) (ss:=ss) λs hs c hcm=>by
   obtain⟨i,hi,e⟩:=Jo hs;have hsh:=hS.sh i hi;rw[show ss.getD i Sch.none=s by simp[List.getD,hi,e]]at hsh;obtain⟨j,hj,e2⟩:=Jo hcm;have:=hsh.2.2 j hj;rwa[show s.cs.getD j Col.none=c by simp[List.getD,hj,e2]]at this
  exact λi hi=>this _ (by simp[List.getD,hi])
 ·exact⟨cu,[],.inl ⟨h2 ht,rfl⟩,λh=>absurd h ht,λc h=>(by cases h),ae,λi hi=>by simp at hi,hC⟩
section
variable {v:V}{l:List Tb}{Q:Qy}{ev' wv rv:V}{fe:Int}
theorem jgX(h:FitQ l Q fe):K.tells Q (sv l):=by
 have hK:=jaY h.2;refine⟨hK.all,hK.tab,?_⟩;by_cases ho:Q.other=[]
 ·exact .inl ho
 ·exact .inr (hK.other ho).1
theorem jsQ(H:List AObj)(os:List Int):jaJ H jak (iV os)=some (iV os):=by
 unfold iV;split
 ·rfl
 ·show jaJ H (10+1+1) (.row _ _ _)=_;rw[ja1,jcM];rfl
theorem jkf(H:List AObj){b w:Nat}{os:List Int}(h:H[b]? = some (.cells (os.map (V.int .i64)) 3))(hl:os.length=w)(hw:1<=w):jaJ H jak (.hsl b 0 w w .exact)=some (iV os):=by
 show(match H[b]? with|some (.cells cs _)=>if w<=w then((cs.drop 0).mapM (jaJ H 11)).map λc=>V.row c w .unk else none|_=>none)=_;rw[h];show(if w<=w then(((os.map (V.int .i64)).drop 0).mapM (jaJ H 11)).map λc=>V.row c w .unk else none)=_;have e:=jcM H 10 os;rw[Kg (K7 _),Qw,e];unfold iV;rw[Ke (λe=>by rw[e]at hl;simp at hl;omega),hl];rfl
open Classical in
theorem jpr(hB:BOK v l)(hQ:K.QV Q ev' wv rv)(hf:K.Fac Q.factor fe)(hC:∀c∈jaD Q (sv l),Ok1 c){av:V}{xs:List Int}(hx:IsI av xs)(hxl:FitQ l Q fe->xs.length=(vpQ l Q).view.length)(hxb:∀x∈xs,-(2^40:Int)<=x/\x<=2^40)(U:S) :
  jaf env (ev env) 130 [v,.agg (Q.cells ev' wv rv),av,.func 131 [] []] U=some (if FitQ l Q fe/\Q.column ≠ []then iV (jbw l Q xs)else .nilsl,U):=by
 refine jaj (by rw[Kr,Kr,Kr,hB.closed,hQ.closed,W.closed_I hx];rfl) jzE rfl ?_ U;have hl30:jab [K.qc30 Q ev' wv rv] 20 (.ptr 0 0)=_:=K.ld30 (Q:=Q) (ev:=ev') (wv:=wv) (rv:=rv) rfl;have hS:=jb2 hB;obtain⟨cu,cs,hcu,htl,hok,hle,hsh,hC26⟩:=jjc (jmz hB) hQ;have hcol:=λU=>jb1 jsD (λU=>jcS Q.column (.str []) (.bool false) (.int .i64 0) rfl rfl rfl cu cs hcu.isC hok hle U) (ev env) U
 have bd:=jvZ hcu;have hF:=jk6 hB hQ hf;unfold Qy.cells at hC26 hF ⊢
 change ∀U,_=some (jcf (jbf _ _),U)at hcol
 generalize hr:(if FitQ l Q fe/\Q.column ≠ []then iV (jbw l Q xs)else V.nilsl)=res;by_cases hk:0<=jbf cs Q.column
 case neg =>
  have hfit:¬(FitQ l Q fe/\Q.column ≠ []):=λh=>by
   have e:=htl (jgX h.1);rw[e]at hk;exact hk ((fit_col h.1 hC).2.1.2 h.2)
  rw[Ke hfit]at hr;subst hr;unfold jcf at hcol;rw[Ke hk,decide_eq_false hk]at hcol;simp only[Tryz.f130,simprocAttr,zK,K0,jaa,jai,Q1,YW,hl30,hS,hC26,bd,hcol];exact⟨ac,rfl⟩
 obtain⟨k1,k2⟩:=jed hk;rw[k1,jgV]at hcol;by_cases hfit:FitQ l Q fe
 case neg =>
  rw[Ke λh=>hfit h.1]at hr;subst hr;rw[show decide ((jdH l).1=0/\(jej Q (sv l) fe).1=0)=false from decide_eq_false hfit]at hF;simp only[Tryz.f130,simprocAttr,zK,K0,jaa,jai,Q1,YW,hl30,hS,hC26,bd,hcol,hF];exact⟨ac,rfl⟩
 rw[show decide ((jdH l).1=0/\(jej Q (sv l) fe).1=0)=true from decide_eq_true hfit]at hF;have ecs:=htl (jgX hfit);subst ecs;obtain⟨_,h2,h3⟩:=fit_col hfit hC;have hne:=h2.1 hk;obtain⟨c1,c2,c3⟩:=h3 hne;rw[Kg ⟨hfit,hne⟩]at hr;have hK:=jaY hfit.2;have hjl:=juL hK.tab λho=>(hK.other ho).1
 have hix:=jd2 hcu.isC k2;have hcm:(jaD Q (sv l)).getD (jbf (jaD Q (sv l)) Q.column).toNat Col.none∈jaD Q (sv l):=by simp[List.getD,k2]
 have hW:=λU=>jb1 jr0 (λU=>width_call _ (hok _ hcm) (hsh _ k2) U) (ev env) U
 have hof:=jfC (hC _ hcm)
 have hwq:jdf ((jaD Q (sv l)).getD (jbf (jaD Q (sv l)) Q.column).toNat Col.none)=(widQ (jaD Q (sv l)) Q:Int):=by
  show _=(((jdf ((jaD Q (sv l)).getD (jbf (jaD Q (sv l)) Q.column).toNat Col.none)).toNat:Nat):Int);omega
 rw[hwq]at hW;unfold aggC at hW;obtain⟨u,⟨hu1,_⟩,hV⟩:=view_call hB hQ hf;unfold Qy.cells at hV;obtain⟨ws,rfl,hw2,hw3⟩:=hu1 hfit;have hR:=jgU ws;have hlen:=jhN hR 70;have hvl:=jsP hfit;have hwl:ws.length=(vpQ l Q).view.length:=by rw[<- hw3,Qn]
 have hin:∀r∈ws,((jaD Q (sv l)).getD (colI (jaD Q (sv l)) Q) Col.none).lo<=r.vs.getD (colI (jaD Q (sv l)) Q) 0/\r.vs.getD (colI (jaD Q (sv l)) Q) 0-((jaD Q (sv l)).getD (colI (jaD Q (sv l)) Q) Col.none).lo<(widQ (jaD Q (sv l)) Q:Int):=λr hr=>by
  have:=(jsO hfit r.pl (by rw[<- hw3];exact Um hr)).1 _ c1;rw[<- hwq];have e:jbf (jaD Q (sv l)) Q.column=jbf (jaD Q (sv l)) Q.column:=rfl;unfold colI at this ⊢;simp only at this;omega
 have mk:=mkw [K.qc30 Q ev' wv rv] [] (w:=widQ (jaD Q (sv l)) Q) aa aa;have mbt:env.mutb 130 5=true:=rfl;have hl31:jab [K.qc30 Q ev' wv rv,.cells ((List.replicate (widQ (jaD Q (sv l)) Q) (0:Int)).map (V.int .i64)) 3] 20 (.ptr 0 0)=_:=K.ld30 (Q:=Q) (ev:=ev') (wv:=wv) (rv:=rv) rfl;simp only[Tryz.f130,simprocAttr,yK,K0,jaa,jai,Q1,YW,hl30,hS,hC26,bd,hcol,hF,hix,ld4r,hW,jeV,mbt,mk,hl31,hV,hlen];refine⟨ac,jt3 (b:=1) (w:=widQ (jaD Q (sv l)) Q) (k:=colI (jaD Q (sv l)) Q) (n:=jnN l Q (tbN l Q.table).s.cs.length) (ws:=ws) (xs:=xs) hcu.isC c1 aa hR hw2 hx (by have:=hxl hfit;omega) aa hin aa hxb rfl rfl rfl rfl rfl rfl rfl rfl rfl λT' H' ha hb => ?_⟩;have t12:T' 12=.hsl 1 0 (widQ (jaD Q (sv l)) Q) (widQ (jaD Q (sv l)) Q) .exact:=ha 12 aa;have hs:=jkf H' hb (jct _ _) c2;simp only[simprocAttr,zK,Vq,t12]
 have e:jb7 (widQ (jaD Q (sv l)) Q) ((ws.map (jbu (jaD Q (sv l)) (colI (jaD Q (sv l)) Q))).zip xs)=jbw l Q xs:=by
  unfold jbw;rw[<- hw3,Xv];rfl
 rw[e]at hs;rw[<- hr];exact hs
open Classical in
theorem jt5(hB:BOK v l)(hQ:K.QV Q ev' wv rv)(hf:K.Fac Q.factor fe)(hC:∀c∈jaD Q (sv l),Ok1 c){u:V}(hu1:FitQ l Q fe->VR (jnN l Q (tbN l Q.table).s.cs.length) (vpQ l Q).view u)(huc:u.closed=true)(hV:∀U,jaf env (ev env) 41 [v,.agg (Q.cells ev' wv rv)] U=some (u,U))(U:S) :
  jaf env (ev env) 128 [v,.agg (Q.cells ev' wv rv),u,.func 129 [] []] U=some (if FitQ l Q fe/\Q.column ≠ []then iV (jbw l Q (List.replicate (vpQ l Q).view.length 1))else .nilsl,U):=by
 refine jaj (by rw[Kr,Kr,Kr,hB.closed,hQ.closed,huc];rfl) jzD rfl ?_ U;have hl30:jab [K.qc30 Q ev' wv rv] 20 (.ptr 0 0)=_:=K.ld30 (Q:=Q) (ev:=ev') (wv:=wv) (rv:=rv) rfl;have hS:=jb2 hB;obtain⟨cu,cs,hcu,htl,hok,hle,hsh,hC26⟩:=jjc (jmz hB) hQ;have hcol:=λU=>jb1 jsD (λU=>jcS Q.column (.str []) (.bool false) (.int .i64 0) rfl rfl rfl cu cs hcu.isC hok hle U) (ev env) U
 have bd:=jvZ hcu;have hF:=jk6 hB hQ hf;unfold Qy.cells at hC26 hF hV ⊢
 change ∀U,_=some (jcf (jbf _ _),U)at hcol
 generalize hr:(if FitQ l Q fe/\Q.column ≠ []then iV (jbw l Q (List.replicate (vpQ l Q).view.length 1))else V.nilsl)=res;by_cases hk:0<=jbf cs Q.column
 case neg =>
  have hfit:¬(FitQ l Q fe/\Q.column ≠ []):=λh=>by
   have e:=htl (jgX h.1);rw[e]at hk;exact hk ((fit_col h.1 hC).2.1.2 h.2)
  rw[Ke hfit]at hr;subst hr;unfold jcf at hcol;rw[Ke hk,decide_eq_false hk]at hcol;simp only[Tryz.f128,simprocAttr,zK,K0,jaa,jai,Q1,YW,hl30,hS,hC26,bd,hcol];exact⟨ac,rfl⟩
 obtain⟨k1,k2⟩:=jed hk;rw[k1,jgV]at hcol;by_cases hfit:FitQ l Q fe
 case neg =>
  rw[Ke λh=>hfit h.1]at hr;subst hr;rw[show decide ((jdH l).1=0/\(jej Q (sv l) fe).1=0)=false from decide_eq_false hfit]at hF;simp only[Tryz.f128,simprocAttr,zK,K0,jaa,jai,Q1,YW,hl30,hS,hC26,bd,hcol,hF];exact⟨ac,rfl⟩
 rw[show decide ((jdH l).1=0/\(jej Q (sv l) fe).1=0)=true from decide_eq_true hfit]at hF;have ecs:=htl (jgX hfit);subst ecs;obtain⟨_,h2,h3⟩:=fit_col hfit hC;have hne:=h2.1 hk;obtain⟨c1,c2,c3⟩:=h3 hne;rw[Kg ⟨hfit,hne⟩]at hr;have hK:=jaY hfit.2;have hjl:=juL hK.tab λho=>(hK.other ho).1
 have hix:=jd2 hcu.isC k2;have hcm:(jaD Q (sv l)).getD (jbf (jaD Q (sv l)) Q.column).toNat Col.none∈jaD Q (sv l):=by simp[List.getD,k2]
 have hW:=λU=>jb1 jr0 (λU=>width_call _ (hok _ hcm) (hsh _ k2) U) (ev env) U
 have hof:=jfC (hC _ hcm)
 have hwq:jdf ((jaD Q (sv l)).getD (jbf (jaD Q (sv l)) Q.column).toNat Col.none)=(widQ (jaD Q (sv l)) Q:Int):=by
  show _=(((jdf ((jaD Q (sv l)).getD (jbf (jaD Q (sv l)) Q.column).toNat Col.none)).toNat:Nat):Int);omega
 rw[hwq]at hW;unfold aggC at hW;obtain⟨ws,rfl,hw2,hw3⟩:=hu1 hfit;have hR:=jgU ws;have hlen:=jhN hR 70;have hvl:=jsP hfit;have hwl:ws.length=(vpQ l Q).view.length:=by rw[<- hw3,Qn]
 have hin:∀r∈ws,((jaD Q (sv l)).getD (colI (jaD Q (sv l)) Q) Col.none).lo<=r.vs.getD (colI (jaD Q (sv l)) Q) 0/\r.vs.getD (colI (jaD Q (sv l)) Q) 0-((jaD Q (sv l)).getD (colI (jaD Q (sv l)) Q) Col.none).lo<(widQ (jaD Q (sv l)) Q:Int):=λr hr=>by
  have:=(jsO hfit r.pl (by rw[<- hw3];exact Um hr)).1 _ c1;rw[<- hwq];have e:jbf (jaD Q (sv l)) Q.column=jbf (jaD Q (sv l)) Q.column:=rfl;unfold colI at this ⊢;simp only at this;omega
 have mk:=mkw [K.qc30 Q ev' wv rv] [] (w:=widQ (jaD Q (sv l)) Q) aa aa;have mbt:env.mutb 128 5=true:=rfl;have hl31:jab [K.qc30 Q ev' wv rv,.cells ((List.replicate (widQ (jaD Q (sv l)) Q) (0:Int)).map (V.int .i64)) 3] 20 (.ptr 0 0)=_:=K.ld30 (Q:=Q) (ev:=ev') (wv:=wv) (rv:=rv) rfl;simp only[Tryz.f128,simprocAttr,yK,K0,jaa,jai,Q1,YW,hl30,hS,hC26,bd,hcol,hF,hix,ld4r,hW,jeV,mbt,mk,hl31,hV,hlen];refine⟨ac,jt4 (b:=1) (w:=widQ (jaD Q (sv l)) Q) (k:=colI (jaD Q (sv l)) Q) (n:=jnN l Q (tbN l Q.table).s.cs.length) (ws:=ws) hcu.isC c1 aa hR hw2 aa hin aa rfl rfl rfl rfl rfl rfl rfl rfl rfl λT' H' ha hb => ?_⟩;have t12:T' 12=.hsl 1 0 (widQ (jaD Q (sv l)) Q) (widQ (jaD Q (sv l)) Q) .exact:=ha 12 aa;have hs:=jkf H' hb (jct _ _) c2;simp only[simprocAttr,zK,Vq,t12]
 have e:jb7 (widQ (jaD Q (sv l)) Q) ((ws.map (jbu (jaD Q (sv l)) (colI (jaD Q (sv l)) Q))).zip (List.replicate ws.length 1))=jbw l Q (List.replicate (vpQ l Q).view.length 1):=by
  unfold jbw;rw[<- hw3,Xv,hwl,<- hw3];rfl
 rw[e]at hs;rw[<- hr];exact hs
open Classical in
theorem counts43(hB:BOK v l)(hQ:K.QV Q ev' wv rv)(hf:K.Fac Q.factor fe)(hC:∀c∈jaD Q (sv l),Ok1 c)(U:S) :
  jaf env (ev env) 43 [v,.agg (Q.cells ev' wv rv)] U=some (if FitQ l Q fe/\Q.column ≠ []then iV (jbw l Q (List.replicate (vpQ l Q).view.length 1))else .nilsl,U):=by
 refine jaj (by rw[Kr,Kr,hB.closed,hQ.closed];rfl) at43 rfl ?_ U;have hl30:jab [K.qc30 Q ev' wv rv] 20 (.ptr 0 0)=_:=K.ld30 (Q:=Q) (ev:=ev') (wv:=wv) (rv:=rv) rfl;obtain⟨u,⟨hu1,hu2⟩,hV⟩:=view_call hB hQ hf
 have huc:u.closed=true:=by
  by_cases hfit:FitQ l Q fe
  ·obtain⟨ws,rfl,a,b⟩:=hu1 hfit;exact jgR (jgU ws) λr hr=>⟨(a r hr).1,(a r hr).2.2.1,(a r hr).2.2.2⟩
  ·rw[hu2 hfit];rfl
 have hc:=jt5 hB hQ hf hC hu1 huc hV;generalize hr:(if FitQ l Q fe/\Q.column ≠ []then iV (jbw l Q (List.replicate (vpQ l Q).view.length 1))else V.nilsl)=res at *
 have hs:jaJ [K.qc30 Q ev' wv rv] jak res=some res:=by
  rw[<- hr];split
  ·exact jsQ _ _
  ·rfl
 unfold Qy.cells at hV hc ⊢;simp only[Tryz.f43,simprocAttr,zK,Vq,jai,Q1,YW,hl30,hV,hc];exact⟨ac,hs⟩
open Classical in
theorem totals45(hB:BOK v l)(hQ:K.QV Q ev' wv rv)(hf:K.Fac Q.factor fe)(hC:∀c∈jaD Q (sv l),Ok1 c)(U:S) :
  jaf env (ev env) 45 [v,.agg (Q.cells ev' wv rv)] U=some (if FitQ l Q fe/\Q.kind=4 then iV (jbw l Q (jdc l Q))else .nilsl,U):=by
 refine jaj (by rw[Kr,Kr,hB.closed,hQ.closed];rfl) at45 rfl ?_ U;have hl30:jab [K.qc30 Q ev' wv rv] 20 (.ptr 0 0)=_:=K.ld30 (Q:=Q) (ev:=ev') (wv:=wv) (rv:=rv) rfl;have hVal:=values37 hB hQ hf;by_cases k:Q.kind=4
 case neg =>
  have d1:=eq_false k;rw[Ke λh=>k h.2];unfold Qy.cells;simp only[Tryz.f45,simprocAttr,zK,Vq,jai,Q1,YW,hl30,d1,Jc];rfl
 have hv:valK Q.kind:=.inr (.inl k);have d1:=eq_true k
 have hcc:∃av,(∀U,jaf env (ev env) 37 [v,.agg (Q.cells ev' wv rv)] U=some (av,U))/\∀U,jaf env (ev env) 130 [v,.agg (Q.cells ev' wv rv),av,.func 131 [] []] U=some (if FitQ l Q fe/\Q.kind=4 then iV (jbw l Q (jdc l Q))else .nilsl,U):=by
  by_cases hfit:FitQ l Q fe
  ·rw[Kg ⟨hv,hfit⟩]at hVal;have h4:Q.column ≠ []:=λe=>(fit_col hfit hC).1.1 e (by rw[k];unfold colK;omega)
   refine⟨_,hVal,λU => ?_⟩;rw[jpr hB hQ hf hC (jgW _) (λ_=>vals_len _ _) (λx hx=>by have:=vals_in hfit hv x hx;have:=(val_facts hfit).1 hv;omega) U,Kg ⟨hfit,h4⟩,Kg ⟨hfit,k⟩]
  ·rw[Ke λh=>hfit h.2]at hVal;refine⟨_,hVal,λU => ?_⟩;rw[jpr hB hQ hf hC (xs:=[]) (.inl ⟨rfl,rfl⟩) (λh=>absurd h hfit) (λx hx=>by cases hx) U,Ke λh=>hfit h.1,Ke λh=>hfit h.1]
 obtain⟨av,h1,hc⟩:=hcc;generalize hr:(if FitQ l Q fe/\Q.kind=4 then iV (jbw l Q (jdc l Q))else V.nilsl)=res at *
 have hs:jaJ [K.qc30 Q ev' wv rv] jak res=some res:=by
  rw[<- hr];split
  ·exact jsQ _ _
  ·rfl
 unfold Qy.cells at h1 hc ⊢;simp only[Tryz.f45,simprocAttr,zK,Vq,jai,Q1,YW,hl30,d1,h1,hc];exact⟨ac,hs⟩
end
end Go.Proofs.YtajaampgajieeaaGreatDoor.B
