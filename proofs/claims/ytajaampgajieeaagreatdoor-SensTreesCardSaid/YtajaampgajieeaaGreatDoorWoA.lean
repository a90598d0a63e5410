/- Proved here: tables without an owner. Conditions: each theorem's own. -/
import Derived.Test.YtajaampgajieeaaGreatDoorVxA
set_option linter.unusedSimpArgs false
set_option linter.unusedVariables false
set_option linter.unusedSectionVars false
set_option maxHeartbeats 16000000
set_option maxRecDepth 1000000
namespace Go.Proofs.YtajaampgajieeaaGreatDoor
open Go.Ab
def absI(n:Int):Int:=max n (-n)
theorem jul(a b:Int):absI (a+b)<=absI a+absI b:=by unfold absI;omega
def only(o:Int)(l:List PR):List PR:=l.filter λr=>decide (r.1=o)
theorem jpi(o:Int)(l:List PR):(only o l).length=cnt o l:=by unfold only cnt;rw[List.countP_eq_length_filter]
theorem jpj {o:Int}{l:List PR}{r:PR}:r∈only o l↔r∈l/\r.1=o:=by simp[only]
theorem jsY(o:Int)(r:PR)(l:List PR):only o (r::l)=if r.1=o then r::only o l else only o l:=by
 unfold only;by_cases h:r.1=o
 ·rw[Xi (by simpa using h),Kg h]
 ·rw[X6 (by simpa using h),Ke h]
def jco(w:Nat)(ix:PR->Nat)(am:PR->Int)(X:List PR):List Int:=jcD w (X.map λr=>(ix r,am r))
theorem jjb(w:Nat)(ix:PR->Nat)(am:PR->Int)(X:List PR):(jco w ix am X).length=w:=jcV _ _
theorem jjc {w i:Nat}(ix:PR->Nat)(am:PR->Int)(hi:i<w):(jco w ix am []).getD i 0=0:=by
 unfold jco;rw[jec hi];rfl
theorem jeH {w i:Nat}(ix:PR->Nat)(am:PR->Int)(r:PR)(X:List PR)(hi:i<w):(jco w ix am (r::X)).getD i 0=(if ix r=i then am r else 0)+(jco w ix am X).getD i 0:=by
 unfold jco;rw[jec hi,jec hi,K6];by_cases h:ix r=i
 ·rw[Xi (by simpa using h),X4,jml,Kg h];simp
 ·rw[X6 (by simpa using h),Ke h];simp
theorem jgu {w i:Nat}(ix:PR->Nat)(am:PR->Int)(o:Int)(hi:i<w):∀X:List PR,(jco w ix am X).getD i 0=(jco w ix am (wo o X)).getD i 0+(jco w ix am (only o X)).getD i 0
 | []=>by rw[jxu,show only o []=[]from rfl,jjc ix am hi];rfl
 |r::X=>by
  have ih:=jgu ix am o hi X;rw[jeH ix am r X hi,jhm,jsY,ih];by_cases h:r.1=o
  ·rw[Kg h,Kg h,jeH ix am r _ hi];omega
  ·rw[Ke h,Ke h,jeH ix am r _ hi];omega
def je7(x y:List Int):Int:=sumI ((List.range (min x.length y.length)).map λi=>absI (x.getD i 0-y.getD i 0))
theorem jsZ {α:Type}{f g:α->Int}:∀{l:List α},(∀x∈l,f x<=g x)->sumI (l.map f)<=sumI (l.map g)
 | [],_=>Jt _
 |x::l,h=>by
  rw[K6,K6,jcP,jcP];have h1:=h x ae;have h2:=jsZ (l:=l) λy hy=>h y (by simp[hy])
  omega
theorem jmE(w:Nat)(ix:PR->Nat)(am:PR->Int){B:Int}(hB:0<=B):∀L:List PR,(∀r∈L,absI (am r)<=B)->sumI ((List.range w).map λi=>absI ((jco w ix am L).getD i 0))<=(L.length:Int)*B
 | [],_=>by
  have e:(List.range w).map (λi=>absI ((jco w ix am []).getD i 0))=(List.range w).map λ_=>0:=Xz λi hi=>by rw[jjc ix am (Xs.1 hi)];rfl
  rw[e,Ti,jmn];simp
 | r::L,h=>by
  have ih:=jmE w ix am hB L λx hx=>h x (by simp[hx])
  have h1:=h r ae
  have e:sumI ((List.range w).map λi=>absI ((jco w ix am (r::L)).getD i 0))<=sumI ((List.range w).map λi=>(if ix r=i then absI (am r)else 0)+absI ((jco w ix am L).getD i 0)):=jsZ λi hi=>by
   rw[jeH ix am r L (Xs.1 hi)];refine V5 (jul _ _) ?_;split
   ·exact Jt _
   ·simp[absI]
  refine V5 e ?_;rw[jhC,jo2,Qh];have:((L.length+1:Nat):Int)*B=(L.length:Int)*B+B:=by rw[Vh,Int.add_mul];simp
  rw[this];split<;>omega
theorem jn8(w:Nat)(ix:PR->Nat)(am:PR->Int)(o:Int){B:Int}(hB:0<=B)(X:List PR)(h:∀r∈X,r.1=o->absI (am r)<=B):je7 (jco w ix am X) (jco w ix am (wo o X))<=(cnt o X:Int)*B:=by
 unfold je7;rw[jjb,jjb,Nat.min_self]
 have e:(List.range w).map (λi=>absI ((jco w ix am X).getD i 0-(jco w ix am (wo o X)).getD i 0))=(List.range w).map λi=>absI ((jco w ix am (only o X)).getD i 0):=Xz λi hi=>by
  rw[jgu ix am o (Xs.1 hi) X];congr 1;omega
 rw[e,<- jpi];exact jmE w ix am hB (only o X) λr hr=>h r (jpj.1 hr).1 (jpj.1 hr).2
theorem jkm(w:Nat)(ix:PR->Nat):∀(L:List PR) {i:Nat},i<w->0<=(jco w ix (λ_=>1) L).getD i 0/\(jco w ix (λ_=>1) L).getD i 0<=L.length
 | [],i,hi=>by rw[jjc ix _ hi];simp
 |r::L,i,hi=>by
  have ih:=jkm w ix L hi;rw[jeH ix _ r L hi,Qh];split<;>omega
theorem jqr(w:Nat)(ix:PR->Nat)(o:Int)(X:List PR){i:Nat}(hi:i<w):(jco w ix (λ_=>1) (wo o X)).getD i 0<=(jco w ix (λ_=>1) X).getD i 0/\(jco w ix (λ_=>1) X).getD i 0-cnt o X<=(jco w ix (λ_=>1) (wo o X)).getD i 0:=by
 have h:=jkm w ix (only o X) hi;rw[jgu ix (λ_=>1) o hi X,<- jpi];omega
theorem jqs(x:List Int):je7 x x=0:=by
 unfold je7;have e:(List.range (min x.length x.length)).map (λi=>absI (x.getD i 0-x.getD i 0))=(List.range (min x.length x.length)).map λ_=>0:=Xz λi _=>by rw[Int.sub_self];rfl
 rw[e,Ti,jmn]
def woB(o:Int)(a:Bool)(l:List PR):List PR:=if a=true then wo o l else l
def VP.less(v:VP)(o:Int)(a b:Bool):VP:=⟨woB o a v.rows,v.keep,v.jn.map λx=>(woB o b x.1,x.2),v.hold⟩
theorem VP.kept_less(v:VP)(o:Int)(a b:Bool):(v.less o a b).kept=woB o a v.kept:=by
 unfold VP.kept VP.less woB;cases a with
 |false=>rfl
 |true =>
  simp only[Kl];split
  ·rfl
  ·exact jh1 _ _ _ _ _ λ_ _=>rfl
theorem VP.joined_less(v:VP)(o:Int)(a b:Bool)(hb:∀x pub l r m,v.jn=some (x,pub,l,r,m)->b=true->pub=false):(v.less o a b).joined=woB o (a ||(b && v.jn.isSome)) v.joined:=by
 have hk:=v.kept_less o a b;unfold VP.joined;rw[hk];have e:(v.less o a b).jn=v.jn.map λx=>(woB o b x.1,x.2):=rfl
 rw[e];cases hj:v.jn with
 |none=>simp
 | some x =>
  obtain⟨x,pub,l,r,m⟩:=x;have hb:=hb _ _ _ _ _ hj;simp only[K9,Option.isSome_some,Q5];cases b with
  |false =>
   cases a with
   |false=>rfl
   |true=>exact jk0 _ _ _ _ _ _ _
  | true =>
   rw[hb rfl];cases a with
   |false=>exact jiV _ _ _ _ _ _
   |true =>
    show je9 false l r m (wo o x) (wo o v.kept)=wo o (je9 false l r m x v.kept);rw[jiV,jk0,jzG]
theorem VP.view_less(v:VP)(o:Int)(a b:Bool)(hb:∀x pub l r m,v.jn=some (x,pub,l,r,m)->b=true->pub=false):(v.less o a b).view=woB o (a ||(b && v.jn.isSome)) v.view:=by
 have hj:=v.joined_less o a b hb;unfold VP.view;have e:(v.less o a b).hold=v.hold:=rfl;rw[hj,e];cases v.hold with
 |none=>rfl
 |some p =>
  show(woB o _ v.joined).filter _=woB o _ _;unfold woB;split
  ·exact jso _ _ _
  ·rfl
end Go.Proofs.YtajaampgajieeaaGreatDoor
namespace Go.Proofs.YtajaampgajieeaaGreatDoor.B
open Go.Ab
open W (IsI)
theorem jAn:env.P.funcs[216]? = some Tryz.f216:=ac
def stays(o:Int)(pub:Bool)(r:Rw):Bool:=pub ||decide (r.own ≠ o)
def woR(o:Int)(pub:Bool)(ws:List Rw):List Rw:=(ws.filter (stays o pub)).map cpR
theorem jum {o:Int}{pub:Bool}{ws:List Rw}{i:Nat}(h:i<ws.length):woR o pub (ws.take (i+1))=woR o pub (ws.take i)++if stays o pub (ws.getD i Rw.none)=true then [cpR (ws.getD i Rw.none)]else []:=by
 unfold woR;rw[take_next Rw.none h,V9,Js]
 congr 1
 by_cases k:stays o pub (ws.getD i Rw.none)=true
 ·rw[Kg k,Xi k];rfl
 ·rw[Ke k,X6 k];rfl
theorem js0 {o:Int}{pub:Bool}{ws:List Rw}{i:Nat}(h:i<ws.length)(k:stays o pub (ws.getD i Rw.none)=true):∃post,woR o pub ws=woR o pub (ws.take i)++cpR (ws.getD i Rw.none)::post:=by
 refine⟨woR o pub (ws.drop (i+1)),?_⟩
 have e:ws=ws.take i++ws.getD i Rw.none::ws.drop (i+1):=by
  have e2:ws.drop i=ws.getD i Rw.none::ws.drop (i+1):=by
   rw[Qk h];simp[List.getD,h]
  rw[<- e2,Xg]
 have:∀a b:List Rw,woR o pub (a++b)=woR o pub a++woR o pub b:=λa b=>by unfold woR;rw[V9,Js]
 have e3:woR o pub (ws.getD i Rw.none::ws.drop (i+1))=cpR (ws.getD i Rw.none)::woR o pub (ws.drop (i+1)):=by unfold woR;rw[Xi k,K6]
 rw[<- e3,<- this,<- e]
theorem jn9 {o:Int}{pub:Bool}{ws:List Rw}:∀r∈woR o pub ws,∃r0∈ws,r=cpR r0:=λr hr=>by
 obtain⟨r0,h0,rfl⟩:=Jd.1 hr;exact⟨r0,(Vg.1 h0).1,rfl⟩
theorem woR_pl(o:Int)(pub:Bool):∀ws:List Rw,(woR o pub ws).map Rw.pl=woB o (!pub) (ws.map Rw.pl)
 | []=>by cases pub<;>rfl
 | r::ws=>by
  have ih:=woR_pl o pub ws;unfold woB wo woR stays at *;cases pub with
  |true =>
   simp only[Ui,Q8,Ku,Kn]at ih ⊢;rw[Xi rfl,K6,K6,K6,ih];rfl
  |false =>
   simp only[Xq,Ji,Kl]at ih ⊢;rw[K6];by_cases k:r.own=o
   ·rw[X6 (by simpa using k),X6 (by simpa using k)];exact ih
   ·rw[Xi (by simpa using k),Xi (by simpa using k),K6,K6,ih];rfl
theorem jwd {t:Tb}(ht:TOK t)(o:Int)(cb co:Nat):Seqs env (.func 216 [] [.ptr cb 0,.ptr co 0]) (λj=>j=cb\/j=co) (λ_=>False) (λH=>H[cb]? = some (.cells t.cells 79)/\H[co]? = some (.cells [.int .i64 o] 3)) ((woR o t.s.pub t.rows).map rowV) where
  sub:=λj h=>h.elim
  stay:=λH H' ⟨h1,h2⟩ hs=>⟨by rw[hs _ (.inl rfl)];exact h1,by rw[hs _ (.inr rfl)];exact h2⟩
  call := by
    refine⟨216,[],[.ptr cb 0,.ptr co 0],rfl,?_⟩;intro M l C R U hP hD hC hM hT hR0
    have key:∃v U',jah env (ev env) 216 [.yld l,.ptr cb 0,.ptr co 0] U=some (v,U')/\(R ((woR o t.s.pub t.rows).map rowV) U'/\Chg (λj=>C j\/False) U.heap U'.heap):=by
      obtain⟨L0,ts0⟩:=U;obtain⟨p1,p2⟩:=hP;simp only at p1 p2 hM;unfold Tb.cells at p1;have b1:=hD cb (.inl rfl);have b2:=hD co (.inr rfl);refine jaD jAn rfl ?_;have hlen:=jnV ht.rv 70;simp only[Tryz.f216,simprocAttr,zK,Vq,Q1,p1,hlen]
      refine jau (λm T D U=>D=[]/\T 0=.yld l/\T 1=.ptr cb 0/\T 2=.ptr co 0/\T 7=t.rv/\T 8=.int .i64 t.rows.length/\∃i:Nat,T 9=.int .i64 i/\i<=t.rows.length/\m=t.rows.length-i/\R ((woR o t.s.pub (t.rows.take i)).map rowV) U/\Chg (λj=>C j\/False) L0 U.heap) ?_ (t.rows.length-0) _ _ _
        ⟨rfl,rfl,rfl,rfl,rfl,rfl,0,rfl,Qm _,rfl,hR0,.rfl' _ _⟩
      rintro m T D ⟨L,ts⟩ ⟨rfl,t0,t1,t2,t7,t8,i,t9,hi,rfl,hRi,hCh⟩;refine jaC ?_;simp only at hCh;have hML:M<=L.length:=Jp hM hCh.1;by_cases hlt:i<t.rows.length
      · have c1:((i:Int)<(t.rows.length:Int))=True:=eq_true aa
        have hrl:=ht.rl;have e1:IntKind.i64.wrap ((i:Int)+1)=((i+1:Nat):Int):=by rw[wrap_i64 aa aa];omega
        have hx:=jnW ht.rv hlt;obtain⟨hsI,_,_⟩:=ht.ro.at hlt;have hsl:=ht.vl (t.rows.getD i Rw.none) (by simp[List.getD,hlt]);have hsc:=jcv hsI;have hK:=jiY hsI aa;have uI:=jiX hsI;have b70:=jo6 (t.rows.getD i Rw.none).own uI;have hnx:=jum (o:=o) (pub:=t.s.pub) hlt;have hsp:=js0 (o:=o) (pub:=t.s.pub) hlt;generalize t.rows.getD i Rw.none=r at *;have keep:∀j,(j=cb\/j=co)->L[j]? = L0[j]? := λj hj=>hCh.2 j (by have:=hD j hj;omega) (λhc=>hc.elim (λhc=>(hC j hc).1 hj) id)
        have q1:(L++[AObj.cells [.int .i64 r.own,r.vv] 70])[cb]? = some (.cells [.str t.s.name,.bool t.s.pub,.int .i64 t.s.many,t.s.cv,t.rv] 79):=jaE ((keep cb (.inl rfl)).trans p1) _;have q2:(L++[AObj.cells [.int .i64 r.own,r.vv] 70])[co]? = some (.cells [.int .i64 o] 3):=jaE ((keep co (.inr rfl)).trans p2) _;have q3:(L++[AObj.cells [.int .i64 r.own,r.vv] 70])[L.length]? = some (.cells [.int .i64 r.own,r.vv] 70):=jad _ _;have hCh2:Chg (λj=>C j\/False) L0 (L++[AObj.cells [.int .i64 r.own,r.vv] 70]):=hCh.trans (Chg.app _ _ _);have hR1:R ((woR o t.s.pub (t.rows.take i)).map rowV) ⟨L++[AObj.cells [.int .i64 r.own,r.vv] 70],ts⟩:=hT.stay _ ⟨L,ts⟩ _ hRi rfl hML ae λj hj _=>by rw[Kj aa]
        simp only[simprocAttr,zK,K0,jaa,Q1,t0,t1,t2,t7,t8,t9,c1,hx,jbr,K2,jac,hsc];refine jrn rfl (λs0=>s0.heap[cb]? = some (.cells [.str t.s.name,.bool t.s.pub,.int .i64 t.s.many,t.s.cv,t.rv] 79)/\s0.heap[co]? = some (.cells [.int .i64 o] 3)/\s0.heap[L.length]? = some (.cells [.int .i64 r.own,r.vv] 70)) ⟨q1,q2,q3⟩ ac ?_;have q1':jab (L++[AObj.cells [.int .i64 r.own,r.vv] 70]) 2 (.ptr L.length 0)=some [.int .i64 r.own,r.vv]:=ld2 q3
        have go:stays o t.s.pub r=true->∃L3 ts3,jeL env (ev env) (.yld l) [.agg [.int .i64 r.own,unkV r.vv]] ⟨L++[AObj.cells [.int .i64 r.own,r.vv] 70],ts⟩=some (.bool true,⟨L3,ts3⟩)/\R ((woR o t.s.pub (t.rows.take (i+1))).map rowV) ⟨L3,ts3⟩/\Chg (λj=>C j\/False) L0 L3/\L3[cb]? = some (.cells [.str t.s.name,.bool t.s.pub,.int .i64 t.s.many,t.s.cv,t.rv] 79)/\L3[co]? = some (.cells [.int .i64 o] 3)/\L3[L.length]? = some (.cells [.int .i64 r.own,r.vv] 70):=λk=>by
          obtain⟨post,hpost⟩:=hsp k;rw[Kg k]at hnx;obtain⟨⟨L3,ts3⟩,hY,hR3,hCh3⟩:=hT.step ((woR o t.s.pub (t.rows.take i)).map rowV) (rowV (cpR r)) (post.map rowV) ⟨L++[AObj.cells [.int .i64 r.own,r.vv] 70],ts⟩ (by rw[hpost,Js,K6]) (by simp;omega) hR1;simp only at hCh3;have k3:∀j,j<=L.length->(C j->False)->L3[j]? = (L++[AObj.cells [.int .i64 r.own,r.vv] 70])[j]? := λj hj hc=>hCh3.2 j (by simp;omega) hc
          refine⟨L3,ts3,hY,?_,hCh2.trans (hCh3.mono λj _ h=>.inl h),(k3 cb aa λhc=>(hC _ hc).1 (.inl rfl)).trans q1,(k3 co aa λhc=>(hC _ hc).1 (.inr rfl)).trans q2,(k3 _ (Kw _) λhc=>by have:=(hC _ hc).2;omega).trans q3⟩;rw[hnx,Js];exact hR3
        cases hp:t.s.pub with
        | true =>
          rw[hp]at q1 go;obtain⟨L3,ts3,hY,hR3,hCh3,k1,k2,k3⟩:=go rfl;simp only[simprocAttr,zK,K0,jaa,Kf,Q1,jox,jdz,jro,jni,jiv,Kq,K9,Ji,Q8,ja7,ja8,jbL,jbe,t0,t1,t2,t7,t8,t9,hp,q1,q2,q3,not_true_eq_false,hK,b70,hY];exact⟨λs h=>by rw[h.1];rfl,λs h=>by rw[h.2.2];rfl,λs h=>by rw[h.2.2];rfl,λ_=>trivial,⟨k1,k2,k3⟩,t.rows.length-(i+1),aa,i+1,by rw[e1],aa,rfl,hR3,hCh3⟩
        | false =>
          rw[hp]at q1 hnx go;by_cases ho:r.own=o
          · have d1:=eq_true ho
            rw[Ke (by unfold stays;simp[ho]),Jb]at hnx;rw[hp]at hR1;simp only[simprocAttr,zK,K0,jaa,Kf,Q1,jox,jdz,jro,jni,jiv,Kq,K9,Ji,Q8,ja7,ja8,jbL,jbe,t0,t1,t2,t7,t8,t9,hp,q1,q2,q3,d1,not_true_eq_false];exact⟨λs h=>by rw[h.1];rfl,λs h=>by rw[h.2.2];rfl,λs h=>by rw[h.2.1];rfl,λ_=>trivial,t.rows.length-(i+1),aa,i+1,by rw[e1],aa,rfl,by rw[hnx];exact hR1,hCh2⟩
          · have d1:=eq_false ho
            obtain⟨L3,ts3,hY,hR3,hCh3,k1,k2,k3⟩:=go (by unfold stays;simp[ho]);simp only[simprocAttr,zK,K0,jaa,Kf,Q1,jox,jdz,jro,jni,jiv,Kq,K9,Ji,Q8,ja7,ja8,jbL,jbe,t0,t1,t2,t7,t8,t9,hp,q1,q2,q3,d1,not_true_eq_false,Je,hK,b70,hY];exact⟨λs h=>by rw[h.1];rfl,λs h=>by rw[h.2.2];rfl,λs h=>by rw[h.2.1];rfl,λs h=>by rw[h.2.2];rfl,λs h=>by rw[h.2.2];rfl,λ_=>trivial,⟨k1,k2,k3⟩,t.rows.length-(i+1),aa,i+1,by rw[e1],aa,rfl,hR3,hCh3⟩
      · have hie:i=t.rows.length:=by omega
        subst hie;have c1:((t.rows.length:Int)<(t.rows.length:Int))=False:=eq_false aa;rw[Jh]at hRi;simp only[simprocAttr,zK,Vq,t0,t1,t2,t7,t8,t9,c1];exact⟨hRi,hCh⟩
    obtain⟨v,U',h1,h2,h3⟩:=key;exact⟨v,U',jgR h1,h2,h3⟩
theorem at70:env.P.funcs[70]? = some Tryz.f70:=ac
theorem jAo:env.P.funcs[153]? = some Tryz.f153:=ac
def woT(o:Int)(t:Tb):Tb:=⟨cpS t.s,rwV (woR o t.s.pub t.rows),woR o t.s.pub t.rows⟩
theorem jwe {t:Tb}(ht:TOK t)(o:Int)(L:List AObj)(ts:List Nat):jah env (ev env) 153 [.agg t.cells,.int .i64 o] ⟨L,ts⟩=some (.func 216 [] [.ptr L.length 0,.ptr (L.length+1) 0],⟨L++[.cells t.cells 79]++[.cells [.int .i64 o] 3],ts⟩):=by
 have i1:=jcu ht.cv;have i2:=jdu ht.rv;have e:(L++[AObj.cells t.cells 79]).length=L.length+1:=ae;rw[<- e];unfold Tb.cells;refine jaL jAo rfl ?_;simp only[Tryz.f153,simprocAttr,zK,Vq,tyb,YW,jae,jam,jac,i1,i2];exact⟨rfl,trivial⟩
def PWt(t:Tb)(lo:AObj)(ws:List Rw)(U:S):Prop :=
 ∃u,U.heap[2]? = some (.cells [.str t.s.name,.bool t.s.pub,.int .i64 t.s.many,unkV t.s.cv,u] 79)/\U.heap[5]? = some (.defd true)/\U.heap[6]? = some lo/\U.heap[1]? = some (.cells [.str [],.bool false,.int .i64 0,.nilsl,.nilsl] 79)/\GrowV 0 U.toks 2 u ws.length (jcr ws)/\(ws=[]->u=.nilsl)
theorem jun {t:Tb}{lo:AObj}{T:Tm}{tmps:List V}(hr:Rep 22 T tmps)(hlo:lo=.loop .ready none 70 tmps #[14] (asgR (jaz Tryz.f70)) (bodR (jaz Tryz.f70)) 5)(t5:T 5=.ptr 2 0)
  {ws:List Rw} {r:Rw} (hrc:r.vv.isCell=true) (hl:ws.length<=1000000) {U:S} (hP:PWt t lo ws U) :
  ∃U',jeL env (ev env) (.yld 6) [rowV r] U=some (.bool true,U')/\PWt t lo (ws++[r]) U'/\Chg (λj=>j=2\/j=6) U.heap U'.heap:=by
 obtain⟨L,ts⟩:=U;obtain⟨u,p1,p2,p3,p4,g,g0⟩:=hP;simp only at p1 p2 p3 p4 g;have hlim:lim=2^40:=rfl;have hlt:=jao p3;refine jfQ hlo p3 hr rfl ae ?_;intro lb hlb;clear hlb hlo hr;obtain⟨o,vv,vs⟩:=r;simp only at hrc;have q0:(L++[AObj.cells [.int .i64 o,vv] 70])[6]? = some lo:=jaE p3 _;have q1:((L++[AObj.cells [.int .i64 o,vv] 70]).set 6 lb)[2]? = some (.cells [.str t.s.name,.bool t.s.pub,.int .i64 t.s.many,unkV t.s.cv,u] 79):=by rw[Kh aa];exact jaE p1 _
 obtain⟨v',ts',hA,g',xE⟩:=GrowV.push (E:=env) (hp:=(L++[AObj.cells [.int .i64 o,vv] 70]).set 6 lb) (q:=.full) (new:=[.int .i64 o,vv]) eR ⟨70,eR.slice⟩ g (Qm _) rfl (by simp only[Ks,Qn,jac,hrc,K8]) ⟨by rw[hlim];omega,by rw[hlim];omega⟩;obtain⟨gc1,gc2⟩:=g'.cells;have ld:jab ((L++[AObj.cells [.int .i64 o,vv] 70]).set 6 lb) 2 (.ptr L.length 0)=some [.int .i64 o,vv]:=ld2 (by rw[Kh aa];exact jad _ _)
 have q2:(((L++[AObj.cells [.int .i64 o,vv] 70]).set 6 lb).set 2 (.cells [.str t.s.name,.bool t.s.pub,.int .i64 t.s.many,unkV t.s.cv,v'] 79))[6]? = some lb:=by
  rw[Kh aa];exact Km (by simp;omega)
 refine jaC ?_;simp only[asgR,bodR,rngC,jaz,Tryz.f70,Kr,Option.or,rowV];simp only[simprocAttr,zK,K0,jaa,Q1,Vr,Ua,K2,jac,hrc,q0,t5,q1,ld,jar,jqd,hA,gc1,gc2];refine⟨q2,?_,?_⟩
 ·have s0:∀(H:List AObj) (o1 o2 o3:AObj),6<H.length->(((H.set 6 o1).set 2 o2).set 6 o3)[2]? = some o2/\(((H.set 6 o1).set 2 o2).set 6 o3)[5]? = H[5]? /\ (((H.set 6 o1).set 2 o2).set 6 o3)[6]? = some o3/\(((H.set 6 o1).set 2 o2).set 6 o3)[1]? = H[1]? := λH o1 o2 o3 hH=>by
   refine⟨?_,?_,?_,?_⟩
   ·rw[Kh aa];exact Km (by simp;omega)
   ·rw[Kh aa,Kh aa,Kh aa]
   ·exact Km (by simp;omega)
   ·rw[Kh aa,Kh aa,Kh aa]
  obtain⟨a1,a2,a3,a4⟩:=s0 (L++[AObj.cells [.int .i64 o,vv] 70]) lb (.cells [.str t.s.name,.bool t.s.pub,.int .i64 t.s.many,unkV t.s.cv,v'] 79) lo (by simp;omega);refine⟨v',a1,a2.trans (jaE p2 _),a3,a4.trans (jaE p4 _),?_,λh=>absurd h ae⟩;rw[jfA,Kk];exact g'
 ·refine⟨ae,λj hj hc => ?_⟩;simp only[not_or]at hc;rw[Kh aa,Kh aa,Kh aa,Kj hj]
theorem jhF {t:Tb}(ht:TOK t)(o:Int)(U:S):jah env (ev env) 70 [.agg t.cells,.int .i64 o] U=some (.agg (woT o t).cells,U):=by
 have hcl:(List.all [V.agg t.cells,.int .i64 o] V.closed)=true:=by
  simp only[Tb.cells,Ks,Qn,V.closed,V.closed.closedL,ja9 ht.cv ht.ok,jgP ht.rv ht.ro,K8]
 refine jaj hcl at70 rfl ?_ U;have hlim:lim=2^40:=rfl;have hC:=jvV ht;have i1:=jcu ht.cv;have i2:=jdu ht.rv;have iu:=jhg ht.cv;have i3:=jcu iu;have b79:=jsy t.s.name t.s.pub t.s.many iu;have hrl:=ht.rl;have icn:V.nilsl.isCell=true:=rfl;have l4:jab [.cells [.str t.s.name,.bool t.s.pub,.int .i64 t.s.many,t.s.cv,t.rv] 79,.cells [.str [],.bool false,.int .i64 0,.nilsl,.nilsl] 79] 4 (.ptr 0 0)=some [.str t.s.name,.bool t.s.pub,.int .i64 t.s.many,t.s.cv]:=rfl;have hI:=jwe ht o [.cells [.str t.s.name,.bool t.s.pub,.int .i64 t.s.many,t.s.cv,t.rv] 79,.cells [.str [],.bool false,.int .i64 0,.nilsl,.nilsl] 79,.cells [.str t.s.name,.bool t.s.pub,.int .i64 t.s.many,unkV t.s.cv,.nilsl] 79] [];have l5:jab [.cells [.str t.s.name,.bool t.s.pub,.int .i64 t.s.many,t.s.cv,t.rv] 79,.cells [.str [],.bool false,.int .i64 0,.nilsl,.nilsl] 79,.cells [.str t.s.name,.bool t.s.pub,.int .i64 t.s.many,unkV t.s.cv,.nilsl] 79] 5 (.ptr 0 0)=some [.str t.s.name,.bool t.s.pub,.int .i64 t.s.many,t.s.cv,t.rv]:=rfl;unfold Tb.cells at hI;simp only[Tryz.f70,simprocAttr,zK,K0,jaa,Q1,Tb.cells,jai,l4,l5,hC,b79,jae,jam,jac,i1,i2,i3,icn,hI];obtain⟨hsub,hstay,fid,first,cap,hg,hcall⟩:=jwd ht o 3 4;injection hg with g1 g2 g3
 subst g1 g2 g3;obtain⟨H5,hH5⟩:∃H5:List AObj,H5=[.cells [.str t.s.name,.bool t.s.pub,.int .i64 t.s.many,t.s.cv,t.rv] 79,.cells [.str [],.bool false,.int .i64 0,.nilsl,.nilsl] 79,.cells [.str t.s.name,.bool t.s.pub,.int .i64 t.s.many,unkV t.s.cv,.nilsl] 79,.cells [.str t.s.name,.bool t.s.pub,.int .i64 t.s.many,t.s.cv,t.rv] 79,.cells [.int .i64 o] 3]:=⟨_,rfl⟩;have hlen5:H5.length=5:=by rw[hH5];rfl
 change G env 70 none 22 _ _ _ _ _ ⟨[.cells [.str t.s.name,.bool t.s.pub,.int .i64 t.s.many,t.s.cv,t.rv] 79,.cells [.str [],.bool false,.int .i64 0,.nilsl,.nilsl] 79,.cells [.str t.s.name,.bool t.s.pub,.int .i64 t.s.many,unkV t.s.cv,.nilsl] 79,.cells [.str t.s.name,.bool t.s.pub,.int .i64 t.s.many,t.s.cv,t.rv] 79,.cells [.int .i64 o] 3],[]⟩
 rw[<- hH5];refine jkE rfl ?_;simp only[hlen5];intro tmps lo lx hr hlo hlx;have z:∀j x,j<5->H5[j]? = some x->(H5++[AObj.defd true,lo])[j]? = some x:=λj x hj h=>by rw[Kj aa];exact h
 have z1:(H5++[AObj.defd true,lo])[5]? = some (.defd true):=by rw[Jv aa,hlen5];rfl
 have z2:(H5++[AObj.defd true,lo])[6]? = some lo:=by rw[Jv aa,hlen5];rfl
 have hcellw:∀r∈woR o t.s.pub t.rows,r.vv.isCell=true:=λr hr=>by
  obtain⟨r0,h0,rfl⟩:=jn9 r hr;exact jcv (jiX (ht.ro r0 h0).1)
 have hll:(woR o t.s.pub t.rows).length<=5000:=by
  have:(woR o t.s.pub t.rows).length<=t.rows.length:=by unfold woR;rw[Qw];exact Uj _ _
  omega
 obtain⟨w,U2,h1,h2,h3⟩:=hcall 7 6 (λj=>j=2\/j=6) (λpre U=>PWt t lo ((woR o t.s.pub t.rows).take pre.length) U) ⟨H5++[AObj.defd true,lo],[]⟩
  ⟨z 3 _ aa (by rw[hH5];rfl),z 4 _ aa (by rw[hH5];rfl)⟩ (λj hj=>aa) (λj hj=>aa) (by simp;omega)
  ⟨λpre x post U hx hM hR=>by
   obtain⟨hk,rfl⟩:=jh3 Rw.none hx;have hmem:(woR o t.s.pub t.rows).getD pre.length Rw.none∈woR o t.s.pub t.rows:=by simp[List.getD,hk]
   obtain⟨U',a,b,d⟩:=jun hr hlo rfl (hcellw _ hmem) (by rw[Qx];omega) hR;refine⟨U',a,?_,d⟩;rw[Kk,Ju,take_next Rw.none hk];exact b,λpre U U' hR ht2 hM hle hag=>by
   obtain⟨u,b1,b2,b3,b4,b5,b6⟩:=hR;exact⟨u,by rw[hag 2 aa id];exact b1,by rw[hag 5 aa id];exact b2,by rw[hag 6 aa id];exact b3,by rw[hag 1 aa id];exact b4,by rw[ht2];exact b5,b6⟩⟩
  ⟨.nilsl,z 2 _ aa (by rw[hH5];rfl),z1,z2,z 1 _ aa (by rw[hH5];rfl),.nil,λ_=>rfl⟩
 have hfull:(woR o t.s.pub t.rows).take ((woR o t.s.pub t.rows).map rowV).length=woR o t.s.pub t.rows:=by rw[Qw,Jh]
 rw[hfull]at h2;obtain⟨u,b1,b2,b3,b4,b5,b6⟩:=h2;obtain⟨L2,ts2⟩:=U2;simp only at b1 b2 b3 b4 b5;have e1:(L2.set 6 lx)[2]? = some (.cells [.str t.s.name,.bool t.s.pub,.int .i64 t.s.many,unkV t.s.cv,u] 79):=by rw[Kh aa];exact b1
 have e2:(L2.set 6 lx)[5]? = some (.defd true):=by rw[Kh aa];exact b2
 have e3:(L2.set 6 lx)[1]? = some (.cells [.str [],.bool false,.int .i64 0,.nilsl,.nilsl] 79):=by rw[Kh aa];exact b4
 refine⟨w,⟨L2,ts2⟩,h1,b3,?_⟩;obtain⟨gc1,gc2⟩:=b5.cells;have lL2:=jao b3;obtain⟨J,hJ⟩:∃J:List AObj,J=((L2.set 6 lx).set 1 (.cells [.str t.s.name,.bool t.s.pub,.int .i64 t.s.many,unkV t.s.cv,u] 79)).set 5 (.defd false):=⟨_,rfl⟩;have s1:J[1]? = some (.cells [.str t.s.name,.bool t.s.pub,.int .i64 t.s.many,unkV t.s.cv,u] 79):=by rw[hJ,Kh aa];exact Km (by have:=jao e1;omega)
 have e4:((L2.set 6 lx).set 1 (AObj.cells [.str t.s.name,.bool t.s.pub,.int .i64 t.s.many,unkV t.s.cv,u] 79))[5]? = some (.defd true):=by rw[Kh aa];exact e2
 have hu:jaK J 11 u=some (woT o t).rv:=by
  show _=some (rwV (woR o t.s.pub t.rows));unfold rwV;by_cases hn:woR o t.s.pub t.rows=[]
  ·rw[Kg hn,b6 hn];rfl
  ·have hp:0<(woR o t.s.pub t.rows).length:=Xy.2 hn;obtain⟨q,rfl⟩:=b5.isrow hp;rw[Ke hn];show jaK _ (10+1) (.row _ _ _)=_
   rw[ja1,jfW _ λr hr=>by
    obtain⟨r0,h0,rfl⟩:=jn9 r hr;exact⟨r0.vv,(ht.ro r0 h0).1,rfl⟩]
   rfl
 have hc:=jsz J ht.cv ht.ok;simp only[simprocAttr,zK,K0,jaa,tyb,ld5 e1,e3,e4,wpR,jdk,jae,jam,jac,i3,gc2];rw[<- hJ,ld5 s1];simp only[K9,Kq,Yy];show((([V.str t.s.name,.bool t.s.pub,.int .i64 t.s.many,unkV t.s.cv,u]:List V).mapM (jaK J 11)).map V.agg)=_;rw[jal,jal,jal,jal,jal,hu,hc,jbC,jav,jaA];rfl
theorem at68:env.P.funcs[68]? = some Tryz.f68:=ac
theorem at69:env.P.funcs[69]? = some Tryz.f69:=ac
structure CpL (t:Tb):Prop where
 c:∃v,IsC v t.s.cs/\t.s.cv=unkV v
 ok:OkC t.s.cs
 r:t.rv=rwV t.rows
 w:∀r∈t.rows,∃v,IsI v r.vs/\r.vv=unkV v
theorem ju3 {t:Tb}(h:TOK t):CpL (cpT t):=⟨⟨_,h.cv,rfl⟩,h.ok,rfl,λr hr=>by
 obtain⟨r0,h0,rfl⟩:=Jd.1 hr;exact⟨r0.vv,(h.ro r0 h0).1,rfl⟩⟩
theorem jmF {t:Tb}(o:Int)(h:TOK t):CpL (woT o t):=⟨⟨_,h.cv,rfl⟩,h.ok,rfl,λr hr=>by
 obtain⟨r0,h0,rfl⟩:=jn9 r hr;exact⟨r0.vv,(h.ro r0 h0).1,rfl⟩⟩
theorem CpL.cell {t:Tb}(h:CpL t):t.s.cv.isCell=true/\t.rv.isCell=true:=by
 obtain⟨⟨v,h1,h2⟩,_,h3,_⟩:=h;exact⟨by rw[h2];exact jcu (jhg h1),by rw[h3];exact jdu (ji1 _)⟩
theorem jfZ(H:List AObj):∀{l:List Tb},(∀t∈l,CpL t)->(jbc l).mapM (jaK H 11)=some (jbc l)
 | [],_=>rfl
 | t::l,ok=>by
  obtain⟨⟨v,h1,h2⟩,h3,h4,h5⟩:=ok t ae;have hc:jaK H 11 t.s.cv=some t.s.cv:=by rw[h2];exact jsz H h1 h3
  have hr:jaK H 11 t.rv=some t.rv:=by
   rw[h4];unfold rwV;split
   ·rfl
   ·show jaK H (10+1) (.row _ _ _)=_;rw[ja1,jfW H h5];rfl
  rw[jcW,jal,jal,jal,jal,jal,jfZ H (l:=l) λx hx=>ok x (by simp[hx]),hc,hr,jbC,jav,jaA];rfl
theorem jub(a b c d e:V):rowO env 51 1 [(0,.agg [a,b,c,d,e])]=some (.row [a,b,c,d,e] 1 .full):=ac
theorem eT:Elt env 51 79 5 80:=⟨ac,ac,ac,ac,ac⟩
def bsV(l:List Tb):V:=if l=[]then .nilsl else .row (jbc l) l.length .unk
section
variable {v:V}{l:List Tb}
theorem jjw(h:BOK v l)(o:Int)(U:S):jah env (ev env) 68 [v,.int .i64 o] U=some (bsV (l.map (woT o)),U):=by
 refine jaj (by simp[h.closed,V.closed]) at68 rfl ?_ U;have hlim:lim=2^40:=rfl;have hl:=h.l;have hB:=jmo h.v 79;simp only[Tryz.f68,simprocAttr,zK,Vq,jai,tyb,hB];refine jau (λm T D U=>D=[]/\T 1=.int .i64 o/\T 8=v/\T 9=.int .i64 l.length/\∃(L:List AObj) (ts:List Nat) (i:Nat) (u:V),U=⟨L,ts⟩/\T 5=u/\T 10=.int .i64 i/\i<=l.length/\m=l.length-i/\GrowV 0 ts 5 u i (jbc ((l.take i).map (woT o)))/\(i=0->u=.nilsl)) ?_ (l.length-0) _ _ _ ⟨rfl,rfl,rfl,rfl,[],[],0,.nilsl,rfl,rfl,rfl,Qm _,rfl,.nil,λ_=>rfl⟩;rintro m T D U ⟨rfl,t1,t8,t9,L,ts,i,u,rfl,t5,t10,hi,rfl,g,g0⟩;refine jaC ?_;by_cases hlt:i<l.length
 ·have c1:((i:Int)<(l.length:Int))=True:=eq_true aa;have e1:IntKind.i64.wrap ((i:Int)+1)=((i+1:Nat):Int):=by rw[wrap_i64 aa aa];omega
  have hx:=jiK h.v hlt;have ht:=h.at hlt;have hW:=jhF ht o;have hcc:=(jmF o ht).cell;have i1:=jcu ht.cv;have i2:=jdu ht.rv
  have htk:jbc ((l.take (i+1)).map (woT o))=jbc ((l.take i).map (woT o))++(woT o (l.getD i Tb.none)).cells:=by
   rw[take_next Tb.none hlt,Js,jfC];simp[jbc]
  generalize l.getD i Tb.none=t at *;unfold Tb.cells at hW htk
  obtain⟨v',ts',hA,g',_⟩:=GrowV.push (E:=env) (hp:=L++[AObj.cells [.str t.s.name,.bool t.s.pub,.int .i64 t.s.many,t.s.cv,t.rv] 79]) (q:=.full) (new:=[.str (woT o t).s.name,.bool (woT o t).s.pub,.int .i64 (woT o t).s.many,(woT o t).s.cv,(woT o t).rv]) eT ⟨79,eT.slice⟩ g (Qm _) rfl
   (by simp only[Ks,Qn,jae,jam,jac,hcc.1,hcc.2,K8]) ⟨by rw[hlim];omega,by rw[hlim];omega⟩
  have l5:jab (L++[AObj.cells [.str t.s.name,.bool t.s.pub,.int .i64 t.s.many,t.s.cv,t.rv] 79]) 5 (.ptr L.length 0)=some [.str t.s.name,.bool t.s.pub,.int .i64 t.s.many,t.s.cv,t.rv]:=ld5 (jad _ _);simp only[simprocAttr,yK,K0,jaa,Q1,t1,t5,t8,t9,t10,c1,e1,hx,jcG,K2,jae,jam,jac,i1,i2,l5,hW,jar,jub,hA];exact⟨l.length-(i+1),aa,_,ts',i+1,v',rfl,rfl,rfl,aa,rfl,by rw[htk];exact g',λh=>aa⟩
 ·have hie:i=l.length:=by omega
  subst hie;have c1:((l.length:Int)<(l.length:Int))=False:=eq_false aa;simp only[simprocAttr,zK,Vq,tyb,t5,t8,t9,t10,c1];rw[Jh]at g
  have hs:=jfZ L (l:=l.map (woT o)) λt ht=>by
   obtain⟨t0,h0,rfl⟩:=Jd.1 ht;exact jmF o (h.t t0 h0)
  unfold bsV;by_cases hn:l=[]
  ·rw[Kg (by rw[hn];rfl),g0 (by rw[hn];rfl)];rfl
  ·have hp:0<l.length:=Xy.2 hn;obtain⟨q,rfl⟩:=g.isrow hp;rw[Ke (by simpa using hn)];show jaK L (11+1) (.row _ _ _)=_;rw[ja1,hs,Qw];rfl
def CpM(L:List AObj)(n:Nat)(v:V)(xs:List V):Prop:=(v=.nilsl/\n=0/\xs=[])\/∃b,v=.hsl b 0 n n (.grow 5)/\L[b]? = some (.cells xs 79)/\xs.length=n*5
theorem jxT {L:List AObj}{ts:List Nat}{n:Nat}{v:V}{xs new:List V}(s:CpM L n v xs)(hn:n<=100000)(hl:new.length=5)(hc:new.all V.isCell=true) :
  ∃v' L',appO env true ⟨L,ts⟩ 51 51 v (.row new 1 .full)=some (v',⟨L',ts⟩)/\CpM L' (n+1) v' (xs++new)/\(∀q,q<L.length->jdR v ≠ some q->L'[q]? = L[q]?)/\L.length<=L'.length/\jdR v'=some L.length:=by
 have hlim:lim=2^40:=rfl;have hz:jhG env 79=some 5:=ac;have hvc:jaV L 5 1 (.row new 1 .full)=some new:=by simp only[jaV];rw[Kg aa,Qu aa]
 have hb:(n+1)*80<=lim/\n+1<=lim:=by rw[hlim];omega
 unfold appO;simp only[eT.elem,eT.size,eT.bytes,eT.slice,hz,hvc,Kq,Kl]
 rcases s with⟨rfl,rfl,rfl⟩|⟨b,rfl,hbk,hxl⟩
 ·refine⟨.hsl L.length 0 1 1 (.grow 5),L++[.cells new 79],?_,.inr ⟨L.length,rfl,ae,by simp[hl]⟩,λq hq _=>by rw[Kj hq],ae,rfl⟩;have h1:(1:Nat)*80<=lim/\1<=lim:=by rw[hlim];omega
  simp[jbk,S.push,vLen,hvc,by simpa using h1]
 ·have hblt:=(K4.1 hbk).1;refine⟨.hsl L.length 0 (n+1) (n+1) (.grow 5),(L.set b .dead)++[.cells (xs++new) 79],?_,.inr ⟨L.length,rfl,ae,by rw[Kk,hxl,hl];omega⟩,λq hq hne => ?_,ae,rfl⟩
  ·have ht:xs.take (n*5)=xs:=Qu aa;simp only[jbk,vLen,hvc,Kq,K9];rw[Ke aa];simp[hbk,hxl,hb,hc,S.push,S.set,ht]
  ·rw[Kj (by simpa using hq),Kh (λe=>hne (by simp[jdR,e]))]
end
theorem at35:env.P.funcs[35]? = some Tryz.f35:=ac
theorem hk20:env.hook 20=some (jbU K.env 20):=rfl
theorem jxU(l:List Tb):IsB (bsV l) l:=by
 unfold bsV;split
 ·rename_i h;exact .inl ⟨rfl,h⟩
 ·exact .inr ⟨.unk,.inl rfl,rfl⟩
theorem js1 {a:List Tb}{k:Nat}(hk:k<a.length)(t:Tb):jaa (jbc a) (k*5) t.cells=jbc (a.set k t):=by
 have e:jbc a=jbc (a.take k)++jbc (a.drop k):=by rw[<- jfC,Xg]
 have hl:(jbc (a.take k)).length=k*5:=by rw[jiW,Qx,Xt aa]
 have h1:(jbc a).take (k*5)=jbc (a.take k):=by rw[e,List.take_left' hl]
 have h2:(jbc a).drop (k*5+5)=jbc (a.drop (k+1)):=by
  rw[show k*5+5=(k+1)*5 by omega,jho]
 have h3:(t.cells).length=5:=rfl;rw[Vz,Kg hk,jfC];show(jbc a).take (k*5)++t.cells++(jbc a).drop (k*5+t.cells.length)=_;rw[h3,h1,h2,K7];rfl
def nbL(o:Int)(k:Nat)(one:Bool)(l:List Tb):List Tb:=if one=true then(l.map cpT).set k (woT o (l.getD k Tb.none))else l.map (woT o)
theorem juo {T:Tm}{U:S}(t:TypeId)(len:Nat)(parts:Array (Nat × Operand)):opT env true T U (.buildSlice t len parts)=(jcH (jaN env T) parts.toList).bind λps=>(rowO env t len ps).map λv=>(v,U):=by
 rw[<- jar];unfold opT;simp only[jbK,jbh,jbG,show env.rowB=true from rfl,Q8,Uh]
section
variable {v:V}{l:List Tb}{Q:Qy}{ev' wv rv:V}
theorem joa(h:BOK v l)(hn:1<=l.length)(L:List AObj)(ts:List Nat):∃b L',jah env (ev env) 69 [v] ⟨L,ts⟩=some (.hsl b 0 l.length l.length (.grow 5),⟨L',ts⟩)/\L'[b]? = some (.cells (jbc (l.map cpT)) 79)/\L.length<=b/\L.length<=L'.length/\∀j,j<L.length->L'[j]? = L[j]? := by
 have key:∃w U',jah env (ev env) 69 [v] ⟨L,ts⟩=some (w,U')/\∃b L',w=.hsl b 0 l.length l.length (.grow 5)/\U'=⟨L',ts⟩/\L'[b]? = some (.cells (jbc (l.map cpT)) 79)/\L.length<=b/\L.length<=L'.length/\∀j,j<L.length->L'[j]? = L[j]? := by
  refine jaD at69 rfl ?_;have hl:=h.l;have hB:=jmo h.v 79;simp only[Tryz.f69,simprocAttr,zK,Vq,tyb,hB];refine jau (λm T D U=>D=[]/\T 6=v/\T 7=.int .i64 l.length/\∃(M:List AObj) (i:Nat) (u:V),U=⟨M,ts⟩/\T 3=u/\T 8=.int .i64 i/\i<=l.length/\m=l.length-i/\CpM M i u (jbc ((l.take i).map cpT))/\(∀b,jdR u=some b->L.length<=b)/\Pre L M) ?_ (l.length-0) _ _ _ ⟨rfl,rfl,rfl,L,0,.nilsl,rfl,rfl,rfl,Qm _,rfl,.inl ⟨rfl,rfl,rfl⟩,λb hb=>by simp[jdR]at hb,.rfl' L⟩;rintro m T D U ⟨rfl,t6,t7,M,i,u,rfl,t3,t8,hi,rfl,g,hb,hP⟩;refine jaC ?_;by_cases hlt:i<l.length
  ·have c1:((i:Int)<(l.length:Int))=True:=eq_true aa;have e1:IntKind.i64.wrap ((i:Int)+1)=((i+1:Nat):Int):=by rw[wrap_i64 aa aa];omega
   have hx:=jiK h.v hlt;have ht:=h.at hlt;have hW:=jke ht;have hcc:=(ju3 ht).cell;have i1:=jcu ht.cv;have i2:=jdu ht.rv
   have htk:jbc ((l.take (i+1)).map cpT)=jbc ((l.take i).map cpT)++(cpT (l.getD i Tb.none)).cells:=by
    rw[take_next Tb.none hlt,Js,jfC];simp[jbc]
   generalize l.getD i Tb.none=t at *;unfold Tb.cells at hW htk
   have g2:CpM (M++[AObj.cells [.str t.s.name,.bool t.s.pub,.int .i64 t.s.many,t.s.cv,t.rv] 79]) i u (jbc ((l.take i).map cpT)):=by
    rcases g with h|⟨b,h1,h2,h3⟩
    ·exact .inl h
    ·exact .inr ⟨b,h1,jaE h2 _,h3⟩
   obtain⟨v',L2,hA,g',q1,q2,q3⟩:=jxT (ts:=ts) (new:=[.str (cpT t).s.name,.bool (cpT t).s.pub,.int .i64 (cpT t).s.many,(cpT t).s.cv,(cpT t).rv]) g2 aa rfl (by simp only[Ks,Qn,jae,jam,jac,hcc.1,hcc.2,K8]);have l5:jab (M++[AObj.cells [.str t.s.name,.bool t.s.pub,.int .i64 t.s.many,t.s.cv,t.rv] 79]) 5 (.ptr M.length 0)=some [.str t.s.name,.bool t.s.pub,.int .i64 t.s.many,t.s.cv,t.rv]:=ld5 (jad _ _);simp only[simprocAttr,yK,K0,jaa,Q1,t3,t6,t7,t8,c1,e1,hx,jcG,K2,jae,jam,jac,i1,i2,l5,hW,juo,jub,hA];refine⟨l.length-(i+1),aa,L2,i+1,v',rfl,rfl,rfl,aa,rfl,by rw[htk];exact g',λb hb2 => ?_,?_,λj hj => ?_⟩
   ·rw[q3]at hb2;injection hb2 with e
    have:=hP.1;simp at e;omega
   ·have:=hP.1;simp at q2;omega
   ·have:=hP.1;rw[q1 j (by simp;omega) (λe=>by have:=hb _ e;omega),Kj aa,hP.2 j hj]
  ·have hie:i=l.length:=by omega
   subst hie;have c1:((l.length:Int)<(l.length:Int))=False:=eq_false aa;simp only[simprocAttr,zK,Vq,tyb,t3,t6,t7,t8,c1];rw[Jh]at g
   rcases g with⟨_,h0,_⟩|⟨b,h1,h2,h3⟩
   ·omega
   ·exact⟨b,M,h1,rfl,h2,hb b (by rw[h1];rfl),hP.1,hP.2⟩
 obtain⟨w,U',e,b,L',rfl,rfl,a⟩:=key;exact⟨b,L',e,a⟩
def oneB(l:List Tb)(Q:Qy)(k:Nat):Bool:=decide (k<l.length) && (decide ((l.getD k Tb.none).s.name=Q.table) ||decide ((l.getD k Tb.none).s.name=Q.other))
theorem neighbour_call(hB:BOK v l)(hQ:K.QV Q ev' wv rv)(hn:1<=l.length)(o w:Int)(hw:In64 w){k:Nat}(hk:w % ((l.length:Int)+1)=k)(U:S) :
  jah env (ev env) 35 [v,.agg (Q.cells ev' wv rv),.int .i64 o,.int .i64 w] U=some (bsV (nbL o k (oneB l Q k) l),U):=by
 refine jaj (by rw[Ks,Ks,hB.closed,hQ.closed];rfl) at35 rfl ?_ U;have hl30:jab [K.qc30 Q ev' wv rv] 20 (.ptr 0 0)=_:=K.ld30 (Q:=Q) (ev:=ev') (wv:=wv) (rv:=rv) rfl;have hl:=hB.l;have e1:IntKind.i64.wrap ((l.length:Int)+1)=(l.length:Int)+1:=wrap_i64 aa aa;have hP:=λU=>jiy hk20 (λU=>K.pick_call w ((l.length:Int)+1) hw (by simp only[In64];omega) aa U) (ev env) U
 rw[hk]at hP;have hW:=jjw hB o;have lB:=jmo hB.v 79;have lW:=jmo (jxU (l.map (woT o))) 79;rw[Qw]at lW;have dd:((l.length:Int)=(l.length:Int))=True:=eq_true rfl
 have none_:oneB l Q k=false->jaK [K.qc30 Q ev' wv rv] jak (bsV (l.map (woT o)))=some (bsV (nbL o k (oneB l Q k) l)):=λh=>by
  rw[h];show _=some (bsV (l.map (woT o)));unfold bsV;rw[Ke (λe=>by rw[<- V7,Qw]at e;omega)];show jaK _ (11+1) (.row _ _ _)=_
  rw[ja1,jfZ _ λt ht=>by
   obtain⟨t0,h0,rfl⟩:=Jd.1 ht;exact jmF o (hB.t t0 h0)]
  rfl
 unfold Qy.cells at *;by_cases k1:k<l.length
 case neg =>
  have d1:((k:Int)<(l.length:Int))=False:=eq_false aa;have hr:=none_ (by unfold oneB;rw[decide_eq_false k1];rfl);simp only[Tryz.f35,simprocAttr,zK,K0,jaa,jai,Q1,YW,hl30,hW,lB,lW,e1,hP,d1,dd];exact⟨ac,hr⟩
 have d1:((k:Int)<(l.length:Int))=True:=eq_true aa;have hx:=jiK hB.v k1;have ht:=hB.at k1;have hWo:=jhF ht o;by_cases k2:(l.getD k Tb.none).s.name=Q.table\/(l.getD k Tb.none).s.name=Q.other
 case neg =>
  have d2:((l.getD k Tb.none).s.name=Q.table)=False:=eq_false λe=>k2 (.inl e)
  have d3:((l.getD k Tb.none).s.name=Q.other)=False:=eq_false λe=>k2 (.inr e)
  have hr:=none_ (by unfold oneB;simp only[d2,d3,decide_false,Bool.or_self,Uh]);simp only[Tryz.f35,simprocAttr,yK,K0,jaa,jai,Q1,YW,hl30,hW,lB,lW,e1,hP,d1,dd,hx,jaq,jax,d2,d3];exact⟨ac,hr⟩
 have hone:oneB l Q k=true:=by
  unfold oneB;rw[decide_eq_true k1]
  rcases k2 with h|h
  ·rw[decide_eq_true h];rfl
  ·rw[decide_eq_true h,Xj];rfl
 obtain⟨b,L',hC,c1,c2,c3,c4⟩:=joa hB hn [K.qc30 Q ev' wv rv] [];have hcc:=(jmF o ht).cell
 have hix:jaw 5 (.hsl b 0 l.length l.length (.grow 5)) (.int .i64 (k:Int))=some (.ptr b (k*5)):=by
  simp only[jaw];rw[Kg aa];simp
 have hfit:k*5+5<=(jbc (l.map cpT)).length:=by rw[jiW,Qw];omega
 have hput:=js1 (a:=l.map cpT) (k:=k) (by rw[Qw];exact k1) (woT o (l.getD k Tb.none))
 have hres:jaK (L'.set b (.cells (jbc ((l.map cpT).set k (woT o (l.getD k Tb.none)))) 79)) jak (.hsl b 0 l.length l.length (.grow 5))=some (bsV (nbL o k (oneB l Q k) l)):=by
  rw[hone];show(match (L'.set b (AObj.cells (jbc ((l.map cpT).set k (woT o (l.getD k Tb.none)))) 79))[b]? with|some (.cells cs _)=>if l.length<=l.length then((cs.drop 0).mapM (jaK (L'.set b (.cells (jbc ((l.map cpT).set k (woT o (l.getD k Tb.none)))) 79)) 11)).map λc=>V.row c l.length .unk else none|_=>none)=some (bsV ((l.map cpT).set k (woT o (l.getD k Tb.none))));rw[Km (jao c1)];show(if l.length<=l.length then(((jbc ((l.map cpT).set k (woT o (l.getD k Tb.none)))).drop 0).mapM (jaK (L'.set b (.cells (jbc ((l.map cpT).set k (woT o (l.getD k Tb.none)))) 79)) 11)).map λc=>V.row c l.length .unk else none)=_
  rw[Kg (Kw _),Qz,jfZ _ λt ht=>by
   rcases List.mem_or_eq_of_mem_set ht with ht|rfl
   ·obtain⟨t0,h0,rfl⟩:=Jd.1 ht;exact ju3 (hB.t t0 h0)
   ·exact jmF o (hB.at k1)]
  unfold bsV;rw[Ke (λe=>by rw[<- V7,V8,Qw]at e;omega),V8,Qw];rfl
 have lH:jbb (some (.slice 79)) (.hsl b 0 l.length l.length (.grow 5))=some (.int .i64 l.length):=rfl;generalize hres2:bsV (nbL o k (oneB l Q k) l)=res at *;clear none_;unfold Tb.cells at hWo hput;by_cases k3:(l.getD k Tb.none).s.name=Q.table
 ·have d2:=eq_true k3;simp only[Tryz.f35,simprocAttr,yK,K0,jaa,jai,Q1,YW,hl30,hW,lB,lW,e1,hP,d1,dd,hx,jaq,jax,d2,hC,lH,hix,jcG,hWo,c1,hput,hfit,jae,jam,jac,hcc.1,hcc.2];rw[<- hput]at hres;exact⟨ac,hres⟩
 ·have d2:=eq_false k3;have d3:((l.getD k Tb.none).s.name=Q.other)=True:=eq_true (k2.resolve_left k3);simp only[Tryz.f35,simprocAttr,yK,K0,jaa,jai,Q1,YW,hl30,hW,lB,lW,e1,hP,d1,dd,hx,jaq,jax,d2,d3,hC,lH,hix,jcG,hWo,c1,hput,hfit,jae,jam,jac,hcc.1,hcc.2];rw[<- hput]at hres;exact⟨ac,hres⟩
end
end Go.Proofs.YtajaampgajieeaaGreatDoor.B
