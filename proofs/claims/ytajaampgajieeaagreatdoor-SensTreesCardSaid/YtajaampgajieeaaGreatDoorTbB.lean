/- Proved here: what is wrong in a base. Conditions: each theorem's own. -/
import Derived.Test.YtajaampgajieeaaGreatDoorVwA
import Derived.Test.YtajaampgajieeaaGreatDoorCkD
set_option linter.unusedSimpArgs false
set_option maxHeartbeats 16000000
set_option maxRecDepth 1000000
set_option linter.unusedVariables false
set_option linter.unusedSectionVars false
namespace Go.Proofs.YtajaampgajieeaaGreatDoor.B
open Go.Ab
open W (IsI)
def cpR(r:Rw):Rw:={ r with vv:=unkV r.vv }
def rwV(l:List Rw):V:=if l=[]then .nilsl else .row (jcr l) l.length .unk
def cpT(t:Tb):Tb:=⟨cpS t.s,rwV (t.rows.map cpR),t.rows.map cpR⟩
theorem ji1(l:List Rw):IsR (rwV l) l:=by
 unfold rwV;split
 ·rename_i h;exact .inl ⟨rfl,h⟩
 ·exact .inr ⟨.unk,.inl rfl,rfl⟩
theorem jxE(a b:V):rowO env 60 1 [(0,.agg [a,b])]=some (.row [a,b] 1 .full):=ac
theorem jo6(o:Int){v:V}{xs:List Int}(h:IsI v xs):jbD env 70 [(0,.int .i64 o),(1,v)]=some (.agg [.int .i64 o,v]):=by
 rcases h with⟨rfl,_⟩|rfl|rfl<;>kernel_rfl
theorem jsy(a:List UInt8)(b:Bool)(c:Int){v:V}{cs:List Col}(h:IsC v cs):jbD env 79 [(0,.agg [.str a,.bool b,.int .i64 c,v])]=some (.agg [.str a,.bool b,.int .i64 c,v,.nilsl]):=by
 rcases h with⟨rfl,_⟩|⟨q,_,rfl⟩<;>kernel_rfl
theorem jfW(h:List AObj):∀{l:List Rw},(∀r∈l,∃v,IsI v r.vs/\r.vv=unkV v)->(jcr l).mapM (jaK h 10)=some (jcr l)
 | [],_=>rfl
 | r::l,ok=>by
  obtain⟨v,hv,e⟩:=ok r ae
  have hs:jaK h 10 r.vv=some r.vv:=by
   rw[e]
   rcases hv with⟨rfl,_⟩|rfl|rfl
   ·rfl
   ·show jaK h (8+1+1) (.row _ _ _)=_;rw[ja1,jdd];rfl
   ·show jaK h (8+1+1) (.row _ _ _)=_;rw[ja1,jdd];rfl
  rw[jcF,jal,jal,jfW h (l:=l) λx hx=>ok x (by simp[hx]),hs,jav];rfl
theorem jsz(h:List AObj){v:V}{cs:List Col}(hv:IsC v cs)(ok:OkC cs):jaK h 11 (unkV v)=some (unkV v):=by
 rcases hv with⟨rfl,_⟩|⟨q,_,rfl⟩
 ·rfl
 ·show jaK h (10+1) (.row _ _ .unk)=_;rw[ja1,show(10:Nat)=8+2 from rfl,jdZ h 8 ok];rfl
theorem jxF(ty:TypeId)(n:Nat)(ps:Array (Nat × Operand)):scOp env (.buildSlice ty n ps)=false:=rfl
theorem p197:(!(env.pure 197 ||(env.hook 197).isSome))=false:=rfl
theorem jke {t:Tb}(ht:TOK t)(U:S):jah env (ev env) 120 [.agg t.cells] U=some (.agg (cpT t).cells,U):=by
 have hcl:(List.all [V.agg t.cells] V.closed)=true:=by
  simp only[Tb.cells,Ks,Qn,V.closed,V.closed.closedL,ja9 ht.cv ht.ok,jgP ht.rv ht.ro,K8]
 refine jaj hcl jzL rfl ?_ U;have hlim:lim=2^40:=rfl;have hC:=jvV ht;have i1:=jcu ht.cv;have i2:=jdu ht.rv;have iu:=jhg ht.cv;have i3:=jcu iu;have b79:=jsy t.s.name t.s.pub t.s.many iu;have hlen:=jnV ht.rv 70;have hrl:=ht.rl;have icn:V.nilsl.isCell=true:=rfl;have l4:jab [.cells [.str t.s.name,.bool t.s.pub,.int .i64 t.s.many,t.s.cv,t.rv] 79,.cells [.str [],.bool false,.int .i64 0,.nilsl,.nilsl] 79] 4 (.ptr 0 0)=some [.str t.s.name,.bool t.s.pub,.int .i64 t.s.many,t.s.cv]:=rfl;simp only[Tryz.f120,simprocAttr,zK,K0,jaa,Q1,Tb.cells,jai,l4,hC,b79,jae,jam,jac,i1,i2,i3,icn,hlen]
 refine jau (λm T D U=>D=[]/\T 2=.ptr 1 0/\T 3=.ptr 2 0/\T 11=t.rv/\T 12=.int .i64 t.rows.length/\∃(L:List AObj) (ts:List Nat) (i:Nat) (u:V),U=⟨L,ts⟩/\T 13=.int .i64 i/\i<=t.rows.length/\m=t.rows.length-i/\3<=L.length /\
   L[1]? = some (.cells [.str [],.bool false,.int .i64 0,.nilsl,.nilsl] 79)/\L[2]? = some (.cells [.str t.s.name,.bool t.s.pub,.int .i64 t.s.many,unkV t.s.cv,u] 79)/\GrowV 0 ts 2 u i (jcr ((t.rows.take i).map cpR))/\(i=0->u=.nilsl)) ?_ (t.rows.length-0) _ _ _
  ⟨rfl,rfl,rfl,rfl,rfl,[.cells [.str t.s.name,.bool t.s.pub,.int .i64 t.s.many,t.s.cv,t.rv] 79,.cells [.str [],.bool false,.int .i64 0,.nilsl,.nilsl] 79,.cells [.str t.s.name,.bool t.s.pub,.int .i64 t.s.many,unkV t.s.cv,.nilsl] 79],[],0,.nilsl,rfl,rfl,Qm _,rfl,Kw _,rfl,rfl,.nil,λ_=>rfl⟩
 rintro m T D U ⟨rfl,t2,t3,t11,t12,L,ts,i,u,rfl,t13,hi,rfl,hL3,h1,h2,g,g0⟩;refine jaC ?_;by_cases hlt:i<t.rows.length
 ·have c1:(i:Int)<(t.rows.length:Int):=by omega
  have e1:IntKind.i64.wrap ((i:Int)+1)=((i+1:Nat):Int):=by rw[wrap_i64 aa aa];omega
  have hx:=jnW ht.rv hlt;obtain⟨hsI,_,_⟩:=ht.ro.at hlt;have hsl:=ht.vl (t.rows.getD i Rw.none) (by simp[List.getD,hlt]);have hsc:=jcv hsI;have hK:=jiY hsI aa;have uI:=jiX hsI;have b70:=jo6 (t.rows.getD i Rw.none).own uI
  have hnx:jcr ((t.rows.take (i+1)).map cpR)=jcr ((t.rows.take i).map cpR)++[.int .i64 (t.rows.getD i Rw.none).own,unkV (t.rows.getD i Rw.none).vv]:=by
   rw[take_next Rw.none hlt,Js,jfA];rfl
  generalize t.rows.getD i Rw.none=s at *;have m2:(L++[AObj.cells [.int .i64 s.own,s.vv] 70])[2]? = some (.cells [.str t.s.name,.bool t.s.pub,.int .i64 t.s.many,unkV t.s.cv,u] 79):=jaE h2 _;have mq:(L++[AObj.cells [.int .i64 s.own,s.vv] 70])[L.length]? = some (.cells [.int .i64 s.own,s.vv] 70):=jad _ _;obtain⟨v',ts',hA,g',_⟩:=GrowV.push (E:=env) (hp:=L++[AObj.cells [.int .i64 s.own,s.vv] 70]) (q:=.full) (new:=[.int .i64 s.own,unkV s.vv]) eR ⟨70,eR.slice⟩ g (Qm _) rfl (by simp only[Ks,Qn,jac,jcv uI,K8]) ⟨by rw[hlim];omega,by rw[hlim];omega⟩;obtain⟨gc1,gc2⟩:=g'.cells;simp only[simprocAttr,zK,K0,jaa,Q1,t2,t3,t11,t12,t13,c1,e1,hx,jbr,K2,jac,hsc];refine jrr rfl (λs0=>jce s0.heap[2]? 4=some u/\s0.heap[L.length]? = some (.cells [.int .i64 s.own,s.vv] 70)) 2 (λ_=>⟨by simp only;rw[m2];rfl,mq⟩) ac ac ?_;simp only[simprocAttr,zK,K0,jaa,Kf,jrs,jvk,jkG,jkH,jnj,jkI,jxF,p197,Q1,t2,t3,t11,t12,t13,m2,mq,hK,b70,jar,jxE,hA,gc1,gc2];rw[e1];refine⟨λs h=>h.1,λs h=>by rw[h.2];rfl,λs h=>by rw[h.2];rfl,t.rows.length-(i+1),aa,_,ts',i+1,v',rfl,rfl,aa,rfl,by simp;omega,?_,?_,?_,λh=>aa⟩
  ·rw[Kh aa];exact jaE h1 _
  ·exact Km (by simp;omega)
  ·rw[hnx];exact g'
 ·have hie:i=t.rows.length:=by omega
  subst hie;have c1:((t.rows.length:Int)<(t.rows.length:Int))=False:=eq_false aa;rw[Jh]at g;simp only[simprocAttr,zK,K0,jaa,tyb,t2,t3,t11,t12,t13,c1,ld5 h2,h1];obtain⟨gc1,gc2⟩:=g.cells;have s1:(L.set 1 (AObj.cells [.str t.s.name,.bool t.s.pub,.int .i64 t.s.many,unkV t.s.cv,u] 79))[1]? = some (AObj.cells [.str t.s.name,.bool t.s.pub,.int .i64 t.s.many,unkV t.s.cv,u] 79):=Km aa
  have hu:jaK (L.set 1 (AObj.cells [.str t.s.name,.bool t.s.pub,.int .i64 t.s.many,unkV t.s.cv,u] 79)) 11 u=some (cpT t).rv:=by
   show _=some (rwV (t.rows.map cpR));unfold rwV;by_cases hn:t.rows=[]
   ·rw[Kg (by rw[hn];rfl),g0 (by rw[hn];rfl)];rfl
   ·have hp:0<t.rows.length:=Xy.2 hn;obtain⟨q,rfl⟩:=g.isrow hp;rw[Ke (by simpa using hn)];show jaK _ (10+1) (.row _ _ _)=_
    rw[ja1,jfW _ λr hr=>by
     obtain⟨r0,h0,rfl⟩:=Jd.1 hr;exact⟨r0.vv,(ht.ro r0 h0).1,rfl⟩]
    simp
  have hc:=jsz (L.set 1 (AObj.cells [.str t.s.name,.bool t.s.pub,.int .i64 t.s.many,unkV t.s.cv,u] 79)) ht.cv ht.ok;simp only[jae,jam,jac,i3,gc2,K8,true_and,ld5 s1,K9,Kq,Yy];show((([V.str t.s.name,.bool t.s.pub,.int .i64 t.s.many,unkV t.s.cv,u]:List V).mapM (jaK (L.set 1 (AObj.cells [.str t.s.name,.bool t.s.pub,.int .i64 t.s.many,unkV t.s.cv,u] 79)) 11)).map V.agg)=_;rw[jal,jal,jal,jal,jal,hu,hc,jbC,jav,jaA];rfl
def InC(cs:List Col)(vs:List Int):Prop:=∀k,k<cs.length->(cs.getD k Col.none).lo<=vs.getD k 0/\vs.getD k 0<=(cs.getD k Col.none).hi
noncomputable def rowE(s:Sch)(seen:List Int)(r:PR):Int :=
 if r.2.length ≠ s.cs.length then 3 else if(s.pub=true/\r.1 ≠ 0)\/(s.pub=false/\(r.1<1\/1000000<r.1))then 2 else if ¬@decide (InC s.cs r.2) (Classical.propDecidable _)then 2 else if s.pub=false/\s.many<(seen.count r.1:Nat)+1 then 12 else 0
noncomputable def rowsE(s:Sch):List Int->Nat->List PR->Int × Int
 |_,_,[]=>(0,-1)
 |seen,i,r::l=>if rowE s seen r=0 then rowsE s (r.1::seen) (i+1) l else(rowE s seen r,(i:Int))
noncomputable def tabE(s:Sch)(rows:List PR):Int × Int:=if(jdh s.name s.pub s.many s.cs).1 ≠ 0 then(3,-1)else if 2000<rows.length then(4,-1)else rowsE s [] 0 rows
theorem jz4:env.hook 171=some (jbU YtajaampgajieeaaGreatDoor.env 171):=rfl
theorem ld4r(h:List AObj)(a b c d:V)(r:List V):jab h 4 (.rptr (a::b::c::d::r))=some [a,b,c,d]:=by simp[jab]
section
variable {Q:Post}{ks:List Kt}{cv:V}{cs:List Col}{xv:V}{xs:List Int}{own i:Int}{q:Nat}
theorem jmv(hc:IsC cv cs)(ok:OkC cs)(hl:cs.length<=1000)(hx:IsI xv xs)(hxl:xs.length=cs.length){L:List AObj}{ts:List Nat}{T:Tm}(t7:T 7=.int .i64 i)(t8:T 8=.ptr q 0)(t69:T 69=cv)(t70:T 70=.int .i64 cs.length)(t71:T 71=.int .i64 ((0:Nat):Int))
  (hq:L[q]? = some (.cells [.int .i64 own,xv] 70)) (hgood:InC cs xs->∀T' X,(∀j,j=1\/j=6\/j=7\/j=8\/j=26\/j=27\/j=28->T' j=T j)->G env 236 none 114 Q ks .skip T' [] ⟨L++X,ts⟩)
  (hbad:¬InC cs xs->∀T' X,T' 2=.int .i64 2->T' 3=.int .i64 i->(Kt.post env 236 none 114 Q ks).ret T' [] ⟨L++X,ts⟩) :
  jdx env 236 none 114 (jcK 2 (jaz Tryz.f236)) T [] ⟨L,ts⟩ (Kt.post env 236 none 114 Q (.blk 2::ks)):=by
 simp only[jaz,Tryz.f236,Kr,jcK,blkC,Option.or,Nat.reduceEqDiff,Kn,Kl,reduceIte]
 refine jau (λm T' D U=>D=[]/\(∀j,j=1\/j=6\/j=7\/j=8\/j=26\/j=27\/j=28->T' j=T j)/\T' 69=cv/\T' 70=.int .i64 cs.length/\∃(X:List AObj) (k:Nat),U=⟨L++X,ts⟩/\T' 71=.int .i64 k/\k<=cs.length/\m=cs.length-k/\∀k',k'<k->(cs.getD k' Col.none).lo<=xs.getD k' 0/\xs.getD k' 0<=(cs.getD k' Col.none).hi) ?_ (cs.length-0) _ _ _
  ⟨rfl,λ_ _=>rfl,t69,t70,[],0,by rw[Jb],t71,Qm _,rfl,λk' h=>absurd h aa⟩
 rintro m T' D U ⟨rfl,hT,u69,u70,X,k,rfl,u71,hk,rfl,hin⟩;have u7:T' 7=.int .i64 i:=(hT 7 aa).trans t7;have u8:T' 8=.ptr q 0:=(hT 8 aa).trans t8;refine jaC ?_;by_cases hlt:k<cs.length
 ·have c1:(k:Int)<(cs.length:Int):=by omega
  have e1:IntKind.i64.wrap ((k:Int)+1)=((k+1:Nat):Int):=by rw[wrap_i64 aa aa];omega
  have hix:=jel hc hlt;have hic:=jbf (ok.at hlt);have hvx:=W.idx_I hx (show k<xs.length by omega);have hq1:(L++X++[AObj.cells [.str (cs.getD k Col.none).name,.int .i64 (cs.getD k Col.none).lo,.int .i64 (cs.getD k Col.none).hi,(cs.getD k Col.none).w] 41])[q]? = some (.cells [.int .i64 own,xv] 70):=jaE (jaE hq _) _;by_cases g1:xs.getD k 0<(cs.getD k Col.none).lo
  ·have g1':=eq_true g1;have hn:¬InC cs xs:=λh=>by have:=(h k hlt).1;omega
   simp only[simprocAttr,zK,K0,jaa,Q1,u7,u8,u69,u70,u71,c1,hix,ld4r,K2,jae,jac,hic,hq1,hvx,jaq,g1'];rw[K7];exact hbad hn _ _ rfl rfl
  have g1':=eq_false g1;by_cases g2:xs.getD k 0>(cs.getD k Col.none).hi
  ·have g2':=eq_true g2;have hn:¬InC cs xs:=λh=>by have:=(h k hlt).2;omega
   simp only[simprocAttr,zK,K0,jaa,Q1,u7,u8,u69,u70,u71,c1,hix,ld4r,K2,jae,jac,hic,hq1,hvx,jaq,g1',g2'];rw[K7];exact hbad hn _ _ rfl rfl
  have g2':=eq_false g2;simp only[simprocAttr,zK,K0,jaa,Q1,u7,u8,u69,u70,u71,c1,e1,hix,ld4r,K2,jae,jac,hic,hq1,hvx,jaq,g1',g2'];refine⟨cs.length-(k+1),aa,λj hj => ?_,_,k+1,by rw[K7],rfl,aa,rfl,λk' hk' => ?_⟩
  ·rw[<- hT j hj]
   rcases hj with rfl|rfl|rfl|rfl|rfl|rfl|rfl<;>rfl
  ·rcases Ql k' k with h|h
   ·exact hin k' h
   ·obtain rfl:k'=k:=by omega
    exact⟨aa,aa⟩
 ·have hke:k=cs.length:=by omega
  subst hke;have c1:((cs.length:Int)<(cs.length:Int))=False:=eq_false aa;simp only[simprocAttr,zK,K0,jaa,tyb,u69,u70,u71,c1]
  exact hgood (λk' h=>hin k' h) _ X (λj hj=>by
   rw[<- hT j hj]
   rcases hj with rfl|rfl|rfl|rfl|rfl|rfl|rfl<;>rfl)
end
theorem jk6(h:List AObj)(a b:Int):jaK h jak (jaB [.int .i64 a,.int .i64 b])=some (.tup [.int .i64 a,.int .i64 b]):=by
 simp only[jaB,jak,jbS,jal,jaR,jav,Kq,K9]
theorem jv2 {t:Tb}(ht:TOK t)(U:S):jah env (ev env) 171 [.agg [.str t.s.name,.bool t.s.pub,.int .i64 t.s.many,t.s.cv]] U=some (.tup [.int .i64 (jdh t.s.name t.s.pub t.s.many t.s.cs).1,.int .i64 (jdh t.s.name t.s.pub t.s.many t.s.cs).2],U) :=
 jb6 jz4 (check_call _ _ _ _ _ ht.cv ht.ok ht.sh.1 ht.sh.2.1 ht.sh.2.2) _ U
theorem jn1 {t:Tb}(ht:TOK t)(U:S):jah env (ev env) 236 [.agg t.cells] U=some (.tup [.int .i64 (tabE t.s (t.rows.map Rw.pl)).1,.int .i64 (tabE t.s (t.rows.map Rw.pl)).2],U):=by
 have hcl:(List.all [V.agg t.cells] V.closed)=true:=by
  simp only[Tb.cells,Ks,Qn,V.closed,V.closed.closedL,ja9 ht.cv ht.ok,jgP ht.rv ht.ro,K8]
 refine jaj hcl jzK rfl ?_ U;have hC:=jv2 ht;have hlen:=jnV ht.rv 70;have hlc:=jfs ht.cv;have hrl:=ht.rl;have hcl:=ht.cl;have l4:jab [.cells [.str t.s.name,.bool t.s.pub,.int .i64 t.s.many,t.s.cv,t.rv] 79] 4 (.ptr 0 0)=some [.str t.s.name,.bool t.s.pub,.int .i64 t.s.many,t.s.cv]:=rfl;generalize hr:tabE t.s (t.rows.map Rw.pl)=r;unfold tabE at hr;by_cases h0:(jdh t.s.name t.s.pub t.s.many t.s.cs).1=0
 case neg =>
  rw[Kg h0]at hr;subst hr;have g0:=eq_false h0;simp only[Tryz.f236,simprocAttr,zK,K0,jaa,Q1,Tb.cells,jai,l4,hC,g0];exact jk6 _ _ _
 rw[Ke aa]at hr;rw[h0]at hC;by_cases h1:2000<t.rows.length
 ·rw[Kg (by simpa using h1)]at hr;subst hr;have g1:((t.rows.length:Int)>2000)=True:=eq_true aa;simp only[Tryz.f236,simprocAttr,zK,K0,jaa,Q1,Tb.cells,jai,l4,hC,hlen,g1];exact jk6 _ _ _
 rw[Ke (by simpa using h1)]at hr;have g1:((t.rows.length:Int)>2000)=False:=eq_false aa;simp only[Tryz.f236,simprocAttr,zK,K0,jaa,Q1,Tb.cells,jai,l4,hC,hlen,g1,jg9,jmt]
 refine jau (λm T D U=>D=[]/\T 1=.ptr 0 0/\T 6=.map 1/\T 26=t.rv/\T 27=.int .i64 t.rows.length/\∃(L:List AObj) (ts:List Nat) (i:Nat) (ps:List (Int × Int × Nat)) (clock:Nat) (seen:List Int),U=⟨L,ts⟩/\T 28=.int .i64 i/\i<=t.rows.length/\m=t.rows.length-i/\2<=L.length /\
   L[0]? = some (.cells [.str t.s.name,.bool t.s.pub,.int .i64 t.s.many,t.s.cv,t.rv] 79)/\L[1]? = some (.map (ps.map entI) clock)/\(∀x,jgr ps x=(seen.count x:Nat))/\seen.length=i/\rowsE t.s seen i ((t.rows.drop i).map Rw.pl)=r) ?_ (t.rows.length-0) _ _ _
  ⟨rfl,rfl,rfl,rfl,rfl,[.cells [.str t.s.name,.bool t.s.pub,.int .i64 t.s.many,t.s.cv,t.rv] 79,.map [] 0],[],0,[],0,[],rfl,rfl,Qm _,rfl,Kw _,rfl,rfl,λ_=>rfl,rfl,hr⟩
 clear hr;rintro m T D U ⟨rfl,t1,t6,t26,t27,L,ts,i,ps,clock,seen,rfl,t28,hi,rfl,hL2,l0,l1,hps,hsl,hr⟩;refine jaC ?_;by_cases hlt:i<t.rows.length
 case neg =>
  have hie:i=t.rows.length:=aa;subst hie;have c1:((t.rows.length:Int)<(t.rows.length:Int))=False:=eq_false aa;rw[U8]at hr;simp only[J5,rowsE]at hr;subst hr;simp only[simprocAttr,zK,K0,jaa,t1,t6,t26,t27,t28,c1];exact jk6 _ _ _
 have c1:(i:Int)<(t.rows.length:Int):=aa;have e1:IntKind.i64.wrap ((i:Int)+1)=((i+1:Nat):Int):=by rw[wrap_i64 aa aa];omega
 have hx:=jnW ht.rv hlt;obtain⟨hsI,hsin,hso⟩:=ht.ro.at hlt;have hsv:=ht.vl (t.rows.getD i Rw.none) (by simp[List.getD,hlt]);rw[show t.rows.drop i=t.rows.getD i Rw.none::t.rows.drop (i+1) by rw[Qk hlt];simp[List.getD,hlt],K6]at hr;simp only[rowsE]at hr;generalize t.rows.getD i Rw.none=s at *;have hsc:=jcv hsI;have hli:=λe=>(show jbb (some (.slice e)) s.vv=some (.int .i64 s.vs.length) by rcases hsI with⟨a,b⟩|a|a<;>rw[a]<;>simp[jbb, *])
 have a0:(L++[AObj.cells [.int .i64 s.own,s.vv] 70])[0]? = some (.cells [.str t.s.name,.bool t.s.pub,.int .i64 t.s.many,t.s.cv,t.rv] 79):=jaE l0 _;have aq:(L++[AObj.cells [.int .i64 s.own,s.vv] 70])[L.length]? = some (.cells [.int .i64 s.own,s.vv] 70):=jad _ _;by_cases k1:s.vs.length=t.s.cs.length
 case neg =>
  have hE:rowE t.s seen s.pl=3:=by unfold rowE;rw[Kg k1]
  rw[hE,Ke af]at hr;subst hr;have d1:((s.vs.length:Int)=(t.s.cs.length:Int))=False:=eq_false aa;simp only[simprocAttr,zK,K0,jaa,Q1,t1,t6,t26,t27,t28,c1,hx,jbr,K2,jac,hsc,a0,aq,hli,hlc,d1];exact jk6 _ _ _
 have d1:((s.vs.length:Int)=(t.s.cs.length:Int))=True:=eq_true aa;by_cases k2:(t.s.pub=true/\s.own ≠ 0)\/(t.s.pub=false/\(s.own<1\/1000000<s.own))
 ·have hE:rowE t.s seen s.pl=2:=by unfold rowE;rw[Ke (by simpa using k1),Kg k2]
  rw[hE,Ke af]at hr;subst hr
  rcases k2 with⟨p1,p2⟩|⟨p1,p2⟩
  ·have d2:=eq_false p2;rw[p1]at a0;simp only[simprocAttr,zK,K0,jaa,Q1,t1,t6,t26,t27,t28,c1,hx,jbr,K2,jac,hsc,a0,aq,hli,hlc,d1,d2];exact jk6 _ _ _
  ·rw[p1]at a0;by_cases p3:s.own<1
   ·have d2:=eq_true p3;simp only[simprocAttr,zK,K0,jaa,Q1,t1,t6,t26,t27,t28,c1,hx,jbr,K2,jac,hsc,a0,aq,hli,hlc,d1,d2];exact jk6 _ _ _
   ·have d2:=eq_false p3;have d3:(s.own>1000000)=True:=eq_true aa;simp only[simprocAttr,zK,K0,jaa,Q1,t1,t6,t26,t27,t28,c1,hx,jbr,K2,jac,hsc,a0,aq,hli,hlc,d1,d2,d3];exact jk6 _ _ _
 have bad:∀T' X,¬InC t.s.cs s.vs->T' 2=.int .i64 2->T' 3=.int .i64 (i:Int)->wpR env [.tmp 2,.tmp 3] (λv' U'=>jaK U'.heap jak v'=some (.tup [.int .i64 r.1,.int .i64 r.2])) T' [] ⟨L++[AObj.cells [.int .i64 s.own,s.vv] 70]++X,ts⟩:=by
  intro T' X hn w2 w3;have hE:rowE t.s seen s.pl=2:=by unfold rowE;rw[Ke (by simpa using k1),Ke k2,Kg (by simpa using hn)]
  rw[hE,Ke af]at hr;subst hr;simp only[simprocAttr,zK,Vq,w2,w3];exact jk6 _ _ _
 have hcount:seen.count s.own<=i:=by rw[<- hsl];exact List.count_le_length
 have e2:IntKind.i64.wrap (((seen.count s.own:Nat):Int)+1)=((seen.count s.own:Nat):Int)+1:=wrap_i64 aa aa
 -- behind the values
 have rest:∀X,InC t.s.cs s.vs->∃ps' clock',(∀x,jgr ps' x=((s.own::seen).count x:Nat))/\jjk env 204 false (.map 1) (.int .i64 s.own) ⟨L++[AObj.cells [.int .i64 s.own,s.vv] 70]++X,ts⟩=some (.int .i64 (seen.count s.own:Nat)) /\
   jiD env 204 (.map 1) (.int .i64 s.own) (.int .i64 (((seen.count s.own:Nat):Int)+1)) ⟨L++[AObj.cells [.int .i64 s.own,s.vv] 70]++X,ts⟩=some (.tup [],⟨(L++[AObj.cells [.int .i64 s.own,s.vv] 70]++X).set 1 (.map (ps'.map entI) clock'),ts⟩) /\
   jjk env 204 false (.map 1) (.int .i64 s.own) ⟨(L++[AObj.cells [.int .i64 s.own,s.vv] 70]++X).set 1 (.map (ps'.map entI) clock'),ts⟩=some (.int .i64 (((seen.count s.own:Nat):Int)+1)) /\
   ((L++[AObj.cells [.int .i64 s.own,s.vv] 70]++X).set 1 (.map (ps'.map entI) clock'))[0]? = some (.cells [.str t.s.name,.bool t.s.pub,.int .i64 t.s.many,t.s.cv,t.rv] 79) /\
   ((L++[AObj.cells [.int .i64 s.own,s.vv] 70]++X).set 1 (.map (ps'.map entI) clock'))[1]? = some (.map (ps'.map entI) clock')/\((L++[AObj.cells [.int .i64 s.own,s.vv] 70]++X).set 1 (.map (ps'.map entI) clock'))[L.length]? = some (.cells [.int .i64 s.own,s.vv] 70):=by
  intro X hin;have m1:(L++[AObj.cells [.int .i64 s.own,s.vv] 70]++X)[1]? = some (.map (ps.map entI) clock):=jaE (jaE l1 _) _;obtain⟨ps',clock',hU,hL⟩:=jss m1 s.own (((seen.count s.own:Nat):Int)+1) ts;have hK:=jh4 m1 s.own ts;rw[hps]at hK;have m2:((L++[AObj.cells [.int .i64 s.own,s.vv] 70]++X).set 1 (.map (ps'.map entI) clock'))[1]? = some (.map (ps'.map entI) clock'):=Km (by simp;omega);have hK2:=jh4 m2 s.own ts;rw[hL,Kg rfl]at hK2;refine⟨ps',clock',λx => ?_,hK,hU,hK2,by rw[Kh aa];exact jaE a0 _,m2,by rw[Kh aa];exact jaE aq _⟩;rw[hL x,hps x];by_cases e:x=s.own
  ·subst e;rw[Kg rfl];simp
  ·rw[Ke e,Vb (Ne.symm e)]
 cases hpub:t.s.pub
 ·have p1:¬s.own<1/\¬s.own>1000000:=⟨λh=>k2 (.inr ⟨hpub,.inl h⟩),λh=>k2 (.inr ⟨hpub,.inr h⟩)⟩;have d2:=eq_false p1.1;have d3:=eq_false p1.2;rw[hpub]at a0;simp only[simprocAttr,zK,K0,jaa,Q1,t1,t6,t26,t27,t28,c1,hx,jbr,K2,jac,hsc,a0,aq,hli,hlc,d1,d2,d3];refine jmv ht.cv ht.ok aa hsI k1 rfl rfl rfl rfl rfl aq (λhin T' X hT => ?_) λhn T' X w2 w3=>bad T' X hn w2 w3
  obtain⟨ps',clock',r1,r2,r3,r4,r5,r6,r7⟩:=rest X hin;have v1:T' 1=.ptr 0 0:=(hT 1 aa).trans t1;have v6:T' 6=.map 1:=(hT 6 aa).trans t6;have v7:T' 7=.int .i64 i:=hT 7 aa;have v8:T' 8=.ptr L.length 0:=hT 8 aa;have v26:T' 26=t.rv:=(hT 26 aa).trans t26;have v27:T' 27=.int .i64 t.rows.length:=(hT 27 aa).trans t27;have v28:T' 28=.int .i64 i:=(hT 28 aa).trans t28;have aq2:(L++[AObj.cells [.int .i64 s.own,s.vv] 70]++X)[L.length]? = some (.cells [.int .i64 s.own,s.vv] 70):=jaE aq _;by_cases k3:t.s.many<(seen.count s.own:Nat)+1
  ·have hE:rowE t.s seen s.pl=12:=by unfold rowE;rw[Ke (by simpa using k1),Ke k2,Ke (by simpa using hin),Kg ⟨hpub,k3⟩]
   rw[hE,Ke af]at hr;subst hr;have d4:(((seen.count s.own:Nat):Int)+1>t.s.many)=True:=eq_true k3;rw[hpub]at r5;simp only[simprocAttr,zK,K0,jaa,Q1,v1,v6,v7,v8,v26,v27,v28,aq2,jez,r2,e2,jeB,r3,r4,r5,r7,d4];exact jk6 _ _ _
  ·have hE:rowE t.s seen s.pl=0:=by unfold rowE;rw[Ke (by simpa using k1),Ke k2,Ke (by simpa using hin),Ke λh=>k3 h.2]
   rw[hE,Kg rfl]at hr;have d4:(((seen.count s.own:Nat):Int)+1>t.s.many)=False:=eq_false k3;have r5':=r5;rw[hpub]at r5;simp only[simprocAttr,zK,K0,jaa,Q1,v1,v6,v7,v8,v26,v27,v28,aq2,jez,r2,e2,jeB,r3,r4,r5,r7,d4,e1];exact⟨t.rows.length-(i+1),aa,_,ts,i+1,ps',clock',s.own::seen,rfl,rfl,aa,rfl,by simp;omega,r5,r6,r1,by simp[hsl],hr⟩
 ·have p1:s.own=0:=Jo λh=>k2 (.inl ⟨hpub,h⟩)
  have d2:=eq_true p1;rw[hpub]at a0;simp only[simprocAttr,zK,K0,jaa,Q1,t1,t6,t26,t27,t28,c1,hx,jbr,K2,jac,hsc,a0,aq,hli,hlc,d1,d2];refine jmv ht.cv ht.ok aa hsI k1 rfl rfl rfl rfl rfl aq (λhin T' X hT => ?_) λhn T' X w2 w3=>bad T' X hn w2 w3
  obtain⟨ps',clock',r1,r2,r3,r4,r5,r6,r7⟩:=rest X hin;have v1:T' 1=.ptr 0 0:=(hT 1 aa).trans t1;have v6:T' 6=.map 1:=(hT 6 aa).trans t6;have v7:T' 7=.int .i64 i:=hT 7 aa;have v8:T' 8=.ptr L.length 0:=hT 8 aa;have v26:T' 26=t.rv:=(hT 26 aa).trans t26;have v27:T' 27=.int .i64 t.rows.length:=(hT 27 aa).trans t27;have v28:T' 28=.int .i64 i:=(hT 28 aa).trans t28;have aq2:(L++[AObj.cells [.int .i64 s.own,s.vv] 70]++X)[L.length]? = some (.cells [.int .i64 s.own,s.vv] 70):=jaE aq _;have hE:rowE t.s seen s.pl=0:=by unfold rowE;rw[Ke (by simpa using k1),Ke k2,Ke (by simpa using hin),Ke λh=>by rw[hpub]at h;cases h.1]
  rw[hE,Kg rfl]at hr;have r5':=r5;rw[hpub]at r5;simp only[simprocAttr,zK,K0,jaa,Q1,v1,v6,v7,v8,v26,v27,v28,aq2,jez,r2,e2,jeB,r3,r4,r5,r7,e1];exact⟨t.rows.length-(i+1),aa,_,ts,i+1,ps',clock',s.own::seen,rfl,rfl,aa,rfl,by simp;omega,r5,r6,r1,by simp[hsl],hr⟩
noncomputable abbrev Tb.tabE(t:Tb):Int × Int:=B.tabE t.s (t.rows.map Rw.pl)
noncomputable def tabsE:Nat->List Tb->Int × Int × Int
 |_,[]=>(0,-1,-1)
 |i,t::l=>if(Tb.tabE t).1=0 then tabsE (i+1) l else((Tb.tabE t).1,(i:Int),(Tb.tabE t).2)
noncomputable def jed(l:List Tb):Int × Int × Int:=if(allE (sv l)).1 ≠ 0 then((allE (sv l)).1,(allE (sv l)).2.1,-1)else tabsE 0 l
theorem ji2(l:List Tb):(sv l).length=l.length:=by simp[sv]
theorem jql {l:List Tb}{i:Nat}(hi:i<l.length):(sv l).getD i Sch.none=cpS (l.getD i Tb.none).s:=by
 simp[sv,List.getD,hi]
theorem jt7 {v:V}{l:List Tb}(h:BOK v l):OkS (sv l):=λs hs=>by
 obtain⟨t,ht,rfl⟩:=Jd.1 hs;exact⟨jhg (h.t t ht).cv,(h.t t ht).ok⟩
theorem jsA {v:V}{l:List Tb}(h:BOK v l):K.SB (svV l) (sv l):=by
 have hl:=ji2 l;refine⟨⟨jkc l,jt7 h,by have:=h.l;omega,λi hi => ?_⟩,λi hi => ?_⟩
 ·rw[jql aa];exact(h.at aa).sh
 ·rw[jql aa];exact(h.at aa).cl
theorem hk96:env.hook 96=some (jbU YtajaampgajieeaaGreatDoor.env 96):=rfl
theorem jz5 {v:V}{l:List Tb}(h:BOK v l)(U:S):jah env (ev env) 96 [svV l] U=some (tri (allE (sv l)),U) :=
 jb6 hk96 (jgI _ _ (jkc l) (jt7 h) (by rw[ji2];exact h.l) (jsA h).sh) _ U
theorem jn2 {v:V}{l:List Tb}(h:BOK v l)(U:S):jah env (ev env) 195 [v] U=some (tri (jed l),U):=by
 refine jaj (by simp[h.closed]) jzJ rfl ?_ U;have hA:=jz5 h;have hS:=jcC h;have hB:=jmo h.v 79;have hl:=h.l;unfold tri at hA;generalize hr:jed l=r;unfold jed at hr;by_cases h0:(allE (sv l)).1=0
 case neg =>
  rw[Kg h0]at hr;subst hr;have g0:=eq_false h0;simp only[Tryz.f195,simprocAttr,zK,Vq,jai,hS,hA,g0];exact jeZ _ _ _ _ _ rfl
 rw[Ke aa]at hr;have g0:=eq_true h0;simp only[Tryz.f195,simprocAttr,zK,Vq,jai,hS,hA,g0,hB];refine jau (λm T D U=>D=[]/\T 23=v/\T 24=.int .i64 l.length/\∃(L:List AObj) (ts:List Nat) (i:Nat),U=⟨L,ts⟩/\T 25=.int .i64 i/\i<=l.length/\m=l.length-i/\tabsE i (l.drop i)=r) ?_ (l.length-0) _ _ _ ⟨rfl,rfl,rfl,[],[],0,rfl,rfl,Qm _,rfl,hr⟩;clear hr;rintro m T D U ⟨rfl,t23,t24,L,ts,i,rfl,t25,hi,rfl,hr⟩;refine jaC ?_;by_cases hlt:i<l.length
 ·have c1:(i:Int)<(l.length:Int):=by omega
  have e1:IntKind.i64.wrap ((i:Int)+1)=((i+1:Nat):Int):=by rw[wrap_i64 aa aa];omega
  have hx:=jiK h.v hlt;have ht:=h.at hlt;rw[show l.drop i=l.getD i Tb.none::l.drop (i+1) by rw[Qk hlt];simp[List.getD,hlt]]at hr;simp only[tabsE]at hr;have hC:=jn1 ht;unfold Tb.cells at hC;generalize l.getD i Tb.none=t at *;have i1:=jcu ht.cv;have i2:=jdu ht.rv;have ld:=ld5 (jad L (AObj.cells [.str t.s.name,.bool t.s.pub,.int .i64 t.s.many,t.s.cv,t.rv] 79));by_cases k:(Tb.tabE t).1=0
  ·rw[Kg k]at hr;have g1:=eq_true k;simp only[simprocAttr,zK,K0,jaa,tyb,t23,t24,t25,c1,e1,hx,jcG,K2,jae,jam,jac,i1,i2,ld,hC,g1];exact⟨l.length-(i+1),aa,_,ts,i+1,rfl,rfl,aa,rfl,hr⟩
  ·rw[Ke k]at hr;have g1:=eq_false k;subst hr;simp only[simprocAttr,zK,K0,jaa,tyb,t23,t24,t25,c1,e1,hx,jcG,K2,jae,jam,jac,i1,i2,ld,hC,g1];exact jeZ _ _ _ _ _ rfl
 ·have hie:i=l.length:=by omega
  subst hie;have c1:((l.length:Int)<(l.length:Int))=False:=eq_false aa;rw[U8]at hr;simp only[tabsE]at hr;subst hr;simp only[simprocAttr,zK,K0,jaa,tyb,t23,t24,t25,c1];exact jeZ _ _ _ _ _ rfl
theorem hk17:env.hook 17=some (jbU K.env 17):=rfl
theorem jo7 {v:V}{l:List Tb}(h:BOK v l){Q:Qy}{ev' wv rv:V}(hQ:K.QV Q ev' wv rv){fe:Int}(hf:K.Fac Q.factor fe)(U:S) :
  jah env (ev env) 118 [v,.agg (Q.cells ev' wv rv)] U=some (.bool (decide ((jed l).1=0/\(jdD Q (sv l) fe).1=0)),U):=by
 refine jaj (by rw[Ks,Ks,h.closed,hQ.closed];rfl) jzH rfl ?_ U;have hB:=jn2 h;unfold tri at hB;have hS:=jcC h;have hK:=λU=>jiy hk17 (λU=>K.check_call (jsA h) hQ hf U) (Go.Ab.ev env) U
 have hl:jab [K.qc30 Q ev' wv rv] 20 (.ptr 0 0)=_:=K.ld30 (Q:=Q) (ev:=ev') (wv:=wv) (rv:=rv) rfl;unfold Qy.cells at hK hl ⊢;by_cases h0:(jed l).1=0
 ·have g0:=eq_true h0;by_cases h1:(jdD Q (sv l) fe).1=0
  ·have g1:=eq_true h1;simp only[Tryz.f118,simprocAttr,zK,Vq,jai,YW,hB,hS,g0,hl,hK,g1];exact⟨ac,by simp[jaB,jak,jaA,h0,h1]⟩
  ·have g1:=eq_false h1;simp only[Tryz.f118,simprocAttr,zK,Vq,jai,YW,hB,hS,g0,hl,hK,g1];exact⟨ac,by simp[jaB,jak,jaA,h0,h1]⟩
 ·have g0:=eq_false h0;simp only[Tryz.f118,simprocAttr,zK,Vq,jai,YW,hB,hS,g0];simp[jaB,jak,jaA,h0]
end Go.Proofs.YtajaampgajieeaaGreatDoor.B
