/- Proved here: what iterators give: rows joined. Conditions: each theorem's own. -/
import Derived.Test.YtajaampgajieeaaGreatDoorVwA
set_option linter.unusedSimpArgs false
set_option maxHeartbeats 16000000
set_option maxRecDepth 1000000
set_option linter.unusedVariables false
set_option linter.unusedSectionVars false
namespace Go.Proofs.YtajaampgajieeaaGreatDoor.B
open Go.Ab
open W (IsI)
def catV(xs:List Int):V:=if xs=[]then .nilsl else .row (xs.map (V.int .i64)) xs.length .unk
theorem jvX(xs:List Int):IsI (catV xs) xs:=by
 unfold catV;split
 ·rename_i h;exact .inl ⟨rfl,h⟩
 ·exact .inr (.inl rfl)
theorem jo4 {L:List AObj}{b:Nat}{o:AObj}(h:L[b]? = some o):L.set b o=L:=by
 apply Xp;intro i;by_cases e:b=i
 ·subst e;rw[Km (jao h),h]
 ·rw[Kh e]
theorem jo5 {L:List AObj}{ts:List Nat}{b cap len m:Nat}{cs new:List V}{v:V}(h:L[b]? = some (.cells cs 3))(hc:cs.length=cap)(hl:len+m<=cap)(hv:vLen v=some m)(hn:jaV L 1 m v=some new)(ha:new.all V.isCell=true)(hm:new.length=m) :
  appO env false ⟨L,ts⟩ 22 22 (.hsl b 0 len cap (.grow 1)) v=some (.hsl b 0 (len+m) cap (.grow 1),⟨L.set b (.cells (jaa cs len new) 3),ts⟩):=by
 unfold appO;simp only[eI.elem,eI.size,eI.bytes,eI.zeros,u22,hv,hn,Kq,Kl];unfold jbk;simp only[hl,Kl];by_cases h0:m=0
 ·have hnn:new=[]:=Q6 aa;subst hnn;have e:jaa cs len []=cs:=by unfold jaa;simp
  rw[Kg h0,e,jo4 h,h0];rfl
 ·rw[Ke h0];simp only[jcg,h,Jk,Xc];rw[Kg ⟨aa,ha⟩];rfl
theorem jsu(a b:V):jaw 1 (.row [a,b] 2 .full) (.int .i64 0)=some (.rptr [a,b]):=rfl
theorem jsv(a b:V):jaw 1 (.row [a,b] 2 .full) (.int .i64 1)=some (.rptr [b]):=rfl
theorem jn0 {xv yv:V}{xs ys:List Int}(hx:IsI xv xs)(hy:IsI yv ys)(hxl:xs.length<=10000)(hyl:ys.length<=10000)(U:S):jah env (ev env) 204 [.row [xv,yv] 2 .full] U=some (catV (xs++ys),U):=by
 refine jaj (by simp[V.closed,V.closed.closedL,W.closed_I hx,W.closed_I hy]) jzM rfl ?_ U;have lx:=λe=>(show jbb (some (.slice e)) xv=some (.int .i64 xs.length) by rcases hx with⟨rfl,rfl⟩|rfl|rfl<;>simp[jbb])
 have ly:=λe=>(show jbb (some (.slice e)) yv=some (.int .i64 ys.length) by rcases hy with⟨rfl,rfl⟩|rfl|rfl<;>simp[jbb])
 have l2:jbb (some (.slice 22)) (.row [xv,yv] 2 .full)=some (.int .i64 2):=rfl;simp only[Tryz.f204,simprocAttr,zK,Vq,jai,tyb];refine jau (λm T D U=>D=[]/\T 0=.row [xv,yv] 2 .full/\T 9=.row [xv,yv] 2 .full/\T 10=.int .i64 2/\U=⟨[],[]⟩/\∃i:Nat,T 11=.int .i64 i/\i<=2/\m=2-i/\T 3=.int .i64 ((if i=0 then 0 else if i=1 then xs.length else xs.length+ys.length:Nat):Int)) ?_ 2 _ _ _ ⟨rfl,rfl,rfl,rfl,rfl,0,rfl,aa,rfl,rfl⟩;rintro m T D U ⟨rfl,t0,t9,t10,rfl,i,t11,hi,rfl,t3⟩;refine jaC ?_;have w1:IntKind.i64.wrap ((0:Int)+(xs.length:Int))=(xs.length:Int):=by rw[wrap_i64 aa aa];omega
 have w2:IntKind.i64.wrap ((xs.length:Int)+(ys.length:Int))=((xs.length+ys.length:Nat):Int):=by rw[wrap_i64 aa aa];omega
 have n1:((xs.length:Int)<0)=False:=eq_false aa;have n2:(((xs.length+ys.length:Nat):Int)<0)=False:=eq_false aa;have f0:IntKind.i64.wrap ((0:Int)+1)=1:=af;have f1:IntKind.i64.wrap ((1:Int)+1)=2:=af;have c0:((0:Int)<2)=True:=eq_true af;have c1:((1:Int)<2)=True:=eq_true af;have c2:((2:Int)<2)=False:=eq_false af;obtain h|h|h:i=0\/i=1\/i=2:=aa
 ·subst h;simp only[Kl]at t3;simp only[simprocAttr,zK,Vq,tyb,t0,t9,t10,t11,t3,c0,jsu,jaq,lx,w1,n1,f0];exact⟨1,aa,1,rfl,aa,rfl,rfl⟩
 ·subst h;simp only[Kl,Nat.one_ne_zero,Kn]at t3;simp only[simprocAttr,yK,Vq,tyb,t0,t9,t10,t11,t3,c1,jsv,jaq,ly,w2,n2,f1];exact⟨0,aa,2,rfl,aa,rfl,rfl⟩
 ·subst h;simp only[Nat.reduceEqDiff,Kn]at t3;have hG:=jsp (xs.length+ys.length) aa [] [];have vx:=vc_I hx;have vy:=vc_I hy;by_cases hn:xs.length+ys.length=0
  ·rw[Kg hn]at hG;have hxe:xs=[]:=Q6 aa;have hye:ys=[]:=Q6 aa
   have ap:∀v:V,vLen v=some 0->jaV [] 1 0 v=some []->appO env false ⟨[],[]⟩ 22 22 .nilsl v=some (.nilsl,⟨[],[]⟩):=λv h1 h2=>by
    unfold appO;simp only[eI.elem,eI.size,eI.bytes,eI.zeros,u22,h1,h2,Kq,Kl];simp[jbk]
   have ax:=ap xv (by rw[(vx []).1,hxe];rfl) (by have:=(vx []).2;rw[hxe]at this;exact this);have ay:=ap yv (by rw[(vy []).1,hye];rfl) (by have:=(vy []).2;rw[hye]at this;exact this);simp only[simprocAttr,zK,Vq,tyb,t0,t9,t10,t11,t3,c2,hG,l2];refine jau (λm T D U=>D=[]/\T 25=.row [xv,yv] 2 .full/\T 26=.int .i64 2/\T 6=.nilsl/\U=⟨[],[]⟩/\∃i:Nat,T 27=.int .i64 i/\i<=2/\m=2-i) ?_ 2 _ _ _ ⟨rfl,rfl,rfl,rfl,rfl,0,rfl,aa,rfl⟩;rintro m T D U ⟨rfl,t25,t26,t6,rfl,i,t27,hi,rfl⟩;refine jaC ?_;obtain h|h|h:i=0\/i=1\/i=2:=aa
   ·subst h;simp only[simprocAttr,yK,Vq,tyb,t25,t26,t27,t6,c0,jsu,jaq,ax,f0];exact⟨1,aa,1,rfl,aa,rfl⟩
   ·subst h;simp only[simprocAttr,yK,Vq,tyb,t25,t26,t27,t6,c1,jsv,jaq,ay,f1];exact⟨0,aa,2,rfl,aa,rfl⟩
   ·subst h;simp only[simprocAttr,zK,Vq,tyb,t25,t26,t27,t6,c2];subst hxe hye;rfl
  ·rw[Ke hn]at hG;obtain⟨Z,hZ⟩:∃Z:List V,Z=List.replicate (xs.length+ys.length) (.int .i64 0):=⟨_,rfl⟩;have zl:Z.length=xs.length+ys.length:=by rw[hZ];simp
   rw[<- hZ]at hG;simp only[Qr,Ja]at hG;have s1:jaa Z 0 (xs.map (V.int .i64))=xs.map (V.int .i64)++Z.drop xs.length:=by simp[jaa]
   have s2:jaa (xs.map (V.int .i64)++Z.drop xs.length) xs.length (ys.map (V.int .i64))=(xs++ys).map (V.int .i64):=by
    unfold jaa;rw[List.take_append_of_le_length ae,Qu ae,Uz (by simp;omega)];simp
   have a1:=jo5 (L:=[.cells Z 3]) (ts:=[]) (b:=0) (cap:=xs.length+ys.length) (len:=0) rfl zl aa (vx []).1 (vx [.cells Z 3]).2 (jgQ xs) ae;have a2:=jo5 (L:=[.cells (xs.map (V.int .i64)++Z.drop xs.length) 3]) (ts:=[]) (b:=0) (cap:=xs.length+ys.length) (len:=xs.length) rfl (by simp;omega) aa (vy []).1 (vy [.cells (xs.map (V.int .i64)++Z.drop xs.length) 3]).2 (jgQ ys) ae;rw[s1,Jk]at a1;rw[s2]at a2;simp only[Xd]at a1 a2;simp only[simprocAttr,zK,Vq,tyb,t0,t9,t10,t11,t3,c2,hG,l2];refine jau (λm T D U=>D=[]/\T 25=.row [xv,yv] 2 .full/\T 26=.int .i64 2/\∃i:Nat,T 27=.int .i64 i/\i<=2/\m=2-i/\T 6=.hsl 0 0 (if i=0 then 0 else if i=1 then xs.length else xs.length+ys.length) (xs.length+ys.length) (.grow 1)/\U=⟨[.cells (if i=0 then Z else if i=1 then xs.map (V.int .i64)++Z.drop xs.length else(xs++ys).map (V.int .i64)) 3],[]⟩) ?_ 2 _ _ _ ⟨rfl,rfl,rfl,0,rfl,aa,rfl,rfl,rfl⟩;rintro m T D U ⟨rfl,t25,t26,i,t27,hi,rfl,t6,rfl⟩;refine jaC ?_;obtain h|h|h:i=0\/i=1\/i=2:=aa
   ·subst h;simp only[Kl]at t6;simp only[simprocAttr,yK,Vq,tyb,t25,t26,t27,t6,c0,jsu,jaq,a1,f0];exact⟨1,aa,1,rfl,aa,rfl,rfl,rfl⟩
   ·subst h;simp only[Kl,Nat.one_ne_zero,Kn]at t6;simp only[simprocAttr,yK,Vq,tyb,t25,t26,t27,t6,c1,jsv,jaq,a2,f1];exact⟨0,aa,2,rfl,aa,rfl,rfl,rfl⟩
   ·subst h;simp only[Nat.reduceEqDiff,Kn]at t6;simp only[simprocAttr,zK,Vq,tyb,t25,t26,t27,t6,c2];have hne:¬xs++ys=[]:=λe=>hn (by rw[<- Kk,e];rfl)
    unfold catV;rw[Ke hne];simp only[Nat.reduceEqDiff,Kn,jaB,jak];have hs:=jdd [.cells ((xs++ys).map (V.int .i64)) 3] 10 (xs++ys);show(match ([AObj.cells ((xs++ys).map (V.int .i64)) 3])[0]? with|some (.cells cs _)=>if xs.length+ys.length<=xs.length+ys.length then((cs.drop 0).mapM (jaK [.cells ((xs++ys).map (V.int .i64)) 3] 11)).map λc=>V.row c (xs.length+ys.length) .unk else none|_=>none)=_;simp only[Q9,Qz,hs,Kw,Kl,K9,Kk]
def catR(r s:Rw):Rw:=⟨r.own,catV (r.vs++s.vs),r.vs++s.vs⟩
def jR(pub:Bool)(left right:Nat)(limit:Int)(r:Rw):List Rw->Int->List Rw
 | [],_=>[]
 |s::o,m=>if m<limit/\jmi pub left right r.pl s.pl then catR r s::jR pub left right limit r o (m+1)else jR pub left right limit r o m
theorem jt5(pub:Bool)(left right:Nat)(limit:Int)(r:Rw):∀(o:List Rw) (m:Int),(jR pub left right limit r o m).map Rw.pl=jdp pub left right limit r.pl (o.map Rw.pl) m
 | [],_=>rfl
 |s::o,m=>by
  simp only[jR,K6,jdp];split
  ·rw[K6,jt5 pub left right limit r o (m+1)];rfl
  ·exact jt5 pub left right limit r o m
theorem jmu(pub:Bool)(left right:Nat)(limit:Int)(r:Rw)(b:List Rw):∀(a:List Rw) (m:Int),jR pub left right limit r (a++b) m=jR pub left right limit r a m++jR pub left right limit r b (m+(jR pub left right limit r a m).length)
 | [],m=>by simp[jR]
 | s::a,m=>by
  simp only[Jn,jR];split
  ·rw[jmu pub left right limit r b a (m+1),Jn,Qh]
   congr 3
   omega
  ·exact jmu pub left right limit r b a m
def jF(pub:Bool)(left right:Nat)(limit:Int)(o l:List Rw):List Rw:=l.flatMap λr=>jR pub left right limit r o 0
theorem jxB(pub:Bool)(left right:Nat)(limit:Int)(o:List Rw):∀l,(jF pub left right limit o l).map Rw.pl=je9 pub left right limit (o.map Rw.pl) (l.map Rw.pl)
 | []=>rfl
 |r::l=>by
  have ih:=jxB pub left right limit o l;unfold jF je9 at *;rw[Uy,Js,K6,Uy,ih,jt5]
theorem ju0(pub:Bool)(left right:Nat)(limit:Int)(o a b:List Rw):jF pub left right limit o (a++b)=jF pub left right limit o a++jF pub left right limit o b:=by simp[jF]
theorem jsw(pub:Bool)(left right:Nat)(limit:Int)(r:Rw):∀(o:List Rw) (m:Int),(jR pub left right limit r o m).length<=o.length
 | [],_=>Kw _
 | s::o,m=>by
  simp only[jR];split
  ·have:=jsw pub left right limit r o (m+1);simp only[Qh];omega
  ·have:=jsw pub left right limit r o m;simp only[Qh];omega
theorem jsx {α:Type}{l:List α}{i:Nat}(d:α)(h:i<l.length):l.drop i=l.getD i d::l.drop (i+1):=by
 rw[Qk h];simp[List.getD,h]
section
variable {pub:Bool}{left right:Nat}{limit:Int}{o rs:List Rw}
def jU(pub:Bool)(left right:Nat)(limit:Int)(o rs:List Rw)(k i:Nat):List V:=(jF pub left right limit o (rs.take k)++jR pub left right limit (rs.getD k Rw.none) (o.take i) 0).map rowV
theorem jvY(k:Nat):jU pub left right limit o rs k 0=(jF pub left right limit o (rs.take k)).map rowV:=by simp[jU,jR]
theorem jxC {k:Nat}(hk:k<rs.length):jU pub left right limit o rs k o.length=(jF pub left right limit o (rs.take (k+1))).map rowV:=by
 unfold jU;rw[Jh,take_next Rw.none hk,ju0];simp[jF]
theorem jvZ {k i:Nat}(hi:i<o.length)(h:¬(((jR pub left right limit (rs.getD k Rw.none) (o.take i) 0).length:Int)<limit/\jmi pub left right (rs.getD k Rw.none).pl (o.getD i Rw.none).pl)) :
  jU pub left right limit o rs k (i+1)=jU pub left right limit o rs k i/\jR pub left right limit (rs.getD k Rw.none) (o.take (i+1)) 0=jR pub left right limit (rs.getD k Rw.none) (o.take i) 0:=by
 have e:jR pub left right limit (rs.getD k Rw.none) (o.take (i+1)) 0=jR pub left right limit (rs.getD k Rw.none) (o.take i) 0:=by
  rw[take_next Rw.none hi,jmu];simp only[jR,Int.zero_add];rw[Ke h,Jb]
 exact⟨by unfold jU;rw[e],e⟩
theorem jv0 {k i:Nat}(hk:k<rs.length)(hi:i<o.length)(h:((jR pub left right limit (rs.getD k Rw.none) (o.take i) 0).length:Int)<limit/\jmi pub left right (rs.getD k Rw.none).pl (o.getD i Rw.none).pl) :
  jU pub left right limit o rs k (i+1)=jU pub left right limit o rs k i++[rowV (catR (rs.getD k Rw.none) (o.getD i Rw.none))]/\(∃post,(jF pub left right limit o rs).map rowV=jU pub left right limit o rs k i++rowV (catR (rs.getD k Rw.none) (o.getD i Rw.none))::post) /\
   (jR pub left right limit (rs.getD k Rw.none) (o.take (i+1)) 0).length=(jR pub left right limit (rs.getD k Rw.none) (o.take i) 0).length+1:=by
 have e:jR pub left right limit (rs.getD k Rw.none) (o.take (i+1)) 0=jR pub left right limit (rs.getD k Rw.none) (o.take i) 0++[catR (rs.getD k Rw.none) (o.getD i Rw.none)]:=by
  rw[take_next Rw.none hi,jmu];simp only[jR,Int.zero_add];rw[Kg h]
 refine⟨by unfold jU;rw[e,<- K7,Js];rfl,?_,by rw[e];simp⟩;have e2:o=o.take (i+1)++o.drop (i+1):=(Xg _ _).symm;have e3:rs=rs.take k++rs.getD k Rw.none::rs.drop (k+1):=by rw[<- jsx Rw.none hk,Xg]
 have e4:jF pub left right limit o rs=jF pub left right limit o (rs.take k)++(jR pub left right limit (rs.getD k Rw.none) o 0++jF pub left right limit o (rs.drop (k+1))):=by
  conv=>lhs;rw[e3]
  rw[ju0];congr 1
 have e5:jR pub left right limit (rs.getD k Rw.none) o 0=jR pub left right limit (rs.getD k Rw.none) (o.take (i+1)) 0++jR pub left right limit (rs.getD k Rw.none) (o.drop (i+1)) (0+(jR pub left right limit (rs.getD k Rw.none) (o.take (i+1)) 0).length):=by
  conv=>lhs;rw[e2]
  rw[jmu]
 refine⟨(jR pub left right limit (rs.getD k Rw.none) (o.drop (i+1)) (0+(jR pub left right limit (rs.getD k Rw.none) (o.take (i+1)) 0).length)++jF pub left right limit o (rs.drop (k+1))).map rowV,?_⟩;rw[e4,e5,e];unfold jU;simp
end
theorem jqi(t:Tb)(ic:t.s.cv.isCell=true)(ir:t.rv.isCell=true)(left right limit:Int)(L:List AObj)(ts:List Nat):jah env (ev env) 123 [.agg t.cells,.int .i64 left,.int .i64 right,.int .i64 limit] ⟨L,ts⟩ =
  some (.func 202 [] [.ptr (L.length+1) 0,.ptr L.length 0,.ptr (L.length+3) 0,.ptr (L.length+2) 0],⟨L++[.cells t.cells 79,.cells [.int .i64 left] 3,.cells [.int .i64 right] 3,.cells [.int .i64 limit] 3],ts⟩):=by
 refine jaL jzP rfl ?_;simp only[Tryz.f123,simprocAttr,zK,Vq,tyb,YW];simp[jaB]
theorem jqj {g:V}(hc:g.cells=[g]/\g.isCell=true)(cl co cm cr:Nat)(L:List AObj)(ts:List Nat):jah env (ev env) 202 [g,.ptr cl 0,.ptr co 0,.ptr cm 0,.ptr cr 0] ⟨L,ts⟩=some (.func 203 [] [.ptr L.length 0,.ptr cl 0,.ptr co 0,.ptr cm 0,.ptr cr 0],⟨L++[.cells [g] 131],ts⟩):=by
 obtain⟨h1,h2⟩:=hc;refine jaL jzW rfl ?_;simp only[Tryz.f202,simprocAttr,zK,Vq,tyb,h1];exact⟨rfl,trivial⟩
structure CJ (t:Tb) (co cl cr cm:Nat) (left right:Nat) (limit:Int) (H:List AObj):Prop where
 o:H[co]? = some (.cells t.cells 79)
 l:H[cl]? = some (.cells [.int .i64 left] 3)
 r:H[cr]? = some (.cells [.int .i64 right] 3)
 m:H[cm]? = some (.cells [.int .i64 limit] 3)
theorem CJ.same {t:Tb}{co cl cr cm left right:Nat}{limit:Int}{H H':List AObj}(h:CJ t co cl cr cm left right limit H)(hs:∀j,j=co\/j=cl\/j=cr\/j=cm->H'[j]? = H[j]?):CJ t co cl cr cm left right limit H' :=
 ⟨by rw[hs _ (.inl rfl)];exact h.o,by rw[hs _ (.inr (.inl rfl))];exact h.l,by rw[hs _ (.inr (.inr (.inl rfl)))];exact h.r,by rw[hs _ (.inr (.inr (.inr rfl)))];exact h.m⟩
structure PJ (R:List V->S->Prop) (t:Tb) (co cl cr cm left right:Nat) (limit:Int) (rs:List Rw) (m l:Nat) (lo:AObj) (k:Nat) (U:S):Prop where
 r:R ((jF t.s.pub left right limit t.rows (rs.take k)).map rowV) U
 c:CJ t co cl cr cm left right limit U.heap
 y:U.heap[m]? = some (.cells [.yld l] 142)
 d:U.heap[m+1]? = some (.defd true)
 e:U.heap[m+2]? = some lo
structure PI (t:Tb) (co cl cr cm left right:Nat) (limit:Int) (m l:Nat) (lb:AObj) (q:Nat) (x:Rw) (H:List AObj):Prop where
 c:CJ t co cl cr cm left right limit H
 y:H[m]? = some (.cells [.yld l] 142)
 d:H[m+1]? = some (.defd true)
 e:H[m+2]? = some lb
 w:H[q]? = some (.cells [.int .i64 x.own,x.vv] 70)
theorem PI.same {t:Tb}{co cl cr cm left right:Nat}{limit:Int}{m l:Nat}{lb:AObj}{q:Nat}{x:Rw}{H H':List AObj}(h:PI t co cl cr cm left right limit m l lb q x H)(hs:∀j,j=co\/j=cl\/j=cr\/j=cm\/j=m\/j=m+1\/j=m+2\/j=q->H'[j]? = H[j]?) :
  PI t co cl cr cm left right limit m l lb q x H' :=
 ⟨h.c.same λj hj=>hs j aa,by rw[hs _ aa];exact h.y,by rw[hs _ aa];exact h.d,by rw[hs _ aa];exact h.e,by rw[hs _ aa];exact h.w⟩
theorem jxD {a b:V}{xs ys:List Int}(ha:IsI a xs)(hb:IsI b ys):rowO env 232 2 [(0,a),(1,b)]=some (.row [a,b] 2 .full):=by
 rcases ha with⟨rfl,_⟩|rfl|rfl<;>rcases hb with⟨rfl,_⟩|rfl|rfl<;>kernel_rfl
theorem jv1(o:Int)(xs:List Int):jbD env 70 [(0,.int .i64 o),(1,catV xs)]=some (.agg [.int .i64 o,catV xs]):=by
 unfold catV;split<;>kernel_rfl
section
variable {t:Tb}{co cl cr cm left right:Nat}{limit:Int}{rs:List Rw}
theorem jqk(ht:TOK t)(hlim:0<=limit/\limit<=1000000)(hl:left<=1000/\right<=1000)(hrow:∀s∈t.rows,right<s.vs.length)(hrs:∀r∈rs,IsI r.vv r.vs/\left<r.vs.length/\r.vs.length<=10000)
  {M l m:Nat} {C I':Nat->Prop} {R:List V->S->Prop} (hT:Takes env M l C I' ((jF t.s.pub left right limit t.rows rs).map rowV) R) (hC:∀j,C j->j<M/\¬(j=co\/j=cl\/j=cr\/j=cm)) (hm:M<=m) (hcm:∀j,j=co\/j=cl\/j=cr\/j=cm->j<M)
  {lo:AObj} {T:Tm} {tmps:List V} (hr:Rep 66 T tmps) (hlo:lo=.loop .ready none 203 tmps #[13] (asgR (jaz Tryz.f203)) (bodR (jaz Tryz.f203)) (m+1)) (t2:T 2=.ptr cl 0) (t3:T 3=.ptr co 0) (t4:T 4=.ptr cm 0) (t5:T 5=.ptr cr 0) (t6:T 6=.ptr m 0)
  {k:Nat} (hk:k<rs.length) {U:S} (hP:PJ R t co cl cr cm left right limit rs m l lo k U) :
  ∃U',jeL env (ev env) (.yld (m+2)) [rowV (rs.getD k Rw.none)] U=some (.bool true,U')/\PJ R t co cl cr cm left right limit rs m l lo (k+1) U'/\Chg (λj=>C j\/j=m+2) U.heap U'.heap:=by
 obtain⟨L,ts⟩:=U;obtain⟨hR,hc,hy,hd,he⟩:=hP;simp only at hc hy hd he;have hlt:=jao he;obtain⟨hxI,hxl,hxm⟩:=hrs (rs.getD k Rw.none) (by simp[List.getD,hk]);have hxc:=jcv hxI;have hlen:=jnV ht.rv 70;have hrl:=ht.rl;have i1:=jcu ht.cv;have i2:=jdu ht.rv;refine jfQ hlo he hr rfl ae ?_;intro lb hlb;clear hlb hlo hr;have k0:(L++[AObj.cells [.int .i64 (rs.getD k Rw.none).own,(rs.getD k Rw.none).vv] 70])[m+2]? = some lo:=jaE he _;obtain⟨H1,hH1⟩:∃H1,H1=(L++[AObj.cells [.int .i64 (rs.getD k Rw.none).own,(rs.getD k Rw.none).vv] 70]).set (m+2) lb:=⟨_,rfl⟩;have len1:H1.length=L.length+1:=by rw[hH1];simp
 have same1:∀j,j<L.length->j ≠ m+2->H1[j]? = L[j]? := λj hj hne=>by rw[hH1,Kh (Ne.symm hne),Kj hj]
 have hR1:R (jU t.s.pub left right limit t.rows rs k 0) ⟨H1,ts⟩:=by
  rw[jvY];exact hT.stay _ ⟨L,ts⟩ _ hR rfl (by simp only;omega) (by simp only;omega) λj hj _=>same1 j aa aa
 have hI1:PI t co cl cr cm left right limit m l lb L.length (rs.getD k Rw.none) H1 :=
  ⟨hc.same λj hj=>same1 j (by have:=hcm j hj;omega) (by have:=hcm j hj;omega),(same1 _ aa aa).trans hy,(same1 _ aa aa).trans hd,by rw[hH1];exact Km (by simp;omega),by rw[hH1,Kh aa];exact jad _ _⟩
 have hix:=W.idx_I hxI hxl;have o1:=hI1.c.o;have l1:=hI1.c.l;have w1:=hI1.w;unfold Tb.cells at o1;refine jaC ?_;simp only[asgR,bodR,rngC,jaz,Tryz.f203,Kr,Option.or,rowV];simp only[simprocAttr,zK,K0,jaa,Q1,Vr,Ua,K2,jac,hxc,k0,<- hH1,t2,t3,t4,t5,t6,l1,w1,o1,hix,jaq,hlen]
 refine jau (λmm T D U=>D=[]/\T 3=.ptr co 0/\T 4=.ptr cm 0/\T 5=.ptr cr 0/\T 6=.ptr m 0/\T 7=.ptr L.length 0/\T 8=.int .i64 ((rs.getD k Rw.none).vs.getD left 0)/\T 20=t.rv/\T 21=.int .i64 t.rows.length/\∃i:Nat,T 22=.int .i64 i/\i<=t.rows.length/\mm=t.rows.length-i /\
   T 9=.int .i64 ((jR t.s.pub left right limit (rs.getD k Rw.none) (t.rows.take i) 0).length:Nat)/\R (jU t.s.pub left right limit t.rows rs k i) U/\PI t co cl cr cm left right limit m l lb L.length (rs.getD k Rw.none) U.heap/\Chg C H1 U.heap) ?_ (t.rows.length-0) _ _ _
  ⟨rfl,t3,t4,t5,t6,rfl,rfl,rfl,rfl,0,rfl,Qm _,rfl,rfl,hR1,hI1,.rfl' _ _⟩
 clear hR1 hI1 o1 l1 w1 t2 t3 t4 t5 t6 T;rintro mm T D ⟨L1,ts1⟩ ⟨rfl,t3,t4,t5,t6,t7,t8,t20,t21,i,t22,hi,rfl,t9,hRi,hIi,hCh⟩;simp only at hIi hCh;have lenL1:L.length+1<=L1.length:=by have:=hCh.1;omega
 refine jaC ?_;by_cases hlt2:i<t.rows.length
 ·have c1:(i:Int)<(t.rows.length:Int):=by omega
  have e1:IntKind.i64.wrap ((i:Int)+1)=((i+1:Nat):Int):=by rw[wrap_i64 aa aa];omega
  have hx:=jnW ht.rv hlt2;obtain⟨hsI,hsin,hso⟩:=ht.ro.at hlt2;have hsm:t.rows.getD i Rw.none∈t.rows:=by simp[List.getD,hlt2]
  have hsr:=hrow _ hsm;have hsl:=ht.vl _ hsm;have hsc:=jcv hsI;have hsx:=W.idx_I hsI hsr;have hjl:(jR t.s.pub left right limit (rs.getD k Rw.none) (t.rows.take i) 0).length<=t.rows.length:=Jp (jsw _ _ _ _ _ _ _) (by rw[Qx];omega);have hstep:=jvZ (pub:=t.s.pub) (left:=left) (right:=right) (limit:=limit) (rs:=rs) (k:=k) hlt2;have htake:=jv0 (pub:=t.s.pub) (left:=left) (right:=right) (limit:=limit) (rs:=rs) hk hlt2;generalize hs:t.rows.getD i Rw.none=s at *;generalize hmn:(jR t.s.pub left right limit (rs.getD k Rw.none) (t.rows.take i) 0).length=mn at *
  -- the state when the other row lies in memory
  obtain⟨H2,hH2⟩:∃H2,H2=L1++[AObj.cells [.int .i64 s.own,s.vv] 70]:=⟨_,rfl⟩;have len2:H2.length=L1.length+1:=by rw[hH2];simp
  have s2:H2[L1.length]? = some (.cells [.int .i64 s.own,s.vv] 70):=by rw[hH2];exact jad _ _
  have hI2:PI t co cl cr cm left right limit m l lb L.length (rs.getD k Rw.none) H2:=hIi.same λj hj=>by
   have:j<L1.length:=by
    rcases hj with h|h|h|h|h|h|h|h<;>first|(have:=hcm j aa;omega)|omega
   rw[hH2,Kj this]
  have hR2:R (jU t.s.pub left right limit t.rows rs k i) ⟨H2,ts1⟩:=hT.stay _ ⟨L1,ts1⟩ _ hRi rfl (by simp only;omega) (by simp only;omega) λj hj _=>by simp only;rw[hH2,Kj aa]
  have hCh2:Chg C H1 H2:=hCh.trans (by rw[hH2];exact Chg.app _ _ _);have cm2:=hI2.c.m;have cr2:=hI2.c.r;have co2:=hI2.c.o;have w2:=hI2.w;have y2:=hI2.y;unfold Tb.cells at co2
  have skip:¬((mn:Int)<limit/\jmi t.s.pub left right (rs.getD k Rw.none).pl s.pl)->∃m',m'<t.rows.length-i/\∃i':Nat,V.int .i64 ((i+1:Nat):Int)=.int .i64 i'/\i'<=t.rows.length/\m'=t.rows.length-i' /\
    V.int .i64 (mn:Int)=.int .i64 ((jR t.s.pub left right limit (rs.getD k Rw.none) (t.rows.take i') 0).length:Nat)/\R (jU t.s.pub left right limit t.rows rs k i') ⟨H2,ts1⟩/\PI t co cl cr cm left right limit m l lb L.length (rs.getD k Rw.none) H2/\Chg C H1 H2:=λhn=>by
   obtain⟨a,b⟩:=hstep hn;exact⟨t.rows.length-(i+1),aa,i+1,rfl,aa,rfl,by rw[b,hmn],by rw[a];exact hR2,hI2,hCh2⟩
  by_cases g1:(mn:Int) >= limit
  ·have g1':=eq_true g1;simp only[simprocAttr,zK,K0,jaa,Q1,t3,t4,t5,t6,t7,t8,t9,t20,t21,t22,c1,e1,hx,jbr,K2,jac,hsc,<- hH2,cm2,g1'];exact skip λh=>aa
  have g1':=eq_false g1;by_cases g2:s.vs.getD right 0=(rs.getD k Rw.none).vs.getD left 0
  case neg =>
   have g2':=eq_false g2;simp only[simprocAttr,zK,K0,jaa,Q1,t3,t4,t5,t6,t7,t8,t9,t20,t21,t22,c1,e1,hx,jbr,K2,jac,hsc,<- hH2,cm2,g1',s2,cr2,hsx,jaq,g2'];exact skip λh=>g2 h.2.1
  have g2':=eq_true g2;by_cases g3:t.s.pub=true\/s.own=(rs.getD k Rw.none).own
  case neg =>
   have g3p:t.s.pub=false:=by cases h:t.s.pub<;>simp_all
   have g3o:(s.own=(rs.getD k Rw.none).own)=False:=eq_false λh=>g3 (.inr h)
   simp only[simprocAttr,zK,K0,jaa,Q1,t3,t4,t5,t6,t7,t8,t9,t20,t21,t22,c1,e1,hx,jbr,K2,jac,hsc,<- hH2,cm2,g1',s2,cr2,hsx,jaq,g2',co2,g3p,w2,g3o];rw[g3p]at skip;exact skip λh=>g3 (by rw[g3p];exact h.2.2)
  have hfit:(mn:Int)<limit/\jmi t.s.pub left right (rs.getD k Rw.none).pl s.pl:=⟨aa,g2,g3⟩;obtain⟨a1,⟨post,a2⟩,a3⟩:=htake hfit;obtain⟨⟨L3,ts3⟩,hY,hR3,hCh3⟩:=hT.step _ _ _ ⟨H2,ts1⟩ a2 (by simp only;omega) hR2;rw[<- a1]at hR3;simp only at hCh3;have nC:∀j,M<=j->¬C j:=λj hj hc=>by have:=(hC j hc).1;omega
  have same3:∀j,j<H2.length->¬C j->L3[j]? = H2[j]? := hCh3.2
  have hI3:PI t co cl cr cm left right limit m l lb L.length (rs.getD k Rw.none) L3:=hI2.same λj hj=>by
   rcases hj with h|h|h|h|h|h|h|h
   ·exact same3 j (by have:=hcm j aa;omega) λhc=>(hC j hc).2 aa
   ·exact same3 j (by have:=hcm j aa;omega) λhc=>(hC j hc).2 aa
   ·exact same3 j (by have:=hcm j aa;omega) λhc=>(hC j hc).2 aa
   ·exact same3 j (by have:=hcm j aa;omega) λhc=>(hC j hc).2 aa
   ·exact same3 j aa (nC _ aa)
   ·exact same3 j aa (nC _ aa)
   ·exact same3 j aa (nC _ aa)
   ·exact same3 j aa (nC _ aa)
  have s3:L3[L1.length]? = some (.cells [.int .i64 s.own,s.vv] 70):=(same3 _ aa (nC _ aa)).trans s2;have w3:=hI3.w;have y3:=hI3.y;have hcat:=jn0 hxI hsI hxm aa (⟨H2,ts1⟩:S);have r2:=jxD hxI hsI;have b70:=jv1 (rs.getD k Rw.none).own ((rs.getD k Rw.none).vs++s.vs);have e2:IntKind.i64.wrap ((mn:Int)+1)=((mn+1:Nat):Int):=by rw[wrap_i64 aa aa];omega
  unfold rowV catR at hY
  have fin:∃m',m'<t.rows.length-i/\∃i':Nat,V.int .i64 ((i+1:Nat):Int)=.int .i64 i'/\i'<=t.rows.length/\m'=t.rows.length-i' /\
    V.int .i64 ((mn+1:Nat):Int)=.int .i64 ((jR t.s.pub left right limit (rs.getD k Rw.none) (t.rows.take i') 0).length:Nat)/\R (jU t.s.pub left right limit t.rows rs k i') ⟨L3,ts3⟩/\PI t co cl cr cm left right limit m l lb L.length (rs.getD k Rw.none) L3/\Chg C H1 L3 :=
   ⟨t.rows.length-(i+1),aa,i+1,rfl,aa,rfl,by rw[a3],hR3,hI3,hCh2.trans hCh3⟩
  have stab:∀{Q:Post} {ks:List Kt} {T:Tm} {D:List DE},T 6=.ptr m 0->T 7=.ptr L.length 0->T 11=.ptr L1.length 0->(∀T',(∀t,t<53->T' t=T t)->T' 64=.bool false->G env 203 (some (m+2)) 66 Q ks .skip T' D ⟨L3,ts3⟩)->G env 203 (some (m+2)) 66 Q ks (regB 9 (bodR (jaz Tryz.f203))) T D ⟨H2,ts1⟩:=by
   intro Q ks T D t6 t7 t11 h;simp only[bodR,rngC,regB,jaz,Tryz.f203,Kr,regO,Option.or,Nat.reduceEqDiff,Kn,Kl,reduceIte];refine jcI rfl (λs0=>s0.heap[m]? = some (.cells [.yld l] 142)/\s0.heap[L.length]? = some (.cells [.int .i64 (rs.getD k Rw.none).own,(rs.getD k Rw.none).vv] 70)/\s0.heap[L1.length]? = some (.cells [.int .i64 s.own,s.vv] 70)) ⟨y2,w2,s2⟩ ac ?_;simp only[simprocAttr,zK,K0,jaa,Kf,Q1,t6,t7,t11,y2,w2,s2,jar,r2,hcat,b70,hY];exact⟨λs h=>by rw[h.1];rfl,λs h=>by rw[h.2.1];rfl,λs h=>by rw[h.2.1];rfl,λs h=>by rw[h.2.2];rfl,λ_=>trivial,λ_=>trivial,⟨y3,w3,s3⟩,h _ (λt ht=>by simp only[Z7];iterate 12 rw[Ke aa]) rfl⟩
  cases hpub:t.s.pub
  ·have g3o:(s.own=(rs.getD k Rw.none).own)=True:=eq_true (g3.resolve_left (by rw[hpub];decide));simp only[simprocAttr,zK,K0,jaa,Q1,t3,t4,t5,t6,t7,t8,t9,t20,t21,t22,c1,e1,hx,jbr,K2,jac,hsc,<- hH2,cm2,g1',s2,cr2,hsx,jaq,g2',co2,hpub,w2,g3o,e2];refine stab t6 t7 rfl λT' hT' h64 => ?_
   have v3:T' 3=.ptr co 0:=(hT' 3 af).trans t3;have v4:T' 4=.ptr cm 0:=(hT' 4 af).trans t4;have v5:T' 5=.ptr cr 0:=(hT' 5 af).trans t5;have v6:T' 6=.ptr m 0:=(hT' 6 af).trans t6;have v7:T' 7=.ptr L.length 0:=(hT' 7 af).trans t7;have v8:T' 8=.int .i64 ((rs.getD k Rw.none).vs.getD left 0):=(hT' 8 af).trans t8;have v9:T' 9=.int .i64 ((mn+1:Nat):Int):=hT' 9 af;have v20:T' 20=t.rv:=(hT' 20 af).trans t20;have v21:T' 21=.int .i64 t.rows.length:=(hT' 21 af).trans t21;have v22:T' 22=.int .i64 i:=(hT' 22 af).trans t22;clear hT';simp only[simprocAttr,zK,K0,jaa,v3,v4,v5,v6,v7,v8,v9,v20,v21,v22,h64,e1];rw[hpub]at fin;exact fin
  ·simp only[simprocAttr,zK,K0,jaa,Q1,t3,t4,t5,t6,t7,t8,t9,t20,t21,t22,c1,e1,hx,jbr,K2,jac,hsc,<- hH2,cm2,g1',s2,cr2,hsx,jaq,g2',co2,hpub,w2,e2];refine stab t6 t7 rfl λT' hT' h64 => ?_
   have v3:T' 3=.ptr co 0:=(hT' 3 af).trans t3;have v4:T' 4=.ptr cm 0:=(hT' 4 af).trans t4;have v5:T' 5=.ptr cr 0:=(hT' 5 af).trans t5;have v6:T' 6=.ptr m 0:=(hT' 6 af).trans t6;have v7:T' 7=.ptr L.length 0:=(hT' 7 af).trans t7;have v8:T' 8=.int .i64 ((rs.getD k Rw.none).vs.getD left 0):=(hT' 8 af).trans t8;have v9:T' 9=.int .i64 ((mn+1:Nat):Int):=hT' 9 af;have v20:T' 20=t.rv:=(hT' 20 af).trans t20;have v21:T' 21=.int .i64 t.rows.length:=(hT' 21 af).trans t21;have v22:T' 22=.int .i64 i:=(hT' 22 af).trans t22;clear hT';simp only[simprocAttr,zK,K0,jaa,v3,v4,v5,v6,v7,v8,v9,v20,v21,v22,h64,e1];rw[hpub]at fin;exact fin
 ·have hie:i=t.rows.length:=by omega
  subst hie;have c1:((t.rows.length:Int)<(t.rows.length:Int))=False:=eq_false aa;rw[jxC hk]at hRi;simp only[simprocAttr,zK,K0,jaa,t3,t4,t5,t6,t7,t8,t20,t21,t22,c1];have sm:∀j,j ≠ m+2->(L1.set (m+2) lo)[j]? = L1[j]? := λj hj=>by rw[Kh (Ne.symm hj)]
  refine⟨hIi.e,⟨hT.stay _ ⟨L1,ts1⟩ _ hRi rfl (by simp only;omega) ae λj hj _=>sm j aa,hIi.c.same λj hj=>sm j (by have:=hcm j hj;omega),(sm _ aa).trans hIi.y,(sm _ aa).trans hIi.d,Km aa⟩,by simp;omega,λj hj hn => ?_⟩;simp only[not_or]at hn;rw[sm j hn.2,hCh.2 j aa hn.1,same1 j hj hn.2]
end
section
variable {g:V}{D I:Nat->Prop}{P:List AObj->Prop}{t:Tb}{co cl cr cm c1 left right:Nat}{limit:Int}{rs:List Rw}
theorem jt6 (ht:TOK t)(hlim:0<=limit/\limit<=1000000)(hl:left<=1000/\right<=1000)(hrow:∀s∈t.rows,right<s.vs.length)(hrs:∀r∈rs,IsI r.vv r.vs/\left<r.vs.length/\r.vs.length<=10000)
    (hs:Seqs env g D I P (rs.map rowV)) (hID:∀j,I j->¬(j=co\/j=cl\/j=cr\/j=cm)/\j ≠ c1) :
    Seqs env (.func 203 [] [.ptr c1 0,.ptr cl 0,.ptr co 0,.ptr cm 0,.ptr cr 0]) (λj=>D j\/(j=co\/j=cl\/j=cr\/j=cm)\/j=c1) I (λH=>P H/\CJ t co cl cr cm left right limit H/\H[c1]? = some (.cells [g] 131)) ((jF t.s.pub left right limit t.rows rs).map rowV) where
  sub:=λj hj=>.inl (hs.sub j hj)
  stay:=λH H' ⟨a,b,c⟩ hag=>⟨hs.stay H H' a λj hj=>hag j (.inl hj),b.same λj hj=>hag j (.inr (.inl hj)),by rw[hag c1 (.inr (.inr rfl))];exact c⟩
  call := by
    obtain⟨hsub,hstay,fid,first,cap,rfl,hcall⟩:=hs;refine⟨203,[],[.ptr c1 0,.ptr cl 0,.ptr co 0,.ptr cm 0,.ptr cr 0],rfl,?_⟩;rintro M l C R ⟨L,ts⟩ ⟨hP,hJ,hc1⟩ hD hC hM hT hR0;simp only at hP hJ hc1 hM
    have key:∃v U',jah env (ev env) 203 [.yld l,.ptr c1 0,.ptr cl 0,.ptr co 0,.ptr cm 0,.ptr cr 0] ⟨L,ts⟩=some (v,U')/\(R ((jF t.s.pub left right limit t.rows rs).map rowV) U'/\Chg (λj=>C j\/I j) L U'.heap):=by
      refine jaD jzX rfl ?_;have yc:(V.yld l).cells=[.yld l]:=rfl;have hc1':(L++[AObj.cells [.yld l] 142])[c1]? = some (.cells [.func fid first cap] 131):=jaE hc1 _;simp only[Tryz.f203,simprocAttr,zK,Vq,tyb,yc,hc1'];refine jkE rfl ?_;simp only[Kk,Ju];intro tmps lo lx hr hlo hlx;obtain⟨m,hm⟩:∃m,m=L.length:=⟨_,rfl⟩;rw[<- hm]at hr hlo hlx;simp only[<- hm];have z0:(L++[AObj.cells [.yld l] 142]++[AObj.defd true,lo])[m]? = some (.cells [.yld l] 142):=by subst hm;simp
      have z1:(L++[AObj.cells [.yld l] 142]++[AObj.defd true,lo])[m+1]? = some (.defd true):=by subst hm;simp
      have z2:(L++[AObj.cells [.yld l] 142]++[AObj.defd true,lo])[m+2]? = some lo:=by subst hm;simp
      have old:∀j,j<L.length->(L++[AObj.cells [.yld l] 142]++[AObj.defd true,lo])[j]? = L[j]? := λj hj=>by rw[K7,Kj hj]
      have dI:∀j,D j->j<M:=λj hj=>hD j (.inl hj)
      have dJ:∀j,j=co\/j=cl\/j=cr\/j=cm->j<M:=λj hj=>hD j (.inr (.inl hj))
      have lenL:(L++[AObj.cells [.yld l] 142]++[AObj.defd true,lo]).length=m+3:=by subst hm;simp
      obtain⟨w,U2,h1,h2,h3⟩:=hcall (m+3) (m+2) (λj=>C j\/j=m+2) (λpre U=>PJ R t co cl cr cm left right limit rs m l lo pre.length U) ⟨L++[AObj.cells [.yld l] 142]++[AObj.defd true,lo],ts⟩
        (hstay L _ hP λj hj=>old j (by have:=dI j hj;omega)) (λj hj=>by have:=dI j hj;omega)
        (fun j hj=>by
          rcases hj with hj|hj
          · have:=hC j hj
            exact⟨λhd=>this.1 (.inl hd),aa⟩
          · exact⟨λhd=>by have:=dI j hd;omega,aa⟩) (by simp only[lenL];omega)
        ⟨fun pre x post U hx' hM' hR'=>by
          obtain⟨hk,rfl⟩:=jh3 Rw.none hx';obtain⟨U',a,b,d⟩:=jqk ht hlim hl hrow hrs hT (λj hj=>⟨(hC j hj).2,λe=>(hC j hj).1 (.inr (.inl e))⟩) aa dJ hr hlo rfl rfl rfl rfl rfl hk hR';exact⟨U',a,by rw[Kk,Ju];exact b,d⟩,λpre U U' hR' htk hM' hle hag=>by
          obtain⟨b0,b1,b2,b3,b4⟩:=hR';have nI:∀j,M<=j->¬I j:=λj hj hi=>by have:=dI j (hsub j hi);omega
          refine⟨hT.stay _ U U' b0 htk aa hle λj hj hi=>hag j aa hi,b1.same λj hj=>hag j (by have:=dJ j hj;omega) λhi=>(hID j hi).1 hj,?_,?_,?_⟩
          · rw[hag _ aa (nI _ aa)];exact b2
          · rw[hag _ aa (nI _ aa)];exact b3
          · rw[hag _ aa (nI _ aa)];exact b4⟩
        ⟨hT.stay _ ⟨L,ts⟩ _ hR0 rfl hM (by simp only[lenL];omega) λj hj _=>old j aa,hJ.same λj hj=>old j (by have:=dJ j hj;omega),z0,z1,z2⟩
      obtain⟨b0,b1,b2,b3,b4⟩:=h2;rw[Qw,Jh]at b0;obtain⟨L2,ts2⟩:=U2;simp only at b2 b3 b4 h3;have le2:=h3.1;rw[lenL]at le2;have e2:(L2.set (m+2) lx)[m+1]? = some (.defd true):=by rw[Kh aa];exact b3
      refine⟨w,⟨L2,ts2⟩,h1,b4,?_⟩;simp only[simprocAttr,zK,K0,jaa,tyb,wpR,jdk,e2];refine⟨hT.stay _ ⟨L2,ts2⟩ _ b0 rfl (by simp only;omega) ae λj hj _=>by rw[Kh aa,Kh aa],by simp;omega,λj hj hn => ?_⟩;simp only[not_or]at hn;rw[Kh aa,Kh aa,h3.2 j (by rw[lenL];omega) (by simp only[not_or];exact⟨⟨hn.1,aa⟩,hn.2⟩)];exact old j hj
    obtain⟨v,U',h1,h2,h3⟩:=key;exact⟨v,U',jgR h1,h2,h3⟩
end
end Go.Proofs.YtajaampgajieeaaGreatDoor.B
