/- Proved here: parts of a query are drawn. Conditions: each theorem's own. -/
import Derived.Test.YtajaampgajieeaaGreatDoorMaA
import Derived.Test.YtajaampgajieeaaGreatDoorCkA
set_option linter.unusedSimpArgs false
set_option maxHeartbeats 16000000
set_option maxRecDepth 1000000
set_option linter.unusedVariables false
set_option linter.unusedSectionVars false
namespace Go.Proofs.YtajaampgajieeaaGreatDoor.N
open Go.Ab
theorem al1:(∀h p,jaH env h 24 p=(jab h 1 p).bind (·[0]?))/\(∀h p,jaH env h 26 p=(jab h 1 p).bind (·[0]?))/\(∀h p,jaH env h 27 p=(jab h 1 p).bind (·[0]?))/\(∀h p,jaH env h 28 p=(jab h 1 p).bind (·[0]?))/\(∀h p,jaH env h 32 p=(jab h 1 p).bind (·[0]?))/\(∀h p,jaH env h 103 p=(jab h 1 p).bind (·[0]?)) /\
  (∀h p,jaH env h 30 p=(jab h 20 p).map .agg)/\(∀h p,jaH env h 38 p=(jab h 4 p).map .agg)/\(∀h p,jaH env h 104 p=(jab h 2 p).map .agg)/\(∀h p,jaH env h 86 p=(jab h 2 p).map .agg):=by
 have g30:aggT env 30=some true:=ac;have g38:aggT env 38=some true:=ac;have g104:aggT env 104=some true:=ac;have g86:aggT env 86=some true:=ac;have s30:sz env 30=some 20:=ac;have s38:sz env 38=some 4:=ac;have s104:sz env 104=some 2:=ac;have s86:sz env 86=some 2:=ac
 exact⟨λ_ _=>jay ac,λ_ _=>jay ac,λ_ _=>jay ac,λ_ _=>jay ac,λ_ _=>jay ac,λ_ _=>jay ac,
  λh p=>by unfold jaH;rw[g30,s30];rfl,λh p=>by unfold jaH;rw[g38,s38];rfl,λh p=>by unfold jaH;rw[g104,s104];rfl,λh p=>by unfold jaH;rw[g86,s86];rfl⟩
theorem uq:env.P.underlying 24=some (.slice 38)/\env.P.underlying 27=some (.slice 86)/\env.P.underlying 28=some .string/\env.P.underlying 32=some (.int .i64)/\env.P.underlying 105=some (.slice 104)/\env.P.underlying 180=some (.slice 4)/\env.P.underlying 86=some (.array 2 3) /\
  sz env 24=some 1/\sz env 27=some 1/\sz env 28=some 1/\sz env 32=some 1/\sz env 38=some 4/\sz env 30=some 20/\sz env 104=some 2/\sz env 86=some 2/\sz env 103=some 1/\sz env 117=some 30 :=
 ⟨ac,ac,ac,ac,ac,ac,ac,ac,ac,ac,ac,ac,ac,ac,ac,ac,ac⟩
theorem fo30:jas env 30 0=some 0/\jas env 30 1=some 1/\jas env 30 2=some 2/\jas env 30 3=some 3/\jas env 30 4=some 4/\jas env 30 5=some 5/\jas env 30 6=some 6/\jas env 30 7=some 7/\jas env 30 8=some 8/\jas env 30 9=some 9/\jas env 30 10=some 10/\jas env 30 11=some 11/\jas env 30 12=some 12/\jas env 30 13=some 13/\jas env 30 14=some 14/\jas env 30 15=some 15/\jas env 30 16=some 16/\jas env 30 17=some 17/\jas env 30 18=some 18/\jas env 30 19=some 19 :=
 ⟨ac,ac,ac,ac,ac,ac,ac,ac,ac,ac,ac,ac,ac,ac,ac,ac,ac,ac,ac,ac⟩
theorem jaJ:jas env 117 0=some 0/\jas env 117 1=some 20/\jas env 117 2=some 21/\jas env 117 3=some 25/\jas env 117 4=some 29/\jas env 38 0=some 0/\jas env 38 1=some 1/\jas env 38 2=some 2/\jas env 38 3=some 3/\jas env 104 0=some 0/\jas env 104 1=some 1 :=
 ⟨ac,ac,ac,ac,ac,ac,ac,ac,ac,ac,ac⟩
theorem at79:env.P.funcs[79]? = some Tryz.f79:=ac
abbrev qm(Q:Qy)(ev wv rv:V):AObj:=.cells [.int .i64 Q.kind,ev,.int .i64 Q.lo,.int .i64 Q.hi,.int .i64 Q.p,.int .i64 Q.q,.str Q.column,.int .i64 Q.bound,rv,.int .i64 Q.strat,.bool Q.cons,.str Q.table,.int .i64 Q.keep,.str Q.other,.str Q.left,.str Q.right,.int .i64 Q.limit,wv,.str Q.factor,.int .i64 Q.bits] 30
def JQ(Q0 Q:Qy)(a b:Sch):Prop:=Q=Q0\/∃(i k:Nat) (l:Int),i<a.cs.length/\k<b.cs.length/\(a.cs.getD i Col.none).name=(b.cs.getD k Col.none).name/\1<=l/\l<=3/\Q={ Q0 with other:=b.name,left:=(a.cs.getD i Col.none).name,right:=(b.cs.getD k Col.none).name,limit:=l }
section
variable {xv:V}{xs:List Int}(K:Tk xv xs){Q0:Qy}{ev wv rv:V}{a c:Sch}{qa qc:RCap}{b P:Nat}
include K
theorem jnH(ha:a.cv=.row (jaO a.cs) a.cs.length qa)(hc:c.cv=.row (jaO c.cs) c.cs.length qc)(hal:a.cs.length<=100)(hcl:c.cs.length<=100)(hPb:P ≠ b){M:List AObj}(hM:Has M b xv xs)(hP:M[P]? = some (qm Q0 ev wv rv))(hw:ev.isCell=true/\wv.isCell=true/\rv.isCell=true)(ts:List Nat) :
  ∃v U',jah env (Go.Ab.ev env) 79 [.ptr b 0,.ptr P 0,.agg a.cells,.agg c.cells] ⟨M,ts⟩=some (v,U')/\∃(M':List AObj) (Q:Qy),U'=⟨M',ts⟩/\Has M' b xv xs/\M'[P]? = some (qm Q ev wv rv)/\JQ Q0 Q a c/\Kp2 M M' b P:=by
 refine jaD at79 rfl ?_;have hPl:=jao hP;have hbl:=hM.lt;have lenA:jbb (some (.slice 41)) a.cv=some (.int .i64 a.cs.length):=by rw[ha];rfl
 have lenC:jbb (some (.slice 41)) c.cv=some (.int .i64 c.cs.length):=by rw[hc];rfl
 simp only[Tryz.f79,simprocAttr,zK,K0,jaa,Sch.cells,YW]
 refine jau (λm T D U=>D=[]/\T 0=.ptr b 0/\T 1=.ptr P 0/\T 6=.ptr M.length 0/\T 7=.ptr (M++[AObj.cells [.str a.name,.bool a.pub,.int .i64 a.many,a.cv] 38]).length 0/\∃(i:Nat) (M1:List AObj) (Q:Qy),U=⟨M1,ts⟩/\T 8=.int .i64 i/\i<=a.cs.length/\m=a.cs.length-i/\Has M1 b xv xs/\M1[P]? = some (qm Q ev wv rv)/\JQ Q0 Q a c/\Kp2 (M++[AObj.cells [.str a.name,.bool a.pub,.int .i64 a.many,a.cv] 38]++[AObj.cells [.str c.name,.bool c.pub,.int .i64 c.many,c.cv] 38]) M1 b P) ?_ (a.cs.length-0) _ _ _
  ⟨rfl,rfl,rfl,rfl,rfl,0,_,Q0,rfl,rfl,aa,rfl,(hM.app _).app _,jaE (jaE hP _) _,.inl rfl,⟨Kw _,λ_ _ _ _=>rfl⟩⟩
 obtain⟨M0,hM0⟩:∃M0,M++[AObj.cells [.str a.name,.bool a.pub,.int .i64 a.many,a.cv] 38]++[AObj.cells [.str c.name,.bool c.pub,.int .i64 c.many,c.cv] 38]=M0:=⟨_,rfl⟩;rw[hM0];have h6:M0[M.length]? = some (AObj.cells [.str a.name,.bool a.pub,.int .i64 a.many,a.cv] 38):=by rw[<- hM0];exact jaE (jad _ _) _
 have h7:M0[(M++[AObj.cells [.str a.name,.bool a.pub,.int .i64 a.many,a.cv] 38]).length]? = some (AObj.cells [.str c.name,.bool c.pub,.int .i64 c.many,c.cv] 38):=by rw[<- hM0];exact jad _ _
 rintro m T D U ⟨rfl,t0,t1,t6,t7,i,M1,Q,rfl,t8,hi,rfl,hH,hQ,hJ,hK⟩;refine jaC ?_;have g6:=(hK.2 _ (jao h6) aa aa).trans h6;by_cases hlt:i<a.cs.length
 ·have k1:(i:Int)<(a.cs.length:Int):=by omega
  simp only[simprocAttr,zK,K0,jaa,t0,t1,t6,t7,t8,al1,uq,jaJ,g6,lenA,k1]
  refine jau (λm2 T D U=>D=[]/\T 0=.ptr b 0/\T 1=.ptr P 0/\T 6=.ptr M.length 0/\T 7=.ptr (M++[AObj.cells [.str a.name,.bool a.pub,.int .i64 a.many,a.cv] 38]).length 0/\T 8=.int .i64 i/\∃(k:Nat) (M1:List AObj) (Q:Qy),U=⟨M1,ts⟩/\T 9=.int .i64 k/\k<=c.cs.length/\m2=c.cs.length-k/\Has M1 b xv xs/\M1[P]? = some (qm Q ev wv rv)/\JQ Q0 Q a c/\Kp2 M0 M1 b P) ?_ (c.cs.length-0) _ _ _
   ⟨rfl,t0,t1,t6,t7,t8,0,M1,Q,rfl,rfl,aa,rfl,hH,hQ,hJ,hK⟩
  clear hH hQ hJ hK g6 t0 t1 t6 t7 t8;rintro m2 T D U ⟨rfl,t0,t1,t6,t7,t8,k,M1,Q,rfl,t9,hk,rfl,hH,hQ,hJ,hK⟩;refine jaC ?_;have g6:=(hK.2 _ (jao h6) aa aa).trans h6;have g7:=(hK.2 _ (jao h7) (by simp;omega) (by simp;omega)).trans h7;by_cases hlk:k<c.cs.length
  ·have k2:(k:Int)<(c.cs.length:Int):=by omega
   have e2:IntKind.i64.wrap ((k:Int)+1)=((k+1:Nat):Int):=by rw[wrap_i64 aa aa];omega
   obtain⟨ra,hxa⟩:=jfx a.cs qa hlt;obtain⟨rc,hxc⟩:=jfx c.cs qc hlk;rw[<- ha]at hxa;rw[<- hc]at hxc
   have nxt:∀(M2:List AObj) (Q2:Qy),Has M2 b xv xs->M2[P]? = some (qm Q2 ev wv rv)->JQ Q0 Q2 a c->Kp2 M0 M2 b P->∃m',m'<c.cs.length-k/\∃(k':Nat) (M1:List AObj) (Q:Qy),(⟨M2,ts⟩:S)=⟨M1,ts⟩/\V.int .i64 ((k+1:Nat):Int)=.int .i64 k'/\k'<=c.cs.length/\m'=c.cs.length-k'/\Has M1 b xv xs/\M1[P]? = some (qm Q ev wv rv)/\JQ Q0 Q a c/\Kp2 M0 M1 b P :=
    λM2 Q2 h1 h2 h3 h4=>⟨c.cs.length-(k+1),aa,k+1,M2,Q2,rfl,rfl,aa,rfl,h1,h2,h3,h4⟩
   by_cases he:(a.cs.getD i Col.none).name=(c.cs.getD k Col.none).name
   ·have he1:=eq_true he;obtain⟨r,M2,hT,hH2,hK2,hl2,r0,r1,_⟩:=jaS K hH 3 (by simp[In64]);have hr1:=r1 af;have ew:IntKind.i64.wrap (1+r)=1+r:=wrap_i64 aa aa;simp only[simprocAttr,yK,K0,jaa,t0,t1,t6,t7,t8,t9,al1,uq,jaJ,g6,g7,lenC,k2,e2,hxa,hxc,jaq,jax,he1];refine⟨ac,?_⟩;refine jcI rfl (λs=>s.heap[M.length]? = some (AObj.cells [.str a.name,.bool a.pub,.int .i64 a.many,a.cv] 38)/\s.heap[(M++[AObj.cells [.str a.name,.bool a.pub,.int .i64 a.many,a.cv] 38]).length]? = some (AObj.cells [.str c.name,.bool c.pub,.int .i64 c.many,c.cv] 38)) ⟨g6,g7⟩ ac ?_;have f6:=(hK2.2 _ (jao g6) aa).trans g6;have f7:=(hK2.2 _ (jao g7) (by simp;omega)).trans g7;have fP:=(hK2.2 _ (jao hQ) hPb).trans hQ;have hT:=hT ts;have sP:∀o,(M2.set P o)[P]? = some o:=λo=>Km (jao fP)
    have s6:∀o,(M2.set P o)[M.length]? = some (AObj.cells [.str a.name,.bool a.pub,.int .i64 a.many,a.cv] 38):=λo=>by rw[Kh aa];exact f6
    have s7:∀o,(M2.set P o)[(M++[AObj.cells [.str a.name,.bool a.pub,.int .i64 a.many,a.cv] 38]).length]? = some (AObj.cells [.str c.name,.bool c.pub,.int .i64 c.many,c.cv] 38):=λo=>by rw[Kh (by simp;omega)];exact f7
    simp only[simprocAttr,yK,K0,jaa,Kf,K3,t0,t1,t6,t7,t8,t9,al1,uq,jaJ,fo30,g6,g7,hT,ew,hxa,hxc,jaq,f6,f7,fP,sP,s6,s7,Xo,jae,jac,show ∀s:List UInt8,(V.str s).cells=[V.str s]from λ_=>rfl]
    have hfin:=nxt (M2.set P (qm { Q with other:=c.name,left:=(a.cs.getD i Col.none).name,right:=(c.cs.getD k Col.none).name,limit:=1+r } ev wv rv)) { Q with other:=c.name,left:=(a.cs.getD i Col.none).name,right:=(c.cs.getD k Col.none).name,limit:=1+r }
     (by obtain⟨y,y1,y2⟩:=hH2;exact⟨y,y1,by rw[Kh hPb];exact y2⟩) (sP _)
     (.inr ⟨i,k,1+r,hlt,hlk,he,aa,aa,by rcases hJ with rfl|⟨_,_,_,_,_,_,_,_,rfl⟩<;>rfl⟩)
     ⟨by have:=hK.1;have:=hK2.1;simp;omega,λq hq h1 h2=>by
      have:=hK.1;rw[Kh (Ne.symm h2),hK2.2 q aa h1];exact hK.2 q hq h1 h2⟩
    refine⟨λs h=>by rw[h.2];rfl,λs h=>by rw[h.1];rfl,λs h=>trivial,λs h=>by rw[h.2];rfl,λs h=>trivial,λ_=>trivial,?_⟩;rw[e2];exact hfin
   ·have he1:=eq_false he;simp only[simprocAttr,yK,K0,jaa,t0,t1,t6,t7,t8,t9,al1,uq,jaJ,g6,g7,lenC,k2,e2,hxa,hxc,jaq,jax,he1];exact⟨ac,nxt M1 Q hH hQ hJ hK⟩
  ·have hk2:k=c.cs.length:=by omega
   have k2:¬(k:Int)<(c.cs.length:Int):=aa;have e1:IntKind.i64.wrap ((i:Int)+1)=((i+1:Nat):Int):=by rw[wrap_i64 aa aa];omega
   simp only[simprocAttr,zK,K0,jaa,t0,t1,t6,t7,t8,t9,al1,uq,jaJ,g6,g7,lenC,k2,e1];exact⟨a.cs.length-(i+1),aa,i+1,M1,Q,rfl,rfl,aa,rfl,hH,hQ,hJ,hK⟩
 ·have k1:¬(i:Int)<(a.cs.length:Int):=by omega
  simp only[simprocAttr,zK,K0,jaa,t0,t1,t6,t7,t8,al1,uq,jaJ,g6,lenA,k1]
  exact⟨M1,Q,rfl,hH,hQ,hJ,by
   have:M.length<=M0.length:=by rw[<- hM0];simp only[Kk];omega
   exact⟨Jp this hK.1,λq hq h1 h2=>by rw[hK.2 q aa h1 h2,<- hM0,Kj (by simp;omega),Kj hq]⟩⟩
end
theorem at80:env.P.funcs[80]? = some Tryz.f80:=ac
def jcb(ss:List Sch)(nm:List UInt8):List Col:=if nm=[]then []else(ss.filter λs=>decide (s.name=nm)).flatMap Sch.cs
theorem jfV {ss:List Sch}{nm:List UInt8}{i:Nat}(hi:i<ss.length)(hn:nm ≠ []):jcb (ss.take (i+1)) nm=jcb (ss.take i) nm++if(ss.getD i Sch.none).name=nm then(ss.getD i Sch.none).cs else []:=by
 unfold jcb;rw[Ke hn,Ke hn,Vw,V9,List.flatMap_append]
 congr 1
 rw[Kz hi];have e:ss.getD i Sch.none=ss[i]:=by simp[List.getD,hi]
 rw[e];by_cases h:ss[i].name=nm
 ·simp[h]
 ·simp[h]
structure KS (ss:List Sch):Prop where
 l:ss.length<=3
 at':∀i,i<ss.length->OkC (ss.getD i Sch.none).cs/\(ss.getD i Sch.none).cs.length<=5/\∃q,(ss.getD i Sch.none).cv=.row (jaO (ss.getD i Sch.none).cs) (ss.getD i Sch.none).cs.length q
theorem jeb {ss:List Sch}(h:KS ss)(nm:List UInt8):∀i,i<=ss.length->(jcb (ss.take i) nm).length<=5*i
 |0,_=>by unfold jcb;split<;>simp
 | i+1,hi=>by
  by_cases hn:nm=[]
  ·unfold jcb;rw[Kg hn];simp
  ·rw[jfV aa hn,Kk];have h1:=jeb h nm i aa;have h2:=(h.at' i aa).2.1;by_cases hh:(ss.getD i Sch.none).name=nm
   ·rw[Kg hh];omega
   ·rw[Ke hh,Qr];omega
theorem jiP(ss:List Sch)(q:RCap){i:Nat}(hi:i<ss.length):∃r,jaw 4 (.row (jaY ss) ss.length q) (.int .i64 (i:Int))=some (.rptr (.str (ss.getD i Sch.none).name::.bool (ss.getD i Sch.none).pub::.int .i64 (ss.getD i Sch.none).many::(ss.getD i Sch.none).cv::r)) :=
 ⟨_,by rw[Ys,Kg aa,Qj,jhe,joQ hi]⟩
theorem jzk {base:Nat}{hp:List AObj}{ts:List Nat}{v:V}{la bs:List Col}{q:RCap}(g:GC base ts v la)(hb:base<=ts.length)(ok:OkC bs)(ha:la.length<=1000)(hl:bs.length<=1000):∃v' ts',appO env false ⟨hp,ts⟩ 36 36 v (.row (jaO bs) bs.length q)=some (v',⟨hp,ts'⟩)/\GC base ts' v' (la++bs)/\Ext base ts ts':=by
 have hlim:lim=2^40:=rfl;have hc:jaV hp 4 bs.length (.row (jaO bs) bs.length q)=some (jaO bs):=by simp only[jaV];rw[Kg (by rw[jcA];omega),Qu (by rw[jcA];omega)]
 have hcell:(jaO bs).all V.isCell=true:=by
  rw[Qq];intro v hv;simp only[jaO,List.mem_flatten,Jd]at hv;obtain⟨_,⟨c,hc,rfl⟩,h⟩:=hv;have hw:=jbf (ok c hc);simp only[Col.cells,Jg,V4,or_false]at h
  rcases h with rfl|rfl|rfl|rfl
  ·rfl
  ·rfl
  ·rfl
  ·exact hw
 obtain⟨v',ts',h1,h2,h3⟩:=GrowV.append (E:=env) (hp:=hp) eC ⟨41,eC.slice⟩ g hb (rfl:vLen (.row (jaO bs) bs.length q)=some bs.length) hc (jcA bs) hcell ⟨by rw[hlim];omega,by rw[hlim];omega⟩;exact⟨v',ts',h1,by unfold GC;rw[jd6,Kk];exact h2,h3⟩
section
variable {ss:List Sch}(hS:KS ss){q:RCap}{L:List AObj}{ts:List Nat}{t o:List UInt8}
include hS
theorem jgO {P:Post}{ks:List Kt}{T:Tm}{nm:List UInt8}{pre:List Col}{v:V}{ts1:List Nat}(hpre:pre.length<=100)(t0:T 0=.row (jaY ss) ss.length q)(t9:T 9=.str nm)(t10:T 10=.int .i64 0)(t7:T 7=v)(hg:GC ts.length ts1 v pre)(hE:Ext ts.length ts ts1)
  (h:∀(T':Tm) (ts':List Nat) (v':V),T' 0=T 0->T' 1=T 1->T' 2=T 2->T' 8=T 8->T' 7=v'->GC ts.length ts' v' (pre++jcb ss nm)->Ext ts.length ts ts'->G env 80 none 44 P ks .skip T' [] ⟨L,ts'⟩) :
  jdx env 80 none 44 (jcK 2 (jaz Tryz.f80)) T [] ⟨L,ts1⟩ (Kt.post env 80 none 44 P (.blk 2::ks)):=by
 have hl:=hS.l;have lS:jbb (some (.slice 38)) (.row (jaY ss) ss.length q)=some (.int .i64 ss.length):=rfl;simp only[jaz,Tryz.f80,Kr,jcK,blkC,Option.or,Nat.reduceEqDiff,Kn,Kl,reduceIte];by_cases hn:nm=[]
 ·have hn1:=eq_true hn;refine jau (λm T2 D U=>D=[]/\U=⟨L,ts1⟩/\T2 0=T 0/\T2 1=T 1/\T2 2=T 2/\T2 8=T 8/\T2 7=T 7/\T2 9=T 9/\T2 10=.int .i64 0) ?_ 0 _ _ _ ⟨rfl,rfl,rfl,rfl,rfl,rfl,rfl,rfl,t10⟩;rintro m T2 D U ⟨rfl,rfl,u0,u1,u2,u8,u7,u9,u10⟩;refine jaC ?_;have v0:=u0.trans t0;have v9:=u9.trans t9;by_cases h0:(0:Int)<(ss.length:Int)
  ·simp only[simprocAttr,zK,K0,jaa,uq,lS,v0,v9,u10,h0,jaF,hn1];exact h _ ts1 v u0 u1 u2 u8 (u7.trans t7) (by unfold jcb;rw[Kg hn,Jb];exact hg) hE
  ·simp only[simprocAttr,zK,K0,jaa,uq,lS,v0,v9,u10,h0,jaF,hn1];exact h _ ts1 v u0 u1 u2 u8 (u7.trans t7) (by unfold jcb;rw[Kg hn,Jb];exact hg) hE
 have hn1:=eq_false hn
 refine jau (λm T2 D U=>D=[]/\T2 0=T 0/\T2 1=T 1/\T2 2=T 2/\T2 8=T 8/\T2 9=T 9/\∃(i:Nat) (ts':List Nat) (v:V),U=⟨L,ts'⟩/\T2 10=.int .i64 i/\T2 7=v/\i<=ss.length/\m=ss.length-i/\GC ts.length ts' v (pre++jcb (ss.take i) nm)/\Ext ts.length ts ts') ?_ (ss.length-0) _ _ _
  ⟨rfl,rfl,rfl,rfl,rfl,rfl,0,ts1,v,rfl,t10,t7,aa,rfl,by unfold jcb;rw[Ke hn,Jj];simpa using hg,hE⟩
 rintro m T2 D U ⟨rfl,u0,u1,u2,u8,u9,i,ts',v,rfl,u10,u7,hi,rfl,hg,hE⟩;refine jaC ?_;have v0:=u0.trans t0;have v9:=u9.trans t9;by_cases hlt:i<ss.length
 ·have k1:(i:Int)<(ss.length:Int):=by omega
  have e1:IntKind.i64.wrap ((i:Int)+1)=((i+1:Nat):Int):=by rw[wrap_i64 aa aa];omega
  obtain⟨r,hx⟩:=jiP ss q hlt;obtain⟨ok,hcl,qc,hcv⟩:=hS.at' i hlt;have hst:=jfV (nm:=nm) hlt hn;have hln:=jeb hS nm i aa;by_cases he:(ss.getD i Sch.none).name=nm
  ·have he1:=eq_true he;rw[Kg he,]at hst;obtain⟨v',ts2,a1,a2,a3⟩:=jzk (hp:=L) (q:=qc) hg hE.1 ok (by rw[Kk];omega) aa;rw[<- hcv]at a1;simp only[simprocAttr,yK,K0,jaa,uq,al1,jaJ,lS,v0,v9,u7,u10,k1,e1,hx,jaq,jaF,jax,hn1,he1,a1];exact⟨ss.length-(i+1),aa,t0.symm,u1,u2,u8,t9.symm,i+1,ts2,v',rfl,rfl,rfl,aa,rfl,by rw[hst,<- K7];exact a2,hE.trans a3⟩
  ·have he1:=eq_false he;rw[Ke he,Jb]at hst;simp only[simprocAttr,yK,K0,jaa,uq,al1,jaJ,lS,v0,v9,u7,u10,k1,e1,hx,jaq,jaF,jax,hn1,he1];exact⟨ss.length-(i+1),aa,t0.symm,u1,u2,u8,t9.symm,i+1,ts',v,rfl,rfl,rfl,aa,rfl,by rw[hst];exact hg,hE⟩
 ·have hi2:i=ss.length:=by omega
  subst hi2;have k1:¬(ss.length:Int)<(ss.length:Int):=aa;simp only[simprocAttr,zK,K0,jaa,uq,al1,jaJ,lS,v0,v9,u7,u10,k1];exact h _ ts' v u0 u1 u2 u8 u7 (by rw[Jh]at hg;exact hg) hE
theorem jju:∃v U',jah env (ev env) 80 [.row (jaY ss) ss.length q,.str t,.str o] ⟨L,ts⟩=some (v,U')/\∃ts',U'=⟨L,ts'⟩/\GC ts.length ts' v (jcb ss t++jcb ss o)/\Ext ts.length ts ts':=by
 refine jaD at80 rfl ?_;have hl:=hS.l;have lt:=jeb hS t ss.length (Kw _);rw[Jh]at lt;simp only[Tryz.f80,simprocAttr,zK,K0,jaa,uq]
 refine jau (λm T D U=>D=[]/\T 0=.row (jaY ss) ss.length q/\T 1=.str t/\T 2=.str o/\∃(k:Nat) (ts':List Nat) (v:V),U=⟨L,ts'⟩/\T 8=.int .i64 k/\T 7=v/\k<=2/\m=2-k/\GC ts.length ts' v ((if 0<k then jcb ss t else [])++(if 1<k then jcb ss o else []))/\Ext ts.length ts ts') ?_ (2-0) _ _ _
  ⟨rfl,rfl,rfl,rfl,0,ts,.nilsl,rfl,rfl,rfl,aa,rfl,.nil,.rfl' _ _⟩
 rintro m T D U ⟨rfl,t0,t1,t2,k,ts',v,rfl,t8,t7,hk,rfl,hg,hE⟩;refine jaC ?_;have:k=0\/k=1\/k=2:=aa
 rcases this with rfl|rfl|rfl
 ·have w1:IntKind.i64.wrap (0+1)=1:=by decide
  simp only[simprocAttr,zK,K0,jaa,uq,t0,t1,t2,t7,t8,Uk];have hg0:GC ts.length ts' v []:=hg;refine jgO hS (pre:=[]) (nm:=t) ae t0 rfl rfl t7 hg0 hE λT' ts2 v' u0 u1 u2 u8 u7 g E' => ?_
  have x8:T' 8=.int .i64 0:=u8.trans t8;have x0:T' 0=_:=u0.trans t0;have x1:T' 1=_:=u1.trans t1;have x2:T' 2=_:=u2.trans t2;simp only[simprocAttr,zK,K0,jaa,uq,x0,x1,x2,x8,u7,w1];exact⟨2-1,aa,1,ts2,v',rfl,rfl,rfl,aa,rfl,by simpa using g,E'⟩
 ·have w1:IntKind.i64.wrap (1+1)=2:=by decide
  simp only[simprocAttr,zK,K0,jaa,uq,t0,t1,t2,t7,t8,Xk];have hg0:GC ts.length ts' v (jcb ss t):=by simpa using hg
  refine jgO hS (pre:=jcb ss t) (nm:=o) aa t0 rfl rfl t7 hg0 hE λT' ts2 v' u0 u1 u2 u8 u7 g E' => ?_
  have x8:T' 8=.int .i64 1:=u8.trans t8;have x0:T' 0=_:=u0.trans t0;have x1:T' 1=_:=u1.trans t1;have x2:T' 2=_:=u2.trans t2;simp only[simprocAttr,zK,K0,jaa,uq,x0,x1,x2,x8,u7,w1];exact⟨2-2,aa,2,ts2,v',rfl,rfl,rfl,aa,rfl,by simpa using g,E'⟩
 ·simp only[simprocAttr,zK,K0,jaa,uq,t0,t1,t2,t7,t8,show ¬((2:Nat):Int)<2 by decide];exact⟨ts',rfl,hg,hE⟩
end
theorem at82:env.P.funcs[82]? = some Tryz.f82:=ac
def je2(cs:List Col)(Q0 Q:Qy):Prop:=∃i,i<cs.length/\jci cs i /\
  ((Q0.kind=1/\Q={ Q0 with column:=[] }) \/
   (valK Q0.kind/\∃(e:Ex) (lo w p q:Int),WF cs e/\e.kind=0/\e.post.length<=bnd 3 /\ -3<=lo/\lo<=3/\0<=w/\w<=7/\(if Q0.kind=5 then 1<=p/\p<=9/\p+1<=q/\q<=p+4 else p=Q0.p/\q=Q0.q) /\
     Q={ Q0 with ex:=e.post,lo:=lo,hi:=lo+w,column:=if Q0.kind=4 then(cs.getD i Col.none).name else [],p:=p,q:=q }) \/
   (Q0.kind=3/\∃c,Q={ Q0 with column:=(cs.getD i Col.none).name,cons:=c }) \/
   (Q0.kind=7/\∃bd,-3<=bd/\bd<=5/\Q={ Q0 with column:=(cs.getD i Col.none).name,bound:=bd }) \/
   (Q0.kind=10/\∃(rg:List (Int × Int)) (st:Int),1<=rg.length/\rg.length<=4/\(∀r∈rg,(cs.getD i Col.none).lo<=r.1/\r.1<=r.2/\r.2<=(cs.getD i Col.none).hi)/\0<=st/\st<=2/\Q={ Q0 with column:=(cs.getD i Col.none).name,rg:=rg,strat:=st }) \/
   ((Q0.kind=6\/Q0.kind=8\/Q0.kind=9)/\Q={ Q0 with column:=(cs.getD i Col.none).name }))
def KR(cs:List Col)(Q0:Qy)(wv:V)(ts:List Nat)(b P:Nat)(M:List AObj)(xv:V)(xs:List Int)(v:V)(U:S):Prop :=
 ∃(M':List AObj) (ts':List Nat) (Q:Qy) (ev rv:V),U=⟨M',ts'⟩/\Has M' b xv xs/\M'[P]? = some (qm Q ev wv rv)/\je2 cs Q0 Q/\GN ts.length ts' ev Q.ex/\GrowV ts.length ts' 2 rv Q.rg.length (jeC Q.rg)/\Ext ts.length ts ts'/\Kp2 M M' b P
abbrev PK(R:V->S->Prop):Post:=⟨wpR env [] R,λ_ _ _ _=>False,wpR env [] R⟩
section
variable {xv:V}{xs:List Int}(K:Tk xv xs){Q0:Qy}{wv:V}{cs:List Col}{q:RCap}{b P c7 i:Nat}{M0 M:List AObj}{ts:List Nat}{T:Tm}
structure Mid (xv:V) (xs:List Int) (Q0:Qy) (wv:V) (cs:List Col) (q:RCap) (b P c7 i:Nat) (M0 M:List AObj) (T:Tm):Prop where
 t0:T 0=.ptr b 0
 t1:T 1=.ptr P 0
 t2:T 2=.row (jaO cs) cs.length q
 t7:T 7=.ptr c7 0
 hH:Has M b xv xs
 hP:M[P]? = some (qm { Q0 with column:=(cs.getD i Col.none).name } .nilsl wv .nilsl)
 hc:M[c7]? = some (.cells [.str (cs.getD i Col.none).name,.int .i64 (cs.getD i Col.none).lo,.int .i64 (cs.getD i Col.none).hi,(cs.getD i Col.none).w] 41)
 h7:M0.length<=c7
 hPb:P ≠ b
 hbl:b<M0.length
 hPl:P<M0.length
 hK:Kp2 M0 M b P
 hi:i<cs.length
 hf:jci cs i
 hex:Q0.ex=[]
 hrg:Q0.rg=[]
 hwc:wv.isCell=true
theorem Has.setP {L:List AObj}{b c:Nat}{xv:V}{xs:List Int}(h:Has L b xv xs)(o:AObj)(hn:c ≠ b):Has (L.set c o) b xv xs:=by
 obtain⟨y,y1,y2⟩:=h;exact⟨y,y1,by rw[Kh hn];exact y2⟩
theorem Kp2.setP {L0 L:List AObj}{b P:Nat}(h:Kp2 L0 L b P)(o:AObj):Kp2 L0 (L.set P o) b P:=⟨by have:=h.1;simpa using this,λq hq h1 h2=>by rw[Kh (Ne.symm h2)];exact h.2 q hq h1 h2⟩
theorem Kp2.kp {L0 L L':List AObj}{b P:Nat}(h:Kp2 L0 L b P)(k:Kp L L' b):Kp2 L0 L' b P:=⟨Jp h.1 k.1,λq hq h1 h2=>by rw[k.2 q (by have:=h.1;omega) h1];exact h.2 q hq h1 h2⟩
theorem jdP(s:List UInt8):(V.str s).cells=[V.str s]:=rfl
theorem jzl(m:Mid xv xs Q0 wv cs q b P c7 i M0 M T)(hk:Q0.kind=1):G env 82 none 157 (PK (KR cs Q0 wv ts b P M0 xv xs)) [.code (jbQ 5 (jaz Tryz.f82))] (regZ 5 (jaz Tryz.f82)) T [] ⟨M,ts⟩:=by
 have hP:=m.hP;have hx:=m.hwc;have hPb:=m.hPb;have sP:∀o,(M.set P o)[P]? = some o:=λo=>Km (jao hP)
 have d1:(Q0.kind=1)=True:=eq_true hk;simp only[regZ,regA,jbQ,jaz,Tryz.f82,Kr,simprocAttr,Option.or,Ka,Ys,Y0,Kc,K0,jaa,Kf,K3,m.t0,m.t1,m.t2,m.t7,fo30,al1,uq,hP,Qf,jdP,jbq,sP,d1];exact⟨_,ts,{ Q0 with column:=[] },.nilsl,.nilsl,rfl,m.hH.setP _ hPb,sP _,⟨i,m.hi,m.hf,.inl ⟨hk,rfl⟩⟩,by rw[m.hex];exact .nil,by rw[m.hrg];exact .nil,.rfl' _ _,m.hK.setP _⟩
theorem jzm(m:Mid xv xs Q0 wv cs q b P c7 i M0 M T)(hk:Q0.kind=6\/Q0.kind=8\/Q0.kind=9):G env 82 none 157 (PK (KR cs Q0 wv ts b P M0 xv xs)) [.code (jbQ 5 (jaz Tryz.f82))] (regZ 5 (jaz Tryz.f82)) T [] ⟨M,ts⟩:=by
 have hP:=m.hP;have hx:=m.hwc;have hPb:=m.hPb;have sP:∀o,(M.set P o)[P]? = some o:=λo=>Km (jao hP)
 have d1:(Q0.kind=1)=False:=eq_false aa;have d2:(Q0.kind=2)=False:=eq_false aa;have d3:(Q0.kind=3)=False:=eq_false aa;have d4:(Q0.kind=4)=False:=eq_false aa;have d5:(Q0.kind=5)=False:=eq_false aa;have d7:(Q0.kind=7)=False:=eq_false aa;have d10:(Q0.kind=10)=False:=eq_false aa;simp only[regZ,regA,jbQ,jaz,Tryz.f82,Kr,simprocAttr,Option.or,Ka,Ys,Y0,Kc,K0,jaa,Kf,K3,m.t0,m.t1,m.t2,m.t7,fo30,al1,uq,hP,Qf,jdP,jbq,sP,d1,d2,d3,d4,d5,d7,d10];exact⟨_,ts,{ Q0 with column:=(cs.getD i Col.none).name },.nilsl,.nilsl,rfl,m.hH,hP,⟨i,m.hi,m.hf,.inr (.inr (.inr (.inr (.inr ⟨hk,rfl⟩))))⟩,by rw[m.hex];exact .nil,by rw[m.hrg];exact .nil,.rfl' _ _,m.hK⟩
include K
theorem jzn(m:Mid xv xs Q0 wv cs q b P c7 i M0 M T)(hk:Q0.kind=3):G env 82 none 157 (PK (KR cs Q0 wv ts b P M0 xv xs)) [.code (jbQ 5 (jaz Tryz.f82))] (regZ 5 (jaz Tryz.f82)) T [] ⟨M,ts⟩:=by
 have hP:=m.hP;have hx:=m.hwc;have hPb:=m.hPb;have sP:∀o,(M.set P o)[P]? = some o:=λo=>Km (jao hP)
 have d1:(Q0.kind=1)=False:=eq_false aa;have d2:(Q0.kind=2)=False:=eq_false aa;have d3:(Q0.kind=3)=True:=eq_true aa;have d4:(Q0.kind=4)=False:=eq_false aa;have d5:(Q0.kind=5)=False:=eq_false aa;have d7:(Q0.kind=7)=False:=eq_false aa;have d10:(Q0.kind=10)=False:=eq_false aa;obtain⟨r,M2,hT,hH2,hK2,hl2,r0,r1,_⟩:=jaS K m.hH 2 (by simp[In64]);have hr1:=r1 af;have hT:=hT ts;have fP:=(hK2.2 _ (jao hP) hPb).trans hP;have sP2:∀o,(M2.set P o)[P]? = some o:=λo=>Km (jao fP)
 by_cases hr:r=1
 ·have g:=eq_true hr;simp only[regZ,regA,jbQ,jaz,Tryz.f82,Kr,simprocAttr,Option.or,Ka,Ys,Y0,Kc,K0,jaa,Kf,K3,m.t0,m.t1,m.t2,m.t7,fo30,al1,uq,hP,Qf,jdP,jbq,sP,d1,d2,d3,d4,d5,d7,d10,hT,fP,sP2,g];exact⟨_,ts,{ Q0 with column:=(cs.getD i Col.none).name,cons:=true },.nilsl,.nilsl,rfl,hH2.setP _ hPb,sP2 _,⟨i,m.hi,m.hf,.inr (.inr (.inl ⟨hk,_,rfl⟩))⟩,by rw[m.hex];exact .nil,by rw[m.hrg];exact .nil,.rfl' _ _,(m.hK.kp hK2).setP _⟩
 ·have g:=eq_false hr;simp only[regZ,regA,jbQ,jaz,Tryz.f82,Kr,simprocAttr,Option.or,Ka,Ys,Y0,Kc,K0,jaa,Kf,K3,m.t0,m.t1,m.t2,m.t7,fo30,al1,uq,hP,Qf,jdP,jbq,sP,d1,d2,d3,d4,d5,d7,d10,hT,fP,sP2,g];exact⟨_,ts,{ Q0 with column:=(cs.getD i Col.none).name,cons:=false },.nilsl,.nilsl,rfl,hH2.setP _ hPb,sP2 _,⟨i,m.hi,m.hf,.inr (.inr (.inl ⟨hk,_,rfl⟩))⟩,by rw[m.hex];exact .nil,by rw[m.hrg];exact .nil,.rfl' _ _,(m.hK.kp hK2).setP _⟩
theorem jzo(m:Mid xv xs Q0 wv cs q b P c7 i M0 M T)(hk:Q0.kind=7):G env 82 none 157 (PK (KR cs Q0 wv ts b P M0 xv xs)) [.code (jbQ 5 (jaz Tryz.f82))] (regZ 5 (jaz Tryz.f82)) T [] ⟨M,ts⟩:=by
 have hP:=m.hP;have hx:=m.hwc;have hPb:=m.hPb;have sP:∀o,(M.set P o)[P]? = some o:=λo=>Km (jao hP)
 have d1:(Q0.kind=1)=False:=eq_false aa;have d2:(Q0.kind=2)=False:=eq_false aa;have d3:(Q0.kind=3)=False:=eq_false aa;have d4:(Q0.kind=4)=False:=eq_false aa;have d5:(Q0.kind=5)=False:=eq_false aa;have d7:(Q0.kind=7)=True:=eq_true aa;have d10:(Q0.kind=10)=False:=eq_false aa;obtain⟨r,M2,hT,hH2,hK2,hl2,r0,r1,_⟩:=jaS K m.hH 9 (by simp[In64]);have hr1:=r1 af;have hT:=hT ts;have fP:=(hK2.2 _ (jao hP) hPb).trans hP;have sP2:∀o,(M2.set P o)[P]? = some o:=λo=>Km (jao fP)
 have ew:IntKind.i64.wrap (r-3)=r-3:=wrap_i64 aa aa;simp only[regZ,regA,jbQ,jaz,Tryz.f82,Kr,simprocAttr,Option.or,Ka,Ys,Y0,Kc,K0,jaa,Kf,K3,m.t0,m.t1,m.t2,m.t7,fo30,al1,uq,hP,Qf,jdP,jbq,sP,d1,d2,d3,d4,d5,d7,d10,hT,fP,sP2,ew];exact⟨_,ts,{ Q0 with column:=(cs.getD i Col.none).name,bound:=r-3 },.nilsl,.nilsl,rfl,hH2.setP _ hPb,sP2 _,⟨i,m.hi,m.hf,.inr (.inr (.inr (.inl ⟨hk,_,aa,aa,rfl⟩)))⟩,by rw[m.hex];exact .nil,by rw[m.hrg];exact .nil,.rfl' _ _,(m.hK.kp hK2).setP _⟩
end
section
variable {xv:V}{xs:List Int}(K:Tk xv xs){Q0:Qy}{wv:V}{cs:List Col}{q:RCap}{b P c7 i:Nat}{M0 M:List AObj}{ts:List Nat}{T:Tm}
include K
theorem jxf(ok:OkC cs)(h1:1<=cs.length)(h2:cs.length<=1000)(hws:∀i,i<cs.length->(cs.getD i Col.none).ws.length<=1000)(m:Mid xv xs Q0 wv cs q b P c7 i M0 M T)(hk:Q0.kind=2):G env 82 none 157 (PK (KR cs Q0 wv ts b P M0 xv xs)) [.code (jbQ 5 (jaz Tryz.f82))] (regZ 5 (jaz Tryz.f82)) T [] ⟨M,ts⟩:=by
 have hP:=m.hP;have hx:=m.hwc;have hPb:=m.hPb;have d1:(Q0.kind=1)=False:=eq_false aa;have d2:(Q0.kind=2)=True:=eq_true aa;have d3:(Q0.kind=3)=False:=eq_false aa;have d4:(Q0.kind=4)=False:=eq_false aa;have d5:(Q0.kind=5)=False:=eq_false aa;have d7:(Q0.kind=7)=False:=eq_false aa;have d10:(Q0.kind=10)=False:=eq_false aa;obtain⟨v,_,hD,e,M1,ts1,rfl,hH1,hK1,gv,xE,wf,ek,el⟩:=(jtR K q ok h1 h2 hws 3 (Kw _)).1 M b ts m.hH;have hD:jah env (Go.Ab.ev env) 163 [.ptr b 0,.row (jaO cs) cs.length q,.int .i64 3] ⟨M,ts⟩=some (v,⟨M1,ts1⟩):=hD;obtain⟨gvc,gvc2⟩:=gv.cells;have f1:=(hK1.2 _ (jao hP) hPb).trans hP;have s1:∀o,(M1.set P o)[P]? = some o:=λo=>Km (jao f1)
 obtain⟨r2,M2,hT2,hH2,hK2,hl2,a0,a1,_⟩:=jaS K (hH1.setP (qm { Q0 with column:=(cs.getD i Col.none).name,ex:=e.post } v wv .nilsl) hPb) 7 (by simp[In64]);have a2:=a1 af;have hT2:=hT2 ts1;have f2:=(hK2.2 _ (jao (s1 (qm { Q0 with column:=(cs.getD i Col.none).name,ex:=e.post } v wv .nilsl))) hPb).trans (s1 _);have s2:∀o,(M2.set P o)[P]? = some o:=λo=>Km (jao f2)
 have e2:IntKind.i64.wrap (r2-3)=r2-3:=wrap_i64 aa aa;obtain⟨r3,M3,hT3,hH3,hK3,hl3,b0,b1,_⟩:=jaS K (hH2.setP (qm { Q0 with column:=(cs.getD i Col.none).name,ex:=e.post,lo:=r2-3 } v wv .nilsl) hPb) 8 (by simp[In64]);have b2:=b1 af;have hT3:=hT3 ts1;have f3:=(hK3.2 _ (jao (s2 (qm { Q0 with column:=(cs.getD i Col.none).name,ex:=e.post,lo:=r2-3 } v wv .nilsl))) hPb).trans (s2 _);have s3:∀o,(M3.set P o)[P]? = some o:=λo=>Km (jao f3)
 have e3:IntKind.i64.wrap (r2-3+r3)=r2-3+r3:=wrap_i64 aa aa;have k1:=(m.hK.kp hK1).setP (qm { Q0 with column:=(cs.getD i Col.none).name,ex:=e.post } v wv .nilsl);have k2:=(k1.kp hK2).setP (qm { Q0 with column:=(cs.getD i Col.none).name,ex:=e.post,lo:=r2-3 } v wv .nilsl);have k3:=(k2.kp hK3).setP (qm { Q0 with column:=(cs.getD i Col.none).name,ex:=e.post,lo:=r2-3,hi:=r2-3+r3 } v wv .nilsl);simp only[regZ,regA,jbQ,jaz,Tryz.f82,Kr,simprocAttr,Option.or,Ka,Ys,Y0,Kc,K0,jaa,Kf,K3,m.t0,m.t1,m.t2,m.t7,fo30,al1,uq,Qf,jdP,jbq,hx,gvc,gvc2,d1,d2,d3,d4,d5,d7,d10,hP,hD,f1,s1,hT2,e2,f2,s2,Xo];refine jcI rfl (λs=>jce s.heap[P]? 2=some (V.int .i64 (r2-3))) (by show jce (M2.set P _)[P]? 2=_;rw[s2];rfl) ac ?_;simp only[simprocAttr,zK,K0,jaa,Kf,K3,m.t0,m.t1,m.t2,m.t7,fo30,al1,uq,Qf,jdP,jbq,hx,gvc,gvc2,d1,d2,d3,d4,d5,d7,d10,s2,hT3,e3,f3,s3,Xo];refine⟨λs h=>h,λ_=>trivial,?_⟩;refine⟨_,ts1,{ Q0 with column:=[],ex:=e.post,lo:=r2-3,hi:=r2-3+r3 },v,.nilsl,rfl,hH3.setP _ hPb,s3 _,⟨i,m.hi,m.hf,.inr (.inl ⟨by unfold valK;omega,e,r2-3,r3,Q0.p,Q0.q,wf,ek,el,aa,aa,aa,aa,by rw[Ke aa];exact⟨rfl,rfl⟩,by rw[Ke aa]⟩)⟩,gv,by rw[m.hrg];exact .nil,xE,(k2.kp hK3).setP _⟩
theorem jxg(ok:OkC cs)(h1:1<=cs.length)(h2:cs.length<=1000)(hws:∀i,i<cs.length->(cs.getD i Col.none).ws.length<=1000)(m:Mid xv xs Q0 wv cs q b P c7 i M0 M T)(hk:Q0.kind=4):G env 82 none 157 (PK (KR cs Q0 wv ts b P M0 xv xs)) [.code (jbQ 5 (jaz Tryz.f82))] (regZ 5 (jaz Tryz.f82)) T [] ⟨M,ts⟩:=by
 have hP:=m.hP;have hx:=m.hwc;have hPb:=m.hPb;have d1:(Q0.kind=1)=False:=eq_false aa;have d2:(Q0.kind=2)=False:=eq_false aa;have d3:(Q0.kind=3)=False:=eq_false aa;have d4:(Q0.kind=4)=True:=eq_true aa;have d5:(Q0.kind=5)=False:=eq_false aa;have d7:(Q0.kind=7)=False:=eq_false aa;have d10:(Q0.kind=10)=False:=eq_false aa;obtain⟨v,_,hD,e,M1,ts1,rfl,hH1,hK1,gv,xE,wf,ek,el⟩:=(jtR K q ok h1 h2 hws 3 (Kw _)).1 M b ts m.hH;have hD:jah env (Go.Ab.ev env) 163 [.ptr b 0,.row (jaO cs) cs.length q,.int .i64 3] ⟨M,ts⟩=some (v,⟨M1,ts1⟩):=hD;obtain⟨gvc,gvc2⟩:=gv.cells;have f1:=(hK1.2 _ (jao hP) hPb).trans hP;have s1:∀o,(M1.set P o)[P]? = some o:=λo=>Km (jao f1)
 obtain⟨r2,M2,hT2,hH2,hK2,hl2,a0,a1,_⟩:=jaS K (hH1.setP (qm { Q0 with column:=(cs.getD i Col.none).name,ex:=e.post } v wv .nilsl) hPb) 7 (by simp[In64]);have a2:=a1 af;have hT2:=hT2 ts1;have f2:=(hK2.2 _ (jao (s1 (qm { Q0 with column:=(cs.getD i Col.none).name,ex:=e.post } v wv .nilsl))) hPb).trans (s1 _);have s2:∀o,(M2.set P o)[P]? = some o:=λo=>Km (jao f2)
 have e2:IntKind.i64.wrap (r2-3)=r2-3:=wrap_i64 aa aa;obtain⟨r3,M3,hT3,hH3,hK3,hl3,b0,b1,_⟩:=jaS K (hH2.setP (qm { Q0 with column:=(cs.getD i Col.none).name,ex:=e.post,lo:=r2-3 } v wv .nilsl) hPb) 8 (by simp[In64]);have b2:=b1 af;have hT3:=hT3 ts1;have f3:=(hK3.2 _ (jao (s2 (qm { Q0 with column:=(cs.getD i Col.none).name,ex:=e.post,lo:=r2-3 } v wv .nilsl))) hPb).trans (s2 _);have s3:∀o,(M3.set P o)[P]? = some o:=λo=>Km (jao f3)
 have e3:IntKind.i64.wrap (r2-3+r3)=r2-3+r3:=wrap_i64 aa aa;have k1:=(m.hK.kp hK1).setP (qm { Q0 with column:=(cs.getD i Col.none).name,ex:=e.post } v wv .nilsl);have k2:=(k1.kp hK2).setP (qm { Q0 with column:=(cs.getD i Col.none).name,ex:=e.post,lo:=r2-3 } v wv .nilsl);have k3:=(k2.kp hK3).setP (qm { Q0 with column:=(cs.getD i Col.none).name,ex:=e.post,lo:=r2-3,hi:=r2-3+r3 } v wv .nilsl);simp only[regZ,regA,jbQ,jaz,Tryz.f82,Kr,simprocAttr,Option.or,Ka,Ys,Y0,Kc,K0,jaa,Kf,K3,m.t0,m.t1,m.t2,m.t7,fo30,al1,uq,Qf,jdP,jbq,hx,gvc,gvc2,d1,d2,d3,d4,d5,d7,d10,hP,hD,f1,s1,hT2,e2,f2,s2,Xo];refine jcI rfl (λs=>jce s.heap[P]? 2=some (V.int .i64 (r2-3))) (by show jce (M2.set P _)[P]? 2=_;rw[s2];rfl) ac ?_;simp only[simprocAttr,zK,K0,jaa,Kf,K3,m.t0,m.t1,m.t2,m.t7,fo30,al1,uq,Qf,jdP,jbq,hx,gvc,gvc2,d1,d2,d3,d4,d5,d7,d10,s2,hT3,e3,f3,s3,Xo];refine⟨λs h=>h,λ_=>trivial,?_⟩;refine⟨_,ts1,{ Q0 with column:=(cs.getD i Col.none).name,ex:=e.post,lo:=r2-3,hi:=r2-3+r3 },v,.nilsl,rfl,hH3.setP _ hPb,s3 _,⟨i,m.hi,m.hf,.inr (.inl ⟨by unfold valK;omega,e,r2-3,r3,Q0.p,Q0.q,wf,ek,el,aa,aa,aa,aa,by rw[Ke aa];exact⟨rfl,rfl⟩,by rw[Kg hk]⟩)⟩,gv,by rw[m.hrg];exact .nil,xE,k3⟩
theorem jxh(ok:OkC cs)(h1:1<=cs.length)(h2:cs.length<=1000)(hws:∀i,i<cs.length->(cs.getD i Col.none).ws.length<=1000)(m:Mid xv xs Q0 wv cs q b P c7 i M0 M T)(hk:Q0.kind=5):G env 82 none 157 (PK (KR cs Q0 wv ts b P M0 xv xs)) [.code (jbQ 5 (jaz Tryz.f82))] (regZ 5 (jaz Tryz.f82)) T [] ⟨M,ts⟩:=by
 have hP:=m.hP;have hx:=m.hwc;have hPb:=m.hPb;have d1:(Q0.kind=1)=False:=eq_false aa;have d2:(Q0.kind=2)=False:=eq_false aa;have d3:(Q0.kind=3)=False:=eq_false aa;have d4:(Q0.kind=4)=False:=eq_false aa;have d5:(Q0.kind=5)=True:=eq_true aa;have d7:(Q0.kind=7)=False:=eq_false aa;have d10:(Q0.kind=10)=False:=eq_false aa;obtain⟨v,_,hD,e,M1,ts1,rfl,hH1,hK1,gv,xE,wf,ek,el⟩:=(jtR K q ok h1 h2 hws 3 (Kw _)).1 M b ts m.hH;have hD:jah env (Go.Ab.ev env) 163 [.ptr b 0,.row (jaO cs) cs.length q,.int .i64 3] ⟨M,ts⟩=some (v,⟨M1,ts1⟩):=hD;obtain⟨gvc,gvc2⟩:=gv.cells;have f1:=(hK1.2 _ (jao hP) hPb).trans hP;have s1:∀o,(M1.set P o)[P]? = some o:=λo=>Km (jao f1)
 obtain⟨r2,M2,hT2,hH2,hK2,hl2,a0,a1,_⟩:=jaS K (hH1.setP (qm { Q0 with column:=(cs.getD i Col.none).name,ex:=e.post } v wv .nilsl) hPb) 7 (by simp[In64]);have a2:=a1 af;have hT2:=hT2 ts1;have f2:=(hK2.2 _ (jao (s1 (qm { Q0 with column:=(cs.getD i Col.none).name,ex:=e.post } v wv .nilsl))) hPb).trans (s1 _);have s2:∀o,(M2.set P o)[P]? = some o:=λo=>Km (jao f2)
 have e2:IntKind.i64.wrap (r2-3)=r2-3:=wrap_i64 aa aa;obtain⟨r3,M3,hT3,hH3,hK3,hl3,b0,b1,_⟩:=jaS K (hH2.setP (qm { Q0 with column:=(cs.getD i Col.none).name,ex:=e.post,lo:=r2-3 } v wv .nilsl) hPb) 8 (by simp[In64]);have b2:=b1 af;have hT3:=hT3 ts1;have f3:=(hK3.2 _ (jao (s2 (qm { Q0 with column:=(cs.getD i Col.none).name,ex:=e.post,lo:=r2-3 } v wv .nilsl))) hPb).trans (s2 _);have s3:∀o,(M3.set P o)[P]? = some o:=λo=>Km (jao f3)
 have e3:IntKind.i64.wrap (r2-3+r3)=r2-3+r3:=wrap_i64 aa aa;have k1:=(m.hK.kp hK1).setP (qm { Q0 with column:=(cs.getD i Col.none).name,ex:=e.post } v wv .nilsl);have k2:=(k1.kp hK2).setP (qm { Q0 with column:=(cs.getD i Col.none).name,ex:=e.post,lo:=r2-3 } v wv .nilsl);have k3:=(k2.kp hK3).setP (qm { Q0 with column:=(cs.getD i Col.none).name,ex:=e.post,lo:=r2-3,hi:=r2-3+r3 } v wv .nilsl);have k3':=k3.setP (qm { Q0 with column:=[],ex:=e.post,lo:=r2-3,hi:=r2-3+r3 } v wv .nilsl);obtain⟨r4,M4,hT4,hH4,hK4,hl4,c0,c1,_⟩:=jaS K (hH3.setP (qm { Q0 with column:=[],ex:=e.post,lo:=r2-3,hi:=r2-3+r3 } v wv .nilsl) hPb) 9 (by simp[In64]);have c2:=c1 af;have hT4:=hT4 ts1;have f4:=(hK4.2 _ (jao (s3 (qm { Q0 with column:=[],ex:=e.post,lo:=r2-3,hi:=r2-3+r3 } v wv .nilsl))) hPb).trans (s3 _);have s4:∀o,(M4.set P o)[P]? = some o:=λo=>Km (jao f4)
 have e4:IntKind.i64.wrap (1+r4)=1+r4:=wrap_i64 aa aa;obtain⟨r5,M5,hT5,hH5,hK5,hl5,g0,g1,_⟩:=jaS K (hH4.setP (qm { Q0 with column:=[],ex:=e.post,lo:=r2-3,hi:=r2-3+r3,p:=1+r4 } v wv .nilsl) hPb) 4 (by simp[In64]);have g2:=g1 af;have hT5:=hT5 ts1;have f5:=(hK5.2 _ (jao (s4 (qm { Q0 with column:=[],ex:=e.post,lo:=r2-3,hi:=r2-3+r3,p:=1+r4 } v wv .nilsl))) hPb).trans (s4 _);have s5:∀o,(M5.set P o)[P]? = some o:=λo=>Km (jao f5)
 have e5:IntKind.i64.wrap (1+r4+1)=1+r4+1:=wrap_i64 aa aa;have e6:IntKind.i64.wrap (1+r4+1+r5)=1+r4+1+r5:=wrap_i64 aa aa;have hK3s:Kp2 M0 (M3.set P (qm { Q0 with column:=[],ex:=e.post,lo:=r2-3,hi:=r2-3+r3 } v wv .nilsl)) b P:=(k2.kp hK3).setP _;have k4:=(hK3s.kp hK4).setP (qm { Q0 with column:=[],ex:=e.post,lo:=r2-3,hi:=r2-3+r3,p:=1+r4 } v wv .nilsl);simp only[regZ,regA,jbQ,jaz,Tryz.f82,Kr,simprocAttr,Option.or,Ka,Ys,Y0,Kc,K0,jaa,Kf,K3,m.t0,m.t1,m.t2,m.t7,fo30,al1,uq,Qf,jdP,jbq,hx,gvc,gvc2,d1,d2,d3,d4,d5,d7,d10,hP,hD,f1,s1,hT2,e2,f2,s2,Xo];refine jcI rfl (λs=>jce s.heap[P]? 2=some (V.int .i64 (r2-3))) (by show jce (M2.set P _)[P]? 2=_;rw[s2];rfl) ac ?_;simp only[simprocAttr,zK,K0,jaa,Kf,K3,m.t0,m.t1,m.t2,m.t7,fo30,al1,uq,Qf,jdP,jbq,hx,gvc,gvc2,d1,d2,d3,d4,d5,d7,d10,s2,hT3,e3,f3,s3,Xo,hT4,e4,f4,s4];refine⟨λs h=>h,λ_=>trivial,?_⟩;refine jcI rfl (λs=>jce s.heap[P]? 4=some (V.int .i64 (1+r4))) (by show jce (M4.set P _)[P]? 4=_;rw[s4];rfl) ac ?_;simp only[simprocAttr,zK,K0,jaa,Kf,K3,m.t0,m.t1,m.t2,m.t7,fo30,al1,uq,Qf,jdP,jbq,hx,gvc,gvc2,d1,d2,d3,d4,d5,d7,d10,s4,hT5,e5,e6,f5,s5,Xo];refine⟨λs h=>h,λ_=>trivial,?_⟩;refine⟨_,ts1,{ Q0 with column:=[],ex:=e.post,lo:=r2-3,hi:=r2-3+r3,p:=1+r4,q:=1+r4+1+r5 },v,.nilsl,rfl,hH5.setP _ hPb,s5 _,⟨i,m.hi,m.hf,.inr (.inl ⟨by unfold valK;omega,e,r2-3,r3,1+r4,1+r4+1+r5,wf,ek,el,aa,aa,aa,aa,by rw[Kg hk];omega,by rw[Ke aa]⟩)⟩,gv,by rw[m.hrg];exact .nil,xE,(k4.kp hK5).setP _⟩
end
theorem juX(t:TypeId)(n:Nat)(ps:Array (Nat × Operand)):scOp env (.buildSlice t n ps)=false:=rfl
theorem p78:(!(env.pure 78 ||(env.hook 78).isSome))=true:=rfl
theorem eR:Elt env 27 86 2 16:=⟨ac,ac,ac,ac,ac⟩
theorem bd86(a b:Int):jbD env 86 [(0,.int .i64 a),(1,.int .i64 b)]=some (.agg [.int .i64 a,.int .i64 b]):=ac
theorem jzp(a b:Int):rowO env 27 1 [(0,.agg [.int .i64 a,.int .i64 b])]=some (.row [.int .i64 a,.int .i64 b] 1 .full):=ac
theorem jsc(a b:List (Int × Int)):jeC (a++b)=jeC a++jeC b:=by simp[jeC]
theorem GR.push {base:Nat}{hp:List AObj}{ts:List Nat}{v:V}{l:List (Int × Int)}(g:GrowV base ts 2 v l.length (jeC l))(hb:base<=ts.length)(a b:Int)(hl:l.length<=4000):∃v' ts',appO env false ⟨hp,ts⟩ 27 27 v (.row [.int .i64 a,.int .i64 b] 1 .full)=some (v',⟨hp,ts'⟩)/\GrowV base ts' 2 v' (l++[(a,b)]).length (jeC (l++[(a,b)]))/\Ext base ts ts':=by
 have hlim:lim=2^40:=rfl;obtain⟨v',ts',h1,h2,h3⟩:=GrowV.push (E:=env) (hp:=hp) (q:=.full) (new:=[.int .i64 a,.int .i64 b]) eR ⟨86,eR.slice⟩ g hb rfl rfl ⟨by rw[hlim];omega,by rw[hlim];omega⟩;exact⟨v',ts',h1,by rw[Kk,jsc];exact h2,h3⟩
section
variable {xv:V}{xs:List Int}(K:Tk xv xs){Q0:Qy}{wv:V}{cs:List Col}{q:RCap}{b P c7 i:Nat}{M0 M:List AObj}{ts:List Nat}{T:Tm}
include K
theorem jxi(hb1 : -1000<=(cs.getD i Col.none).lo)(hb2:(cs.getD i Col.none).lo<=(cs.getD i Col.none).hi)(hb3:(cs.getD i Col.none).hi<=1000)(m:Mid xv xs Q0 wv cs q b P c7 i M0 M T)(hk:Q0.kind=10):G env 82 none 157 (PK (KR cs Q0 wv ts b P M0 xv xs)) [.code (jbQ 5 (jaz Tryz.f82))] (regZ 5 (jaz Tryz.f82)) T [] ⟨M,ts⟩:=by
 have hP:=m.hP;have hx:=m.hwc;have hPb:=m.hPb;have hPl:=m.hPl;have hbl:=m.hbl;have h7:=m.h7;have d1:(Q0.kind=1)=False:=eq_false aa;have d2:(Q0.kind=2)=False:=eq_false aa;have d3:(Q0.kind=3)=False:=eq_false aa;have d4:(Q0.kind=4)=False:=eq_false aa;have d5:(Q0.kind=5)=False:=eq_false aa;have d7:(Q0.kind=7)=False:=eq_false aa;have d10:(Q0.kind=10)=True:=eq_true aa;obtain⟨r,M1,hT1,hH1,hK1,hl1,a0,a1,_⟩:=jaS K m.hH 4 (by simp[In64]);have a2:=a1 af;have hT1:=hT1 ts;have f1:=(hK1.2 _ (jao hP) hPb).trans hP;have fc:=(hK1.2 _ (jao m.hc) aa).trans m.hc;have e1:IntKind.i64.wrap (1+r)=1+r:=wrap_i64 aa aa;have k1:=m.hK.kp hK1;simp only[regZ,regA,jbQ,jaz,Tryz.f82,Kr,simprocAttr,Option.or,Ka,Ys,Y0,Kc,K0,jaa,Kf,K3,m.t0,m.t1,m.t2,m.t7,fo30,al1,uq,Qf,jdP,jbq,hx,hP,d1,d2,d3,d4,d5,d7,d10,hT1,e1]
 refine jau (λm2 T2 D U=>D=[]/\T2 0=.ptr b 0/\T2 1=.ptr P 0/\T2 7=.ptr c7 0/\T2 8=.int .i64 (1+r)/\∃(k:Nat) (M2:List AObj) (ts2:List Nat) (rv:V) (rg:List (Int × Int)),U=⟨M2,ts2⟩/\T2 9=.int .i64 k/\(k:Int)<=1+r/\m2=(1+r).toNat-k/\rg.length=k/\(∀x∈rg,(cs.getD i Col.none).lo<=x.1/\x.1<=x.2/\x.2<=(cs.getD i Col.none).hi) /\
   Has M2 b xv xs/\M2[P]? = some (qm { Q0 with column:=(cs.getD i Col.none).name,rg:=rg } .nilsl wv rv)/\M2[c7]? = some (.cells [.str (cs.getD i Col.none).name,.int .i64 (cs.getD i Col.none).lo,.int .i64 (cs.getD i Col.none).hi,(cs.getD i Col.none).w] 41)/\GrowV ts.length ts2 2 rv rg.length (jeC rg)/\Ext ts.length ts ts2/\Kp2 M0 M2 b P) ?_ ((1+r).toNat-0) _ _ _
  ⟨rfl,m.t0,m.t1,m.t7,rfl,0,M1,ts,.nilsl,[],rfl,rfl,aa,rfl,rfl,λx hx=>by simp at hx,hH1,f1,fc,.nil,.rfl' _ _,k1⟩
 have h7b:c7 ≠ b:=aa;have h7P:c7 ≠ P:=aa;have hKm:=m.hi;have hfm:=m.hf;have hexm:=m.hex;clear k1 fc f1 hK1 hl1 hT1 hH1 m hP;rintro m2 T2 D U ⟨rfl,t0,t1,t7,t8,k,M2,ts2,rv,rg,rfl,t9,hkr,rfl,hlen,hin,hH,hQ,hC,gR,xE,hK⟩;refine jaC ?_;obtain⟨gvc,gvc2⟩:=gR.cells;by_cases hlt:(k:Int)<1+r
 ·have ek:IntKind.i64.wrap ((k:Int)+1)=((k+1:Nat):Int):=by rw[wrap_i64 aa aa];omega
  generalize cs.getD i Col.none=c at *;obtain⟨r2,M3,hT2,hH2,hK2,hl2,b0,b1,_⟩:=jaS K hH (c.hi-c.lo+1) (by simp[In64];omega);have b2:=b1 aa;have hT2:=hT2 ts2;have fP:=(hK2.2 _ (jao hQ) hPb).trans hQ;have fC:=(hK2.2 _ (jao hC) h7b).trans hC;have w1:IntKind.i64.wrap (c.hi-c.lo)=c.hi-c.lo:=wrap_i64 aa aa;have w2:IntKind.i64.wrap (c.hi-c.lo+1)=c.hi-c.lo+1:=wrap_i64 aa aa;have w3:IntKind.i64.wrap (c.lo+r2)=c.lo+r2:=wrap_i64 aa aa;obtain⟨r3,M4,hT3,hH3,hK3,hl3,g0,g1,_⟩:=jaS K hH2 (c.hi-(c.lo+r2)+1) (by simp[In64];omega);have g2:=g1 aa;have hT3:=hT3 ts2;have fP2:=(hK3.2 _ (jao fP) hPb).trans fP;have fC2:=(hK3.2 _ (jao fC) h7b).trans fC;have w4:IntKind.i64.wrap (c.hi-(c.lo+r2))=c.hi-(c.lo+r2):=wrap_i64 aa aa;have w5:IntKind.i64.wrap (c.hi-(c.lo+r2)+1)=c.hi-(c.lo+r2)+1:=wrap_i64 aa aa;have w6:IntKind.i64.wrap (c.lo+r2+r3)=c.lo+r2+r3:=wrap_i64 aa aa;obtain⟨rv',ts3,hA,gA,xA⟩:=GR.push (hp:=M4) gR xE.1 (c.lo+r2) (c.lo+r2+r3) aa;obtain⟨gvc',gvc2'⟩:=gA.cells;have s4:∀o,(M4.set P o)[P]? = some o:=λo=>Km (jao fP2)
  simp only[simprocAttr,zK,K0,jaa,Kf,K3,t0,t1,t7,t8,t9,fo30,al1,uq,Qf,jdP,jbq,hx,hQ,hC,hlt];refine jcI rfl (λs=>s.heap[c7]? = some (.cells [.str c.name,.int .i64 c.lo,.int .i64 c.hi,c.w] 41)) hC ac ?_;simp only[simprocAttr,zK,K0,jaa,Kf,K3,t0,t1,t7,t8,t9,fo30,al1,uq,hC,w1,w2,w3,hT2,fC];refine⟨λs h=>by rw[h];rfl,λs h=>by rw[h];rfl,λs h=>by rw[h];rfl,λ_=>trivial,?_⟩;refine jrr rfl (λs=>jce s.heap[P]? 8=some rv/\s.heap[c7]? = some (.cells [.str c.name,.int .i64 c.lo,.int .i64 c.hi,c.w] 41)) 3 (λ_=>⟨by show jce M3[P]? 8=_;rw[fP];rfl,fC⟩) ac ac ?_;simp only[simprocAttr,zK,K0,jaa,Kf,juX,p78,jrs,jvk,jkG,jkH,jnj,jkI,K3,t0,t1,t7,t8,t9,fo30,al1,uq,Qf,hx,fP,fC,w4,w5,w6,hT3,bd86,jar,jzp,hA,fP2,fC2,gvc',gvc2',s4];rw[ek];have hfin:∃m',m'<(1+r).toNat-k/\True:=⟨(1+r).toNat-(k+1),aa,trivial⟩;refine⟨λs h=>h.1,λs h=>by rw[h.2];rfl,(1+r).toNat-(k+1),aa,k+1,_,ts3,rv',rg++[(c.lo+r2,c.lo+r2+r3)],rfl,rfl,aa,rfl,by simp[hlen],λx hx => ?_,hH3.setP _ hPb,s4 _,by rw[Kh (Ne.symm h7P)];exact fC2,gA,xE.trans xA,((hK.kp hK2).kp hK3).setP _⟩
  rcases Jl.1 hx with h|h
  ·exact hin x h
  ·rw[J4.1 h];exact⟨by show c.lo<=c.lo+r2;omega,by show c.lo+r2<=c.lo+r2+r3;omega,by show c.lo+r2+r3<=c.hi;omega⟩
 ·have hke:(k:Int)=1+r:=by omega
  obtain⟨r2,M3,hT2,hH2,hK2,hl2,b0,b1,_⟩:=jaS K hH 3 (by simp[In64]);have b2:=b1 af;have hT2:=hT2 ts2;have fP:=(hK2.2 _ (jao hQ) hPb).trans hQ;have s3:∀o,(M3.set P o)[P]? = some o:=λo=>Km (jao fP)
  simp only[simprocAttr,zK,K0,jaa,Kf,K3,t0,t1,t7,t8,t9,fo30,al1,uq,Qf,jdP,jbq,hx,gvc,gvc2,hlt,hT2,fP];exact⟨_,ts2,{ Q0 with column:=(cs.getD i Col.none).name,rg:=rg,strat:=r2 },.nilsl,rv,rfl,hH2.setP _ hPb,s3 _,⟨i,hKm,hfm,.inr (.inr (.inr (.inr (.inl ⟨hk,rg,r2,aa,aa,hin,aa,aa,rfl⟩))))⟩,by rw[hexm];exact .nil,gR,xE,(hK.kp hK2).setP _⟩
end
section
variable {xv:V}{xs:List Int}(K:Tk xv xs){Q0:Qy}{wv:V}{cs:List Col}{q:RCap}{b P:Nat}{M:List AObj}{ts:List Nat}
include K
open Classical in
theorem jp3(ok:OkC cs)(h1:1<=cs.length)(h2:cs.length<=1000)(hws:∀i,i<cs.length->(cs.getD i Col.none).ws.length<=1000)(hbd:∀i,i<cs.length -> -1000<=(cs.getD i Col.none).lo/\(cs.getD i Col.none).lo<=(cs.getD i Col.none).hi/\(cs.getD i Col.none).hi<=1000)
  (hk:1<=Q0.kind/\Q0.kind<=10) (hex:Q0.ex=[]) (hrg:Q0.rg=[]) (hwc:wv.isCell=true) (hPb:P ≠ b) (hH:Has M b xv xs) (hP:M[P]? = some (qm Q0 .nilsl wv .nilsl)) :
  ∃v U',jah env (Go.Ab.ev env) 82 [.ptr b 0,.ptr P 0,.row (jaO cs) cs.length q] ⟨M,ts⟩=some (v,U')/\KR cs Q0 wv ts b P M xv xs v U':=by
 refine jaD at82 rfl ?_;obtain⟨r,M1,hT,hH1,hK1,hl1,r0,r1,_⟩:=jaS K hH cs.length (by simp[In64];omega);have r2:=r1 aa;have hT:=hT ts;obtain⟨n,rfl⟩:∃n:Nat,r=n:=⟨r.toNat,aa⟩;have hF:=λi hi=>jj8 cs ok q i hi h2
 have fP:=(hK1.2 _ (jao hP) hPb).trans hP;simp only[Tryz.f82,simprocAttr,zK,K0,jaa,Yt,hT];refine jau (λm T D U=>D=[]/\U=⟨M1,ts⟩/\T 0=.ptr b 0/\T 1=.ptr P 0/\T 2=.row (jaO cs) cs.length q/\∃i:Nat,T 6=.int .i64 i/\i<cs.length/\m=i) ?_ n _ _ _ ⟨rfl,rfl,rfl,rfl,rfl,n,rfl,aa,rfl⟩;rintro m T D U ⟨rfl,rfl,t0,t1,t2,i,t6,hi,rfl⟩;refine jaC ?_;have hFi:=hF m hi;by_cases hf:jci cs m
 ·rw[decide_eq_true hf]at hFi;obtain⟨rr,hx⟩:=jfx cs q hi;have hw:=jbf (ok.at hi);have zc:jba env 41=some (.agg [.str [],.int .i64 0,.int .i64 0,.nilsl]):=ac;have hlt:=jao fP;have fP2:∀o,(M1++[o])[P]? = some (qm Q0 .nilsl wv .nilsl):=λo=>jaE fP _
  have ld4:=jaM;simp only[Kb,jd5 5,Zp,simprocAttr,Ys,Y0,Kc,K0,jaa,K3,fo30,al1,uq,t0,t1,t2,t6,hFi,hx,-Ys,ld4,zc,K2,jac,jae,hw,fP2,jdP,jaq];have hbl:=hH.lt;have hPl:=jao hP;have hc0:(M1++[AObj.cells [.str (cs.getD m Col.none).name,.int .i64 (cs.getD m Col.none).lo,.int .i64 (cs.getD m Col.none).hi,(cs.getD m Col.none).w] 41])[M1.length]? = some (AObj.cells [.str (cs.getD m Col.none).name,.int .i64 (cs.getD m Col.none).lo,.int .i64 (cs.getD m Col.none).hi,(cs.getD m Col.none).w] 41):=jad _ _
  have hm:∀T',T' 0=.ptr b 0->T' 1=.ptr P 0->T' 2=.row (jaO cs) cs.length q->T' 7=.ptr M1.length 0->Mid xv xs Q0 wv cs q b P M1.length m M ((M1++[AObj.cells [.str (cs.getD m Col.none).name,.int .i64 (cs.getD m Col.none).lo,.int .i64 (cs.getD m Col.none).hi,(cs.getD m Col.none).w] 41]).set P (qm { Q0 with column:=(cs.getD m Col.none).name } .nilsl wv .nilsl)) T' :=
   fun T' u0 u1 u2 u7=>⟨u0,u1,u2,u7,(hH1.app _).setP _ hPb,Km (by simp;omega),by rw[Kh aa];exact hc0,aa,hPb,hbl,hPl,
    Kp2.setP ⟨by simp;omega,λy hy g1 g2=>by rw[Kj aa];exact hK1.2 y hy g1⟩ _,hi,hf,hex,hrg,hwc⟩
  have hb:=hbd m hi;have:Q0.kind=1\/Q0.kind=2\/Q0.kind=3\/Q0.kind=4\/Q0.kind=5\/Q0.kind=7\/Q0.kind=10\/(Q0.kind=6\/Q0.kind=8\/Q0.kind=9):=aa
  rcases this with e|e|e|e|e|e|e|e
  ·exact jzl (hm _ t0 t1 t2 rfl) e
  ·exact jxf K ok h1 h2 hws (hm _ t0 t1 t2 rfl) e
  ·exact jzn K (hm _ t0 t1 t2 rfl) e
  ·exact jxg K ok h1 h2 hws (hm _ t0 t1 t2 rfl) e
  ·exact jxh K ok h1 h2 hws (hm _ t0 t1 t2 rfl) e
  ·exact jzo K (hm _ t0 t1 t2 rfl) e
  ·exact jxi K hb.1 hb.2.1 hb.2.2 (hm _ t0 t1 t2 rfl) e
  ·exact jzm (hm _ t0 t1 t2 rfl) e
 ·rw[decide_eq_false hf]at hFi;have hm:m ≠ 0:=λh=>hf (λk hk=>aa)
  have e1:IntKind.i64.wrap ((m:Int)-1)=((m-1:Nat):Int):=by rw[wrap_i64 aa aa];omega
  simp only[simprocAttr,zK,K0,jaa,t0,t1,t2,t6,hFi,e1];exact⟨m-1,aa,m-1,rfl,aa,rfl⟩
end
end Go.Proofs.YtajaampgajieeaaGreatDoor.N
