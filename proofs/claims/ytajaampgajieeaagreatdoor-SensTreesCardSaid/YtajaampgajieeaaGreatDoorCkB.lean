/- Proved here: the kind of a query. Conditions: each theorem's own. -/
import Derived.Test.YtajaampgajieeaaGreatDoorCkA
set_option linter.unusedSimpArgs false
set_option maxHeartbeats 16000000
set_option maxRecDepth 1000000
set_option linter.unusedVariables false
set_option linter.unusedSectionVars false
namespace Go.Proofs.YtajaampgajieeaaGreatDoor.K
open Go.Ab
theorem at85:env.P.funcs[85]? = some Tryz.f85:=ac
noncomputable def jbz:List Oper:=match regB 4 (jaz Tryz.f85)with| .region _ a _=>a.toList|_=>[]
theorem g85:(jbz.toArray[3]?).bind (·.dst)=some 21/\(jbz.toArray[8]?).bind (·.dst)=some 26/\(jbz.toArray[13]?).bind (·.dst)=some 31/\(jbz.toArray[23]?).bind (·.dst)=some 41/\(jbz.toArray[27]?).bind (·.dst)=some 45/\(jbz.toArray[36]?).bind (·.dst)=some 54/\(jbz.toArray[45]?).bind (·.dst)=some 63/\(jbz.toArray[54]?).bind (·.dst)=some 72/\(jbz.toArray[59]?).bind (·.dst)=some 77/\(jbz.toArray[69]?).bind (·.dst)=some 87 :=
 ⟨ac,ac,ac,ac,ac,ac,ac,ac,ac,ac⟩
structure Qtw (Q:Qy) (ev wv rv lv:V) (t o:Sch) (cv:V) (L:List AObj) (p b:Nat):Prop where
 q:QO Q ev wv rv lv t o cv L p
 c:L[b]? = some (.cells [.int .i64 Q.kind,ev,.int .i64 Q.lo,.int .i64 Q.hi,.int .i64 Q.p,.int .i64 Q.q,.str Q.column,.int .i64 Q.bound,rv,.int .i64 Q.strat,.bool Q.cons,.str Q.table,.int .i64 Q.keep,.str Q.other,.str Q.left,.str Q.right,.int .i64 Q.limit,wv,.str Q.factor,.int .i64 Q.bits] 30)
section
variable {Q:Qy}{ev wv rv lv cv:V}{t o:Sch}{L:List AObj}{p b:Nat}{ts:List Nat}{P:Post}{ks:List Kt}{T:Tm}{l:List Oper}
open Classical in
theorem jy2(h:Qtw Q ev wv rv lv t o cv L p b)(he:jbb (some (.slice 84)) ev=some (.int .i64 Q.ex.length))(hr:jbb (some (.slice 86)) rv=some (.int .i64 Q.rg.length))(t0:T 0=.ptr p 0)(t3:T 3=.ptr b 0)
  (hn:∀T':Tm,T' 0=T 0->T' 3=T 3->T' 36=.bool (decide (bad1 Q))->GQ env 85 none 99 P ks false (λs=>s=⟨L,ts⟩) jbz.toArray l T' [] ⟨L,ts⟩) :
  GQ env 85 none 99 P ks false (λs=>s=⟨L,ts⟩) jbz.toArray ((jbz.drop 0).take 19++l) T [] ⟨L,ts⟩:=by
 have hc:=h.c;obtain⟨g3,g8,g13,g23,g27,g36,g45,g54,g59,g69⟩:=g85;generalize jbz.toArray=oa at *;have hv:=jbp h.q ts;simp only[jbz,regB,regO,jaz,Tryz.f85,Kr,Nat.reduceBEq,Option.or,K5,Qz,Jx,Jj,Ja,Jn,Nat.reduceEqDiff,Kn,Kl,reduceIte];by_cases hk:valK Q.kind
 ·rw[decide_eq_true hk]at hv;simp only[simprocAttr,zK,K0,jaa,Kf,fo30,jaJ,al1,uq,jaX,jaF,jax,hc,hv,he,hr,t0,t3,jar,jbu,jdM,g3,g8,g13,g23,g27,g36,g45,g54,g59,g69,K1]
  repeat' refine Kd ?_ ?_
  all_goals first|exact λ_=>trivial|exact(by rintro s rfl;simp only[hc];rfl)|exact(by rintro _ s rfl;simp only[hc];rfl)|exact(by rintro s rfl;simp only[hc];rfl)|exact(by rintro _ s rfl;simp only[hc];rfl)|exact hn _ rfl rfl (by show V.bool false=_;rw[decide_eq_false (show ¬bad1 Q from(λq=>q.1 hk))])
 ·rw[decide_eq_false hk]at hv;by_cases w0:0<Q.ex.length
  ·have c0:((0:Int)<(Q.ex.length:Int))=True:=eq_true aa;simp only[simprocAttr,zK,K0,jaa,Kf,fo30,jaJ,al1,uq,jaX,jaF,jax,hc,hv,he,hr,t0,t3,jar,jbu,jdM,g3,g8,g13,g23,g27,g36,g45,g54,g59,g69,K1,c0]
   repeat' refine Kd ?_ ?_
   all_goals first|exact λ_=>trivial|exact(by rintro s rfl;simp only[hc];rfl)|exact(by rintro _ s rfl;simp only[hc];rfl)|exact(by rintro s rfl;simp only[hc,c0];rfl)|exact(by rintro _ s rfl;simp only[hc,c0];rfl)|exact hn _ rfl rfl (by show V.bool true=_;rw[decide_eq_true (show bad1 Q from⟨hk,.inl w0⟩)])
  have c0:((0:Int)<(Q.ex.length:Int))=False:=eq_false aa;by_cases w1:Q.lo ≠ 0
  ·have c1:(Q.lo=0)=False:=eq_false w1;simp only[simprocAttr,zK,K0,jaa,Kf,fo30,jaJ,al1,uq,jaX,jaF,jax,hc,hv,he,hr,t0,t3,jar,jbu,jdM,g3,g8,g13,g23,g27,g36,g45,g54,g59,g69,K1,c0,c1]
   repeat' refine Kd ?_ ?_
   all_goals first|exact λ_=>trivial|exact(by rintro s rfl;simp only[hc];rfl)|exact(by rintro _ s rfl;simp only[hc];rfl)|exact(by rintro s rfl;simp only[hc,c0,c1];rfl)|exact(by rintro _ s rfl;simp only[hc,c0,c1];rfl)|exact hn _ rfl rfl (by show V.bool true=_;rw[decide_eq_true (show bad1 Q from⟨hk,.inr (.inl w1)⟩)])
  have c1:(Q.lo=0)=True:=eq_true (by simpa using w1);by_cases w2:Q.hi ≠ 0
  ·have c2:(Q.hi=0)=False:=eq_false w2;simp only[simprocAttr,zK,K0,jaa,Kf,fo30,jaJ,al1,uq,jaX,jaF,jax,hc,hv,he,hr,t0,t3,jar,jbu,jdM,g3,g8,g13,g23,g27,g36,g45,g54,g59,g69,K1,c0,c1,c2]
   repeat' refine Kd ?_ ?_
   all_goals first|exact λ_=>trivial|exact(by rintro s rfl;simp only[hc];rfl)|exact(by rintro _ s rfl;simp only[hc];rfl)|exact(by rintro s rfl;simp only[hc,c0,c1,c2];rfl)|exact(by rintro _ s rfl;simp only[hc,c0,c1,c2];rfl)|exact hn _ rfl rfl (by show V.bool true=_;rw[decide_eq_true (show bad1 Q from⟨hk,.inr (.inr (w2))⟩)])
  have c2:(Q.hi=0)=True:=eq_true (by simpa using w2);simp only[simprocAttr,zK,K0,jaa,Kf,fo30,jaJ,al1,uq,jaX,jaF,jax,hc,hv,he,hr,t0,t3,jar,jbu,jdM,g3,g8,g13,g23,g27,g36,g45,g54,g59,g69,K1,c0,c1,c2]
  repeat' refine Kd ?_ ?_
  all_goals first|exact λ_=>trivial|exact(by rintro s rfl;simp only[hc];rfl)|exact(by rintro _ s rfl;simp only[hc];rfl)|exact(by rintro s rfl;simp only[hc,c0,c1,c2];rfl)|exact(by rintro _ s rfl;simp only[hc,c0,c1,c2];rfl)|exact hn _ rfl rfl (by show V.bool false=_;rw[decide_eq_false (show ¬bad1 Q from λq=>q.2.elim w0 λq=>q.elim w1 w2)])
open Classical in
theorem jy3(h:Qtw Q ev wv rv lv t o cv L p b)(he:jbb (some (.slice 84)) ev=some (.int .i64 Q.ex.length))(hr:jbb (some (.slice 86)) rv=some (.int .i64 Q.rg.length))(t0:T 0=.ptr p 0)(t3:T 3=.ptr b 0)
  (hn:∀T':Tm,T' 0=T 0->T' 3=T 3->T' 36=T 36->T' 50=.bool (decide (bad2 Q))->GQ env 85 none 99 P ks false (λs=>s=⟨L,ts⟩) jbz.toArray l T' [] ⟨L,ts⟩) :
  GQ env 85 none 99 P ks false (λs=>s=⟨L,ts⟩) jbz.toArray ((jbz.drop 19).take 14++l) T [] ⟨L,ts⟩:=by
 have hc:=h.c;obtain⟨g3,g8,g13,g23,g27,g36,g45,g54,g59,g69⟩:=g85;generalize jbz.toArray=oa at *;have hv:=ja2 h.q 5 ts;simp only[jbz,regB,regO,jaz,Tryz.f85,Kr,Nat.reduceBEq,Option.or,K5,Qz,Jx,Jj,Ja,Jn,Nat.reduceEqDiff,Kn,Kl,reduceIte];by_cases hk:Q.kind=5
 ·rw[decide_eq_true hk]at hv;simp only[simprocAttr,zK,K0,jaa,Kf,fo30,jaJ,al1,uq,jaX,jaF,jax,hc,hv,he,hr,t0,t3,jar,jbu,jdM,g3,g8,g13,g23,g27,g36,g45,g54,g59,g69,K1]
  repeat' refine Kd ?_ ?_
  all_goals first|exact λ_=>trivial|exact(by rintro s rfl;simp only[hc];rfl)|exact(by rintro _ s rfl;simp only[hc];rfl)|exact(by rintro s rfl;simp only[hc];rfl)|exact(by rintro _ s rfl;simp only[hc];rfl)|exact hn _ rfl rfl rfl (by show V.bool false=_;rw[decide_eq_false (show ¬bad2 Q from(λq=>q.1 hk))])
 ·rw[decide_eq_false hk]at hv;by_cases w0:Q.p ≠ 0
  ·have c0:(Q.p=0)=False:=eq_false w0;simp only[simprocAttr,zK,K0,jaa,Kf,fo30,jaJ,al1,uq,jaX,jaF,jax,hc,hv,he,hr,t0,t3,jar,jbu,jdM,g3,g8,g13,g23,g27,g36,g45,g54,g59,g69,K1,c0]
   repeat' refine Kd ?_ ?_
   all_goals first|exact λ_=>trivial|exact(by rintro s rfl;simp only[hc];rfl)|exact(by rintro _ s rfl;simp only[hc];rfl)|exact(by rintro s rfl;simp only[hc,c0];rfl)|exact(by rintro _ s rfl;simp only[hc,c0];rfl)|exact hn _ rfl rfl rfl (by show V.bool true=_;rw[decide_eq_true (show bad2 Q from⟨hk,.inl w0⟩)])
  have c0:(Q.p=0)=True:=eq_true (by simpa using w0);by_cases w1:Q.q ≠ 0
  ·have c1:(Q.q=0)=False:=eq_false w1;simp only[simprocAttr,zK,K0,jaa,Kf,fo30,jaJ,al1,uq,jaX,jaF,jax,hc,hv,he,hr,t0,t3,jar,jbu,jdM,g3,g8,g13,g23,g27,g36,g45,g54,g59,g69,K1,c0,c1]
   repeat' refine Kd ?_ ?_
   all_goals first|exact λ_=>trivial|exact(by rintro s rfl;simp only[hc];rfl)|exact(by rintro _ s rfl;simp only[hc];rfl)|exact(by rintro s rfl;simp only[hc,c0,c1];rfl)|exact(by rintro _ s rfl;simp only[hc,c0,c1];rfl)|exact hn _ rfl rfl rfl (by show V.bool true=_;rw[decide_eq_true (show bad2 Q from⟨hk,.inr (w1)⟩)])
  have c1:(Q.q=0)=True:=eq_true (by simpa using w1);simp only[simprocAttr,zK,K0,jaa,Kf,fo30,jaJ,al1,uq,jaX,jaF,jax,hc,hv,he,hr,t0,t3,jar,jbu,jdM,g3,g8,g13,g23,g27,g36,g45,g54,g59,g69,K1,c0,c1]
  repeat' refine Kd ?_ ?_
  all_goals first|exact λ_=>trivial|exact(by rintro s rfl;simp only[hc];rfl)|exact(by rintro _ s rfl;simp only[hc];rfl)|exact(by rintro s rfl;simp only[hc,c0,c1];rfl)|exact(by rintro _ s rfl;simp only[hc,c0,c1];rfl)|exact hn _ rfl rfl rfl (by show V.bool false=_;rw[decide_eq_false (show ¬bad2 Q from λq=>q.2.elim w0 w1)])
open Classical in
theorem jy4(h:Qtw Q ev wv rv lv t o cv L p b)(he:jbb (some (.slice 84)) ev=some (.int .i64 Q.ex.length))(hr:jbb (some (.slice 86)) rv=some (.int .i64 Q.rg.length))(t0:T 0=.ptr p 0)(t3:T 3=.ptr b 0)
  (hn:∀T':Tm,T' 0=T 0->T' 3=T 3->T' 36=T 36->T' 50=T 50->T' 58=.bool (decide (bad3 Q))->GQ env 85 none 99 P ks false (λs=>s=⟨L,ts⟩) jbz.toArray l T' [] ⟨L,ts⟩) :
  GQ env 85 none 99 P ks false (λs=>s=⟨L,ts⟩) jbz.toArray ((jbz.drop 33).take 8++l) T [] ⟨L,ts⟩:=by
 have hc:=h.c;obtain⟨g3,g8,g13,g23,g27,g36,g45,g54,g59,g69⟩:=g85;generalize jbz.toArray=oa at *;have hv:=jl5 h.q ts;simp only[jbz,regB,regO,jaz,Tryz.f85,Kr,Nat.reduceBEq,Option.or,K5,Qz,Jx,Jj,Ja,Jn,Nat.reduceEqDiff,Kn,Kl,reduceIte];by_cases hk:¬colK Q.kind
 ·rw[decide_eq_true hk]at hv;by_cases w0:Q.column ≠ []
  ·have c0:(Q.column=[])=False:=eq_false w0;simp only[simprocAttr,zK,K0,jaa,Kf,fo30,jaJ,al1,uq,jaX,jaF,jax,hc,hv,he,hr,t0,t3,jar,jbu,jdM,g3,g8,g13,g23,g27,g36,g45,g54,g59,g69,K1,c0]
   repeat' refine Kd ?_ ?_
   all_goals first|exact λ_=>trivial|exact(by rintro s rfl;simp only[hc];rfl)|exact(by rintro _ s rfl;simp only[hc];rfl)|exact(by rintro s rfl;simp only[hc,c0];rfl)|exact(by rintro _ s rfl;simp only[hc,c0];rfl)|exact hn _ rfl rfl rfl rfl (by show V.bool true=_;rw[decide_eq_true (show bad3 Q from⟨hk,w0⟩)])
  have c0:(Q.column=[])=True:=eq_true (by simpa using w0);simp only[simprocAttr,zK,K0,jaa,Kf,fo30,jaJ,al1,uq,jaX,jaF,jax,hc,hv,he,hr,t0,t3,jar,jbu,jdM,g3,g8,g13,g23,g27,g36,g45,g54,g59,g69,K1,c0]
  repeat' refine Kd ?_ ?_
  all_goals first|exact λ_=>trivial|exact(by rintro s rfl;simp only[hc];rfl)|exact(by rintro _ s rfl;simp only[hc];rfl)|exact(by rintro s rfl;simp only[hc,c0];rfl)|exact(by rintro _ s rfl;simp only[hc,c0];rfl)|exact hn _ rfl rfl rfl rfl (by show V.bool false=_;rw[decide_eq_false (show ¬bad3 Q from λq=>w0 q.2)])
 ·rw[decide_eq_false hk]at hv;simp only[simprocAttr,zK,K0,jaa,Kf,fo30,jaJ,al1,uq,jaX,jaF,jax,hc,hv,he,hr,t0,t3,jar,jbu,jdM,g3,g8,g13,g23,g27,g36,g45,g54,g59,g69,K1]
  repeat' refine Kd ?_ ?_
  all_goals first|exact λ_=>trivial|exact(by rintro s rfl;simp only[hc];rfl)|exact(by rintro _ s rfl;simp only[hc];rfl)|exact(by rintro s rfl;simp only[hc];rfl)|exact(by rintro _ s rfl;simp only[hc];rfl)|exact hn _ rfl rfl rfl rfl (by show V.bool false=_;rw[decide_eq_false (show ¬bad3 Q from(λq=>hk q.1))])
open Classical in
theorem jy5(h:Qtw Q ev wv rv lv t o cv L p b)(he:jbb (some (.slice 84)) ev=some (.int .i64 Q.ex.length))(hr:jbb (some (.slice 86)) rv=some (.int .i64 Q.rg.length))(t0:T 0=.ptr p 0)(t3:T 3=.ptr b 0)
  (hn:∀T':Tm,T' 0=T 0->T' 3=T 3->T' 36=T 36->T' 50=T 50->T' 58=T 58->T' 67=.bool (decide (bad4 Q))->GQ env 85 none 99 P ks false (λs=>s=⟨L,ts⟩) jbz.toArray l T' [] ⟨L,ts⟩) :
  GQ env 85 none 99 P ks false (λs=>s=⟨L,ts⟩) jbz.toArray ((jbz.drop 41).take 9++l) T [] ⟨L,ts⟩:=by
 have hc:=h.c;obtain⟨g3,g8,g13,g23,g27,g36,g45,g54,g59,g69⟩:=g85;generalize jbz.toArray=oa at *;have hv:=ja2 h.q 7 ts;simp only[jbz,regB,regO,jaz,Tryz.f85,Kr,Nat.reduceBEq,Option.or,K5,Qz,Jx,Jj,Ja,Jn,Nat.reduceEqDiff,Kn,Kl,reduceIte];by_cases hk:Q.kind=7
 ·rw[decide_eq_true hk]at hv;simp only[simprocAttr,zK,K0,jaa,Kf,fo30,jaJ,al1,uq,jaX,jaF,jax,hc,hv,he,hr,t0,t3,jar,jbu,jdM,g3,g8,g13,g23,g27,g36,g45,g54,g59,g69,K1]
  repeat' refine Kd ?_ ?_
  all_goals first|exact λ_=>trivial|exact(by rintro s rfl;simp only[hc];rfl)|exact(by rintro _ s rfl;simp only[hc];rfl)|exact(by rintro s rfl;simp only[hc];rfl)|exact(by rintro _ s rfl;simp only[hc];rfl)|exact hn _ rfl rfl rfl rfl rfl (by show V.bool false=_;rw[decide_eq_false (show ¬bad4 Q from(λq=>q.1 hk))])
 ·rw[decide_eq_false hk]at hv;by_cases w0:Q.bound ≠ 0
  ·have c0:(Q.bound=0)=False:=eq_false w0;simp only[simprocAttr,zK,K0,jaa,Kf,fo30,jaJ,al1,uq,jaX,jaF,jax,hc,hv,he,hr,t0,t3,jar,jbu,jdM,g3,g8,g13,g23,g27,g36,g45,g54,g59,g69,K1,c0]
   repeat' refine Kd ?_ ?_
   all_goals first|exact λ_=>trivial|exact(by rintro s rfl;simp only[hc];rfl)|exact(by rintro _ s rfl;simp only[hc];rfl)|exact(by rintro s rfl;simp only[hc,c0];rfl)|exact(by rintro _ s rfl;simp only[hc,c0];rfl)|exact hn _ rfl rfl rfl rfl rfl (by show V.bool true=_;rw[decide_eq_true (show bad4 Q from⟨hk,w0⟩)])
  have c0:(Q.bound=0)=True:=eq_true (by simpa using w0);simp only[simprocAttr,zK,K0,jaa,Kf,fo30,jaJ,al1,uq,jaX,jaF,jax,hc,hv,he,hr,t0,t3,jar,jbu,jdM,g3,g8,g13,g23,g27,g36,g45,g54,g59,g69,K1,c0]
  repeat' refine Kd ?_ ?_
  all_goals first|exact λ_=>trivial|exact(by rintro s rfl;simp only[hc];rfl)|exact(by rintro _ s rfl;simp only[hc];rfl)|exact(by rintro s rfl;simp only[hc,c0];rfl)|exact(by rintro _ s rfl;simp only[hc,c0];rfl)|exact hn _ rfl rfl rfl rfl rfl (by show V.bool false=_;rw[decide_eq_false (show ¬bad4 Q from λq=>w0 q.2)])
open Classical in
theorem jy6(h:Qtw Q ev wv rv lv t o cv L p b)(he:jbb (some (.slice 84)) ev=some (.int .i64 Q.ex.length))(hr:jbb (some (.slice 86)) rv=some (.int .i64 Q.rg.length))(t0:T 0=.ptr p 0)(t3:T 3=.ptr b 0)
  (hn:∀T':Tm,T' 0=T 0->T' 3=T 3->T' 36=T 36->T' 50=T 50->T' 58=T 58->T' 67=T 67->T' 82=.bool (decide (bad5 Q))->GQ env 85 none 99 P ks false (λs=>s=⟨L,ts⟩) jbz.toArray l T' [] ⟨L,ts⟩) :
  GQ env 85 none 99 P ks false (λs=>s=⟨L,ts⟩) jbz.toArray ((jbz.drop 50).take 15++l) T [] ⟨L,ts⟩:=by
 have hc:=h.c;obtain⟨g3,g8,g13,g23,g27,g36,g45,g54,g59,g69⟩:=g85;generalize jbz.toArray=oa at *;have hv:=ja2 h.q 10 ts;simp only[jbz,regB,regO,jaz,Tryz.f85,Kr,Nat.reduceBEq,Option.or,K5,Qz,Jx,Jj,Ja,Jn,Nat.reduceEqDiff,Kn,Kl,reduceIte];by_cases hk:Q.kind=10
 ·rw[decide_eq_true hk]at hv;simp only[simprocAttr,zK,K0,jaa,Kf,fo30,jaJ,al1,uq,jaX,jaF,jax,hc,hv,he,hr,t0,t3,jar,jbu,jdM,g3,g8,g13,g23,g27,g36,g45,g54,g59,g69,K1]
  repeat' refine Kd ?_ ?_
  all_goals first|exact λ_=>trivial|exact(by rintro s rfl;simp only[hc];rfl)|exact(by rintro _ s rfl;simp only[hc];rfl)|exact(by rintro s rfl;simp only[hc];rfl)|exact(by rintro _ s rfl;simp only[hc];rfl)|exact hn _ rfl rfl rfl rfl rfl rfl (by show V.bool false=_;rw[decide_eq_false (show ¬bad5 Q from(λq=>q.1 hk))])
 ·rw[decide_eq_false hk]at hv;by_cases w0:0<Q.rg.length
  ·have c0:((0:Int)<(Q.rg.length:Int))=True:=eq_true aa;simp only[simprocAttr,zK,K0,jaa,Kf,fo30,jaJ,al1,uq,jaX,jaF,jax,hc,hv,he,hr,t0,t3,jar,jbu,jdM,g3,g8,g13,g23,g27,g36,g45,g54,g59,g69,K1,c0]
   repeat' refine Kd ?_ ?_
   all_goals first|exact λ_=>trivial|exact(by rintro s rfl;simp only[hc];rfl)|exact(by rintro _ s rfl;simp only[hc];rfl)|exact(by rintro s rfl;simp only[hc,c0];rfl)|exact(by rintro _ s rfl;simp only[hc,c0];rfl)|exact hn _ rfl rfl rfl rfl rfl rfl (by show V.bool true=_;rw[decide_eq_true (show bad5 Q from⟨hk,.inl w0⟩)])
  have c0:((0:Int)<(Q.rg.length:Int))=False:=eq_false aa;by_cases w1:Q.strat ≠ 0
  ·have c1:(Q.strat=0)=False:=eq_false w1;simp only[simprocAttr,zK,K0,jaa,Kf,fo30,jaJ,al1,uq,jaX,jaF,jax,hc,hv,he,hr,t0,t3,jar,jbu,jdM,g3,g8,g13,g23,g27,g36,g45,g54,g59,g69,K1,c0,c1]
   repeat' refine Kd ?_ ?_
   all_goals first|exact λ_=>trivial|exact(by rintro s rfl;simp only[hc];rfl)|exact(by rintro _ s rfl;simp only[hc];rfl)|exact(by rintro s rfl;simp only[hc,c0,c1];rfl)|exact(by rintro _ s rfl;simp only[hc,c0,c1];rfl)|exact hn _ rfl rfl rfl rfl rfl rfl (by show V.bool true=_;rw[decide_eq_true (show bad5 Q from⟨hk,.inr (w1)⟩)])
  have c1:(Q.strat=0)=True:=eq_true (by simpa using w1);simp only[simprocAttr,zK,K0,jaa,Kf,fo30,jaJ,al1,uq,jaX,jaF,jax,hc,hv,he,hr,t0,t3,jar,jbu,jdM,g3,g8,g13,g23,g27,g36,g45,g54,g59,g69,K1,c0,c1]
  repeat' refine Kd ?_ ?_
  all_goals first|exact λ_=>trivial|exact(by rintro s rfl;simp only[hc];rfl)|exact(by rintro _ s rfl;simp only[hc];rfl)|exact(by rintro s rfl;simp only[hc,c0,c1];rfl)|exact(by rintro _ s rfl;simp only[hc,c0,c1];rfl)|exact hn _ rfl rfl rfl rfl rfl rfl (by show V.bool false=_;rw[decide_eq_false (show ¬bad5 Q from λq=>q.2.elim w0 w1)])
open Classical in
theorem jy7(h:Qtw Q ev wv rv lv t o cv L p b)(he:jbb (some (.slice 84)) ev=some (.int .i64 Q.ex.length))(hr:jbb (some (.slice 86)) rv=some (.int .i64 Q.rg.length))(t0:T 0=.ptr p 0)(t3:T 3=.ptr b 0)
  (hn:∀T':Tm,T' 0=T 0->T' 3=T 3->T' 36=T 36->T' 50=T 50->T' 58=T 58->T' 67=T 67->T' 82=T 82->T' 90=.bool (decide (bad6 Q))->GQ env 85 none 99 P ks false (λs=>s=⟨L,ts⟩) jbz.toArray l T' [] ⟨L,ts⟩) :
  GQ env 85 none 99 P ks false (λs=>s=⟨L,ts⟩) jbz.toArray ((jbz.drop 65).take 8++l) T [] ⟨L,ts⟩:=by
 have hc:=h.c;obtain⟨g3,g8,g13,g23,g27,g36,g45,g54,g59,g69⟩:=g85;generalize jbz.toArray=oa at *;have hv:=ja2 h.q 3 ts;simp only[jbz,regB,regO,jaz,Tryz.f85,Kr,Nat.reduceBEq,Option.or,K5,Qz,Jx,Jj,Ja,Jn,Nat.reduceEqDiff,Kn,Kl,reduceIte];by_cases hk:Q.kind=3
 ·rw[decide_eq_true hk]at hv;simp only[simprocAttr,zK,K0,jaa,Kf,fo30,jaJ,al1,uq,jaX,jaF,jax,hc,hv,he,hr,t0,t3,jar,jbu,jdM,g3,g8,g13,g23,g27,g36,g45,g54,g59,g69,K1]
  repeat' refine Kd ?_ ?_
  all_goals first|exact λ_=>trivial|exact(by rintro s rfl;simp only[hc];rfl)|exact(by rintro _ s rfl;simp only[hc];rfl)|exact(by rintro s rfl;simp only[hc];rfl)|exact(by rintro _ s rfl;simp only[hc];rfl)|exact hn _ rfl rfl rfl rfl rfl rfl rfl (by show V.bool false=_;rw[decide_eq_false (show ¬bad6 Q from(λq=>q.1 hk))])
 ·rw[decide_eq_false hk]at hv;by_cases w0:Q.cons=true
  ·have c0:Q.cons=true:=w0;simp only[simprocAttr,zK,K0,jaa,Kf,fo30,jaJ,al1,uq,jaX,jaF,jax,hc,hv,he,hr,t0,t3,jar,jbu,jdM,g3,g8,g13,g23,g27,g36,g45,g54,g59,g69,K1,c0]
   repeat' refine Kd ?_ ?_
   all_goals first|exact λ_=>trivial|exact(by rintro s rfl;simp only[hc];rfl)|exact(by rintro _ s rfl;simp only[hc];rfl)|exact(by rintro s rfl;simp only[hc,c0];rfl)|exact(by rintro _ s rfl;simp only[hc,c0];rfl)|exact hn _ rfl rfl rfl rfl rfl rfl rfl (by show V.bool true=_;rw[decide_eq_true (show bad6 Q from⟨hk,w0⟩)])
  have c0:Q.cons=false:=by simpa using w0
  simp only[simprocAttr,zK,K0,jaa,Kf,fo30,jaJ,al1,uq,jaX,jaF,jax,hc,hv,he,hr,t0,t3,jar,jbu,jdM,g3,g8,g13,g23,g27,g36,g45,g54,g59,g69,K1,c0]
  repeat' refine Kd ?_ ?_
  all_goals first|exact λ_=>trivial|exact(by rintro s rfl;simp only[hc];rfl)|exact(by rintro _ s rfl;simp only[hc];rfl)|exact(by rintro s rfl;simp only[hc,c0];rfl)|exact(by rintro _ s rfl;simp only[hc,c0];rfl)|exact hn _ rfl rfl rfl rfl rfl rfl rfl (by show V.bool false=_;rw[decide_eq_false (show ¬bad6 Q from λq=>w0 q.2)])
end
theorem jvA:jbz=(jbz.drop 0).take 19++((jbz.drop 19).take 14++((jbz.drop 33).take 8++((jbz.drop 41).take 9++((jbz.drop 50).take 15++((jbz.drop 65).take 8++jbz.drop 73))))):=ac
section
variable {Q:Qy}{ev wv rv lv cv:V}{t o:Sch}{L:List AObj}{p b:Nat}{ts:List Nat}{P:Post}{ks:List Kt}{T:Tm}{l:List Oper}
open Classical in
theorem jtG(h:Qtw Q ev wv rv lv t o cv L p b)(he:jbb (some (.slice 84)) ev=some (.int .i64 Q.ex.length))(hr:jbb (some (.slice 86)) rv=some (.int .i64 Q.rg.length))(t0:T 0=.ptr p 0)(t3:T 3=.ptr b 0)
  (hn:∀T':Tm,T' 0=.ptr p 0->T' 36=.bool (decide (bad1 Q))->T' 50=.bool (decide (bad2 Q))->T' 58=.bool (decide (bad3 Q))->T' 67=.bool (decide (bad4 Q))->T' 82=.bool (decide (bad5 Q))->T' 90=.bool (decide (bad6 Q))->GQ env 85 none 99 P ks false (λs=>s=⟨L,ts⟩) jbz.toArray (jbz.drop 73) T' [] ⟨L,ts⟩) :
  GQ env 85 none 99 P ks false (λs=>s=⟨L,ts⟩) jbz.toArray jbz T [] ⟨L,ts⟩:=by
 refine(congrArg (λl=>GQ env 85 none 99 P ks false (λs=>s=⟨L,ts⟩) jbz.toArray l T [] ⟨L,ts⟩) jvA).mpr ?_;refine jy2 h he hr t0 t3 λT1 a0 a3 a36 => ?_
 refine jy3 h he hr (a0.trans t0) (a3.trans t3) λT2 b0 b3 b36 b50 => ?_
 refine jy4 h he hr (b0.trans (a0.trans t0)) (b3.trans (a3.trans t3)) λT3 c0 c3 c36 c50 c58 => ?_
 refine jy5 h he hr (c0.trans (b0.trans (a0.trans t0))) (c3.trans (b3.trans (a3.trans t3))) λT4 d0 d3 d36 d50 d58 d67 => ?_
 refine jy6 h he hr (d0.trans (c0.trans (b0.trans (a0.trans t0)))) (d3.trans (c3.trans (b3.trans (a3.trans t3)))) λT5 e0 e3 e36 e50 e58 e67 e82 => ?_
 refine jy7 h he hr (e0.trans (d0.trans (c0.trans (b0.trans (a0.trans t0))))) (e3.trans (d3.trans (c3.trans (b3.trans (a3.trans t3))))) λT6 f0 f3 f36 f50 f58 f67 f82 f90 => ?_
 exact hn T6 (f0.trans (e0.trans (d0.trans (c0.trans (b0.trans (a0.trans t0)))))) (f36.trans (e36.trans (d36.trans (c36.trans (b36.trans a36))))) (f50.trans (e50.trans (d50.trans (c50.trans b50)))) (f58.trans (e58.trans (d58.trans c58))) (f67.trans (e67.trans d67)) (f82.trans e82) f90
theorem jw7(a b c d e f:Bool):rowO env 180 6 [(0,.bool a),(1,.bool b),(2,.bool c),(3,.bool d),(4,.bool e),(5,.bool f)]=some (.row ([a,b,c,d,e,f].map V.bool) 6 .full):=ac
theorem jiK {l:List Bool}{c:RCap}{i:Nat}(hi:i<l.length):jaw 1 (.row (l.map V.bool) l.length c) (.int .i64 (i:Int))=some (.rptr (.bool (l.getD i false)::(l.map V.bool).drop (i+1))):=by
 rw[Ys,Kg aa,Qj,Xc,Qk (by simpa using hi)];simp[List.getD,hi]
open Classical in
theorem jl6(h:QO Q ev wv rv lv t o cv L p)(hN:NV ev Q.ex)(hw:NV wv Q.wh)(hr:RgV rv Q.rg)(ts:List Nat):∃v U',jah env (Go.Ab.ev env) 85 [.ptr p 0] ⟨L,ts⟩=some (v,U')/\v=.int .i64 (jjr Q)/\∃X,U'=⟨L++X,ts⟩:=by
 refine jaD at85 rfl ?_;have hh:=h.has;have hq:=h.ldq;have x1:=hN.cell.2;have x2:=hw.cell.2;have x3:=hr.cell.2;have hP:Qtw Q ev wv rv lv t o cv (L++[.cells [.int .i64 Q.kind,ev,.int .i64 Q.lo,.int .i64 Q.hi,.int .i64 Q.p,.int .i64 Q.q,.str Q.column,.int .i64 Q.bound,rv,.int .i64 Q.strat,.bool Q.cons,.str Q.table,.int .i64 Q.keep,.str Q.other,.str Q.left,.str Q.right,.int .i64 Q.limit,wv,.str Q.factor,.int .i64 Q.bits] 30]) p L.length:=⟨h.app _,jad _ _⟩;have hc:=hP.c;unfold Qy.cells at hq;unfold jjr;by_cases k1:Q.kind<1
 ·simp only[Tryz.f85,simprocAttr,zK,K0,jaa,K3,fo30,jaJ,al1,uq,hh,hq,zq,K2,Qf,x1,x2,x3,Q5,K8,k1];exact⟨by rw[Kg (.inl trivial)];rfl,_,rfl⟩
 by_cases k2:10<Q.kind
 ·simp only[Tryz.f85,simprocAttr,zK,K0,jaa,K3,fo30,jaJ,al1,uq,hh,hq,zq,K2,Qf,x1,x2,x3,Q5,K8,k1,k2];exact⟨by rw[Kg (.inr trivial)];rfl,_,rfl⟩
 rw[Ke (λq=>q.elim k1 k2)];simp only[Tryz.f85,simprocAttr,zK,K0,jaa,K3,fo30,jaJ,al1,uq,hh,hq,zq,K2,Qf,x1,x2,x3,Q5,K8,k1,k2];refine jrn rfl (λs=>s=⟨L++[.cells [.int .i64 Q.kind,ev,.int .i64 Q.lo,.int .i64 Q.hi,.int .i64 Q.p,.int .i64 Q.q,.str Q.column,.int .i64 Q.bound,rv,.int .i64 Q.strat,.bool Q.cons,.str Q.table,.int .i64 Q.keep,.str Q.other,.str Q.left,.str Q.right,.int .i64 Q.limit,wv,.str Q.factor,.int .i64 Q.bits] 30],ts⟩) rfl ac ?_;refine jtG hP hN.len hr.len rfl rfl λT a0 a36 a50 a58 a67 a82 a90 => ?_
 obtain⟨L2,hL2⟩:∃L2,L++[AObj.cells [.int .i64 Q.kind,ev,.int .i64 Q.lo,.int .i64 Q.hi,.int .i64 Q.p,.int .i64 Q.q,.str Q.column,.int .i64 Q.bound,rv,.int .i64 Q.strat,.bool Q.cons,.str Q.table,.int .i64 Q.keep,.str Q.other,.str Q.left,.str Q.right,.int .i64 Q.limit,wv,.str Q.factor,.int .i64 Q.bits] 30]=L2:=⟨_,rfl⟩;rw[hL2];have hfin:∃X:List AObj,(⟨L2,ts⟩:S)=⟨L++X,ts⟩:=⟨_,by rw[<- hL2]⟩;clear hP hc hq hh
 have hbs:(bad1 Q\/bad2 Q\/bad3 Q\/bad4 Q\/bad5 Q\/bad6 Q)↔true∈[decide (bad1 Q),decide (bad2 Q),decide (bad3 Q),decide (bad4 Q),decide (bad5 Q),decide (bad6 Q)]:=by
  simp only[Jg,V4,or_false,eq_comm (a:=true),Jq]
 obtain⟨e,he⟩:∃e:Int,(if bad1 Q\/bad2 Q\/bad3 Q\/bad4 Q\/bad5 Q\/bad6 Q then(3:Int)else 0)=e:=⟨_,rfl⟩;have he1:(bad1 Q\/bad2 Q\/bad3 Q\/bad4 Q\/bad5 Q\/bad6 Q)->3=e:=λh=>by rw[<- he,Kg h]
 have he0:¬(bad1 Q\/bad2 Q\/bad3 Q\/bad4 Q\/bad5 Q\/bad6 Q)->0=e:=λh=>by rw[<- he,Ke h]
 rw[he];clear he;generalize decide (bad1 Q)=b1 at *;generalize decide (bad2 Q)=b2 at *;generalize decide (bad3 Q)=b3 at *;generalize decide (bad4 Q)=b4 at *;generalize decide (bad5 Q)=b5 at *;generalize decide (bad6 Q)=b6 at *;generalize (bad1 Q\/bad2 Q\/bad3 Q\/bad4 Q\/bad5 Q\/bad6 Q)=W at *;obtain⟨bs,hb⟩:∃bs,[b1,b2,b3,b4,b5,b6]=bs:=⟨_,rfl⟩;have hl6:bs.length=6:=by rw[<- hb];rfl
 have hr6:=jw7 b1 b2 b3 b4 b5 b6;rw[hb]at hbs hr6;simp only[jbz,regB,regO,jaz,Tryz.f85,Kr,Nat.reduceBEq,Option.or,K5,Qz,Nat.reduceEqDiff,Kn,Kl,reduceIte,Ka,Nat.reduceLT,Nat.reduceEqDiff,Kl,Kn,Ys,Y0,Int.reduceEq,Int.reduceLT,Int.reduceLE,Int.reduceNeg,mb,Nat.reduceBEq,tys,stb,K0,jaa,Nat.reduceAdd,Nat.reduceLeDiff,Kf,uq,a36,a50,a58,a67,a82,a90,jar,hr6,jdz,jox,ja7,ja8];refine⟨λ_=>trivial,λ_=>trivial,?_⟩;refine jau (λm T D U=>D=[]/\U=⟨L2,ts⟩/\T 91=.row (bs.map V.bool) 6 .full/\T 92=.int .i64 6/\∃i:Nat,T 93=.int .i64 i/\i<=6/\m=6-i/\∀j,j<i->bs.getD j false=false) ?_ (6-0) _ _ _ ⟨rfl,rfl,rfl,rfl,0,rfl,aa,rfl,λj hj=>aa⟩;clear a0 a36 a50 a58 a67 a82 a90;rintro m T D U ⟨rfl,rfl,t91,t92,i,t93,hi,rfl,hno⟩;refine jaC ?_
 have hx:i<6->jaw 1 (.row (bs.map V.bool) 6 .full) (.int .i64 (i:Int))=some (.rptr (.bool (bs.getD i false)::(bs.map V.bool).drop (i+1))):=λh=>by
  have:=jiK (l:=bs) (c:=.full) (i:=i) aa;rw[hl6]at this;exact this
 by_cases hlt:i<6
 ·have k1:(i:Int)<6:=by omega
  have e1:IntKind.i64.wrap ((i:Int)+1)=((i+1:Nat):Int):=by rw[wrap_i64 aa aa];omega
  have hx:=hx hlt;cases hb2:bs.getD i false
  ·simp only[simprocAttr,yK,K0,jaa,uq,al1,t91,t92,t93,k1,e1,hx,jaq,hb2]
   exact⟨6-(i+1),aa,i+1,rfl,aa,rfl,λj hj=>by
    rcases Ql j i with q|q
    ·exact hno j q
    ·obtain rfl:j=i:=by omega
     exact hb2⟩
  ·simp only[simprocAttr,yK,K0,jaa,uq,al1,t91,t92,t93,k1,e1,hx,jaq,hb2]
   have hW:W:=hbs.2 (by
    have h6:i<bs.length:=aa;rw[List.getD,Kz h6,Kr]at hb2;rw[<- hb2];exact J7 h6)
   exact⟨by rw[<- he1 hW];rfl,hfin⟩
 ·have hi2:i=6:=by omega
  subst hi2
  have hW:¬W:=λq=>by
   obtain⟨j,hj,e⟩:=Jr (hbs.1 q);have:=hno j aa;rw[List.getD,Kz hj,Kr,e]at this;cases this
  simp only[simprocAttr,zK,K0,jaa,uq,al1,t91,t92,t93,show ¬((6:Nat):Int)<6 by decide];exact⟨by rw[<- he0 hW];rfl,hfin⟩
end
end Go.Proofs.YtajaampgajieeaaGreatDoor.K
