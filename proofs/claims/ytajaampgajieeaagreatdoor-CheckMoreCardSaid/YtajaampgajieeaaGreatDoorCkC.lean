/- Proved here: the join of a query. Conditions: those of each theorem; no statement of the seat is proved in this text. -/
import Derived.Test.YtajaampgajieeaaGreatDoorCkA
set_option linter.unusedSimpArgs false
namespace Go.Proofs.YtajaampgajieeaaGreatDoor.K
open Go.Ab
set_option maxHeartbeats 4000000
set_option maxRecDepth 100000
set_option linter.unusedSimpArgs false
set_option linter.unusedVariables false
set_option linter.unusedSectionVars false
theorem at88:env.P.funcs[88]? = some Tryz.f88:=by kernel_rfl
theorem juQ:env.P.funcs[167]? = some Tryz.f167:=by kernel_rfl
theorem jml {v w:V}{a b:List (List UInt8)}(hv:IsW v a)(hw:IsW w b)(ha:a.length≤1000)(hb:b.length≤1000)(σ:S):jah env (ev env) 167 [v,w] σ=some (.bool (decide (a=b)),σ):=by
 refine jar rfl rfl (by simp [jcB hv,jcB hw]) juQ rfl (by simp [Tryz.f167]) (by simp [Tryz.f167]) (jaj ?_) σ
 by_cases h1:a.length=b.length
 case neg =>
  have c1:((a.length:Int)=b.length)=False:=eq_false (by omega)
  have hn:¬ a=b:=fun e=>h1 (by rw [e])
  simp -implicitDefEqProofs only [Tryz.f167,Ka,Nat.reduceLT,Nat.reduceEqDiff,Ke,Kc,reduceIte,Ys,Y0,Int.reduceEq,Int.reduceLT,Int.reduceLE,Int.reduceNeg,mb,Nat.reduceBEq,tys,stb,Vq,jay,jcN hv,jcN hw,c1]
  rw [decide_eq_false hn]; rfl
 have c1:((a.length:Int)=b.length)=True:=eq_true (by omega)
 simp -implicitDefEqProofs only [Tryz.f167,Ka,Nat.reduceLT,Nat.reduceEqDiff,Ke,Kc,reduceIte,Ys,Y0,Int.reduceEq,Int.reduceLT,Int.reduceLE,Int.reduceNeg,mb,Nat.reduceBEq,tys,stb,Vq,jay,jcN hv,jcN hw,c1]
 refine jaI (fun m T D σ=>D=[]∧σ=⟨[],[]⟩∧T 0=v∧T 1=w∧T 12=.int .i64 a.length∧∃ i:Nat,T 13=.int .i64 i∧i≤a.length∧m=a.length - i∧∀ j,j<i→a.getD j []=b.getD j []) ?_ (a.length - 0) _ _ _ ⟨rfl,rfl,rfl,rfl,rfl,0,rfl,by omega,rfl,fun j hj=>by omega⟩
 rintro m T D σ ⟨rfl,rfl,t0,t1,t12,i,t13,hi,rfl,hno⟩
 refine jaj ?_
 by_cases hlt:i<a.length
 ·have k1:(i:Int)<(a.length:Int):=by omega
  have e1:IntKind.i64.wrap ((i:Int)+1)=((i+1:Nat):Int):=by rw [wrap_i64 (by omega) (by omega)]; omega
  have hx:=jl4 hv hlt
  have hy:=jl4 hw (show i<b.length by omega)
  by_cases he:a.getD i []=b.getD i []
  ·have h0:=eq_true he
   simp -implicitDefEqProofs only [Ka,Nat.reduceLT,Nat.reduceEqDiff,Ke,Kc,reduceIte,Ys,Y0,Int.reduceEq,Int.reduceLT,Int.reduceLE,Int.reduceNeg,mb,Nat.reduceBEq,tys,stb,Vq,t0,t1,t12,t13,k1,e1,hx,hy,jaw,jax,h0]
   exact ⟨by kernel_rfl,a.length - (i+1),by omega,i+1,rfl,by omega,rfl,fun j hj=>by
    rcases K1 j i with q | q
    ·exact hno j q
    ·obtain rfl:j=i:=by omega
     exact he⟩
  ·have h0:=eq_false he
   have hn:¬ a=b:=fun e=>he (by rw [e])
   simp -implicitDefEqProofs only [Ka,Nat.reduceLT,Nat.reduceEqDiff,Ke,Kc,reduceIte,Ys,Y0,Int.reduceEq,Int.reduceLT,Int.reduceLE,Int.reduceNeg,mb,Nat.reduceBEq,tys,stb,Vq,t0,t1,t12,t13,k1,e1,hx,hy,jaw,jax,h0]
   exact ⟨by kernel_rfl,by rw [decide_eq_false hn]; rfl⟩
 ·have hi2:i=a.length:=by omega
  subst hi2
  have k1:¬ (a.length:Int)<(a.length:Int):=by omega
  have hy:a=b:=by
   apply List.ext_getElem h1
   intro k k1 k2
   have:=hno k (by omega)
   simpa [List.getD,k1,k2] using this
  simp -implicitDefEqProofs only [Ka,Nat.reduceLT,Nat.reduceEqDiff,Ke,Kc,reduceIte,Ys,Y0,Int.reduceEq,Int.reduceLT,Int.reduceLE,Int.reduceNeg,mb,Nat.reduceBEq,tys,stb,Vq,t0,t1,t12,t13,k1]
  rw [decide_eq_true hy]; rfl
section
variable {Q:Qy}{ev wv rv lv cv:V}{t o:Sch}{L:List AObj}{p:Nat}
theorem jpx (h:QO Q ev wv rv lv t o cv L p){ss:List Sch}(hs:SS lv ss)(ht:CV t.cv t.cs)(ho:CV o.cv o.cs)(hx:ev.isCell=true∧wv.isCell=true∧rv.isCell=true)(ts:List Nat):∃ v σ',jah env (Go.Ab.ev env) 88 [.ptr p 0] ⟨L,ts⟩=some (v,σ')∧v=.int .i64 (jj2 Q ss t o)∧∃ X,σ'=⟨L++X,ts⟩:=by
 refine jaE rfl rfl at88 rfl (by simp [Tryz.f88]) (by simp [Tryz.f88]) (jaj ?_)
 have hh:=h.has
 have hq:=h.ldq
 obtain ⟨x1,x2,x3⟩:=hx
 unfold Qy.cells at hq
 unfold jj2
 by_cases h0:Q.other=[]
 ·have c0:=eq_true h0
  rw [Kh h0]
  by_cases h1:Q.left=[]
  ·by_cases h2:Q.right=[]
   ·by_cases h3:Q.limit=0
    ·simp -implicitDefEqProofs only [Tryz.f88,Ka,Nat.reduceLT,Nat.reduceEqDiff,Ke,Kc,reduceIte,Ys,Y0,Int.reduceEq,Int.reduceLT,Int.reduceLE,Int.reduceNeg,mb,Nat.reduceBEq,tys,stb,Vq,Va,jaa,Nat.reduceAdd,Nat.reduceLeDiff,jac,jal,fo30,jaD,al1,uq,hh,hq,zq,jaf,jap,YW,jad,jae,jam,x1,x2,x3,Qj,K6,jas,jax,h0,h1,h2,h3]
     exact ⟨by simp [jau],_,rfl⟩
    ·have c3:=eq_false h3
     simp -implicitDefEqProofs only [Tryz.f88,Ka,Nat.reduceLT,Nat.reduceEqDiff,Ke,Kc,reduceIte,Ys,Y0,Int.reduceEq,Int.reduceLT,Int.reduceLE,Int.reduceNeg,mb,Nat.reduceBEq,tys,stb,Vq,Va,jaa,Nat.reduceAdd,Nat.reduceLeDiff,jac,jal,fo30,jaD,al1,uq,hh,hq,zq,jaf,jap,YW,jad,jae,jam,x1,x2,x3,Qj,K6,jas,jax,h0,h1,h2,c3]
     exact ⟨by simp [jau,h3],_,rfl⟩
   ·have c2:=eq_false h2
    simp -implicitDefEqProofs only [Tryz.f88,Ka,Nat.reduceLT,Nat.reduceEqDiff,Ke,Kc,reduceIte,Ys,Y0,Int.reduceEq,Int.reduceLT,Int.reduceLE,Int.reduceNeg,mb,Nat.reduceBEq,tys,stb,Vq,Va,jaa,Nat.reduceAdd,Nat.reduceLeDiff,jac,jal,fo30,jaD,al1,uq,hh,hq,zq,jaf,jap,YW,jad,jae,jam,x1,x2,x3,Qj,K6,jas,jax,h0,h1,c2]
    exact ⟨by simp [jau,h2],_,rfl⟩
  ·have c1:=eq_false h1
   simp -implicitDefEqProofs only [Tryz.f88,Ka,Nat.reduceLT,Nat.reduceEqDiff,Ke,Kc,reduceIte,Ys,Y0,Int.reduceEq,Int.reduceLT,Int.reduceLE,Int.reduceNeg,mb,Nat.reduceBEq,tys,stb,Vq,Va,jaa,Nat.reduceAdd,Nat.reduceLeDiff,jac,jal,fo30,jaD,al1,uq,hh,hq,zq,jaf,jap,YW,jad,jae,jam,x1,x2,x3,Qj,K6,jas,jax,h0,c1]
   exact ⟨by simp [jau,h1],_,rfl⟩
 have c0:=eq_false h0
 rw [Kg h0]
 have hF:=find_call hs Q.other
 have hA:=jhz ht Q.left
 have hB:=jhz ho Q.right
 have wA:=jg7 ht.ok Q.left
 have wB:=jg7 ho.ok Q.right
 have hE:=jml wA wB (jgW ht.sh Q.left).2.1 (jgW ho.sh Q.right).2.1
 have iA:=jbC wA
 have iB:=jbC wB
 unfold jc1 at hF
 generalize colN t.cs Q.left=a at *
 generalize colN o.cs Q.right=b at *
 clear wA wB
 obtain ⟨qo,hqo⟩:∃ qo,(AObj.cells [.int .i64 Q.kind,ev,.int .i64 Q.lo,.int .i64 Q.hi,.int .i64 Q.p,.int .i64 Q.q,.str Q.column,.int .i64 Q.bound,rv,.int .i64 Q.strat,.bool Q.cons,.str Q.table,.int .i64 Q.keep,.str Q.other,.str Q.left,.str Q.right,.int .i64 Q.limit,wv,.str Q.factor,.int .i64 Q.bits] 30)=qo:=⟨_,rfl⟩
 have hP:=h.app [qo]
 have hH:∀ a:AObj,(L++[qo]++[a])[p]? = some (qobj Q ev wv rv lv t o cv):=fun a=>(hP.app [a]).has
 have hH1:=hP.has
 have hc1:(L++[qo])[L.length]? = some qo:=jaf _ _
 have hc2:∀ a,(L++[qo]++[a])[L.length]? = some qo:=fun a=>ja7 hc1 _
 have hc3:∀ a b,(L++[qo]++[a]++[b])[L.length]? = some qo:=fun a b=>ja7 (hc2 a) _
 have hH3:∀ a b:AObj,(L++[qo]++[a]++[b])[p]? = some (qobj Q ev wv rv lv t o cv):=fun a b=>((hP.app [a]).app [b]).has
 subst hqo
 simp -implicitDefEqProofs only [Tryz.f88,Ka,Nat.reduceLT,Nat.reduceEqDiff,Ke,Kc,reduceIte,Ys,Y0,Int.reduceEq,Int.reduceLT,Int.reduceLE,Int.reduceNeg,mb,Nat.reduceBEq,tys,stb,Vq,Va,jaa,Nat.reduceAdd,Nat.reduceLeDiff,jac,jal,fo30,jaD,al1,uq,hh,hq,zq,jaf,jap,YW,jad,jae,jam,x1,x2,x3,Qj,K6,jas,jax,c0,hH1,hc1,hF]
 refine ⟨by kernel_rfl,?_⟩
 refine jcS rfl (fun s=>s.heap[p]? = some (qobj Q ev wv rv lv t o cv)∧s.heap[L.length]? = some (.cells [.int .i64 Q.kind,ev,.int .i64 Q.lo,.int .i64 Q.hi,.int .i64 Q.p,.int .i64 Q.q,.str Q.column,.int .i64 Q.bound,rv,.int .i64 Q.strat,.bool Q.cons,.str Q.table,.int .i64 Q.keep,.str Q.other,.str Q.left,.str Q.right,.int .i64 Q.limit,wv,.str Q.factor,.int .i64 Q.bits] 30)) ⟨hH1,hc1⟩ (by kernel_rfl) ?_
 simp -implicitDefEqProofs only [Ka,Nat.reduceLT,Nat.reduceEqDiff,Ke,Kc,reduceIte,Ys,Y0,Int.reduceEq,Int.reduceLT,Int.reduceLE,Int.reduceNeg,mb,Nat.reduceBEq,tys,stb,Vq,Va,jaa,Nat.reduceAdd,Nat.reduceLeDiff,hhWa,hhWb,hhWc,hhWd,jac,jal,fo30,jaD,al1,uq,hH1,hc1,hA,zv41,jaf,jap,YW,jae,jad,iA,hH,hc2]
 refine ⟨fun s h=>by rw [h.1]; rfl,fun s h=>by rw [h.2]; rfl,fun _=>trivial,?_⟩
 refine jcS rfl (fun s=>s.heap[p]? = some (qobj Q ev wv rv lv t o cv)∧s.heap[L.length]? = some (.cells [.int .i64 Q.kind,ev,.int .i64 Q.lo,.int .i64 Q.hi,.int .i64 Q.p,.int .i64 Q.q,.str Q.column,.int .i64 Q.bound,rv,.int .i64 Q.strat,.bool Q.cons,.str Q.table,.int .i64 Q.keep,.str Q.other,.str Q.left,.str Q.right,.int .i64 Q.limit,wv,.str Q.factor,.int .i64 Q.bits] 30)) ⟨hH _,hc2 _⟩ (by kernel_rfl) ?_
 have hA3:∀ c,jcT (L++[AObj.cells [.int .i64 Q.kind,ev,.int .i64 Q.lo,.int .i64 Q.hi,.int .i64 Q.p,.int .i64 Q.q,.str Q.column,.int .i64 Q.bound,rv,.int .i64 Q.strat,.bool Q.cons,.str Q.table,.int .i64 Q.keep,.str Q.other,.str Q.left,.str Q.right,.int .i64 Q.limit,wv,.str Q.factor,.int .i64 Q.bits] 30]++[AObj.cells [.str a.name,.int .i64 a.lo,.int .i64 a.hi,a.w] 41]++[c])[(L++[AObj.cells [.int .i64 Q.kind,ev,.int .i64 Q.lo,.int .i64 Q.hi,.int .i64 Q.p,.int .i64 Q.q,.str Q.column,.int .i64 Q.bound,rv,.int .i64 Q.strat,.bool Q.cons,.str Q.table,.int .i64 Q.keep,.str Q.other,.str Q.left,.str Q.right,.int .i64 Q.limit,wv,.str Q.factor,.int .i64 Q.bits] 30]).length]? 3=some a.w:=fun c=>by rw [ja7 (jaf _ _)]; rfl
 by_cases s0:0≤jca ss Q.other ss.length 0
 case neg =>
  have d0:=eq_false s0
  simp -implicitDefEqProofs only [Ka,Nat.reduceLT,Nat.reduceEqDiff,Ke,Kc,reduceIte,Ys,Y0,Int.reduceEq,Int.reduceLT,Int.reduceLE,Int.reduceNeg,mb,Nat.reduceBEq,tys,stb,Vq,Va,jaa,Nat.reduceAdd,Nat.reduceLeDiff,hhWa,hhWb,hhWc,hhWd,jac,jal,fo30,jaD,al1,uq,hH1,hc1,hB,zv41,jaf,jap,YW,jae,jad,iB,hH,hc2,hH3,hc3,hA3,jaw,hE,d0]
  refine ⟨fun s h=>by rw [h.1]; rfl,fun s h=>by rw [h.2]; rfl,fun _=>trivial,?_⟩
  exact ⟨by first | rfl | (rw [Kh s0]; rfl) | (simp only [jau,d0,Ke,Kc,not_true_eq_false,Q5,true_or,or_true,false_or,or_false,ne_eq,and_self,and_false,false_and]; done) | simp [jau],_,by simp [K4]; rfl⟩
 have d0:=eq_true s0
 rw [Kg (fun q=>q s0)]
 cases s1:t.pub
 ·rw [Kg (fun q=>by simp at q)]
  by_cases s3:0≤jdu t.cs Q.left
  case neg =>
   have d3:=eq_false s3
   simp -implicitDefEqProofs only [Ka,Nat.reduceLT,Nat.reduceEqDiff,Ke,Kc,reduceIte,Ys,Y0,Int.reduceEq,Int.reduceLT,Int.reduceLE,Int.reduceNeg,mb,Nat.reduceBEq,tys,stb,Vq,Va,jaa,Nat.reduceAdd,Nat.reduceLeDiff,hhWa,hhWb,hhWc,hhWd,jac,jal,fo30,jaD,al1,uq,hH1,hc1,hB,zv41,jaf,jap,YW,jae,jad,iB,hH,hc2,hH3,hc3,hA3,jaw,hE,d0,s1,d3]
   refine ⟨fun s h=>by rw [h.1]; rfl,fun s h=>by rw [h.2]; rfl,fun _=>trivial,?_⟩
   exact ⟨by first | rfl | (rw [Kh (.inl s3)]; rfl) | (simp only [jau,d0,s1,d3,Ke,Kc,not_true_eq_false,Q5,true_or,or_true,false_or,or_false,ne_eq,and_self,and_false,false_and]; done) | simp [jau],_,by simp [K4]; rfl⟩
  have d3:=eq_true s3
  by_cases s4:0≤jdu o.cs Q.right
  case neg =>
   have d4:=eq_false s4
   simp -implicitDefEqProofs only [Ka,Nat.reduceLT,Nat.reduceEqDiff,Ke,Kc,reduceIte,Ys,Y0,Int.reduceEq,Int.reduceLT,Int.reduceLE,Int.reduceNeg,mb,Nat.reduceBEq,tys,stb,Vq,Va,jaa,Nat.reduceAdd,Nat.reduceLeDiff,hhWa,hhWb,hhWc,hhWd,jac,jal,fo30,jaD,al1,uq,hH1,hc1,hB,zv41,jaf,jap,YW,jae,jad,iB,hH,hc2,hH3,hc3,hA3,jaw,hE,d0,s1,d3,d4]
   refine ⟨fun s h=>by rw [h.1]; rfl,fun s h=>by rw [h.2]; rfl,fun _=>trivial,?_⟩
   exact ⟨by first | rfl | (rw [Kh (.inr s4)]; rfl) | (simp only [jau,d0,s1,d3,d4,Ke,Kc,not_true_eq_false,Q5,true_or,or_true,false_or,or_false,ne_eq,and_self,and_false,false_and]; done) | simp [jau],_,by simp [K4]; rfl⟩
  have d4:=eq_true s4
  rw [Kg (fun q=>q.elim (fun q=>q s3) (fun q=>q s4))]
  by_cases s5:a.ws=b.ws
  case neg =>
   have d5:=eq_false s5
   simp -implicitDefEqProofs only [Ka,Nat.reduceLT,Nat.reduceEqDiff,Ke,Kc,reduceIte,Ys,Y0,Int.reduceEq,Int.reduceLT,Int.reduceLE,Int.reduceNeg,mb,Nat.reduceBEq,tys,stb,Vq,Va,jaa,Nat.reduceAdd,Nat.reduceLeDiff,hhWa,hhWb,hhWc,hhWd,jac,jal,fo30,jaD,al1,uq,hH1,hc1,hB,zv41,jaf,jap,YW,jae,jad,iB,hH,hc2,hH3,hc3,hA3,jaw,hE,d0,s1,d3,d4,d5]
   refine ⟨fun s h=>by rw [h.1]; rfl,fun s h=>by rw [h.2]; rfl,fun _=>trivial,?_⟩
   exact ⟨by first | rfl | (rw [Kh s5]; rfl) | (simp only [jau,d0,s1,d3,d4,d5,Ke,Kc,not_true_eq_false,Q5,true_or,or_true,false_or,or_false,ne_eq,and_self,and_false,false_and]; done) | simp [jau],_,by simp [K4]; rfl⟩
  have d5:=eq_true s5
  rw [Kg (fun q=>q s5)]
  by_cases s6:Q.limit<1
  case pos =>
   simp -implicitDefEqProofs only [Ka,Nat.reduceLT,Nat.reduceEqDiff,Ke,Kc,reduceIte,Ys,Y0,Int.reduceEq,Int.reduceLT,Int.reduceLE,Int.reduceNeg,mb,Nat.reduceBEq,tys,stb,Vq,Va,jaa,Nat.reduceAdd,Nat.reduceLeDiff,hhWa,hhWb,hhWc,hhWd,jac,jal,fo30,jaD,al1,uq,hH1,hc1,hB,zv41,jaf,jap,YW,jae,jad,iB,hH,hc2,hH3,hc3,hA3,jaw,hE,d0,s1,d3,d4,d5,s6]
   refine ⟨fun s h=>by rw [h.1]; rfl,fun s h=>by rw [h.2]; rfl,fun _=>trivial,?_⟩
   exact ⟨by first | rfl | (rw [Kh (.inl trivial)]; rfl) | (simp only [jau,d0,s1,d3,d4,d5,s6,Ke,Kc,not_true_eq_false,Q5,true_or,or_true,false_or,or_false,ne_eq,and_self,and_false,false_and]; done) | simp [jau],_,by simp [K4]; rfl⟩
  by_cases s7:50<Q.limit
  case pos =>
   simp -implicitDefEqProofs only [Ka,Nat.reduceLT,Nat.reduceEqDiff,Ke,Kc,reduceIte,Ys,Y0,Int.reduceEq,Int.reduceLT,Int.reduceLE,Int.reduceNeg,mb,Nat.reduceBEq,tys,stb,Vq,Va,jaa,Nat.reduceAdd,Nat.reduceLeDiff,hhWa,hhWb,hhWc,hhWd,jac,jal,fo30,jaD,al1,uq,hH1,hc1,hB,zv41,jaf,jap,YW,jae,jad,iB,hH,hc2,hH3,hc3,hA3,jaw,hE,d0,s1,d3,d4,d5,s6,s7]
   refine ⟨fun s h=>by rw [h.1]; rfl,fun s h=>by rw [h.2]; rfl,fun _=>trivial,?_⟩
   exact ⟨by first | rfl | (rw [Kh (.inr trivial)]; rfl) | (simp only [jau,d0,s1,d3,d4,d5,s6,s7,Ke,Kc,not_true_eq_false,Q5,true_or,or_true,false_or,or_false,ne_eq,and_self,and_false,false_and]; done) | simp [jau],_,by simp [K4]; rfl⟩
  simp -implicitDefEqProofs only [Ka,Nat.reduceLT,Nat.reduceEqDiff,Ke,Kc,reduceIte,Ys,Y0,Int.reduceEq,Int.reduceLT,Int.reduceLE,Int.reduceNeg,mb,Nat.reduceBEq,tys,stb,Vq,Va,jaa,Nat.reduceAdd,Nat.reduceLeDiff,hhWa,hhWb,hhWc,hhWd,jac,jal,fo30,jaD,al1,uq,hH1,hc1,hB,zv41,jaf,jap,YW,jae,jad,iB,hH,hc2,hH3,hc3,hA3,jaw,hE,d0,s1,d3,d4,d5,s6,s7]
  refine ⟨fun s h=>by rw [h.1]; rfl,fun s h=>by rw [h.2]; rfl,fun _=>trivial,?_⟩
  exact ⟨by first | rfl | (simp [jau]) | (simp only [jau,d0,s1,d3,d4,d5,s6,s7,Ke,Kc,not_true_eq_false,Q5,true_or,or_true,false_or,or_false,ne_eq,and_self,and_false,false_and]; done) | simp [jau],_,by simp [K4]; rfl⟩
 ·cases s2:o.pub
  ·rw [Kh ⟨rfl,rfl⟩]
   simp -implicitDefEqProofs only [Ka,Nat.reduceLT,Nat.reduceEqDiff,Ke,Kc,reduceIte,Ys,Y0,Int.reduceEq,Int.reduceLT,Int.reduceLE,Int.reduceNeg,mb,Nat.reduceBEq,tys,stb,Vq,Va,jaa,Nat.reduceAdd,Nat.reduceLeDiff,hhWa,hhWb,hhWc,hhWd,jac,jal,fo30,jaD,al1,uq,hH1,hc1,hB,zv41,jaf,jap,YW,jae,jad,iB,hH,hc2,hH3,hc3,hA3,jaw,hE,d0,s1,s2]
   refine ⟨fun s h=>by rw [h.1]; rfl,fun s h=>by rw [h.2]; rfl,fun _=>trivial,?_⟩
   exact ⟨by first | rfl | (rfl) | (simp only [jau,d0,s1,s2,Ke,Kc,not_true_eq_false,Q5,true_or,or_true,false_or,or_false,ne_eq,and_self,and_false,false_and]; done) | simp [jau],_,by simp [K4]; rfl⟩
  ·rw [Kg (fun q=>by simp at q)]
   by_cases s3:0≤jdu t.cs Q.left
   case neg =>
    have d3:=eq_false s3
    simp -implicitDefEqProofs only [Ka,Nat.reduceLT,Nat.reduceEqDiff,Ke,Kc,reduceIte,Ys,Y0,Int.reduceEq,Int.reduceLT,Int.reduceLE,Int.reduceNeg,mb,Nat.reduceBEq,tys,stb,Vq,Va,jaa,Nat.reduceAdd,Nat.reduceLeDiff,hhWa,hhWb,hhWc,hhWd,jac,jal,fo30,jaD,al1,uq,hH1,hc1,hB,zv41,jaf,jap,YW,jae,jad,iB,hH,hc2,hH3,hc3,hA3,jaw,hE,d0,s1,s2,d3]
    refine ⟨fun s h=>by rw [h.1]; rfl,fun s h=>by rw [h.2]; rfl,fun _=>trivial,?_⟩
    exact ⟨by first | rfl | (rw [Kh (.inl s3)]; rfl) | (simp only [jau,d0,s1,s2,d3,Ke,Kc,not_true_eq_false,Q5,true_or,or_true,false_or,or_false,ne_eq,and_self,and_false,false_and]; done) | simp [jau],_,by simp [K4]; rfl⟩
   have d3:=eq_true s3
   by_cases s4:0≤jdu o.cs Q.right
   case neg =>
    have d4:=eq_false s4
    simp -implicitDefEqProofs only [Ka,Nat.reduceLT,Nat.reduceEqDiff,Ke,Kc,reduceIte,Ys,Y0,Int.reduceEq,Int.reduceLT,Int.reduceLE,Int.reduceNeg,mb,Nat.reduceBEq,tys,stb,Vq,Va,jaa,Nat.reduceAdd,Nat.reduceLeDiff,hhWa,hhWb,hhWc,hhWd,jac,jal,fo30,jaD,al1,uq,hH1,hc1,hB,zv41,jaf,jap,YW,jae,jad,iB,hH,hc2,hH3,hc3,hA3,jaw,hE,d0,s1,s2,d3,d4]
    refine ⟨fun s h=>by rw [h.1]; rfl,fun s h=>by rw [h.2]; rfl,fun _=>trivial,?_⟩
    exact ⟨by first | rfl | (rw [Kh (.inr s4)]; rfl) | (simp only [jau,d0,s1,s2,d3,d4,Ke,Kc,not_true_eq_false,Q5,true_or,or_true,false_or,or_false,ne_eq,and_self,and_false,false_and]; done) | simp [jau],_,by simp [K4]; rfl⟩
   have d4:=eq_true s4
   rw [Kg (fun q=>q.elim (fun q=>q s3) (fun q=>q s4))]
   by_cases s5:a.ws=b.ws
   case neg =>
    have d5:=eq_false s5
    simp -implicitDefEqProofs only [Ka,Nat.reduceLT,Nat.reduceEqDiff,Ke,Kc,reduceIte,Ys,Y0,Int.reduceEq,Int.reduceLT,Int.reduceLE,Int.reduceNeg,mb,Nat.reduceBEq,tys,stb,Vq,Va,jaa,Nat.reduceAdd,Nat.reduceLeDiff,hhWa,hhWb,hhWc,hhWd,jac,jal,fo30,jaD,al1,uq,hH1,hc1,hB,zv41,jaf,jap,YW,jae,jad,iB,hH,hc2,hH3,hc3,hA3,jaw,hE,d0,s1,s2,d3,d4,d5]
    refine ⟨fun s h=>by rw [h.1]; rfl,fun s h=>by rw [h.2]; rfl,fun _=>trivial,?_⟩
    exact ⟨by first | rfl | (rw [Kh s5]; rfl) | (simp only [jau,d0,s1,s2,d3,d4,d5,Ke,Kc,not_true_eq_false,Q5,true_or,or_true,false_or,or_false,ne_eq,and_self,and_false,false_and]; done) | simp [jau],_,by simp [K4]; rfl⟩
   have d5:=eq_true s5
   rw [Kg (fun q=>q s5)]
   by_cases s6:Q.limit<1
   case pos =>
    simp -implicitDefEqProofs only [Ka,Nat.reduceLT,Nat.reduceEqDiff,Ke,Kc,reduceIte,Ys,Y0,Int.reduceEq,Int.reduceLT,Int.reduceLE,Int.reduceNeg,mb,Nat.reduceBEq,tys,stb,Vq,Va,jaa,Nat.reduceAdd,Nat.reduceLeDiff,hhWa,hhWb,hhWc,hhWd,jac,jal,fo30,jaD,al1,uq,hH1,hc1,hB,zv41,jaf,jap,YW,jae,jad,iB,hH,hc2,hH3,hc3,hA3,jaw,hE,d0,s1,s2,d3,d4,d5,s6]
    refine ⟨fun s h=>by rw [h.1]; rfl,fun s h=>by rw [h.2]; rfl,fun _=>trivial,?_⟩
    exact ⟨by first | rfl | (rw [Kh (.inl trivial)]; rfl) | (simp only [jau,d0,s1,s2,d3,d4,d5,s6,Ke,Kc,not_true_eq_false,Q5,true_or,or_true,false_or,or_false,ne_eq,and_self,and_false,false_and]; done) | simp [jau],_,by simp [K4]; rfl⟩
   by_cases s7:50<Q.limit
   case pos =>
    simp -implicitDefEqProofs only [Ka,Nat.reduceLT,Nat.reduceEqDiff,Ke,Kc,reduceIte,Ys,Y0,Int.reduceEq,Int.reduceLT,Int.reduceLE,Int.reduceNeg,mb,Nat.reduceBEq,tys,stb,Vq,Va,jaa,Nat.reduceAdd,Nat.reduceLeDiff,hhWa,hhWb,hhWc,hhWd,jac,jal,fo30,jaD,al1,uq,hH1,hc1,hB,zv41,jaf,jap,YW,jae,jad,iB,hH,hc2,hH3,hc3,hA3,jaw,hE,d0,s1,s2,d3,d4,d5,s6,s7]
    refine ⟨fun s h=>by rw [h.1]; rfl,fun s h=>by rw [h.2]; rfl,fun _=>trivial,?_⟩
    exact ⟨by first | rfl | (rw [Kh (.inr trivial)]; rfl) | (simp only [jau,d0,s1,s2,d3,d4,d5,s6,s7,Ke,Kc,not_true_eq_false,Q5,true_or,or_true,false_or,or_false,ne_eq,and_self,and_false,false_and]; done) | simp [jau],_,by simp [K4]; rfl⟩
   simp -implicitDefEqProofs only [Ka,Nat.reduceLT,Nat.reduceEqDiff,Ke,Kc,reduceIte,Ys,Y0,Int.reduceEq,Int.reduceLT,Int.reduceLE,Int.reduceNeg,mb,Nat.reduceBEq,tys,stb,Vq,Va,jaa,Nat.reduceAdd,Nat.reduceLeDiff,hhWa,hhWb,hhWc,hhWd,jac,jal,fo30,jaD,al1,uq,hH1,hc1,hB,zv41,jaf,jap,YW,jae,jad,iB,hH,hc2,hH3,hc3,hA3,jaw,hE,d0,s1,s2,d3,d4,d5,s6,s7]
   refine ⟨fun s h=>by rw [h.1]; rfl,fun s h=>by rw [h.2]; rfl,fun _=>trivial,?_⟩
   exact ⟨by first | rfl | (simp [jau]) | (simp only [jau,d0,s1,s2,d3,d4,d5,s6,s7,Ke,Kc,not_true_eq_false,Q5,true_or,or_true,false_or,or_false,ne_eq,and_self,and_false,false_and]; done) | simp [jau],_,by simp [K4]; rfl⟩
end
end Go.Proofs.YtajaampgajieeaaGreatDoor.K
