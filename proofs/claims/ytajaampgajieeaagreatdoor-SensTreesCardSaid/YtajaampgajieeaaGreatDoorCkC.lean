/- Proved here: the join of a query. Conditions: each theorem's own. -/
import Derived.Test.YtajaampgajieeaaGreatDoorCkA
set_option linter.unusedSimpArgs false
set_option maxHeartbeats 16000000
set_option maxRecDepth 1000000
set_option linter.unusedVariables false
set_option linter.unusedSectionVars false
namespace Go.Proofs.YtajaampgajieeaaGreatDoor.K
open Go.Ab
theorem at88:env.P.funcs[88]? = some Tryz.f88:=ac
theorem jy8:env.P.funcs[167]? = some Tryz.f167:=ac
theorem jnC {v w:V}{a b:List (List UInt8)}(hv:IsW v a)(hw:IsW w b)(ha:a.length<=1000)(hb:b.length<=1000)(U:S):jah env (ev env) 167 [v,w] U=some (.bool (decide (a=b)),U):=by
 refine jaj (by simp[jct hv,jct hw]) jy8 rfl ?_ U;by_cases h1:a.length=b.length
 case neg =>
  have c1:((a.length:Int)=b.length)=False:=eq_false aa;have hn:¬a=b:=λe=>h1 (by rw[e])
  simp only[Tryz.f167,simprocAttr,zK,Vq,jai,jcX hv,jcX hw,c1];rw[decide_eq_false hn];rfl
 have c1:((a.length:Int)=b.length)=True:=eq_true aa;simp only[Tryz.f167,simprocAttr,zK,Vq,jai,jcX hv,jcX hw,c1];refine jau (λm T D U=>D=[]/\U=⟨[],[]⟩/\T 0=v/\T 1=w/\T 12=.int .i64 a.length/\∃i:Nat,T 13=.int .i64 i/\i<=a.length/\m=a.length-i/\∀j,j<i->a.getD j []=b.getD j []) ?_ (a.length-0) _ _ _ ⟨rfl,rfl,rfl,rfl,rfl,0,rfl,aa,rfl,λj hj=>aa⟩;rintro m T D U ⟨rfl,rfl,t0,t1,t12,i,t13,hi,rfl,hno⟩;refine jaC ?_;by_cases hlt:i<a.length
 ·have k1:(i:Int)<(a.length:Int):=by omega
  have e1:IntKind.i64.wrap ((i:Int)+1)=((i+1:Nat):Int):=by rw[wrap_i64 aa aa];omega
  have hx:=jnm hv hlt;have hy:=jnm hw (show i<b.length by omega);by_cases he:a.getD i []=b.getD i []
  ·have h0:=eq_true he;simp only[simprocAttr,zK,Vq,t0,t1,t12,t13,k1,e1,hx,hy,jaq,jaF,h0]
   exact⟨ac,a.length-(i+1),aa,i+1,rfl,aa,rfl,λj hj=>by
    rcases Ql j i with q|q
    ·exact hno j q
    ·obtain rfl:j=i:=by omega
     exact he⟩
  ·have h0:=eq_false he;have hn:¬a=b:=λe=>he (by rw[e])
   simp only[simprocAttr,zK,Vq,t0,t1,t12,t13,k1,e1,hx,hy,jaq,jaF,h0];exact⟨ac,by rw[decide_eq_false hn];rfl⟩
 ·have hi2:i=a.length:=by omega
  subst hi2;have k1:¬(a.length:Int)<(a.length:Int):=aa
  have hy:a=b:=by
   apply List.ext_getElem h1;intro k k1 k2;have:=hno k aa;simpa[List.getD,k1,k2]using this
  simp only[simprocAttr,zK,Vq,t0,t1,t12,t13,k1];rw[decide_eq_true hy];rfl
section
variable {Q:Qy}{ev wv rv lv cv:V}{t o:Sch}{L:List AObj}{p:Nat}
theorem jr4(h:QO Q ev wv rv lv t o cv L p){ss:List Sch}(hs:SS lv ss)(ht:CV t.cv t.cs)(ho:CV o.cv o.cs)(hx:ev.isCell=true/\wv.isCell=true/\rv.isCell=true)(ts:List Nat):∃v U',jah env (Go.Ab.ev env) 88 [.ptr p 0] ⟨L,ts⟩=some (v,U')/\v=.int .i64 (jiH Q ss t o)/\∃X,U'=⟨L++X,ts⟩:=by
 refine jaD at88 rfl ?_;have hh:=h.has;have hq:=h.ldq;obtain⟨x1,x2,x3⟩:=hx;unfold Qy.cells at hq;unfold jiH;by_cases h0:Q.other=[]
 ·have c0:=eq_true h0;rw[Kg h0];by_cases h1:Q.left=[]
  ·by_cases h2:Q.right=[]
   ·by_cases h3:Q.limit=0
    ·simp only[Tryz.f88,simprocAttr,zK,K0,jaa,K3,fo30,jaJ,al1,uq,hh,hq,zq,K2,Qf,x1,x2,x3,Q5,K8,jax,jaF,h0,h1,h2,h3];exact⟨by simp[jaB],_,rfl⟩
    ·have c3:=eq_false h3;simp only[Tryz.f88,simprocAttr,zK,K0,jaa,K3,fo30,jaJ,al1,uq,hh,hq,zq,K2,Qf,x1,x2,x3,Q5,K8,jax,jaF,h0,h1,h2,c3];exact⟨by simp[jaB,h3],_,rfl⟩
   ·have c2:=eq_false h2;simp only[Tryz.f88,simprocAttr,zK,K0,jaa,K3,fo30,jaJ,al1,uq,hh,hq,zq,K2,Qf,x1,x2,x3,Q5,K8,jax,jaF,h0,h1,c2];exact⟨by simp[jaB,h2],_,rfl⟩
  ·have c1:=eq_false h1;simp only[Tryz.f88,simprocAttr,zK,K0,jaa,K3,fo30,jaJ,al1,uq,hh,hq,zq,K2,Qf,x1,x2,x3,Q5,K8,jax,jaF,h0,c1];exact⟨by simp[jaB,h1],_,rfl⟩
 have c0:=eq_false h0;rw[Ke h0];have hF:=find_call hs Q.other;have hA:=jhY ht Q.left;have hB:=jhY ho Q.right;have wA:=jgK ht.ok Q.left;have wB:=jgK ho.ok Q.right;have hE:=jnC wA wB (jhk ht.sh Q.left).2.1 (jhk ho.sh Q.right).2.1;have iA:=jbf wA;have iB:=jbf wB;unfold jcn at hF;generalize colN t.cs Q.left=a at *;generalize colN o.cs Q.right=b at *;clear wA wB;obtain⟨qo,hqo⟩:∃qo,(AObj.cells [.int .i64 Q.kind,ev,.int .i64 Q.lo,.int .i64 Q.hi,.int .i64 Q.p,.int .i64 Q.q,.str Q.column,.int .i64 Q.bound,rv,.int .i64 Q.strat,.bool Q.cons,.str Q.table,.int .i64 Q.keep,.str Q.other,.str Q.left,.str Q.right,.int .i64 Q.limit,wv,.str Q.factor,.int .i64 Q.bits] 30)=qo:=⟨_,rfl⟩;have hP:=h.app [qo];have hH:∀a:AObj,(L++[qo]++[a])[p]? = some (qobj Q ev wv rv lv t o cv):=λa=>(hP.app [a]).has
 have hH1:=hP.has;have hc1:(L++[qo])[L.length]? = some qo:=jad _ _;have hc2:∀a,(L++[qo]++[a])[L.length]? = some qo:=λa=>jaE hc1 _
 have hc3:∀a b,(L++[qo]++[a]++[b])[L.length]? = some qo:=λa b=>jaE (hc2 a) _
 have hH3:∀a b:AObj,(L++[qo]++[a]++[b])[p]? = some (qobj Q ev wv rv lv t o cv):=λa b=>((hP.app [a]).app [b]).has
 subst hqo;simp only[Tryz.f88,simprocAttr,zK,K0,jaa,K3,fo30,jaJ,al1,uq,hh,hq,zq,K2,Qf,x1,x2,x3,Q5,K8,jax,jaF,c0,hH1,hc1,hF];refine⟨ac,?_⟩;refine jcI rfl (λs=>s.heap[p]? = some (qobj Q ev wv rv lv t o cv)/\s.heap[L.length]? = some (.cells [.int .i64 Q.kind,ev,.int .i64 Q.lo,.int .i64 Q.hi,.int .i64 Q.p,.int .i64 Q.q,.str Q.column,.int .i64 Q.bound,rv,.int .i64 Q.strat,.bool Q.cons,.str Q.table,.int .i64 Q.keep,.str Q.other,.str Q.left,.str Q.right,.int .i64 Q.limit,wv,.str Q.factor,.int .i64 Q.bits] 30)) ⟨hH1,hc1⟩ ac ?_;simp only[simprocAttr,zK,K0,jaa,Kf,K3,fo30,jaJ,al1,uq,hH1,hc1,hA,zv41,K2,jae,jac,iA,hH,hc2];refine⟨λs h=>by rw[h.1];rfl,λs h=>by rw[h.2];rfl,λ_=>trivial,?_⟩;refine jcI rfl (λs=>s.heap[p]? = some (qobj Q ev wv rv lv t o cv)/\s.heap[L.length]? = some (.cells [.int .i64 Q.kind,ev,.int .i64 Q.lo,.int .i64 Q.hi,.int .i64 Q.p,.int .i64 Q.q,.str Q.column,.int .i64 Q.bound,rv,.int .i64 Q.strat,.bool Q.cons,.str Q.table,.int .i64 Q.keep,.str Q.other,.str Q.left,.str Q.right,.int .i64 Q.limit,wv,.str Q.factor,.int .i64 Q.bits] 30)) ⟨hH _,hc2 _⟩ ac ?_;have hA3:∀c,jce (L++[AObj.cells [.int .i64 Q.kind,ev,.int .i64 Q.lo,.int .i64 Q.hi,.int .i64 Q.p,.int .i64 Q.q,.str Q.column,.int .i64 Q.bound,rv,.int .i64 Q.strat,.bool Q.cons,.str Q.table,.int .i64 Q.keep,.str Q.other,.str Q.left,.str Q.right,.int .i64 Q.limit,wv,.str Q.factor,.int .i64 Q.bits] 30]++[AObj.cells [.str a.name,.int .i64 a.lo,.int .i64 a.hi,a.w] 41]++[c])[(L++[AObj.cells [.int .i64 Q.kind,ev,.int .i64 Q.lo,.int .i64 Q.hi,.int .i64 Q.p,.int .i64 Q.q,.str Q.column,.int .i64 Q.bound,rv,.int .i64 Q.strat,.bool Q.cons,.str Q.table,.int .i64 Q.keep,.str Q.other,.str Q.left,.str Q.right,.int .i64 Q.limit,wv,.str Q.factor,.int .i64 Q.bits] 30]).length]? 3=some a.w:=λc=>by rw[jaE (jad _ _)];rfl
 by_cases s0:0<=ja3 ss Q.other ss.length 0
 case neg =>
  have d0:=eq_false s0;simp only[simprocAttr,zK,K0,jaa,Kf,K3,fo30,jaJ,al1,uq,hH1,hc1,hB,zv41,K2,jae,jac,iB,hH,hc2,hH3,hc3,hA3,jaq,hE,d0];refine⟨λs h=>by rw[h.1];rfl,λs h=>by rw[h.2];rfl,λ_=>trivial,?_⟩;exact⟨by first|rfl|(rw[Kg s0];rfl)|(simp only[jaB,d0,Kl,Kn,not_true_eq_false,Je,true_or,or_true,false_or,or_false,ne_eq,and_self,and_false,false_and];done)|simp[jaB],_,by simp[K7];rfl⟩
 have d0:=eq_true s0;rw[Ke (λq=>q s0)];cases s1:t.pub
 ·rw[Ke (λq=>by simp at q)];by_cases s3:0<=jbg t.cs Q.left
  case neg =>
   have d3:=eq_false s3;simp only[simprocAttr,zK,K0,jaa,Kf,K3,fo30,jaJ,al1,uq,hH1,hc1,hB,zv41,K2,jae,jac,iB,hH,hc2,hH3,hc3,hA3,jaq,hE,d0,s1,d3];refine⟨λs h=>by rw[h.1];rfl,λs h=>by rw[h.2];rfl,λ_=>trivial,?_⟩;exact⟨by first|rfl|(rw[Kg (.inl s3)];rfl)|(simp only[jaB,d0,s1,d3,Kl,Kn,not_true_eq_false,Je,true_or,or_true,false_or,or_false,ne_eq,and_self,and_false,false_and];done)|simp[jaB],_,by simp[K7];rfl⟩
  have d3:=eq_true s3;by_cases s4:0<=jbg o.cs Q.right
  case neg =>
   have d4:=eq_false s4;simp only[simprocAttr,zK,K0,jaa,Kf,K3,fo30,jaJ,al1,uq,hH1,hc1,hB,zv41,K2,jae,jac,iB,hH,hc2,hH3,hc3,hA3,jaq,hE,d0,s1,d3,d4];refine⟨λs h=>by rw[h.1];rfl,λs h=>by rw[h.2];rfl,λ_=>trivial,?_⟩;exact⟨by first|rfl|(rw[Kg (.inr s4)];rfl)|(simp only[jaB,d0,s1,d3,d4,Kl,Kn,not_true_eq_false,Je,true_or,or_true,false_or,or_false,ne_eq,and_self,and_false,false_and];done)|simp[jaB],_,by simp[K7];rfl⟩
  have d4:=eq_true s4;rw[Ke (λq=>q.elim (λq=>q s3) (λq=>q s4))];by_cases s5:a.ws=b.ws
  case neg =>
   have d5:=eq_false s5;simp only[simprocAttr,zK,K0,jaa,Kf,K3,fo30,jaJ,al1,uq,hH1,hc1,hB,zv41,K2,jae,jac,iB,hH,hc2,hH3,hc3,hA3,jaq,hE,d0,s1,d3,d4,d5];refine⟨λs h=>by rw[h.1];rfl,λs h=>by rw[h.2];rfl,λ_=>trivial,?_⟩;exact⟨by first|rfl|(rw[Kg s5];rfl)|(simp only[jaB,d0,s1,d3,d4,d5,Kl,Kn,not_true_eq_false,Je,true_or,or_true,false_or,or_false,ne_eq,and_self,and_false,false_and];done)|simp[jaB],_,by simp[K7];rfl⟩
  have d5:=eq_true s5;rw[Ke (λq=>q s5)];by_cases s6:Q.limit<1
  case pos =>
   simp only[simprocAttr,zK,K0,jaa,Kf,K3,fo30,jaJ,al1,uq,hH1,hc1,hB,zv41,K2,jae,jac,iB,hH,hc2,hH3,hc3,hA3,jaq,hE,d0,s1,d3,d4,d5,s6];refine⟨λs h=>by rw[h.1];rfl,λs h=>by rw[h.2];rfl,λ_=>trivial,?_⟩;exact⟨by first|rfl|(rw[Kg (.inl trivial)];rfl)|(simp only[jaB,d0,s1,d3,d4,d5,s6,Kl,Kn,not_true_eq_false,Je,true_or,or_true,false_or,or_false,ne_eq,and_self,and_false,false_and];done)|simp[jaB],_,by simp[K7];rfl⟩
  by_cases s7:50<Q.limit
  case pos =>
   simp only[simprocAttr,zK,K0,jaa,Kf,K3,fo30,jaJ,al1,uq,hH1,hc1,hB,zv41,K2,jae,jac,iB,hH,hc2,hH3,hc3,hA3,jaq,hE,d0,s1,d3,d4,d5,s6,s7];refine⟨λs h=>by rw[h.1];rfl,λs h=>by rw[h.2];rfl,λ_=>trivial,?_⟩;exact⟨by first|rfl|(rw[Kg (.inr trivial)];rfl)|(simp only[jaB,d0,s1,d3,d4,d5,s6,s7,Kl,Kn,not_true_eq_false,Je,true_or,or_true,false_or,or_false,ne_eq,and_self,and_false,false_and];done)|simp[jaB],_,by simp[K7];rfl⟩
  simp only[simprocAttr,zK,K0,jaa,Kf,K3,fo30,jaJ,al1,uq,hH1,hc1,hB,zv41,K2,jae,jac,iB,hH,hc2,hH3,hc3,hA3,jaq,hE,d0,s1,d3,d4,d5,s6,s7];refine⟨λs h=>by rw[h.1];rfl,λs h=>by rw[h.2];rfl,λ_=>trivial,?_⟩;exact⟨by first|rfl|(simp[jaB])|(simp only[jaB,d0,s1,d3,d4,d5,s6,s7,Kl,Kn,not_true_eq_false,Je,true_or,or_true,false_or,or_false,ne_eq,and_self,and_false,false_and];done)|simp[jaB],_,by simp[K7];rfl⟩
 ·cases s2:o.pub
  ·rw[Kg ⟨rfl,rfl⟩];simp only[simprocAttr,zK,K0,jaa,Kf,K3,fo30,jaJ,al1,uq,hH1,hc1,hB,zv41,K2,jae,jac,iB,hH,hc2,hH3,hc3,hA3,jaq,hE,d0,s1,s2];refine⟨λs h=>by rw[h.1];rfl,λs h=>by rw[h.2];rfl,λ_=>trivial,?_⟩;exact⟨by first|rfl|(rfl)|(simp only[jaB,d0,s1,s2,Kl,Kn,not_true_eq_false,Je,true_or,or_true,false_or,or_false,ne_eq,and_self,and_false,false_and];done)|simp[jaB],_,by simp[K7];rfl⟩
  ·rw[Ke (λq=>by simp at q)];by_cases s3:0<=jbg t.cs Q.left
   case neg =>
    have d3:=eq_false s3;simp only[simprocAttr,zK,K0,jaa,Kf,K3,fo30,jaJ,al1,uq,hH1,hc1,hB,zv41,K2,jae,jac,iB,hH,hc2,hH3,hc3,hA3,jaq,hE,d0,s1,s2,d3];refine⟨λs h=>by rw[h.1];rfl,λs h=>by rw[h.2];rfl,λ_=>trivial,?_⟩;exact⟨by first|rfl|(rw[Kg (.inl s3)];rfl)|(simp only[jaB,d0,s1,s2,d3,Kl,Kn,not_true_eq_false,Je,true_or,or_true,false_or,or_false,ne_eq,and_self,and_false,false_and];done)|simp[jaB],_,by simp[K7];rfl⟩
   have d3:=eq_true s3;by_cases s4:0<=jbg o.cs Q.right
   case neg =>
    have d4:=eq_false s4;simp only[simprocAttr,zK,K0,jaa,Kf,K3,fo30,jaJ,al1,uq,hH1,hc1,hB,zv41,K2,jae,jac,iB,hH,hc2,hH3,hc3,hA3,jaq,hE,d0,s1,s2,d3,d4];refine⟨λs h=>by rw[h.1];rfl,λs h=>by rw[h.2];rfl,λ_=>trivial,?_⟩;exact⟨by first|rfl|(rw[Kg (.inr s4)];rfl)|(simp only[jaB,d0,s1,s2,d3,d4,Kl,Kn,not_true_eq_false,Je,true_or,or_true,false_or,or_false,ne_eq,and_self,and_false,false_and];done)|simp[jaB],_,by simp[K7];rfl⟩
   have d4:=eq_true s4;rw[Ke (λq=>q.elim (λq=>q s3) (λq=>q s4))];by_cases s5:a.ws=b.ws
   case neg =>
    have d5:=eq_false s5;simp only[simprocAttr,zK,K0,jaa,Kf,K3,fo30,jaJ,al1,uq,hH1,hc1,hB,zv41,K2,jae,jac,iB,hH,hc2,hH3,hc3,hA3,jaq,hE,d0,s1,s2,d3,d4,d5];refine⟨λs h=>by rw[h.1];rfl,λs h=>by rw[h.2];rfl,λ_=>trivial,?_⟩;exact⟨by first|rfl|(rw[Kg s5];rfl)|(simp only[jaB,d0,s1,s2,d3,d4,d5,Kl,Kn,not_true_eq_false,Je,true_or,or_true,false_or,or_false,ne_eq,and_self,and_false,false_and];done)|simp[jaB],_,by simp[K7];rfl⟩
   have d5:=eq_true s5;rw[Ke (λq=>q s5)];by_cases s6:Q.limit<1
   case pos =>
    simp only[simprocAttr,zK,K0,jaa,Kf,K3,fo30,jaJ,al1,uq,hH1,hc1,hB,zv41,K2,jae,jac,iB,hH,hc2,hH3,hc3,hA3,jaq,hE,d0,s1,s2,d3,d4,d5,s6];refine⟨λs h=>by rw[h.1];rfl,λs h=>by rw[h.2];rfl,λ_=>trivial,?_⟩;exact⟨by first|rfl|(rw[Kg (.inl trivial)];rfl)|(simp only[jaB,d0,s1,s2,d3,d4,d5,s6,Kl,Kn,not_true_eq_false,Je,true_or,or_true,false_or,or_false,ne_eq,and_self,and_false,false_and];done)|simp[jaB],_,by simp[K7];rfl⟩
   by_cases s7:50<Q.limit
   case pos =>
    simp only[simprocAttr,zK,K0,jaa,Kf,K3,fo30,jaJ,al1,uq,hH1,hc1,hB,zv41,K2,jae,jac,iB,hH,hc2,hH3,hc3,hA3,jaq,hE,d0,s1,s2,d3,d4,d5,s6,s7];refine⟨λs h=>by rw[h.1];rfl,λs h=>by rw[h.2];rfl,λ_=>trivial,?_⟩;exact⟨by first|rfl|(rw[Kg (.inr trivial)];rfl)|(simp only[jaB,d0,s1,s2,d3,d4,d5,s6,s7,Kl,Kn,not_true_eq_false,Je,true_or,or_true,false_or,or_false,ne_eq,and_self,and_false,false_and];done)|simp[jaB],_,by simp[K7];rfl⟩
   simp only[simprocAttr,zK,K0,jaa,Kf,K3,fo30,jaJ,al1,uq,hH1,hc1,hB,zv41,K2,jae,jac,iB,hH,hc2,hH3,hc3,hA3,jaq,hE,d0,s1,s2,d3,d4,d5,s6,s7];refine⟨λs h=>by rw[h.1];rfl,λs h=>by rw[h.2];rfl,λ_=>trivial,?_⟩;exact⟨by first|rfl|(simp[jaB])|(simp only[jaB,d0,s1,s2,d3,d4,d5,s6,s7,Kl,Kn,not_true_eq_false,Je,true_or,or_true,false_or,or_false,ne_eq,and_self,and_false,false_and];done)|simp[jaB],_,by simp[K7];rfl⟩
end
end Go.Proofs.YtajaampgajieeaaGreatDoor.K
