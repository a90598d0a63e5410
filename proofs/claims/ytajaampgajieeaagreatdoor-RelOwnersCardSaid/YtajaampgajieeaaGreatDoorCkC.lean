/- Proved here: the join of a query. Conditions: each theorem's own. -/
import Derived.Test.YtajaampgajieeaaGreatDoorCkA
set_option linter.unusedSimpArgs false
set_option maxHeartbeats 16000000
set_option maxRecDepth 1000000
set_option linter.unusedVariables false
set_option linter.unusedSectionVars false
namespace Go.Proofs.YtajaampgajieeaaGreatDoor.K
open Go.Ab
theorem at88:env.P.funcs[88]? = some Tryz.f88:=ac
theorem jxM:env.P.funcs[167]? = some Tryz.f167:=ac
theorem jmT {v w:V}{a b:List (List UInt8)}(hv:IsW v a)(hw:IsW w b)(ha:a.length<=1000)(hb:b.length<=1000)(U:S):jaf env (ev env) 167 [v,w] U=some (.bool (decide (a=b)),U):=by
 refine jak (by simp[jcn hv,jcn hw]) jxM rfl ?_ U;by_cases h1:a.length=b.length
 case neg =>
  have c1:((a.length:Int)=b.length)=False:=eq_false aa;have hn:¬a=b:=λe=>h1 (by rw[e])
  simp only[Tryz.f167,simprocAttr,zK,Vq,jaj,jcU hv,jcU hw,c1];rw[decide_eq_false hn];rfl
 have c1:((a.length:Int)=b.length)=True:=eq_true aa;simp only[Tryz.f167,simprocAttr,zK,Vq,jaj,jcU hv,jcU hw,c1];refine jax (λm T D U=>D=[]/\U=⟨[],[]⟩/\T 0=v/\T 1=w/\T 12=.int .i64 a.length/\∃i:Nat,T 13=.int .i64 i/\i<=a.length/\m=a.length-i/\∀j,j<i->a.getD j []=b.getD j []) ?_ (a.length-0) _ _ _ ⟨rfl,rfl,rfl,rfl,rfl,0,rfl,aa,rfl,λj hj=>aa⟩;rintro m T D U ⟨rfl,rfl,t0,t1,t12,i,t13,hi,rfl,hno⟩;refine jaB ?_;by_cases hlt:i<a.length
 ·have k1:(i:Int)<(a.length:Int):=by omega
  have e1:IntKind.i64.wrap ((i:Int)+1)=((i+1:Nat):Int):=by rw[wrap_i64 aa aa];omega
  have hx:=jmC hv hlt;have hy:=jmC hw (show i<b.length by omega);by_cases he:a.getD i []=b.getD i []
  ·have h0:=eq_true he;simp only[simprocAttr,zK,Vq,t0,t1,t12,t13,k1,e1,hx,hy,jar,jaE,h0]
   exact⟨ac,a.length-(i+1),aa,i+1,rfl,aa,rfl,λj hj=>by
    rcases Qm j i with q|q
    ·exact hno j q
    ·obtain rfl:j=i:=by omega
     exact he⟩
  ·have h0:=eq_false he;have hn:¬a=b:=λe=>he (by rw[e])
   simp only[simprocAttr,zK,Vq,t0,t1,t12,t13,k1,e1,hx,hy,jar,jaE,h0];exact⟨ac,by rw[decide_eq_false hn];rfl⟩
 ·have hi2:i=a.length:=by omega
  subst hi2;have k1:¬(a.length:Int)<(a.length:Int):=aa
  have hy:a=b:=by
   apply List.ext_getElem h1;intro k k1 k2;have:=hno k aa;simpa[List.getD,k1,k2]using this
  simp only[simprocAttr,zK,Vq,t0,t1,t12,t13,k1];rw[decide_eq_true hy];rfl
section
variable {Q:Qy}{ev wv rv lv cv:V}{t o:Sch}{L:List AObj}{p:Nat}
theorem jqR(h:QO Q ev wv rv lv t o cv L p){ss:List Sch}(hs:SS lv ss)(ht:CV t.cv t.cs)(ho:CV o.cv o.cs)(hx:ev.isCell=true/\wv.isCell=true/\rv.isCell=true)(ts:List Nat):∃v U',jaf env (Go.Ab.ev env) 88 [.ptr p 0] ⟨L,ts⟩=some (v,U')/\v=.int .i64 (jlp Q ss t o)/\∃X,U'=⟨L++X,ts⟩:=by
 refine jaD at88 rfl ?_;have hh:=h.has;have hq:=h.ldq;obtain⟨x1,x2,x3⟩:=hx;unfold Qy.cells at hq;unfold jlp;by_cases h0:Q.other=[]
 ·have c0:=eq_true h0;rw[Kj h0];by_cases h1:Q.left=[]
  ·by_cases h2:Q.right=[]
   ·by_cases h3:Q.limit=0
    ·simp only[Tryz.f88,simprocAttr,zK,K1,jaa,K3,fo30,jaH,al1,uq,hh,hq,zq,K2,Qf,x1,x2,x3,Qt,K6,jaA,jaE,h0,h1,h2,h3];exact⟨by simp[jay],_,rfl⟩
    ·have c3:=eq_false h3;simp only[Tryz.f88,simprocAttr,zK,K1,jaa,K3,fo30,jaH,al1,uq,hh,hq,zq,K2,Qf,x1,x2,x3,Qt,K6,jaA,jaE,h0,h1,h2,c3];exact⟨by simp[jay,h3],_,rfl⟩
   ·have c2:=eq_false h2;simp only[Tryz.f88,simprocAttr,zK,K1,jaa,K3,fo30,jaH,al1,uq,hh,hq,zq,K2,Qf,x1,x2,x3,Qt,K6,jaA,jaE,h0,h1,c2];exact⟨by simp[jay,h2],_,rfl⟩
  ·have c1:=eq_false h1;simp only[Tryz.f88,simprocAttr,zK,K1,jaa,K3,fo30,jaH,al1,uq,hh,hq,zq,K2,Qf,x1,x2,x3,Qt,K6,jaA,jaE,h0,c1];exact⟨by simp[jay,h1],_,rfl⟩
 have c0:=eq_false h0;rw[Kh h0];have hF:=find_call hs Q.other;have hA:=jhC ht Q.left;have hB:=jhC ho Q.right;have wA:=jgu ht.ok Q.left;have wB:=jgu ho.ok Q.right;have hE:=jmT wA wB (jg7 ht.sh Q.left).2.1 (jg7 ho.sh Q.right).2.1;have iA:=jbe wA;have iB:=jbe wB;unfold jcF at hF;generalize colN t.cs Q.left=a at *;generalize colN o.cs Q.right=b at *;clear wA wB;obtain⟨qo,hqo⟩:∃qo,(AObj.cells [.int .i64 Q.kind,ev,.int .i64 Q.lo,.int .i64 Q.hi,.int .i64 Q.p,.int .i64 Q.q,.str Q.column,.int .i64 Q.bound,rv,.int .i64 Q.strat,.bool Q.cons,.str Q.table,.int .i64 Q.keep,.str Q.other,.str Q.left,.str Q.right,.int .i64 Q.limit,wv,.str Q.factor,.int .i64 Q.bits] 30)=qo:=⟨_,rfl⟩;have hP:=h.app [qo];have hH:∀a:AObj,(L++[qo]++[a])[p]? = some (qobj Q ev wv rv lv t o cv):=λa=>(hP.app [a]).has
 have hH1:=hP.has;have hc1:(L++[qo])[L.length]? = some qo:=jad _ _;have hc2:∀a,(L++[qo]++[a])[L.length]? = some qo:=λa=>jaG hc1 _
 have hc3:∀a b,(L++[qo]++[a]++[b])[L.length]? = some qo:=λa b=>jaG (hc2 a) _
 have hH3:∀a b:AObj,(L++[qo]++[a]++[b])[p]? = some (qobj Q ev wv rv lv t o cv):=λa b=>((hP.app [a]).app [b]).has
 subst hqo;simp only[Tryz.f88,simprocAttr,zK,K1,jaa,K3,fo30,jaH,al1,uq,hh,hq,zq,K2,Qf,x1,x2,x3,Qt,K6,jaA,jaE,c0,hH1,hc1,hF];refine⟨ac,?_⟩;refine jcE rfl (λs=>s.heap[p]? = some (qobj Q ev wv rv lv t o cv)/\s.heap[L.length]? = some (.cells [.int .i64 Q.kind,ev,.int .i64 Q.lo,.int .i64 Q.hi,.int .i64 Q.p,.int .i64 Q.q,.str Q.column,.int .i64 Q.bound,rv,.int .i64 Q.strat,.bool Q.cons,.str Q.table,.int .i64 Q.keep,.str Q.other,.str Q.left,.str Q.right,.int .i64 Q.limit,wv,.str Q.factor,.int .i64 Q.bits] 30)) ⟨hH1,hc1⟩ ac ?_;simp only[simprocAttr,zK,K1,jaa,Kf,K3,fo30,jaH,al1,uq,hH1,hc1,hA,zv41,K2,jae,jac,iA,hH,hc2];refine⟨λs h=>by rw[h.1];rfl,λs h=>by rw[h.2];rfl,λ_=>trivial,?_⟩;refine jcE rfl (λs=>s.heap[p]? = some (qobj Q ev wv rv lv t o cv)/\s.heap[L.length]? = some (.cells [.int .i64 Q.kind,ev,.int .i64 Q.lo,.int .i64 Q.hi,.int .i64 Q.p,.int .i64 Q.q,.str Q.column,.int .i64 Q.bound,rv,.int .i64 Q.strat,.bool Q.cons,.str Q.table,.int .i64 Q.keep,.str Q.other,.str Q.left,.str Q.right,.int .i64 Q.limit,wv,.str Q.factor,.int .i64 Q.bits] 30)) ⟨hH _,hc2 _⟩ ac ?_;have hA3:∀c,jcm (L++[AObj.cells [.int .i64 Q.kind,ev,.int .i64 Q.lo,.int .i64 Q.hi,.int .i64 Q.p,.int .i64 Q.q,.str Q.column,.int .i64 Q.bound,rv,.int .i64 Q.strat,.bool Q.cons,.str Q.table,.int .i64 Q.keep,.str Q.other,.str Q.left,.str Q.right,.int .i64 Q.limit,wv,.str Q.factor,.int .i64 Q.bits] 30]++[AObj.cells [.str a.name,.int .i64 a.lo,.int .i64 a.hi,a.w] 41]++[c])[(L++[AObj.cells [.int .i64 Q.kind,ev,.int .i64 Q.lo,.int .i64 Q.hi,.int .i64 Q.p,.int .i64 Q.q,.str Q.column,.int .i64 Q.bound,rv,.int .i64 Q.strat,.bool Q.cons,.str Q.table,.int .i64 Q.keep,.str Q.other,.str Q.left,.str Q.right,.int .i64 Q.limit,wv,.str Q.factor,.int .i64 Q.bits] 30]).length]? 3=some a.w:=λc=>by rw[jaG (jad _ _)];rfl
 by_cases s0:0<=ja3 ss Q.other ss.length 0
 case neg =>
  have d0:=eq_false s0;simp only[simprocAttr,zK,K1,jaa,Kf,K3,fo30,jaH,al1,uq,hH1,hc1,hB,zv41,K2,jae,jac,iB,hH,hc2,hH3,hc3,hA3,jar,hE,d0];refine⟨λs h=>by rw[h.1];rfl,λs h=>by rw[h.2];rfl,λ_=>trivial,?_⟩;exact⟨by first|rfl|(rw[Kj s0];rfl)|(simp only[jay,d0,Km,Kq,not_true_eq_false,Q9,true_or,or_true,false_or,or_false,ne_eq,and_self,and_false,false_and];done)|simp[jay],_,by simp[Qg];rfl⟩
 have d0:=eq_true s0;rw[Kh (λq=>q s0)];cases s1:t.pub
 ·rw[Kh (λq=>by simp at q)];by_cases s3:0<=jb6 t.cs Q.left
  case neg =>
   have d3:=eq_false s3;simp only[simprocAttr,zK,K1,jaa,Kf,K3,fo30,jaH,al1,uq,hH1,hc1,hB,zv41,K2,jae,jac,iB,hH,hc2,hH3,hc3,hA3,jar,hE,d0,s1,d3];refine⟨λs h=>by rw[h.1];rfl,λs h=>by rw[h.2];rfl,λ_=>trivial,?_⟩;exact⟨by first|rfl|(rw[Kj (.inl s3)];rfl)|(simp only[jay,d0,s1,d3,Km,Kq,not_true_eq_false,Q9,true_or,or_true,false_or,or_false,ne_eq,and_self,and_false,false_and];done)|simp[jay],_,by simp[Qg];rfl⟩
  have d3:=eq_true s3;by_cases s4:0<=jb6 o.cs Q.right
  case neg =>
   have d4:=eq_false s4;simp only[simprocAttr,zK,K1,jaa,Kf,K3,fo30,jaH,al1,uq,hH1,hc1,hB,zv41,K2,jae,jac,iB,hH,hc2,hH3,hc3,hA3,jar,hE,d0,s1,d3,d4];refine⟨λs h=>by rw[h.1];rfl,λs h=>by rw[h.2];rfl,λ_=>trivial,?_⟩;exact⟨by first|rfl|(rw[Kj (.inr s4)];rfl)|(simp only[jay,d0,s1,d3,d4,Km,Kq,not_true_eq_false,Q9,true_or,or_true,false_or,or_false,ne_eq,and_self,and_false,false_and];done)|simp[jay],_,by simp[Qg];rfl⟩
  have d4:=eq_true s4;rw[Kh (λq=>q.elim (λq=>q s3) (λq=>q s4))];by_cases s5:a.ws=b.ws
  case neg =>
   have d5:=eq_false s5;simp only[simprocAttr,zK,K1,jaa,Kf,K3,fo30,jaH,al1,uq,hH1,hc1,hB,zv41,K2,jae,jac,iB,hH,hc2,hH3,hc3,hA3,jar,hE,d0,s1,d3,d4,d5];refine⟨λs h=>by rw[h.1];rfl,λs h=>by rw[h.2];rfl,λ_=>trivial,?_⟩;exact⟨by first|rfl|(rw[Kj s5];rfl)|(simp only[jay,d0,s1,d3,d4,d5,Km,Kq,not_true_eq_false,Q9,true_or,or_true,false_or,or_false,ne_eq,and_self,and_false,false_and];done)|simp[jay],_,by simp[Qg];rfl⟩
  have d5:=eq_true s5;rw[Kh (λq=>q s5)];by_cases s6:Q.limit<1
  case pos =>
   simp only[simprocAttr,zK,K1,jaa,Kf,K3,fo30,jaH,al1,uq,hH1,hc1,hB,zv41,K2,jae,jac,iB,hH,hc2,hH3,hc3,hA3,jar,hE,d0,s1,d3,d4,d5,s6];refine⟨λs h=>by rw[h.1];rfl,λs h=>by rw[h.2];rfl,λ_=>trivial,?_⟩;exact⟨by first|rfl|(rw[Kj (.inl trivial)];rfl)|(simp only[jay,d0,s1,d3,d4,d5,s6,Km,Kq,not_true_eq_false,Q9,true_or,or_true,false_or,or_false,ne_eq,and_self,and_false,false_and];done)|simp[jay],_,by simp[Qg];rfl⟩
  by_cases s7:50<Q.limit
  case pos =>
   simp only[simprocAttr,zK,K1,jaa,Kf,K3,fo30,jaH,al1,uq,hH1,hc1,hB,zv41,K2,jae,jac,iB,hH,hc2,hH3,hc3,hA3,jar,hE,d0,s1,d3,d4,d5,s6,s7];refine⟨λs h=>by rw[h.1];rfl,λs h=>by rw[h.2];rfl,λ_=>trivial,?_⟩;exact⟨by first|rfl|(rw[Kj (.inr trivial)];rfl)|(simp only[jay,d0,s1,d3,d4,d5,s6,s7,Km,Kq,not_true_eq_false,Q9,true_or,or_true,false_or,or_false,ne_eq,and_self,and_false,false_and];done)|simp[jay],_,by simp[Qg];rfl⟩
  simp only[simprocAttr,zK,K1,jaa,Kf,K3,fo30,jaH,al1,uq,hH1,hc1,hB,zv41,K2,jae,jac,iB,hH,hc2,hH3,hc3,hA3,jar,hE,d0,s1,d3,d4,d5,s6,s7];refine⟨λs h=>by rw[h.1];rfl,λs h=>by rw[h.2];rfl,λ_=>trivial,?_⟩;exact⟨by first|rfl|(simp[jay])|(simp only[jay,d0,s1,d3,d4,d5,s6,s7,Km,Kq,not_true_eq_false,Q9,true_or,or_true,false_or,or_false,ne_eq,and_self,and_false,false_and];done)|simp[jay],_,by simp[Qg];rfl⟩
 ·cases s2:o.pub
  ·rw[Kj ⟨rfl,rfl⟩];simp only[simprocAttr,zK,K1,jaa,Kf,K3,fo30,jaH,al1,uq,hH1,hc1,hB,zv41,K2,jae,jac,iB,hH,hc2,hH3,hc3,hA3,jar,hE,d0,s1,s2];refine⟨λs h=>by rw[h.1];rfl,λs h=>by rw[h.2];rfl,λ_=>trivial,?_⟩;exact⟨by first|rfl|(rfl)|(simp only[jay,d0,s1,s2,Km,Kq,not_true_eq_false,Q9,true_or,or_true,false_or,or_false,ne_eq,and_self,and_false,false_and];done)|simp[jay],_,by simp[Qg];rfl⟩
  ·rw[Kh (λq=>by simp at q)];by_cases s3:0<=jb6 t.cs Q.left
   case neg =>
    have d3:=eq_false s3;simp only[simprocAttr,zK,K1,jaa,Kf,K3,fo30,jaH,al1,uq,hH1,hc1,hB,zv41,K2,jae,jac,iB,hH,hc2,hH3,hc3,hA3,jar,hE,d0,s1,s2,d3];refine⟨λs h=>by rw[h.1];rfl,λs h=>by rw[h.2];rfl,λ_=>trivial,?_⟩;exact⟨by first|rfl|(rw[Kj (.inl s3)];rfl)|(simp only[jay,d0,s1,s2,d3,Km,Kq,not_true_eq_false,Q9,true_or,or_true,false_or,or_false,ne_eq,and_self,and_false,false_and];done)|simp[jay],_,by simp[Qg];rfl⟩
   have d3:=eq_true s3;by_cases s4:0<=jb6 o.cs Q.right
   case neg =>
    have d4:=eq_false s4;simp only[simprocAttr,zK,K1,jaa,Kf,K3,fo30,jaH,al1,uq,hH1,hc1,hB,zv41,K2,jae,jac,iB,hH,hc2,hH3,hc3,hA3,jar,hE,d0,s1,s2,d3,d4];refine⟨λs h=>by rw[h.1];rfl,λs h=>by rw[h.2];rfl,λ_=>trivial,?_⟩;exact⟨by first|rfl|(rw[Kj (.inr s4)];rfl)|(simp only[jay,d0,s1,s2,d3,d4,Km,Kq,not_true_eq_false,Q9,true_or,or_true,false_or,or_false,ne_eq,and_self,and_false,false_and];done)|simp[jay],_,by simp[Qg];rfl⟩
   have d4:=eq_true s4;rw[Kh (λq=>q.elim (λq=>q s3) (λq=>q s4))];by_cases s5:a.ws=b.ws
   case neg =>
    have d5:=eq_false s5;simp only[simprocAttr,zK,K1,jaa,Kf,K3,fo30,jaH,al1,uq,hH1,hc1,hB,zv41,K2,jae,jac,iB,hH,hc2,hH3,hc3,hA3,jar,hE,d0,s1,s2,d3,d4,d5];refine⟨λs h=>by rw[h.1];rfl,λs h=>by rw[h.2];rfl,λ_=>trivial,?_⟩;exact⟨by first|rfl|(rw[Kj s5];rfl)|(simp only[jay,d0,s1,s2,d3,d4,d5,Km,Kq,not_true_eq_false,Q9,true_or,or_true,false_or,or_false,ne_eq,and_self,and_false,false_and];done)|simp[jay],_,by simp[Qg];rfl⟩
   have d5:=eq_true s5;rw[Kh (λq=>q s5)];by_cases s6:Q.limit<1
   case pos =>
    simp only[simprocAttr,zK,K1,jaa,Kf,K3,fo30,jaH,al1,uq,hH1,hc1,hB,zv41,K2,jae,jac,iB,hH,hc2,hH3,hc3,hA3,jar,hE,d0,s1,s2,d3,d4,d5,s6];refine⟨λs h=>by rw[h.1];rfl,λs h=>by rw[h.2];rfl,λ_=>trivial,?_⟩;exact⟨by first|rfl|(rw[Kj (.inl trivial)];rfl)|(simp only[jay,d0,s1,s2,d3,d4,d5,s6,Km,Kq,not_true_eq_false,Q9,true_or,or_true,false_or,or_false,ne_eq,and_self,and_false,false_and];done)|simp[jay],_,by simp[Qg];rfl⟩
   by_cases s7:50<Q.limit
   case pos =>
    simp only[simprocAttr,zK,K1,jaa,Kf,K3,fo30,jaH,al1,uq,hH1,hc1,hB,zv41,K2,jae,jac,iB,hH,hc2,hH3,hc3,hA3,jar,hE,d0,s1,s2,d3,d4,d5,s6,s7];refine⟨λs h=>by rw[h.1];rfl,λs h=>by rw[h.2];rfl,λ_=>trivial,?_⟩;exact⟨by first|rfl|(rw[Kj (.inr trivial)];rfl)|(simp only[jay,d0,s1,s2,d3,d4,d5,s6,s7,Km,Kq,not_true_eq_false,Q9,true_or,or_true,false_or,or_false,ne_eq,and_self,and_false,false_and];done)|simp[jay],_,by simp[Qg];rfl⟩
   simp only[simprocAttr,zK,K1,jaa,Kf,K3,fo30,jaH,al1,uq,hH1,hc1,hB,zv41,K2,jae,jac,iB,hH,hc2,hH3,hc3,hA3,jar,hE,d0,s1,s2,d3,d4,d5,s6,s7];refine⟨λs h=>by rw[h.1];rfl,λs h=>by rw[h.2];rfl,λ_=>trivial,?_⟩;exact⟨by first|rfl|(simp[jay])|(simp only[jay,d0,s1,s2,d3,d4,d5,s6,s7,Km,Kq,not_true_eq_false,Q9,true_or,or_true,false_or,or_false,ne_eq,and_self,and_false,false_and];done)|simp[jay],_,by simp[Qg];rfl⟩
end
end Go.Proofs.YtajaampgajieeaaGreatDoor.K
