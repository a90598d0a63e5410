/- Proved here: names, words, columns. Conditions: each theorem's own. -/
import Derived.Test.YtajaampgajieeaaGreatDoorEnvT
set_option linter.unusedSimpArgs false
set_option maxHeartbeats 16000000
set_option maxRecDepth 1000000
set_option linter.unusedVariables false
set_option linter.unusedSectionVars false
namespace Go.Proofs.YtajaampgajieeaaGreatDoor
open Go.Ab
theorem u3:env.P.underlying 3=some (.int .i64):=ac
theorem u4:env.P.underlying 4=some .bool:=ac
theorem u5:env.P.underlying 5=some (.int .u8):=ac
theorem u9:env.P.underlying 9=some .string:=ac
theorem u24:env.P.underlying 39=some (.slice 9):=ac
theorem u72:env.P.underlying 274=some (.array 35 9):=ac
theorem u115:env.P.underlying 150=some (.int .u64):=ac
theorem s9:sz env 9=some 1:=ac
theorem s24:sz env 39=some 1:=ac
theorem s3:sz env 3=some 1:=ac
theorem g9:aggT env 9=some false:=ac
theorem g24:aggT env 39=some false:=ac
theorem g3:aggT env 3=some false:=ac
theorem tys:env.P.underlying 3=some (.int .i64)/\env.P.underlying 4=some .bool/\env.P.underlying 5=some (.int .u8)/\env.P.underlying 9=some .string/\env.P.underlying 39=some (.slice 9)/\env.P.underlying 150=some (.int .u64)/\sz env 9=some 1/\sz env 39=some 1/\sz env 3=some 1 /\
  (∀h p,jaH env h 9 p=(jab h 1 p).bind (·[0]?))/\(∀h p,jaH env h 39 p=(jab h 1 p).bind (·[0]?))/\(∀h p,jaH env h 3 p=(jab h 1 p).bind (·[0]?)) :=
 ⟨u3,u4,u5,u9,u24,u115,s9,s24,s3,λ_ _=>jay g9,λ_ _=>jay g24,λ_ _=>jay g3⟩
theorem mb(f:FuncId)(r:Nat)(h:(f==157 ||f==182 && r==3)=false):env.mutb f r=false:=h
theorem stb(f:FuncId)(r:Nat)(h:(f==28 && r==6)=false):env.stab f r=false:=h
theorem Kc:type_of% (Kd @mb (Kd @stb @tys)):=Kd @mb (Kd @stb @tys)
theorem zK:type_of% (Kd @Ka (Kd @Ys (Kd @Y0 @Kc))):=Kd @Ka (Kd @Ys (Kd @Y0 @Kc))
theorem yK:type_of% (Kd @Ka (Kd @Y0 @Kc)):=Kd @Ka (Kd @Y0 @Kc)
theorem jx3:env.P.funcs[341]? = some Tryz.f341:=ac
theorem jx4:env.P.funcs[317]? = some Tryz.f317:=ac
theorem jx5:env.P.funcs[316]? = some Tryz.f316:=ac
theorem jx6:env.P.funcs[284]? = some Tryz.f284:=ac
theorem jx7:env.P.funcs[257]? = some Tryz.f257:=ac
theorem jx8:env.P.funcs[262]? = some Tryz.f262:=ac
theorem jts(s:List UInt8)(U:S):jah env (ev env) 341 [.str s] U=some (.bool false,U):=by
 refine jaj rfl jx3 rfl ?_ U;simp only[Tryz.f341,simprocAttr,zK,Vq,jaF];simp[jaB,jak,jaA]
theorem jiz(s:List UInt8)(U:S):jah env (ev env) 317 [.str s] U=some (.bool false,U):=by
 refine jaj rfl jx4 rfl ?_ U;simp only[Tryz.f317,simprocAttr,zK,Vq,jaF];simp[jaB,jak,jaA]
theorem jlT(a b:List UInt8)(U:S):jah env (ev env) 316 [.str a,.str b] U=some (.bool (Op.bytesLess a b),U):=by
 refine jaj rfl jx5 rfl ?_ U;cases h:Op.bytesLess a b<;>
 ·simp only[Tryz.f316,simprocAttr,zK,Vq,jlJ,jts,h];simp[jaB,jak,jaA]
theorem jha:∀{a b c:List UInt8},Op.bytesLess a b=true->Op.bytesLess b c=true->Op.bytesLess a c=true
 |_,[],_,h,_=>by simp[Op.bytesLess]at h
 |_,_::_,[],_,h=>by simp[Op.bytesLess]at h
 | [],y::b,z::c,_,_=>rfl
 | x::a,y::b,z::c,h,k=>by
  simp only[Op.bytesLess,Xe,Qt,Jq,beq_iff_eq]at h k ⊢
  rcases h with h|⟨rfl,h⟩
  ·rcases k with k|⟨rfl,k⟩
   ·exact .inl (UInt8.lt_trans h k)
   ·exact .inl h
  ·rcases k with k|⟨rfl,k⟩
   ·exact .inl k
   ·exact .inr ⟨rfl,jha h k⟩
def jrD(ws:List (List UInt8)):Prop:=∀i j,i<j->j<ws.length->Op.bytesLess (ws.getD i []) (ws.getD j [])=true
theorem jtt {ws:List (List UInt8)}{s:List UInt8}{lo:Nat}(hl:lo<=ws.length)(h1:∀i,i<lo->Op.bytesLess (ws.getD i []) s=true)(h2:∀i,lo<=i->i<ws.length->Op.bytesLess (ws.getD i []) s=false) :
  ws.countP (λw=>Op.bytesLess w s)=lo:=by
 have e:ws=ws.take lo++ws.drop lo:=(Xg lo ws).symm;rw[e,Us]
 have a1:(ws.take lo).countP (λw=>Op.bytesLess w s)=(ws.take lo).length:=by
  rw[List.countP_eq_length];intro w hw;obtain⟨i,hi,rfl⟩:=Xv.1 hw;have:=h1 i (by simp at hi;omega);have hi2:i<ws.length:=by simp at hi;omega
  simpa[List.getD,hi2]using this
 have a2:(ws.drop lo).countP (λw=>Op.bytesLess w s)=0:=by
  rw[List.countP_eq_zero];intro w hw;obtain⟨i,hi,rfl⟩:=Xv.1 hw;have hi2:lo+i<ws.length:=by simp at hi;omega
  have:=h2 (lo+i) aa hi2;simpa[List.getD,hi2]using this
 rw[a1,a2];simp;omega
theorem jwL {ws:List (List UInt8)}{s:List UInt8}{lo:Nat}(hr:jrD ws)(h1:∀i,i<lo->Op.bytesLess (ws.getD i []) s=true)(h2:∀i,lo<=i->i<ws.length->Op.bytesLess (ws.getD i []) s=false) :
  (s∈ws)↔(lo<ws.length/\ws.getD lo []=s):=by
 constructor
 ·intro hm;obtain⟨k,hk,rfl⟩:=Xv.1 hm;have ek:ws.getD k []=ws[k]:=by simp[List.getD,hk]
  have hlo:lo<=k:=by
   rcases Ql k lo with h|h
   ·have:=h1 k h;rw[ek,jlL]at this;simp at this
   ·exact h
  rcases Ql lo k with h|h
  ·have:=hr lo k h hk;rw[ek,h2 lo (Kw _) aa]at this;simp at this
  ·have:lo=k:=by omega
   subst this;exact⟨hk,ek⟩
 ·rintro⟨h,rfl⟩;simp[List.getD,h]
theorem jnl(ws:List (List UInt8))(hw:ws.length<2^40)(hr:jrD ws)(s:List UInt8)(U:S) :
  jah env (ev env) 284 [.row (ws.map V.str) ws.length .full,.str s] U=some (.tup [.int .i64 (ws.countP (λw=>Op.bytesLess w s):Nat),.bool (decide (s∈ws))],U):=by
 refine jaj (by simp[V.closed,jeV]) jx6 rfl ?_ U;simp only[Nat.reduceGcd,Tryz.f284,Ka,Nat.reduceLT,Nat.reduceEqDiff,Kl,Kn,reduceIte,Ys,Y0,Int.reduceEq,Int.reduceLT,Int.reduceLE,Int.reduceNeg,mb,Nat.reduceBEq,tys,stb,Vq,jlJ,jax]
 refine jau (λm T D U=>D=[]/\U=S.empty/\T 0=.row (ws.map V.str) ws.length .full/\T 1=.str s/\T 6=.int .i64 ws.length/\∃lo hi:Nat,T 7=.int .i64 lo/\T 8=.int .i64 hi/\lo<=hi/\hi<=ws.length/\m=hi-lo /\
  (∀i,i<lo->Op.bytesLess (ws.getD i []) s=true)/\(∀i,hi<=i->i<ws.length->Op.bytesLess (ws.getD i []) s=false)) ?_ _ _ _ _ ⟨rfl,rfl,rfl,rfl,rfl,0,ws.length,rfl,rfl,aa,aa,rfl,λi h=>aa,λi h1 h2=>aa⟩
 rintro m T D U ⟨rfl,rfl,t0,t1,t6,lo,hi,t7,t8,h1,h2,rfl,i1,i2⟩;refine jaC ?_;by_cases hlt:lo<hi
 ·have c1:(lo:Int)<(hi:Int):=by omega
  have e1:IntKind.i64.wrap ((lo:Int)+(hi:Int))=((lo+hi:Nat):Int):=by rw[wrap_i64 aa aa];omega
  have e2:IntKind.u64.wrap (((lo+hi:Nat):Int))=((lo+hi:Nat):Int):=by rw[IntKind.wrap_u64];omega
  have e3:((lo+hi:Nat):Int).fdiv (2^min (Int.toNat 1) IntKind.u64.bits)=(((lo+hi)/2:Nat):Int):=by
   rw[show min (Int.toNat 1) IntKind.u64.bits=1 from by decide];rw[Int.fdiv_eq_ediv_of_nonneg _ aa];omega
  have e4:IntKind.i64.wrap ((((lo+hi)/2:Nat):Int))=(((lo+hi)/2:Nat):Int):=by rw[wrap_i64 aa aa]
  have c2:(lo+hi)/2<ws.length:=aa;have e5:IntKind.i64.wrap ((((lo+hi)/2:Nat):Int)+1)=(((lo+hi)/2+1:Nat):Int):=by rw[wrap_i64 aa aa];omega
  have e6:¬((1:Int)<0):=aa;cases hb:Op.bytesLess (ws.getD ((lo+hi)/2) []) s with
  | true =>
   simp only[Nat.reduceGcd,Ka,Nat.reduceLT,Nat.reduceEqDiff,Kl,Kn,reduceIte,Ys,Y0,Int.reduceEq,Int.reduceLT,Int.reduceLE,Int.reduceNeg,mb,Nat.reduceBEq,tys,stb,Vq,t0,t1,t6,t7,t8,c1,e1,e2,e3,e4,e5,e6,jdt,c2,jlT,hb,jov];refine⟨⟨aa,aa⟩,hi-((lo+hi)/2+1),aa,(lo+hi)/2+1,hi,rfl,rfl,aa,aa,rfl,λi hi' => ?_,i2⟩
   rcases Ql i ((lo+hi)/2)with h|h
   ·exact jha (hr i _ h c2) hb
   ·have:i=(lo+hi)/2:=by omega
    subst this;exact hb
  | false =>
   simp only[Nat.reduceGcd,Ka,Nat.reduceLT,Nat.reduceEqDiff,Kl,Kn,reduceIte,Ys,Y0,Int.reduceEq,Int.reduceLT,Int.reduceLE,Int.reduceNeg,mb,Nat.reduceBEq,tys,stb,Vq,t0,t1,t6,t7,t8,c1,e1,e2,e3,e4,e5,e6,jdt,c2,jlT,hb,jov];refine⟨⟨aa,aa⟩,(lo+hi)/2-lo,aa,lo,(lo+hi)/2,rfl,rfl,aa,aa,rfl,i1,λi h3 h4 => ?_⟩
   rcases Ql ((lo+hi)/2) i with h|h
   ·cases hc:Op.bytesLess (ws.getD i []) s with
    |false=>rfl
    |true =>
     have:=jha (hr _ i h h4) hc;rw[hb]at this;simp at this
   ·have:i=(lo+hi)/2:=by omega
    subst this;exact hb
 ·have he:hi=lo:=by omega
  obtain rfl:lo=hi:=he.symm;have c1:¬(lo:Int)<(lo:Int):=aa;have hcnt:=jtt h2 i1 i2;have hmem:=jwL hr i1 i2;by_cases c3:lo<ws.length
  ·have c4:(lo:Int)<(ws.length:Int):=by omega
   have c6:(0:Int)<=(lo:Int)/\(lo:Int)<(ws.length:Int):=aa;by_cases c5:ws.getD lo []=s
   ·have hm:s∈ws:=hmem.2 ⟨c3,c5⟩;simp only[Nat.reduceGcd,Ka,Nat.reduceLT,Nat.reduceEqDiff,Kl,Kn,reduceIte,Ys,Y0,Int.reduceEq,Int.reduceLT,Int.reduceLE,Int.reduceNeg,mb,Nat.reduceBEq,tys,stb,Vq,t0,t1,t6,t7,t8,c1,c4,c6,jdt,c3,c5,jax,jiz];simp[jaB,jak,jbS,jal,jaR,jav,jaA,hcnt,hm]
   ·have hm:¬s∈ws:=λh=>c5 (hmem.1 h).2
    simp only[Nat.reduceGcd,Ka,Nat.reduceLT,Nat.reduceEqDiff,Kl,Kn,reduceIte,Ys,Y0,Int.reduceEq,Int.reduceLT,Int.reduceLE,Int.reduceNeg,mb,Nat.reduceBEq,tys,stb,Vq,t0,t1,t6,t7,t8,c1,c4,c6,jdt,c3,c5,jax,jiz];simp[jaB,jak,jbS,jal,jaR,jav,jaA,hcnt,hm]
  ·have c4:¬(lo:Int)<(ws.length:Int):=by omega
   have hm:¬s∈ws:=λh=>c3 (hmem.1 h).1
   simp only[Nat.reduceGcd,Ka,Nat.reduceLT,Nat.reduceEqDiff,Kl,Kn,reduceIte,Ys,Y0,Int.reduceEq,Int.reduceLT,Int.reduceLE,Int.reduceNeg,mb,Nat.reduceBEq,tys,stb,Vq,t0,t1,t6,t7,t8,c1,c4,jdt,c3,jax,jiz];simp[jaB,jak,jbS,jal,jaR,jav,jaA,hcnt,hm]
def okC(c:UInt8):Prop:=(97<=c.toNat/\c.toNat<=122)\/(48<=c.toNat/\c.toNat<=57)\/c.toNat=95
instance (c:UInt8):Decidable (okC c):=by unfold okC;infer_instance
def jb2:List (List UInt8):=["above","and","batch","between","bits","by","consistent","count","else","factor","from","histogram","identity","if","join","keep","late","limit","mode","none","not","of","on","or","peak","prefix","quantile","running","sum","then","total","tree","using","where","with"].map λs=>s.toList.map λc=>UInt8.ofNat c.toNat
theorem jpI:jrB=jb2.map V.str:=ac
theorem jgF:jb2.length=35:=ac
def jrE(ws:List (List UInt8)):Bool:=(List.range ws.length).all λj=>(List.range j).all λi=>Op.bytesLess (ws.getD i []) (ws.getD j [])
theorem jlU:jrD jb2:=by
 have h:jrE jb2=true:=ac;intro i j hij hj;unfold jrE at h;rw[Qq]at h;have h1:=h j (by simpa using hj);rw[Qq]at h1;exact h1 i (by simpa using hij)
def jaZ(s:List UInt8):Prop:=1<=s.length/\s.length<=20/\97<=(s.getD 0 0).toNat/\(s.getD 0 0).toNat<=122/\(∀i,i<s.length->okC (s.getD i 0))/\s ∉ jb2
instance (s:List UInt8):Decidable (jaZ s):=by unfold jaZ;infer_instance
theorem jvo:jbN env 274 (.rptr jrB) none none none=some (.row (jb2.map V.str) jb2.length .full):=by
 rw[jpI,jgF];exact jrl u72 s9 (by rw[Qw,jgF])
theorem jc8(s:List UInt8)(hs:s.length<2^63)(U:S):jah env (ev env) 257 [.str s] U=some (.bool (decide (jaZ s)),U):=by
 refine jaj rfl jx7 rfl ?_ U;by_cases h1:(s.length:Int)<1
 ·have hn:¬jaZ s:=λh=>by have:=h.1;omega
  simp only[Tryz.f257,simprocAttr,zK,Vq,h1,jaX,jb5,jbX u9];simp[jaB,jak,jaA,hn]
 by_cases h2:(20:Int)<(s.length:Int)
 ·have hn:¬jaZ s:=λh=>by have:=h.2.1;omega
  simp only[Tryz.f257,simprocAttr,zK,Vq,h1,h2,jaX,jb5,jbX u9];simp[jaB,jak,jaA,hn]
 have hb:(0:Int)<=0/\(0:Int)<(s.length:Int):=aa;have e0:Int.toNat 0=0:=rfl;by_cases h3:(((s.getD 0 0).toNat:Nat):Int)<97
 ·have hn:¬jaZ s:=λh=>by have:=h.2.2.1;omega
  simp only[Tryz.f257,simprocAttr,zK,Vq,h1,h2,h3,jaX,jb5,jbX u9,hb];simp[jaB,jak,jaA,hn]
 by_cases h4:(122:Int)<(((s.getD 0 0).toNat:Nat):Int)
 ·have hn:¬jaZ s:=λh=>by have:=h.2.2.2.1;omega
  simp only[Tryz.f257,simprocAttr,zK,Vq,h1,h2,h3,h4,jaX,jb5,jbX u9,hb];simp[jaB,jak,jaA,hn]
 simp only[Tryz.f257,simprocAttr,zK,Vq,h1,h2,h3,h4,jaX,jb5,jbX u9,hb];refine jau (λm T D U=>D=[]/\U=S.empty/\T 0=.str s/\T 26=.int .i64 s.length/\∃i:Nat,T 27=.int .i64 i/\i<=s.length/\m=s.length-i/\∀j,j<i->okC (s.getD j 0)) ?_ _ _ _ _ ⟨rfl,rfl,rfl,rfl,0,rfl,aa,rfl,λj h=>aa⟩;rintro m T D U ⟨rfl,rfl,t0,t26,i,t27,hi,rfl,hok⟩;refine jaC ?_;by_cases hlt:i<s.length
 ·have c1:(i:Int)<(s.length:Int):=by omega
  have c2:(0:Int)<=(i:Int)/\(i:Int)<(s.length:Int):=aa;have e1:IntKind.i64.wrap ((i:Int)+1)=((i+1:Nat):Int):=by rw[wrap_i64 aa aa];omega
  have hstep:okC (s.getD i 0)->∀j,j<i+1->okC (s.getD j 0):=λh j hj=>by
   rcases Ql j i with h2|h2
   ·exact hok j h2
   ·have:j=i:=by omega
    subst this;exact h
  have hbad:¬okC (s.getD i 0)->¬jaZ s:=λh hn=>h (hn.2.2.2.2.1 i hlt)
  have hun:okC (s.getD i 0)↔((97<=(s.getD i 0).toNat/\(s.getD i 0).toNat<=122)\/(48<=(s.getD i 0).toNat/\(s.getD i 0).toNat<=57)\/(s.getD i 0).toNat=95):=Iff.rfl;simp only[simprocAttr,zK,Vq,t0,t26,t27,c1,e1,jaX,jb5,jbX u9,c2,Qj];generalize (s.getD i 0)=c at *
  have inv:okC c->∃m',m'<s.length-i/\∃i_1:Nat,V.int IntKind.i64 ((i+1:Nat):Int)=V.int IntKind.i64 (i_1:Nat)/\i_1<=s.length/\m'=s.length-i_1/\∀(j:Nat),j<i_1->okC (s.getD j 0) :=
   λh=>⟨s.length-(i+1),aa,i+1,rfl,aa,rfl,hstep h⟩
  have bad:¬okC c->jaK S.empty.heap jak (jaB [V.bool false])=some (V.bool (decide (jaZ s))):=λh=>by
   simp[jaB,jak,jaA,hbad h]
  repeat' (first|apply Kd|intro _)
  all_goals first|exact inv (by unfold okC;omega)|exact bad (by unfold okC;omega)
 ·have hi2:i=s.length:=by omega
  have c1:¬(i:Int)<(s.length:Int):=aa;subst hi2
  have key:(s∈jb2)=¬jaZ s:=by
   apply propext;constructor
   ·exact λh hn=>hn.2.2.2.2.2 h
   ·intro h;apply Jo;intro hm;exact h ⟨aa,aa,aa,aa,hok,hm⟩
  simp only[simprocAttr,zK,Vq,t0,t26,t27,c1,jaX,jbO,jbP,jvo,jnl jb2 (by rw[jgF];decide) jlU,show env.gl 0=some (.rptr jrB)from rfl];by_cases hn:jaZ s
  ·have hm:¬s∈jb2:=hn.2.2.2.2.2;simp[jaB,jak,jaA,hn,hm]
  ·have hm:s∈jb2:=by rw[key];exact hn
   simp[jaB,jak,jaA,hn,hm]
theorem jtu(U:S):jah env (ev env) 285 [] U=some (.row (jb2.map V.str) jb2.length .unk,U) :=
 jbd rfl rfl rfl (k:=20) ac U
theorem jeg(s:List UInt8)(hs:s.length<2^63)(U:S):jah env (ev env) 262 [.str s] U=some (.bool (decide (jaZ s)),U):=by
 refine jaj rfl jx8 rfl ?_ U;by_cases h1:(s.length:Int)<1
 ·have hn:¬jaZ s:=λh=>by have:=h.1;omega
  simp only[Tryz.f262,simprocAttr,zK,Vq,h1,jaX,jb5,jbX u9];simp[jaB,jak,jaA,hn]
 by_cases h2:(20:Int)<(s.length:Int)
 ·have hn:¬jaZ s:=λh=>by have:=h.2.1;omega
  simp only[Tryz.f262,simprocAttr,zK,Vq,h1,h2,jaX,jb5,jbX u9];simp[jaB,jak,jaA,hn]
 have hb:(0:Int)<=0/\(0:Int)<(s.length:Int):=aa;have e0:Int.toNat 0=0:=rfl;by_cases h3:(((s.getD 0 0).toNat:Nat):Int)<97
 ·have hn:¬jaZ s:=λh=>by have:=h.2.2.1;omega
  simp only[Tryz.f262,simprocAttr,zK,Vq,h1,h2,h3,jaX,jb5,jbX u9,hb];simp[jaB,jak,jaA,hn]
 by_cases h4:(122:Int)<(((s.getD 0 0).toNat:Nat):Int)
 ·have hn:¬jaZ s:=λh=>by have:=h.2.2.2.1;omega
  simp only[Tryz.f262,simprocAttr,zK,Vq,h1,h2,h3,h4,jaX,jb5,jbX u9,hb];simp[jaB,jak,jaA,hn]
 simp only[Tryz.f262,simprocAttr,zK,Vq,h1,h2,h3,h4,jaX,jb5,jbX u9,hb];refine jau (λm T D U=>D=[]/\U=S.empty/\T 0=.str s/\∃i:Nat,T 3=.int .i64 i/\i<=s.length/\m=s.length-i/\∀j,j<i->okC (s.getD j 0)) ?_ _ _ _ _ ⟨rfl,rfl,rfl,0,rfl,aa,rfl,λj h=>aa⟩;rintro m T D U ⟨rfl,rfl,t0,i,t3,hi,rfl,hok⟩;refine jaC ?_;by_cases hlt:i<s.length
 ·have c1:(i:Int)<(s.length:Int):=by omega
  have c2:(0:Int)<=(i:Int)/\(i:Int)<(s.length:Int):=aa;have e1:IntKind.i64.wrap ((i:Int)+1)=((i+1:Nat):Int):=by rw[wrap_i64 aa aa];omega
  have hstep:okC (s.getD i 0)->∀j,j<i+1->okC (s.getD j 0):=λh j hj=>by
   rcases Ql j i with h2|h2
   ·exact hok j h2
   ·have:j=i:=by omega
    subst this;exact h
  have hbad:¬okC (s.getD i 0)->¬jaZ s:=λh hn=>h (hn.2.2.2.2.1 i hlt)
  simp only[simprocAttr,zK,Vq,t0,t3,c1,e1,jaX,jb5,jbX u9,c2,Qj];generalize (s.getD i 0)=c at *
  have inv:okC c->∃m',m'<s.length-i/\∃i_1:Nat,V.int IntKind.i64 ((i+1:Nat):Int)=V.int IntKind.i64 (i_1:Nat)/\i_1<=s.length/\m'=s.length-i_1/\∀(j:Nat),j<i_1->okC (s.getD j 0) :=
   λh=>⟨s.length-(i+1),aa,i+1,rfl,aa,rfl,hstep h⟩
  have bad:¬okC c->jaK S.empty.heap jak (jaB [V.bool false])=some (V.bool (decide (jaZ s))):=λh=>by
   simp[jaB,jak,jaA,hbad h]
  repeat' (first|apply Kd|intro _)
  all_goals first|exact inv (by unfold okC;omega)|exact bad (by unfold okC;omega)
 ·have hi2:i=s.length:=by omega
  have c1:¬(i:Int)<(s.length:Int):=aa;subst hi2
  have key:(s∈jb2)=¬jaZ s:=by
   apply propext;constructor
   ·exact λh hn=>hn.2.2.2.2.2 h
   ·intro h;apply Jo;intro hm;exact h ⟨aa,aa,aa,aa,hok,hm⟩
  simp only[simprocAttr,zK,Vq,t0,t3,c1,jaX,jtu];refine jau (λm T D U=>D=[]/\U=S.empty/\T 0=.str s/\T 5=.row (jb2.map V.str) jb2.length .unk/\∃i:Nat,T 6=.int .i64 i/\i<=jb2.length/\m=jb2.length-i/\∀j,j<i->jb2.getD j [] ≠ s) ?_ _ _ _ _ ⟨rfl,rfl,t0,rfl,0,rfl,aa,rfl,λj h=>aa⟩;rintro m T D U ⟨rfl,rfl,t0,t5,i,t6,hi,rfl,hno⟩;refine jaC ?_;have hw:=jgF;by_cases hlt:i<jb2.length
  ·have c1:(i:Int)<(jb2.length:Int):=by omega
   have c2:(0:Int)<=(i:Int)/\(i:Int)<(jb2.length:Int):=aa;have e1:IntKind.i64.wrap ((i:Int)+1)=((i+1:Nat):Int):=by rw[wrap_i64 aa aa];omega
   by_cases he:jb2.getD i []=s
   ·have hn:¬jaZ s:=λh=>h.2.2.2.2.2 (by rw[<- he];simp[List.getD,hlt])
    simp only[simprocAttr,zK,Vq,t0,t5,t6,c1,c2,e1,jdt,hlt,he,jax];simp[jaB,jak,jaA,hn]
   ·simp only[simprocAttr,zK,Vq,t0,t5,t6,c1,c2,e1,jdt,hlt,he,jax]
    exact⟨jb2.length-(i+1),aa,i+1,rfl,aa,rfl,λj hj=>by
     rcases Ql j i with h2|h2
     ·exact hno j h2
     ·have:j=i:=by omega
      subst this;exact he⟩
  ·have hi3:i=jb2.length:=by omega
   subst hi3;have c1:¬(jb2.length:Int)<(jb2.length:Int):=aa
   have hm:¬s∈jb2:=by
    intro hm;obtain⟨k,hk,rfl⟩:=Xv.1 hm;exact hno k hk (by simp[List.getD,hk])
   have hn:jaZ s:=⟨aa,aa,aa,aa,hok,hm⟩;simp only[simprocAttr,zK,Vq,t0,t5,t6,c1,jdt];simp[jaB,jak,jaA,hn]
structure Col where
 name:List UInt8
 lo:Int
 hi:Int
 w:V
 ws:List (List UInt8)
def Col.cells(c:Col):List V:=[.str c.name,.int .i64 c.lo,.int .i64 c.hi,c.w]
def Col.none:Col:=⟨[],0,0,.nilsl,[]⟩
def IsW(w:V)(ws:List (List UInt8)):Prop:=(w=.nilsl/\ws=[])\/w=.row (ws.map V.str) ws.length .unk
def jaO(cs:List Col):List V:=(cs.map Col.cells).flatten
def IsC(v:V)(cs:List Col):Prop:=(v=.nilsl/\cs=[])\/∃q,(q=RCap.unk\/q=RCap.full)/\v=.row (jaO cs) cs.length q
def OkC(cs:List Col):Prop:=∀c∈cs,IsW c.w c.ws
theorem OkC.at {cs:List Col}(h:OkC cs){i:Nat}(hi:i<cs.length):IsW (cs.getD i Col.none).w (cs.getD i Col.none).ws:=h _ (by simp[List.getD,hi])
theorem jbI(c:Col)(cs:List Col):jaO (c::cs)=.str c.name::.int .i64 c.lo::.int .i64 c.hi::c.w::jaO cs:=rfl
theorem jcA:∀cs:List Col,(jaO cs).length=cs.length*4
 | []=>rfl
 |c::cs=>by rw[jbI];simp only[Qh,jcA cs];omega
theorem jhb:∀(cs:List Col) (i:Nat),(jaO cs).drop (i*4)=jaO (cs.drop i)
 |cs,0=>ae
 | [],i+1=>by simp[jaO]
 |c::cs,i+1=>by
  rw[jbI,show(i+1)*4=i*4+1+1+1+1 by omega];simp only[K5];exact jhb cs i
theorem joO {cs:List Col}{i:Nat}(hi:i<cs.length):jaO (cs.drop i)=.str (cs.getD i Col.none).name::.int .i64 (cs.getD i Col.none).lo::.int .i64 (cs.getD i Col.none).hi::(cs.getD i Col.none).w::jaO (cs.drop (i+1)):=by
 have e:cs.drop i=cs.getD i Col.none::cs.drop (i+1):=by
  rw[Qk hi];simp[List.getD,hi]
 rw[e,jbI]
theorem jfs {v:V}{cs:List Col}(h:IsC v cs):jbb (some (.slice 41)) v=some (.int .i64 cs.length):=by
 rcases h with⟨rfl,rfl⟩|⟨q,_,rfl⟩<;>rfl
theorem jcX {v:V}{ws:List (List UInt8)}(h:IsW v ws):jbb (some (.slice 9)) v=some (.int .i64 ws.length):=by
 rcases h with⟨rfl,rfl⟩|rfl<;>rfl
theorem jel {v:V}{cs:List Col}(h:IsC v cs){i:Nat}(hi:i<cs.length):jaw 4 v (.int .i64 (i:Int))=some (.rptr (.str (cs.getD i Col.none).name::.int .i64 (cs.getD i Col.none).lo::.int .i64 (cs.getD i Col.none).hi::(cs.getD i Col.none).w::jaO (cs.drop (i+1)))):=by
 rcases h with⟨rfl,rfl⟩|⟨q,_,rfl⟩
 ·simp at hi
 ·rw[Ys,Kg aa,Qj,jhb,joO hi]
theorem jnm {v:V}{ws:List (List UInt8)}(h:IsW v ws){i:Nat}(hi:i<ws.length):jaw 1 v (.int .i64 (i:Int))=some (.rptr (.str (ws.getD i [])::(ws.map V.str).drop (i+1))):=by
 rcases h with⟨rfl,rfl⟩|rfl
 ·simp at hi
 ·rw[Ys,Kg aa,Qj,Xc,Qk (by simpa using hi)];simp[List.getD,hi]
theorem jaq(h:List AObj)(v:V)(r:List V):(jab h 1 (.rptr (v::r))).bind (·[0]?)=some v:=by
 have:=Yz h (v::r) 0;simpa using this
theorem u27:env.P.underlying 36=some (.slice 41):=ac
theorem u32:env.P.underlying 32=some (.int .i64):=ac
theorem tys2:env.P.underlying 36=some (.slice 41)/\env.P.underlying 32=some (.int .i64)/\sz env 36=some 1/\sz env 41=some 4/\sz env 38=some 4/\sz env 4=some 1/\jas env 38 0=some 0/\jas env 38 1=some 1/\jas env 38 2=some 2/\jas env 38 3=some 3 /\
  jas env 41 0=some 0/\jas env 41 1=some 1/\jas env 41 2=some 2/\jas env 41 3=some 3/\(∀h p,jaH env h 36 p=(jab h 1 p).bind (·[0]?))/\(∀h p,jaH env h 4 p=(jab h 1 p).bind (·[0]?)):=by
 have g27:aggT env 36=some false:=ac;have g4:aggT env 4=some false:=ac;exact⟨u27,u32,ac,ac,ac,ac,ac,ac,ac,ac,ac,ac,ac,ac,λ_ _=>jay g27,λ_ _=>jay g4⟩
theorem jct {w:V}{ws:List (List UInt8)}(h:IsW w ws):w.closed=true:=by
 rcases h with⟨rfl,rfl⟩|rfl
 ·rfl
 ·simp only[V.closed,jeV,K8]
theorem jgm:∀{cs:List Col},OkC cs->V.closed.closedL (jaO cs)=true
 | [],h=>rfl
 |c::cs,h=>by
  rw[jbI];simp only[V.closed.closedL,V.closed,jct (h c ae),jgm (cs:=cs) λx hx=>h x (by simp[hx]),K8]
theorem ja9 {v:V}{cs:List Col}(h:IsC v cs)(ok:OkC cs):v.closed=true:=by
 rcases h with⟨rfl,rfl⟩|⟨q,rfl|rfl,rfl⟩
 ·rfl
 ·simp only[V.closed,jgm ok,K8]
 ·simp only[V.closed,jgm ok,K8]
theorem jad(L:List AObj)(o:AObj):(L++[o])[L.length]? = some o:=ae
theorem jan(L:List AObj)(o o':AObj):(L++[o]).set L.length o'=L++[o']:=ae
theorem K2:type_of% (And.intro @jad (And.intro @jan (@YW))):=And.intro @jad (And.intro @jan (@YW))
theorem jaM(h:List AObj)(a b c d:V)(r:List V):jab h 4 (.rptr (a::b::c::d::r))=some [a,b,c,d]:=by simp[jab]
theorem jb7 {h:List AObj}{n:Nat}{a b c d:V}{t:TypeId}(hh:h[n]? = some (.cells [a,b,c,d] t)):jab h 4 (.ptr n 0)=some [a,b,c,d]:=by simp[jab,hh]
theorem jdg(h:List AObj)(p:V):jaH env h 41 p=(jab h 4 p).map .agg:=by
 unfold jaH;rw[show aggT env 41=some true by kernel_rfl,show sz env 41=some 4 by kernel_rfl];rfl
theorem jem(h:List AObj)(p:V):jaH env h 38 p=(jab h 4 p).map .agg:=by
 unfold jaH;rw[show aggT env 38=some true by kernel_rfl,show sz env 38=some 4 by kernel_rfl];rfl
theorem z44:jba env 41=some (.agg [.str [],.int .i64 0,.int .i64 0,.nilsl]):=ac
theorem z29:jba env 38=some (.agg [.str [],.bool false,.int .i64 0,.nilsl]):=ac
theorem jiA:One env 39 9 16:=⟨ac,ac,ac,ac,ac,⟨.str [],ac,rfl⟩⟩
theorem el27:jf1 env 36=some 41:=ac
theorem by44:bys env 41=some 56:=ac
theorem zn44:jhG env 41=some 4:=ac
def Col.cap(c:Col)(cap:RCap):Col:={ c with w:=.row (c.ws.map V.str) c.ws.length cap }
def jpJ(c:Col):Col:=c.cap .unk
inductive GrowC (ts:List Nat):V->List Col->Prop
 |nil:GrowC ts .nilsl []
 |tok (cs:List Col) (k e:Nat) (h:ts[k]? = some e) (hne:cs ≠ []):GrowC ts (.row (jaO cs) cs.length (.tok k e 4)) cs
theorem jd6(cs:List Col)(c:Col):jaO (cs++[c])=jaO cs++c.cells:=by simp[jaO]
theorem jvp {T:Tm}{U:S}{x:Operand}:opT env false T U (.buildSlice 36 1 #[(0,x)])=(jaN env T x).bind λv=>if v.cells.length=4 then some (.row v.cells 1 .full,U)else none:=by
 unfold opT;simp only[jbK,jbh,jbG,jcH];cases jaN env T x with
 |none=>rfl
 |some v =>
  simp only[K9,Kq,el27,tys2,z44];by_cases hv:v.cells.length=4
  ·simp[jeK,hv,YW]
  ·simp[jeK,hv,YW]
theorem GrowC.append {hp:List AObj}{ts:List Nat}{v:V}{cs:List Col}(g:GrowC ts v cs)(c:Col)(cap:RCap)(hc:c.cells.all V.isCell=true)(hb:cs.length+1<=1000) :
  ∃v' ts',appO env false ⟨hp,ts⟩ 36 36 v (.row c.cells 1 cap)=some (v',⟨hp,ts'⟩)/\GrowC ts' v' (cs++[c]):=by
 have hnew:jaV hp 4 1 (.row c.cells 1 cap)=some c.cells:=by simp[jaV,Col.cells]
 have hl1:(1:Nat)*56<=lim/\1<=lim:=af;have hl2:(cs.length+1)*56<=lim/\cs.length+1<=lim:=by have h:lim=2^40:=rfl;rw[h];omega
 unfold appO;simp only[el27,tys2,by44,zn44,vLen,hnew,Kq,Kl];cases g with
 |nil =>
  refine⟨.row (jaO [c]) 1 (.tok ts.length 0 4),ts++[0],?_,.tok [c] ts.length 0 ae ae⟩;simp[jbk,hl1,jaO]
 | tok _ k e hk hne =>
  have hkl:k<ts.length:=by
   rcases Ql k ts.length with h1|h1
   ·exact h1
   ·rw[Qo h1]at hk;simp at hk
  refine⟨.row (jaO (cs++[c])) (cs++[c]).length (.tok k (e+1) 4),ts.set k (e+1),?_,.tok _ k (e+1) (by simp[hkl]) ae⟩;have hl3:(jaO cs).length=cs.length*4:=jcA cs;simp[jbk,hl2,hl3,hk,hc,jd6]
theorem jnn(s:List UInt8):(V.str s).isCell=true:=rfl
theorem jwM {w:V}{ws:List (List UInt8)}(h:IsW w ws)(hb:ws.length<=1000)(hp:List AObj)(ts:List Nat) :
  ∃cap ts',appO env false ⟨hp,ts⟩ 39 39 (.row [] 0 .full) w=some (.row (ws.map V.str) ws.length cap,⟨hp,ts'⟩)/\∀(k e:Nat),ts[k]? = some e->ts'[k]? = some e:=by
 by_cases hn:ws=[]
 ·subst hn;refine⟨.full,ts,?_,λ_ _ h=>h⟩;unfold appO;simp only[jiA.elem,jiA.size,jiA.bytes,jiA.slice,jiA.zeros,Kq,Kl]
  rcases h with⟨rfl,_⟩|rfl<;>simp[vLen,jaV,jbk]
 ·rcases h with⟨_,h⟩|rfl
  ·exact absurd h hn
  ·have hl2:ws.length*16<=lim/\ws.length<=lim:=by have h:lim=2^40:=rfl;rw[h];omega
   have hall:(ws.map V.str).all V.isCell=true:=by simp[V.isCell]
   have hne:¬ws.length=0:=λh=>hn (Q6 h)
   refine⟨.tok ts.length 0 1,ts++[0],?_,λk e hk => ?_⟩
   ·unfold appO;simp only[jiA.elem,jiA.size,jiA.bytes,jiA.slice,jiA.zeros,Kq,Kl];have htk:List.take ws.length (ws.map V.str)=ws.map V.str:=Qu ae;simp[vLen,jaV,jbk,hl2,hne,hn,htk,jnn]
   ·rw[Kj]
    ·exact hk
    ·rcases Ql k ts.length with h1|h1
     ·exact h1
     ·rw[Qo h1]at hk;simp at hk
theorem jx9:env.P.funcs[106]? = some Tryz.f106:=ac
theorem jbf {w:V}{ws:List (List UInt8)}(h:IsW w ws):w.isCell=true:=by rcases h with⟨rfl,_⟩|rfl<;>rfl
theorem jae(s:List UInt8):(V.str s).isCell=true:=rfl
theorem jam(b:Bool):(V.bool b).isCell=true:=rfl
theorem Qf:type_of% (And.intro @jac (And.intro @jae (@jam))):=And.intro @jac (And.intro @jae (@jam))
theorem jdA(L:List AObj)(a b c d:V)(t:TypeId):jab (L++[.cells [a,b,c,d] t]) 4 (.ptr L.length 0)=some [a,b,c,d]:=jb7 (jad _ _)
theorem GrowC.keep {ts ts':List Nat}{v:V}{cs:List Col}(g:GrowC ts v cs)(h:∀(k e:Nat),ts[k]? = some e->ts'[k]? = some e):GrowC ts' v cs:=by
 cases g with
 |nil=>exact .nil
 |tok _ k e hk hne=>exact .tok _ k e (h k e hk) hne
theorem GrowC.cells {ts:List Nat}{v:V}{cs:List Col}(g:GrowC ts v cs):v.cells=[v]:=by cases g<;>rfl
theorem GrowC.cell {ts:List Nat}{v:V}{cs:List Col}(g:GrowC ts v cs):v.isCell=true:=by cases g<;>rfl
def jvq(cs:List Col):V:=if cs=[]then .nilsl else .row (jaO (cs.map jpJ)) cs.length .unk
theorem jlV(h:List AObj)(d:Nat)(ws:List (List UInt8)):(ws.map V.str).mapM (jaK h (d+1))=some (ws.map V.str) :=
 jga h (d+1) _ λv hv=>by
  obtain⟨z,_,rfl⟩:=Jd.1 hv;rfl
theorem jlW(h:List AObj)(d:Nat):∀P:List Col,(∀c∈P,∃cap,c.w=.row (c.ws.map V.str) c.ws.length cap)->(jaO P).mapM (jaK h (d+2))=some (jaO (P.map jpJ))
 | [],_=>rfl
 |c::P,hp=>by
  obtain⟨cap,hw⟩:=hp c ae;rw[jbI,jal,jal,jal,jal,jlW h d P λx hx=>hp x (by simp[hx]),hw,jbC,jav,jav,ja1,jlV];rfl
theorem jrF {h:List AObj}{d:Nat}{ts:List Nat}{u:V}{P cs:List Col}(hg:GrowC ts u P)(hp:∀c∈P,∃cap,c.w=.row (c.ws.map V.str) c.ws.length cap)(hm:P.map jpJ=cs.map jpJ):jaK h (d+3) u=some (jvq cs):=by
 have hl:P.length=cs.length:=by have:=congrArg List.length hm;simpa using this
 cases hg with
 |nil =>
  have:cs=[]:=Q6 hl.symm;subst this;rfl
 |tok _ k e hk hne =>
  rw[ja1,jlW h d P hp,hm,hl];have he:cs ≠ []:=λe=>hne (Q6 (by rw[hl,e];rfl))
  simp[jvq,he]
theorem jlX(nm:List UInt8)(pb:Bool)(many:Int)(cv:V)(cs:List Col)(hc:IsC cv cs)(ok:OkC cs)(hl:cs.length<=100)(hw:∀i,i<cs.length->(cs.getD i Col.none).ws.length<=100)(U:S) :
  jah env (ev env) 106 [.agg [.str nm,.bool pb,.int .i64 many,cv]] U=some (.agg [.str nm,.bool pb,.int .i64 many,jvq cs],U):=by
 refine jaj (by simp[V.closed,V.closed.closedL,ja9 hc ok]) jx9 rfl ?_ U;have hcc:cv.isCell=true:=by rcases hc with⟨rfl,_⟩|⟨q,_,rfl⟩<;>rfl
 simp only[Tryz.f106,simprocAttr,zK,Vq,tys2,z29,z44,jai,jaa,Jj,Qz,Jx,K5,Xa,Ks,Qn,jae,jam,jac,hcc,V.isCell,Xd]
 refine jau (λm T D U=>D=[]/\T 1=.ptr 0 0/\T 2=.ptr 1 0/\T 3=cv/\∃(L:List AObj) (ts:List Nat) (i:Nat) (P:List Col) (u:V),U=⟨L,ts⟩/\L[0]? = some (.cells [.str nm,.bool pb,.int .i64 many,u] 38) /\
  L[1]? = some (.cells [.str [],.bool false,.int .i64 0,.nilsl] 38)/\T 4=.int .i64 i/\i<=cs.length/\m=cs.length-i/\GrowC ts u P/\P.length=i/\P.map jpJ=(cs.take i).map jpJ/\∀c∈P,∃cap,c.w=.row (c.ws.map V.str) c.ws.length cap) ?_ _ _ _ _
  ⟨rfl,rfl,rfl,rfl,_,_,0,[],.nilsl,rfl,rfl,rfl,rfl,aa,rfl,.nil,rfl,rfl,λc h=>by simp at h⟩
 rintro m T D U ⟨rfl,t1,t2,t3,L,ts,i,P,u,rfl,l0,l1,t4,hi,rfl,hg,hpl,hpm,hpw⟩;refine jaC ?_
 have hn0:0<L.length:=by
  rcases Ql 0 L.length with h|h
  ·exact h
  ·rw[Qo h]at l0;simp at l0
 have hn1:1<L.length:=by
  rcases Ql 1 L.length with h|h
  ·exact h
  ·rw[Qo h]at l1;simp at l1
 by_cases hlt:i<cs.length
 ·have c1:(i:Int)<(cs.length:Int):=by omega
  have e1:IntKind.i64.wrap ((i:Int)+1)=((i+1:Nat):Int):=by rw[wrap_i64 aa aa];omega
  have hwi:=ok.at hlt;have hws:=hw i hlt;generalize hcd:cs.getD i Col.none=c at *;have hE0:∀o,(L++[o])[0]? = some (.cells [.str nm,.bool pb,.int .i64 many,u] 38):=λo=>by rw[Kj hn0];exact l0
  obtain⟨cap,ts',hA,hk⟩:=jwM hwi aa (L++[.cells [.str c.name,.int .i64 c.lo,.int .i64 c.hi,c.w] 41]) ts;obtain⟨u',ts'',hB,hg'⟩:=(hg.keep hk).append (hp:=L++[.cells [.str c.name,.int .i64 c.lo,.int .i64 c.hi,.row (c.ws.map V.str) c.ws.length cap] 41]) (c.cap cap) .full (by simp[Col.cells,Col.cap,V.isCell]) aa;have hcells:(c.cap cap).cells=[.str c.name,.int .i64 c.lo,.int .i64 c.hi,.row (c.ws.map V.str) c.ws.length cap]:=rfl;rw[hcells]at hB;have hic:=jbf hwi;have hiu:=hg'.cell;have hcu:=hg'.cells;have hx:=jel hc hlt;rw[hcd]at hx;simp only[simprocAttr,zK,Vq,tys2,t1,t2,t3,t4,c1,e1,jfs hc,hx,jdg,jaM,z44,jad,jan,jaa,Jj,Qz,Jx,K5,Xa,Ks,Qn,jae,jac,YG,hic,hiu,hcu,jpC jiA,hA,jdA,jvp,hE0,hB,Q7,Q9];have hset:∀o A:AObj,((L++[o]).set 0 A)[0]? = some A:=λo A=>by rw[Km ae]
  have hset1:∀o A:AObj,((L++[o]).set 0 A)[1]? = some (.cells [.str [],.bool false,.int .i64 0,.nilsl] 38):=λo A=>by
   rw[Kh aa,Kj hn1];exact l1
  refine⟨cs.length-(i+1),aa,_,_,i+1,P++[c.cap cap],u',rfl,hset _ _,hset1 _ _,rfl,aa,rfl,hg',by simp[hpl],?_,?_⟩
  ·rw[Js,hpm,Vw,Js]
   congr 1
   have:cs[i]? = some c:=by rw[<- hcd];simp[List.getD,hlt]
   rw[this];rfl
  ·intro x hx
   rcases Jl.1 hx with h|h
   ·exact hpw x h
   ·simp only[J4]at h;subst h;exact⟨cap,rfl⟩
 ·have hi2:i=cs.length:=by omega
  subst hi2;have c1:¬(cs.length:Int)<(cs.length:Int):=aa;have hiu:=hg.cell;have hset1:∀A:AObj,(L.set 1 A)[1]? = some A:=λA=>by rw[Km hn1]
  simp only[simprocAttr,zK,Vq,tys2,t1,t2,t3,t4,c1,jfs hc,jem,jb7 l0,l1,jaa,Jj,Qz,Jx,K5,Xa,Ks,Qn,jae,jac,jam,hiu,jb7 (hset1 _),YW];rw[Jh]at hpm;simp only[jaB,jak,jey,jal,jaR,jbC,jaA,jav,jrF hg hpw hpm,Kq,K9]
theorem jya:env.P.funcs[286]? = some Tryz.f286:=ac
def jiB(ws:List (List UInt8)):Prop:=∃k i,k<i/\i<ws.length/\ws.getD k []=ws.getD i []
open Classical in
theorem jfR(w:V)(ws:List (List UInt8))(h:IsW w ws)(hl:ws.length<=1000)(U:S):jah env (ev env) 286 [w] U=some (.bool (decide (jiB ws)),U):=by
 refine jaj (by simp[jct h]) jya rfl ?_ U;simp only[Tryz.f286,simprocAttr,zK,Vq];refine jau (λm T D U=>D=[]/\U=S.empty/\T 0=w/\∃i:Nat,T 3=.int .i64 i/\i<=ws.length/\m=ws.length-i/\∀j k,k<j->j<i->ws.getD k [] ≠ ws.getD j []) ?_ _ _ _ _ ⟨rfl,rfl,rfl,0,rfl,aa,rfl,λj k h1 h2=>aa⟩;rintro m T D U ⟨rfl,rfl,t0,i,t3,hi,rfl,hno⟩;refine jaC ?_;by_cases hlt:i<ws.length
 ·have c1:(i:Int)<(ws.length:Int):=by omega
  have e1:IntKind.i64.wrap ((i:Int)+1)=((i+1:Nat):Int):=by rw[wrap_i64 aa aa];omega
  simp only[simprocAttr,zK,Vq,t0,t3,c1,e1,jcX h];refine jau (λm T D U=>D=[]/\U=S.empty/\T 0=w/\T 3=.int .i64 i/\∃k:Nat,T 4=.int .i64 k/\k<=i/\m=i-k/\∀j,j<k->ws.getD j [] ≠ ws.getD i []) ?_ _ _ _ _ ⟨rfl,rfl,t0,t3,0,rfl,aa,rfl,λj h1=>aa⟩;rintro m T D U ⟨rfl,rfl,t0,t3,k,t4,hk,rfl,hno2⟩;refine jaC ?_;by_cases hlt2:k<i
  ·have c2:(k:Int)<(i:Int):=by omega
   have e2:IntKind.i64.wrap ((k:Int)+1)=((k+1:Nat):Int):=by rw[wrap_i64 aa aa];omega
   have x1:=jnm h hlt;have x2:=jnm h (show k<ws.length by omega);by_cases he:ws.getD k []=ws.getD i []
   ·have hv:jiB ws:=⟨k,i,hlt2,hlt,he⟩;simp only[simprocAttr,zK,Vq,t0,t3,t4,c2,e2,x1,x2,jaq,jax,he];refine⟨ac,?_⟩;simp[jaB,jak,jaA,hv]
   ·simp only[simprocAttr,zK,Vq,t0,t3,t4,c2,e2,x1,x2,jaq,jax,he]
    exact⟨ac,i-(k+1),aa,k+1,rfl,aa,rfl,λj hj=>by
     rcases Ql j k with h2|h2
     ·exact hno2 j h2
     ·have:j=k:=by omega
      subst this;exact he⟩
  ·have hk2:k=i:=by omega
   subst hk2;have c2:¬(k:Int)<(k:Int):=aa;simp only[simprocAttr,zK,Vq,t0,t3,t4,c2,e1]
   exact⟨ws.length-(k+1),aa,k+1,rfl,aa,rfl,λj q h1 h2=>by
    rcases Ql j k with h3|h3
    ·exact hno j q h1 h3
    ·have:j=k:=by omega
     subst this;exact hno2 q h1⟩
 ·have hi2:i=ws.length:=by omega
  subst hi2;have c1:¬(ws.length:Int)<(ws.length:Int):=aa;have hn:¬jiB ws:=λ⟨k,j,h1,h2,h3⟩=>hno j k h1 h2 h3
  simp only[simprocAttr,zK,Vq,t0,t3,c1,jcX h];simp[jaB,jak,jaA,hn]
theorem jyb:env.P.funcs[263]? = some Tryz.f263:=ac
open Classical in
noncomputable def colE(c:Col):Int :=
 if c.ws.length=0 then(if c.lo < -1000000\/1000000<c.hi\/c.hi<c.lo then 2 else 0)
 else if 64<c.ws.length then 4
 else if ∃i,i<c.ws.length/\¬jaZ (c.ws.getD i [])then 19
 else if jiB c.ws then 8
 else if c.lo ≠ 0\/c.hi ≠ (c.ws.length:Int)-1 then 2 else 0
def jdL(c:Col):Prop:=c.name.length<2^63/\c.ws.length<=1000/\∀i,i<c.ws.length->(c.ws.getD i []).length<2^63
open Classical in
theorem jiC(c:Col)(h:IsW c.w c.ws)(hs:jdL c)(U:S):jah env (ev env) 263 [.agg [.str c.name,.int .i64 c.lo,.int .i64 c.hi,c.w]] U=some (.int .i64 (colE c),U):=by
 refine jaj (by simp[V.closed,V.closed.closedL,jct h]) jyb rfl ?_ U;obtain⟨hs1,hs2,hs3⟩:=hs;have hic:=jbf h;obtain⟨nm,lo,hi,w,ws⟩:=c;simp only at h hs1 hs2 hs3 hic ⊢;by_cases h0:ws.length=0
 ·have c0:(ws.length:Int)=0:=by omega
  by_cases h1:lo < -1000000
  ·have he:colE ⟨nm,lo,hi,w,ws⟩=2:=by simp only[colE,h0,Kl];rw[Kg (.inl h1)]
   simp only[Tryz.f263,simprocAttr,zK,Vq,tys2,jai,jcX h,c0,h1];simp only[jaB,jak,jav,he]
  by_cases h2:1000000<hi
  ·have he:colE ⟨nm,lo,hi,w,ws⟩=2:=by simp only[colE,h0,Kl];rw[Kg (.inr (.inl h2))]
   simp only[Tryz.f263,simprocAttr,zK,Vq,tys2,jai,jcX h,c0,h1,h2];simp only[jaB,jak,jav,he]
  by_cases h3:hi<lo
  ·have he:colE ⟨nm,lo,hi,w,ws⟩=2:=by simp only[colE,h0,Kl];rw[Kg (.inr (.inr h3))]
   simp only[Tryz.f263,simprocAttr,zK,Vq,tys2,jai,jcX h,c0,h1,h2,h3];simp only[jaB,jak,jav,he]
  ·have he:colE ⟨nm,lo,hi,w,ws⟩=0:=by simp only[colE,h0,Kl];rw[Ke aa]
   simp only[Tryz.f263,simprocAttr,zK,Vq,tys2,jai,jcX h,c0,h1,h2,h3];simp only[jaB,jak,jav,he]
 have c0:¬(ws.length:Int)=0:=aa;by_cases h1:(64:Int)<(ws.length:Int)
 ·have he:colE ⟨nm,lo,hi,w,ws⟩=4:=by simp only[colE];rw[Ke h0,Kg aa]
  simp only[Tryz.f263,simprocAttr,zK,Vq,tys2,jai,jcX h,c0,h1];simp only[jaB,jak,jav,he]
 simp only[Tryz.f263,simprocAttr,zK,Vq,tys2,jai,jcX h,c0,h1];refine jau (λm T D U=>D=[]/\U=⟨[.cells [.str nm,.int .i64 lo,.int .i64 hi,w] 41],[]⟩/\T 1=.ptr 0 0/\T 3=.int .i64 ws.length/\∃i:Nat,T 4=.int .i64 i/\i<=ws.length/\m=ws.length-i/\∀j,j<i->jaZ (ws.getD j [])) ?_ _ _ _ _ ⟨rfl,rfl,rfl,rfl,0,rfl,aa,rfl,λj h1=>aa⟩;rintro m T D U ⟨rfl,rfl,t1,t3,i,t4,hi',rfl,hok⟩;refine jaC ?_;by_cases hlt:i<ws.length
 ·have c1:(i:Int)<(ws.length:Int):=by omega
  have e1:IntKind.i64.wrap ((i:Int)+1)=((i+1:Nat):Int):=by rw[wrap_i64 aa aa];omega
  have x1:=jnm h hlt;by_cases hn:jaZ (ws.getD i [])
  ·simp only[simprocAttr,zK,Vq,tys2,t1,t3,t4,c1,e1,x1,jaq,jeg _ (hs3 i hlt),hn]
   exact⟨ws.length-(i+1),aa,i+1,rfl,aa,rfl,λj hj=>by
    rcases Ql j i with h2|h2
    ·exact hok j h2
    ·have:j=i:=by omega
     subst this;exact hn⟩
  ·have he:colE ⟨nm,lo,hi,w,ws⟩=19:=by simp only[colE];rw[Ke h0,Ke aa,Kg ⟨i,hlt,hn⟩]
   simp only[simprocAttr,zK,Vq,tys2,t1,t3,t4,c1,e1,x1,jaq,jeg _ (hs3 i hlt),hn];simp only[jaB,jak,jav,he]
 ·have hi2:i=ws.length:=by omega
  subst hi2;have c1:¬(ws.length:Int)<(ws.length:Int):=aa;have hno:¬∃i,i<ws.length/\¬jaZ (ws.getD i []):=λ⟨i,h1,h2⟩=>h2 (hok i h1)
  by_cases h2:jiB ws
  ·have he:colE ⟨nm,lo,hi,w,ws⟩=8:=by simp only[colE];rw[Ke h0,Ke aa,Ke hno,Kg h2]
   simp only[simprocAttr,zK,Vq,tys2,t1,t3,t4,c1,jfR w ws h hs2,h2];simp only[jaB,jak,jav,he]
  have e2:IntKind.i64.wrap ((ws.length:Int)-1)=(ws.length:Int)-1:=wrap_i64 aa aa;by_cases h3:lo=0
  ·by_cases h4:hi=(ws.length:Int)-1
   ·have he:colE ⟨nm,lo,hi,w,ws⟩=0:=by simp only[colE];rw[Ke h0,Ke aa,Ke hno,Ke h2,Ke (by rintro(h|h);exact h h3;exact h h4)]
    simp only[simprocAttr,zK,Vq,tys2,t1,t3,t4,c1,jfR w ws h hs2,h2,h3,e2,h4];simp only[jaB,jak,jav,<- h3,<- h4,he]
   ·have he:colE ⟨nm,lo,hi,w,ws⟩=2:=by simp only[colE];rw[Ke h0,Ke aa,Ke hno,Ke h2,Kg (.inr h4)]
    simp only[simprocAttr,zK,Vq,tys2,t1,t3,t4,c1,jfR w ws h hs2,h2,h3,e2,h4];simp only[jaB,jak,jav,<- h3,he]
  ·have he:colE ⟨nm,lo,hi,w,ws⟩=2:=by simp only[colE];rw[Ke h0,Ke aa,Ke hno,Ke h2,Kg (.inl h3)]
   simp only[simprocAttr,zK,Vq,tys2,t1,t3,t4,c1,jfR w ws h hs2,h2,h3];simp only[jaB,jak,jav,he]
theorem jtv(L:List AObj)(o:AObj):(L++[o]).length=L.length+1:=ae
open Classical in
noncomputable def colX(cs:List Col)(i:Nat):Int :=
 if ¬jaZ (cs.getD i Col.none).name then 19
 else if ∃k,k<i/\(cs.getD k Col.none).name=(cs.getD i Col.none).name then 8
 else colE (cs.getD i Col.none)
noncomputable def jcm(cs:List Col):Nat->Nat->Int × Int
 |0,_=>(0,-1)
 |m+1,i=>if colX cs i=0 then jcm cs m (i+1)else(colX cs i,i)
open Classical in
noncomputable def jdh(nm:List UInt8)(pb:Bool)(many:Int)(cs:List Col):Int × Int :=
 if ¬jaZ nm then(19,-1)
 else if(pb=true/\many ≠ 0)\/(pb=false/\(many<1\/50<many))then(2,-1)
 else if cs.length=0 then(3,-1)
 else if 16<cs.length then(4,-1)
 else jcm cs cs.length 0
abbrev Q24(r:Int × Int):Post:=⟨wpR env [.tmp 2,.tmp 3] λv' U'=>jaK U'.heap jak v'=some (.tup [.int .i64 r.1,.int .i64 r.2]),λ_ _ _ _=>False,wpR env [.tmp 2,.tmp 3] λv' U'=>jaK U'.heap jak v'=some (.tup [.int .i64 r.1,.int .i64 r.2])⟩
open Classical in
theorem jhc(nm:List UInt8)(pb:Bool)(many:Int)(cv:V)(cs:List Col)(hc:IsC cv cs)(ok:OkC cs)(hl:cs.length<=1000)(hs:∀i,i<cs.length->jdL (cs.getD i Col.none))(r:Int × Int)(hr:r=jcm cs cs.length 0)(c2:Code)
  (h2:∀T U,r=(0,-1)->G env 224 none 84 (Q24 r) [] c2 T [] U) (T:Tm) (t1:T 1=.ptr 0 0) (t4:T 4=.int .i64 0) :
  jdx env 224 none 84 (jcK 1 (jaz Tryz.f224)) T [] ⟨[.cells [.str nm,.bool pb,.int .i64 many,cv] 38],[]⟩ (Kt.post env 224 none 84 (Q24 r) [.blk 1,.code c2]):=by
 simp only[jaz,Tryz.f224,Kr,jcK,blkC,Option.or,Nat.reduceEqDiff,Kn,Kl,reduceIte]
 refine jau (λm T D U=>D=[]/\T 1=.ptr 0 0/\∃(L:List AObj) (ts:List Nat) (i:Nat),U=⟨L,ts⟩/\L[0]? = some (.cells [.str nm,.bool pb,.int .i64 many,cv] 38)/\T 4=.int .i64 i/\i<=cs.length/\m=cs.length-i/\r=jcm cs (cs.length-i) i) ?_ _ _ _ _
  ⟨rfl,t1,_,_,0,rfl,rfl,t4,aa,rfl,by simpa using hr⟩
 clear t1 t4 T;rintro m T D U ⟨rfl,t1,L,ts,i,rfl,l0,t4,hi,rfl,hri⟩;refine jaC ?_
 have hn0:0<L.length:=by
  rcases Ql 0 L.length with h|h
  ·exact h
  ·rw[Qo h]at l0;simp at l0
 by_cases hlt:i<cs.length
 ·have c1:(i:Int)<(cs.length:Int):=by omega
  have e1:IntKind.i64.wrap ((i:Int)+1)=((i+1:Nat):Int):=by rw[wrap_i64 aa aa];omega
  have hwc:=ok.at hlt;have hsc:=hs i hlt;have hx:=jel hc hlt;have hic:=jbf hwc;have hE0:∀o,(L++[o])[0]? = some (.cells [.str nm,.bool pb,.int .i64 many,cv] 38):=λo=>by rw[Kj hn0];exact l0
  obtain⟨q,hq⟩:∃q,cs.length-i=q+1:=⟨cs.length-i-1,aa⟩;have hq2:q=cs.length-(i+1):=aa;have hstep:jcm cs (cs.length-i) i=if colX cs i=0 then jcm cs q (i+1)else(colX cs i,(i:Int)):=by rw[hq];rfl
  rw[hstep]at hri;by_cases hnm:jaZ (cs.getD i Col.none).name
  case neg =>
   have hX:colX cs i=19:=by simp only[colX];rw[Kg hnm]
   rw[hX,Ke aa]at hri;subst hri;simp -implicitDefEqProofs only[simprocAttr,zK,Vq,tys2,t1,t4,c1,l0,hE0,jfs hc,hx,jdg,jaM,z44,jad,jan,jaa,Jj,Qz,K5,Xa,Ks,Qn,jae,jac,hic,YW,jeg _ hsc.1,hnm];simp only[jaB,jak,jbS,jal,jaR,jav,Kq,K9]
  simp -implicitDefEqProofs only[simprocAttr,zK,Vq,tys2,t1,t4,c1,l0,hE0,jfs hc,hx,jdg,jaM,z44,jad,jan,jaa,Jj,Qz,K5,Xa,Ks,Qn,jae,jac,hic,YW,jeg _ hsc.1,hnm]
  refine jau (λm T D U=>D=[]/\U=⟨L++[.cells [.str (cs.getD i Col.none).name,.int .i64 (cs.getD i Col.none).lo,.int .i64 (cs.getD i Col.none).hi,(cs.getD i Col.none).w] 41],ts⟩/\T 1=.ptr 0 0/\T 4=.int .i64 i/\T 5=.ptr L.length 0 /\
   ∃k:Nat,T 6=.int .i64 k/\k<=i/\m=i-k/\∀j,j<k->(cs.getD j Col.none).name ≠ (cs.getD i Col.none).name) ?_ _ _ _ _ ⟨rfl,rfl,t1,t4,rfl,0,rfl,aa,rfl,λj h1=>aa⟩
  rintro m T D U ⟨rfl,rfl,t1,t4,t5,k,t6,hk,rfl,hno⟩;refine jaC ?_;by_cases hlt2:k<i
  ·have c3:(k:Int)<(i:Int):=by omega
   have e2:IntKind.i64.wrap ((k:Int)+1)=((k+1:Nat):Int):=by rw[wrap_i64 aa aa];omega
   have hy:=jel hc (show k<cs.length by omega);by_cases he:(cs.getD k Col.none).name=(cs.getD i Col.none).name
   ·have hX:colX cs i=8:=by simp only[colX];rw[Ke (not_not_intro hnm),Kg ⟨k,hlt2,he⟩]
    rw[hX,Ke aa]at hri;subst hri;simp -implicitDefEqProofs only[simprocAttr,zK,Vq,tys2,t1,t4,t5,t6,c3,hE0,hy,jaq,jad,jax,he];refine⟨ac,?_⟩;simp only[jaB,jak,jbS,jal,jaR,jav,Kq,K9]
   ·simp -implicitDefEqProofs only[simprocAttr,zK,Vq,tys2,t1,t4,t5,t6,c3,e2,hE0,hy,jaq,jad,jax,he]
    exact⟨ac,i-(k+1),aa,k+1,rfl,aa,rfl,λj hj=>by
     rcases Ql j k with h2|h2
     ·exact hno j h2
     ·have:j=k:=by omega
      subst this;exact he⟩
  ·have hk2:k=i:=by omega
   subst hk2;have c3:¬(k:Int)<(k:Int):=aa;have hX:colX cs k=colE (cs.getD k Col.none):=by simp only[colX];rw[Ke (not_not_intro hnm),Ke (by rintro⟨j,h1,h2⟩;exact hno j h1 h2)]
   by_cases hz:colE (cs.getD k Col.none)=0
   ·rw[hX,Kg hz,hq2]at hri;simp -implicitDefEqProofs only[simprocAttr,zK,Vq,tys2,t1,t4,t5,t6,c3,e1,jdg,jdA,jiC _ hwc hsc,hz];exact⟨cs.length-(k+1),aa,_,_,k+1,rfl,hE0 _,rfl,aa,rfl,hri⟩
   ·rw[hX,Ke hz]at hri;subst hri;simp -implicitDefEqProofs only[simprocAttr,zK,Vq,tys2,t1,t4,t5,t6,c3,jdg,jdA,jiC _ hwc hsc,hz];simp only[jaB,jak,jbS,jal,jaR,jav,Kq,K9]
 ·have hi2:i=cs.length:=by omega
  subst hi2;have c1:¬(cs.length:Int)<(cs.length:Int):=aa;have h0:r=(0,-1):=by rw[hri,Xn];rfl
  simp -implicitDefEqProofs only[simprocAttr,zK,Vq,tys2,t1,t4,c1,l0,jfs hc];exact h2 _ _ h0
end Go.Proofs.YtajaampgajieeaaGreatDoor
