/- Proved here: names, words, columns. Conditions: each theorem's own. -/
import Derived.Test.YtajaampgajieeaaGreatDoorEnvT
set_option linter.unusedSimpArgs false
set_option maxHeartbeats 16000000
set_option maxRecDepth 1000000
set_option linter.unusedVariables false
set_option linter.unusedSectionVars false
namespace Go.Proofs.YtajaampgajieeaaGreatDoor
open Go.Ab
theorem u3:env.P.underlying 3=some (.int .i64):=ac
theorem u4:env.P.underlying 4=some .bool:=ac
theorem u5:env.P.underlying 5=some (.int .u8):=ac
theorem u9:env.P.underlying 9=some .string:=ac
theorem u24:env.P.underlying 39=some (.slice 9):=ac
theorem u72:env.P.underlying 274=some (.array 35 9):=ac
theorem u115:env.P.underlying 150=some (.int .u64):=ac
theorem s9:sz env 9=some 1:=ac
theorem s24:sz env 39=some 1:=ac
theorem s3:sz env 3=some 1:=ac
theorem g9:aggT env 9=some false:=ac
theorem g24:aggT env 39=some false:=ac
theorem g3:aggT env 3=some false:=ac
theorem tys:env.P.underlying 3=some (.int .i64)/\env.P.underlying 4=some .bool/\env.P.underlying 5=some (.int .u8)/\env.P.underlying 9=some .string/\env.P.underlying 39=some (.slice 9)/\env.P.underlying 150=some (.int .u64)/\sz env 9=some 1/\sz env 39=some 1/\sz env 3=some 1 /\
  (∀h p,jaF env h 9 p=(jab h 1 p).bind (·[0]?))/\(∀h p,jaF env h 39 p=(jab h 1 p).bind (·[0]?))/\(∀h p,jaF env h 3 p=(jab h 1 p).bind (·[0]?)) :=
 ⟨u3,u4,u5,u9,u24,u115,s9,s24,s3,λ_ _=>jau g9,λ_ _=>jau g24,λ_ _=>jau g3⟩
theorem mb(f:FuncId)(r:Nat)(h:(f==157 ||f==182 && r==3)=false):env.mutb f r=false:=h
theorem stb(f:FuncId)(r:Nat)(h:(f==28 && r==6)=false):env.stab f r=false:=h
theorem Kc:type_of% (Kd @mb (Kd @stb @tys)):=Kd @mb (Kd @stb @tys)
theorem zK:type_of% (Kd @Ka (Kd @Ys (Kd @Y0 @Kc))):=Kd @Ka (Kd @Ys (Kd @Y0 @Kc))
theorem yK:type_of% (Kd @Ka (Kd @Y0 @Kc)):=Kd @Ka (Kd @Y0 @Kc)
theorem jwH:env.P.funcs[341]? = some Tryz.f341:=ac
theorem jwI:env.P.funcs[317]? = some Tryz.f317:=ac
theorem jwJ:env.P.funcs[316]? = some Tryz.f316:=ac
theorem jwK:env.P.funcs[284]? = some Tryz.f284:=ac
theorem jwL:env.P.funcs[257]? = some Tryz.f257:=ac
theorem jwM:env.P.funcs[262]? = some Tryz.f262:=ac
theorem jrS(s:List UInt8)(U:S):jaf env (ev env) 341 [.str s] U=some (.bool false,U):=by
 refine jak rfl jwH rfl ?_ U;simp only[Tryz.f341,simprocAttr,zK,Vq,jaE];simp[jay,jai,jaz]
theorem jie(s:List UInt8)(U:S):jaf env (ev env) 317 [.str s] U=some (.bool false,U):=by
 refine jak rfl jwI rfl ?_ U;simp only[Tryz.f317,simprocAttr,zK,Vq,jaE];simp[jay,jai,jaz]
theorem jle(a b:List UInt8)(U:S):jaf env (ev env) 316 [.str a,.str b] U=some (.bool (Op.bytesLess a b),U):=by
 refine jak rfl jwJ rfl ?_ U;cases h:Op.bytesLess a b<;>
 ·simp only[Tryz.f316,simprocAttr,zK,Vq,jk7,jrS,h];simp[jay,jai,jaz]
theorem jgX:∀{a b c:List UInt8},Op.bytesLess a b=true->Op.bytesLess b c=true->Op.bytesLess a c=true
 |_,[],_,h,_=>by simp[Op.bytesLess]at h
 |_,_::_,[],_,h=>by simp[Op.bytesLess]at h
 | [],y::b,z::c,_,_=>rfl
 | x::a,y::b,z::c,h,k=>by
  simp only[Op.bytesLess,Xi,Qo,Jc,beq_iff_eq]at h k ⊢
  rcases h with h|⟨rfl,h⟩
  ·rcases k with k|⟨rfl,k⟩
   ·exact .inl (UInt8.lt_trans h k)
   ·exact .inl h
  ·rcases k with k|⟨rfl,k⟩
   ·exact .inl k
   ·exact .inr ⟨rfl,jgX h k⟩
def jqo(ws:List (List UInt8)):Prop:=∀i j,i<j->j<ws.length->Op.bytesLess (ws.getD i []) (ws.getD j [])=true
theorem jrT {ws:List (List UInt8)}{s:List UInt8}{lo:Nat}(hl:lo<=ws.length)(h1:∀i,i<lo->Op.bytesLess (ws.getD i []) s=true)(h2:∀i,lo<=i->i<ws.length->Op.bytesLess (ws.getD i []) s=false) :
  ws.countP (λw=>Op.bytesLess w s)=lo:=by
 have e:ws=ws.take lo++ws.drop lo:=(Xq lo ws).symm;rw[e,Uk]
 have a1:(ws.take lo).countP (λw=>Op.bytesLess w s)=(ws.take lo).length:=by
  rw[List.countP_eq_length];intro w hw;obtain⟨i,hi,rfl⟩:=Xt.1 hw;have:=h1 i (by simp at hi;omega);have hi2:i<ws.length:=by simp at hi;omega
  simpa[List.getD,hi2]using this
 have a2:(ws.drop lo).countP (λw=>Op.bytesLess w s)=0:=by
  rw[List.countP_eq_zero];intro w hw;obtain⟨i,hi,rfl⟩:=Xt.1 hw;have hi2:lo+i<ws.length:=by simp at hi;omega
  have:=h2 (lo+i) aa hi2;simpa[List.getD,hi2]using this
 rw[a1,a2];simp;omega
theorem ju7 {ws:List (List UInt8)}{s:List UInt8}{lo:Nat}(hr:jqo ws)(h1:∀i,i<lo->Op.bytesLess (ws.getD i []) s=true)(h2:∀i,lo<=i->i<ws.length->Op.bytesLess (ws.getD i []) s=false) :
  (s∈ws)↔(lo<ws.length/\ws.getD lo []=s):=by
 constructor
 ·intro hm;obtain⟨k,hk,rfl⟩:=Xt.1 hm;have ek:ws.getD k []=ws[k]:=by simp[List.getD,hk]
  have hlo:lo<=k:=by
   rcases Qm k lo with h|h
   ·have:=h1 k h;rw[ek,jk9]at this;simp at this
   ·exact h
  rcases Qm lo k with h|h
  ·have:=hr lo k h hk;rw[ek,h2 lo (K8 _) aa]at this;simp at this
  ·have:lo=k:=by omega
   subst this;exact⟨hk,ek⟩
 ·rintro⟨h,rfl⟩;simp[List.getD,h]
theorem jmB(ws:List (List UInt8))(hw:ws.length<2^40)(hr:jqo ws)(s:List UInt8)(U:S) :
  jaf env (ev env) 284 [.row (ws.map V.str) ws.length .full,.str s] U=some (.tup [.int .i64 (ws.countP (λw=>Op.bytesLess w s):Nat),.bool (decide (s∈ws))],U):=by
 refine jak (by simp[V.closed,jeG]) jwK rfl ?_ U;simp only[Nat.reduceGcd,Tryz.f284,Ka,Nat.reduceLT,Nat.reduceEqDiff,Km,Kq,reduceIte,Ys,Y0,Int.reduceEq,Int.reduceLT,Int.reduceLE,Int.reduceNeg,mb,Nat.reduceBEq,tys,stb,Vq,jk7,jaA]
 refine jax (λm T D U=>D=[]/\U=S.empty/\T 0=.row (ws.map V.str) ws.length .full/\T 1=.str s/\T 6=.int .i64 ws.length/\∃lo hi:Nat,T 7=.int .i64 lo/\T 8=.int .i64 hi/\lo<=hi/\hi<=ws.length/\m=hi-lo /\
  (∀i,i<lo->Op.bytesLess (ws.getD i []) s=true)/\(∀i,hi<=i->i<ws.length->Op.bytesLess (ws.getD i []) s=false)) ?_ _ _ _ _ ⟨rfl,rfl,rfl,rfl,rfl,0,ws.length,rfl,rfl,aa,aa,rfl,λi h=>aa,λi h1 h2=>aa⟩
 rintro m T D U ⟨rfl,rfl,t0,t1,t6,lo,hi,t7,t8,h1,h2,rfl,i1,i2⟩;refine jaB ?_;by_cases hlt:lo<hi
 ·have c1:(lo:Int)<(hi:Int):=by omega
  have e1:IntKind.i64.wrap ((lo:Int)+(hi:Int))=((lo+hi:Nat):Int):=by rw[wrap_i64 aa aa];omega
  have e2:IntKind.u64.wrap (((lo+hi:Nat):Int))=((lo+hi:Nat):Int):=by rw[IntKind.wrap_u64];omega
  have e3:((lo+hi:Nat):Int).fdiv (2^min (Int.toNat 1) IntKind.u64.bits)=(((lo+hi)/2:Nat):Int):=by
   rw[show min (Int.toNat 1) IntKind.u64.bits=1 from by decide];rw[Int.fdiv_eq_ediv_of_nonneg _ aa];omega
  have e4:IntKind.i64.wrap ((((lo+hi)/2:Nat):Int))=(((lo+hi)/2:Nat):Int):=by rw[wrap_i64 aa aa]
  have c2:(lo+hi)/2<ws.length:=aa;have e5:IntKind.i64.wrap ((((lo+hi)/2:Nat):Int)+1)=(((lo+hi)/2+1:Nat):Int):=by rw[wrap_i64 aa aa];omega
  have e6:¬((1:Int)<0):=aa;cases hb:Op.bytesLess (ws.getD ((lo+hi)/2) []) s with
  | true =>
   simp only[Nat.reduceGcd,Ka,Nat.reduceLT,Nat.reduceEqDiff,Km,Kq,reduceIte,Ys,Y0,Int.reduceEq,Int.reduceLT,Int.reduceLE,Int.reduceNeg,mb,Nat.reduceBEq,tys,stb,Vq,t0,t1,t6,t7,t8,c1,e1,e2,e3,e4,e5,e6,jdf,c2,jle,hb,jny];refine⟨⟨aa,aa⟩,hi-((lo+hi)/2+1),aa,(lo+hi)/2+1,hi,rfl,rfl,aa,aa,rfl,λi hi' => ?_,i2⟩
   rcases Qm i ((lo+hi)/2)with h|h
   ·exact jgX (hr i _ h c2) hb
   ·have:i=(lo+hi)/2:=by omega
    subst this;exact hb
  | false =>
   simp only[Nat.reduceGcd,Ka,Nat.reduceLT,Nat.reduceEqDiff,Km,Kq,reduceIte,Ys,Y0,Int.reduceEq,Int.reduceLT,Int.reduceLE,Int.reduceNeg,mb,Nat.reduceBEq,tys,stb,Vq,t0,t1,t6,t7,t8,c1,e1,e2,e3,e4,e5,e6,jdf,c2,jle,hb,jny];refine⟨⟨aa,aa⟩,(lo+hi)/2-lo,aa,lo,(lo+hi)/2,rfl,rfl,aa,aa,rfl,i1,λi h3 h4 => ?_⟩
   rcases Qm ((lo+hi)/2) i with h|h
   ·cases hc:Op.bytesLess (ws.getD i []) s with
    |false=>rfl
    |true =>
     have:=jgX (hr _ i h h4) hc;rw[hb]at this;simp at this
   ·have:i=(lo+hi)/2:=by omega
    subst this;exact hb
 ·have he:hi=lo:=by omega
  obtain rfl:lo=hi:=he.symm;have c1:¬(lo:Int)<(lo:Int):=aa;have hcnt:=jrT h2 i1 i2;have hmem:=ju7 hr i1 i2;by_cases c3:lo<ws.length
  ·have c4:(lo:Int)<(ws.length:Int):=by omega
   have c6:(0:Int)<=(lo:Int)/\(lo:Int)<(ws.length:Int):=aa;by_cases c5:ws.getD lo []=s
   ·have hm:s∈ws:=hmem.2 ⟨c3,c5⟩;simp only[Nat.reduceGcd,Ka,Nat.reduceLT,Nat.reduceEqDiff,Km,Kq,reduceIte,Ys,Y0,Int.reduceEq,Int.reduceLT,Int.reduceLE,Int.reduceNeg,mb,Nat.reduceBEq,tys,stb,Vq,t0,t1,t6,t7,t8,c1,c4,c6,jdf,c3,c5,jaA,jie];simp[jay,jai,jbM,jal,jaQ,jav,jaz,hcnt,hm]
   ·have hm:¬s∈ws:=λh=>c5 (hmem.1 h).2
    simp only[Nat.reduceGcd,Ka,Nat.reduceLT,Nat.reduceEqDiff,Km,Kq,reduceIte,Ys,Y0,Int.reduceEq,Int.reduceLT,Int.reduceLE,Int.reduceNeg,mb,Nat.reduceBEq,tys,stb,Vq,t0,t1,t6,t7,t8,c1,c4,c6,jdf,c3,c5,jaA,jie];simp[jay,jai,jbM,jal,jaQ,jav,jaz,hcnt,hm]
  ·have c4:¬(lo:Int)<(ws.length:Int):=by omega
   have hm:¬s∈ws:=λh=>c3 (hmem.1 h).1
   simp only[Nat.reduceGcd,Ka,Nat.reduceLT,Nat.reduceEqDiff,Km,Kq,reduceIte,Ys,Y0,Int.reduceEq,Int.reduceLT,Int.reduceLE,Int.reduceNeg,mb,Nat.reduceBEq,tys,stb,Vq,t0,t1,t6,t7,t8,c1,c4,jdf,c3,jaA,jie];simp[jay,jai,jbM,jal,jaQ,jav,jaz,hcnt,hm]
def okC(c:UInt8):Prop:=(97<=c.toNat/\c.toNat<=122)\/(48<=c.toNat/\c.toNat<=57)\/c.toNat=95
instance (c:UInt8):Decidable (okC c):=by unfold okC;infer_instance
def jb0:List (List UInt8):=["above","and","batch","between","bits","by","consistent","count","else","factor","from","histogram","identity","if","join","keep","late","limit","mode","none","not","of","on","or","peak","prefix","quantile","running","sum","then","total","tree","using","where","with"].map λs=>s.toList.map λc=>UInt8.ofNat c.toNat
theorem joG:jqm=jb0.map V.str:=ac
theorem jgo:jb0.length=35:=ac
def jqp(ws:List (List UInt8)):Bool:=(List.range ws.length).all λj=>(List.range j).all λi=>Op.bytesLess (ws.getD i []) (ws.getD j [])
theorem jlf:jqo jb0:=by
 have h:jqp jb0=true:=ac;intro i j hij hj;unfold jqp at h;rw[Qq]at h;have h1:=h j (by simpa using hj);rw[Qq]at h1;exact h1 i (by simpa using hij)
def jaZ(s:List UInt8):Prop:=1<=s.length/\s.length<=20/\97<=(s.getD 0 0).toNat/\(s.getD 0 0).toNat<=122/\(∀i,i<s.length->okC (s.getD i 0))/\s ∉ jb0
instance (s:List UInt8):Decidable (jaZ s):=by unfold jaZ;infer_instance
theorem jtD:jb2 env 274 (.rptr jqm) none none none=some (.row (jb0.map V.str) jb0.length .full):=by
 rw[joG,jgo];exact jp9 u72 s9 (by rw[Qw,jgo])
theorem jc4(s:List UInt8)(hs:s.length<2^63)(U:S):jaf env (ev env) 257 [.str s] U=some (.bool (decide (jaZ s)),U):=by
 refine jak rfl jwL rfl ?_ U;by_cases h1:(s.length:Int)<1
 ·have hn:¬jaZ s:=λh=>by have:=h.1;omega
  simp only[Tryz.f257,simprocAttr,zK,Vq,h1,jaW,jcd,jbT u9];simp[jay,jai,jaz,hn]
 by_cases h2:(20:Int)<(s.length:Int)
 ·have hn:¬jaZ s:=λh=>by have:=h.2.1;omega
  simp only[Tryz.f257,simprocAttr,zK,Vq,h1,h2,jaW,jcd,jbT u9];simp[jay,jai,jaz,hn]
 have hb:(0:Int)<=0/\(0:Int)<(s.length:Int):=aa;have e0:Int.toNat 0=0:=rfl;by_cases h3:(((s.getD 0 0).toNat:Nat):Int)<97
 ·have hn:¬jaZ s:=λh=>by have:=h.2.2.1;omega
  simp only[Tryz.f257,simprocAttr,zK,Vq,h1,h2,h3,jaW,jcd,jbT u9,hb];simp[jay,jai,jaz,hn]
 by_cases h4:(122:Int)<(((s.getD 0 0).toNat:Nat):Int)
 ·have hn:¬jaZ s:=λh=>by have:=h.2.2.2.1;omega
  simp only[Tryz.f257,simprocAttr,zK,Vq,h1,h2,h3,h4,jaW,jcd,jbT u9,hb];simp[jay,jai,jaz,hn]
 simp only[Tryz.f257,simprocAttr,zK,Vq,h1,h2,h3,h4,jaW,jcd,jbT u9,hb];refine jax (λm T D U=>D=[]/\U=S.empty/\T 0=.str s/\T 26=.int .i64 s.length/\∃i:Nat,T 27=.int .i64 i/\i<=s.length/\m=s.length-i/\∀j,j<i->okC (s.getD j 0)) ?_ _ _ _ _ ⟨rfl,rfl,rfl,rfl,0,rfl,aa,rfl,λj h=>aa⟩;rintro m T D U ⟨rfl,rfl,t0,t26,i,t27,hi,rfl,hok⟩;refine jaB ?_;by_cases hlt:i<s.length
 ·have c1:(i:Int)<(s.length:Int):=by omega
  have c2:(0:Int)<=(i:Int)/\(i:Int)<(s.length:Int):=aa;have e1:IntKind.i64.wrap ((i:Int)+1)=((i+1:Nat):Int):=by rw[wrap_i64 aa aa];omega
  have hstep:okC (s.getD i 0)->∀j,j<i+1->okC (s.getD j 0):=λh j hj=>by
   rcases Qm j i with h2|h2
   ·exact hok j h2
   ·have:j=i:=by omega
    subst this;exact h
  have hbad:¬okC (s.getD i 0)->¬jaZ s:=λh hn=>h (hn.2.2.2.2.1 i hlt)
  have hun:okC (s.getD i 0)↔((97<=(s.getD i 0).toNat/\(s.getD i 0).toNat<=122)\/(48<=(s.getD i 0).toNat/\(s.getD i 0).toNat<=57)\/(s.getD i 0).toNat=95):=Iff.rfl;simp only[simprocAttr,zK,Vq,t0,t26,t27,c1,e1,jaW,jcd,jbT u9,c2,Qi];generalize (s.getD i 0)=c at *
  have inv:okC c->∃m',m'<s.length-i/\∃i_1:Nat,V.int IntKind.i64 ((i+1:Nat):Int)=V.int IntKind.i64 (i_1:Nat)/\i_1<=s.length/\m'=s.length-i_1/\∀(j:Nat),j<i_1->okC (s.getD j 0) :=
   λh=>⟨s.length-(i+1),aa,i+1,rfl,aa,rfl,hstep h⟩
  have bad:¬okC c->jaL S.empty.heap jai (jay [V.bool false])=some (V.bool (decide (jaZ s))):=λh=>by
   simp[jay,jai,jaz,hbad h]
  repeat' (first|apply Kd|intro _)
  all_goals first|exact inv (by unfold okC;omega)|exact bad (by unfold okC;omega)
 ·have hi2:i=s.length:=by omega
  have c1:¬(i:Int)<(s.length:Int):=aa;subst hi2
  have key:(s∈jb0)=¬jaZ s:=by
   apply propext;constructor
   ·exact λh hn=>hn.2.2.2.2.2 h
   ·intro h;apply Jq;intro hm;exact h ⟨aa,aa,aa,aa,hok,hm⟩
  simp only[simprocAttr,zK,Vq,t0,t26,t27,c1,jaW,jbX,jbY,jtD,jmB jb0 (by rw[jgo];decide) jlf,show env.gl 0=some (.rptr jqm)from rfl];by_cases hn:jaZ s
  ·have hm:¬s∈jb0:=hn.2.2.2.2.2;simp[jay,jai,jaz,hn,hm]
  ·have hm:s∈jb0:=by rw[key];exact hn
   simp[jay,jai,jaz,hn,hm]
theorem jrU(U:S):jaf env (ev env) 285 [] U=some (.row (jb0.map V.str) jb0.length .unk,U) :=
 jbc rfl rfl rfl (k:=20) (by rw[<- jb9];kernel_rfl) U
theorem jd4(s:List UInt8)(hs:s.length<2^63)(U:S):jaf env (ev env) 262 [.str s] U=some (.bool (decide (jaZ s)),U):=by
 refine jak rfl jwM rfl ?_ U;by_cases h1:(s.length:Int)<1
 ·have hn:¬jaZ s:=λh=>by have:=h.1;omega
  simp only[Tryz.f262,simprocAttr,zK,Vq,h1,jaW,jcd,jbT u9];simp[jay,jai,jaz,hn]
 by_cases h2:(20:Int)<(s.length:Int)
 ·have hn:¬jaZ s:=λh=>by have:=h.2.1;omega
  simp only[Tryz.f262,simprocAttr,zK,Vq,h1,h2,jaW,jcd,jbT u9];simp[jay,jai,jaz,hn]
 have hb:(0:Int)<=0/\(0:Int)<(s.length:Int):=aa;have e0:Int.toNat 0=0:=rfl;by_cases h3:(((s.getD 0 0).toNat:Nat):Int)<97
 ·have hn:¬jaZ s:=λh=>by have:=h.2.2.1;omega
  simp only[Tryz.f262,simprocAttr,zK,Vq,h1,h2,h3,jaW,jcd,jbT u9,hb];simp[jay,jai,jaz,hn]
 by_cases h4:(122:Int)<(((s.getD 0 0).toNat:Nat):Int)
 ·have hn:¬jaZ s:=λh=>by have:=h.2.2.2.1;omega
  simp only[Tryz.f262,simprocAttr,zK,Vq,h1,h2,h3,h4,jaW,jcd,jbT u9,hb];simp[jay,jai,jaz,hn]
 simp only[Tryz.f262,simprocAttr,zK,Vq,h1,h2,h3,h4,jaW,jcd,jbT u9,hb];refine jax (λm T D U=>D=[]/\U=S.empty/\T 0=.str s/\∃i:Nat,T 3=.int .i64 i/\i<=s.length/\m=s.length-i/\∀j,j<i->okC (s.getD j 0)) ?_ _ _ _ _ ⟨rfl,rfl,rfl,0,rfl,aa,rfl,λj h=>aa⟩;rintro m T D U ⟨rfl,rfl,t0,i,t3,hi,rfl,hok⟩;refine jaB ?_;by_cases hlt:i<s.length
 ·have c1:(i:Int)<(s.length:Int):=by omega
  have c2:(0:Int)<=(i:Int)/\(i:Int)<(s.length:Int):=aa;have e1:IntKind.i64.wrap ((i:Int)+1)=((i+1:Nat):Int):=by rw[wrap_i64 aa aa];omega
  have hstep:okC (s.getD i 0)->∀j,j<i+1->okC (s.getD j 0):=λh j hj=>by
   rcases Qm j i with h2|h2
   ·exact hok j h2
   ·have:j=i:=by omega
    subst this;exact h
  have hbad:¬okC (s.getD i 0)->¬jaZ s:=λh hn=>h (hn.2.2.2.2.1 i hlt)
  simp only[simprocAttr,zK,Vq,t0,t3,c1,e1,jaW,jcd,jbT u9,c2,Qi];generalize (s.getD i 0)=c at *
  have inv:okC c->∃m',m'<s.length-i/\∃i_1:Nat,V.int IntKind.i64 ((i+1:Nat):Int)=V.int IntKind.i64 (i_1:Nat)/\i_1<=s.length/\m'=s.length-i_1/\∀(j:Nat),j<i_1->okC (s.getD j 0) :=
   λh=>⟨s.length-(i+1),aa,i+1,rfl,aa,rfl,hstep h⟩
  have bad:¬okC c->jaL S.empty.heap jai (jay [V.bool false])=some (V.bool (decide (jaZ s))):=λh=>by
   simp[jay,jai,jaz,hbad h]
  repeat' (first|apply Kd|intro _)
  all_goals first|exact inv (by unfold okC;omega)|exact bad (by unfold okC;omega)
 ·have hi2:i=s.length:=by omega
  have c1:¬(i:Int)<(s.length:Int):=aa;subst hi2
  have key:(s∈jb0)=¬jaZ s:=by
   apply propext;constructor
   ·exact λh hn=>hn.2.2.2.2.2 h
   ·intro h;apply Jq;intro hm;exact h ⟨aa,aa,aa,aa,hok,hm⟩
  simp only[simprocAttr,zK,Vq,t0,t3,c1,jaW,jrU];refine jax (λm T D U=>D=[]/\U=S.empty/\T 0=.str s/\T 5=.row (jb0.map V.str) jb0.length .unk/\∃i:Nat,T 6=.int .i64 i/\i<=jb0.length/\m=jb0.length-i/\∀j,j<i->jb0.getD j [] ≠ s) ?_ _ _ _ _ ⟨rfl,rfl,t0,rfl,0,rfl,aa,rfl,λj h=>aa⟩;rintro m T D U ⟨rfl,rfl,t0,t5,i,t6,hi,rfl,hno⟩;refine jaB ?_;have hw:=jgo;by_cases hlt:i<jb0.length
  ·have c1:(i:Int)<(jb0.length:Int):=by omega
   have c2:(0:Int)<=(i:Int)/\(i:Int)<(jb0.length:Int):=aa;have e1:IntKind.i64.wrap ((i:Int)+1)=((i+1:Nat):Int):=by rw[wrap_i64 aa aa];omega
   by_cases he:jb0.getD i []=s
   ·have hn:¬jaZ s:=λh=>h.2.2.2.2.2 (by rw[<- he];simp[List.getD,hlt])
    simp only[simprocAttr,zK,Vq,t0,t5,t6,c1,c2,e1,jdf,hlt,he,jaA];simp[jay,jai,jaz,hn]
   ·simp only[simprocAttr,zK,Vq,t0,t5,t6,c1,c2,e1,jdf,hlt,he,jaA]
    exact⟨jb0.length-(i+1),aa,i+1,rfl,aa,rfl,λj hj=>by
     rcases Qm j i with h2|h2
     ·exact hno j h2
     ·have:j=i:=by omega
      subst this;exact he⟩
  ·have hi3:i=jb0.length:=by omega
   subst hi3;have c1:¬(jb0.length:Int)<(jb0.length:Int):=aa
   have hm:¬s∈jb0:=by
    intro hm;obtain⟨k,hk,rfl⟩:=Xt.1 hm;exact hno k hk (by simp[List.getD,hk])
   have hn:jaZ s:=⟨aa,aa,aa,aa,hok,hm⟩;simp only[simprocAttr,zK,Vq,t0,t5,t6,c1,jdf];simp[jay,jai,jaz,hn]
structure Col where
 name:List UInt8
 lo:Int
 hi:Int
 w:V
 ws:List (List UInt8)
def Col.cells(c:Col):List V:=[.str c.name,.int .i64 c.lo,.int .i64 c.hi,c.w]
def Col.none:Col:=⟨[],0,0,.nilsl,[]⟩
def IsW(w:V)(ws:List (List UInt8)):Prop:=(w=.nilsl/\ws=[])\/w=.row (ws.map V.str) ws.length .unk
def jaM(cs:List Col):List V:=(cs.map Col.cells).flatten
def IsC(v:V)(cs:List Col):Prop:=(v=.nilsl/\cs=[])\/∃q,(q=RCap.unk\/q=RCap.full)/\v=.row (jaM cs) cs.length q
def OkC(cs:List Col):Prop:=∀c∈cs,IsW c.w c.ws
theorem OkC.at {cs:List Col}(h:OkC cs){i:Nat}(hi:i<cs.length):IsW (cs.getD i Col.none).w (cs.getD i Col.none).ws:=h _ (by simp[List.getD,hi])
theorem jbE(c:Col)(cs:List Col):jaM (c::cs)=.str c.name::.int .i64 c.lo::.int .i64 c.hi::c.w::jaM cs:=rfl
theorem jcx:∀cs:List Col,(jaM cs).length=cs.length*4
 | []=>rfl
 |c::cs=>by rw[jbE];simp only[Qn,jcx cs];omega
theorem jgY:∀(cs:List Col) (i:Nat),(jaM cs).drop (i*4)=jaM (cs.drop i)
 |cs,0=>ae
 | [],i+1=>by simp[jaM]
 |c::cs,i+1=>by
  rw[jbE,show(i+1)*4=i*4+1+1+1+1 by omega];simp only[K9];exact jgY cs i
theorem jnS {cs:List Col}{i:Nat}(hi:i<cs.length):jaM (cs.drop i)=.str (cs.getD i Col.none).name::.int .i64 (cs.getD i Col.none).lo::.int .i64 (cs.getD i Col.none).hi::(cs.getD i Col.none).w::jaM (cs.drop (i+1)):=by
 have e:cs.drop i=cs.getD i Col.none::cs.drop (i+1):=by
  rw[Qj hi];simp[List.getD,hi]
 rw[e,jbE]
theorem je9 {v:V}{cs:List Col}(h:IsC v cs):ja9 (some (.slice 41)) v=some (.int .i64 cs.length):=by
 rcases h with⟨rfl,rfl⟩|⟨q,_,rfl⟩<;>rfl
theorem jcU {v:V}{ws:List (List UInt8)}(h:IsW v ws):ja9 (some (.slice 9)) v=some (.int .i64 ws.length):=by
 rcases h with⟨rfl,rfl⟩|rfl<;>rfl
theorem jeS {v:V}{cs:List Col}(h:IsC v cs){i:Nat}(hi:i<cs.length):jaw 4 v (.int .i64 (i:Int))=some (.rptr (.str (cs.getD i Col.none).name::.int .i64 (cs.getD i Col.none).lo::.int .i64 (cs.getD i Col.none).hi::(cs.getD i Col.none).w::jaM (cs.drop (i+1)))):=by
 rcases h with⟨rfl,rfl⟩|⟨q,_,rfl⟩
 ·simp at hi
 ·rw[Ys,Kj aa,Qi,jgY,jnS hi]
theorem jmC {v:V}{ws:List (List UInt8)}(h:IsW v ws){i:Nat}(hi:i<ws.length):jaw 1 v (.int .i64 (i:Int))=some (.rptr (.str (ws.getD i [])::(ws.map V.str).drop (i+1))):=by
 rcases h with⟨rfl,rfl⟩|rfl
 ·simp at hi
 ·rw[Ys,Kj aa,Qi,Xa,Qj (by simpa using hi)];simp[List.getD,hi]
theorem jar(h:List AObj)(v:V)(r:List V):(jab h 1 (.rptr (v::r))).bind (·[0]?)=some v:=by
 have:=Yz h (v::r) 0;simpa using this
theorem u27:env.P.underlying 36=some (.slice 41):=ac
theorem u32:env.P.underlying 32=some (.int .i64):=ac
theorem tys2:env.P.underlying 36=some (.slice 41)/\env.P.underlying 32=some (.int .i64)/\sz env 36=some 1/\sz env 41=some 4/\sz env 38=some 4/\sz env 4=some 1/\jas env 38 0=some 0/\jas env 38 1=some 1/\jas env 38 2=some 2/\jas env 38 3=some 3 /\
  jas env 41 0=some 0/\jas env 41 1=some 1/\jas env 41 2=some 2/\jas env 41 3=some 3/\(∀h p,jaF env h 36 p=(jab h 1 p).bind (·[0]?))/\(∀h p,jaF env h 4 p=(jab h 1 p).bind (·[0]?)):=by
 have g27:aggT env 36=some false:=ac;have g4:aggT env 4=some false:=ac;exact⟨u27,u32,ac,ac,ac,ac,ac,ac,ac,ac,ac,ac,ac,ac,λ_ _=>jau g27,λ_ _=>jau g4⟩
theorem jcn {w:V}{ws:List (List UInt8)}(h:IsW w ws):w.closed=true:=by
 rcases h with⟨rfl,rfl⟩|rfl
 ·rfl
 ·simp only[V.closed,jeG,K6]
theorem jf1:∀{cs:List Col},OkC cs->V.closed.closedL (jaM cs)=true
 | [],h=>rfl
 |c::cs,h=>by
  rw[jbE];simp only[V.closed.closedL,V.closed,jcn (h c ae),jf1 (cs:=cs) λx hx=>h x (by simp[hx]),K6]
theorem ja5 {v:V}{cs:List Col}(h:IsC v cs)(ok:OkC cs):v.closed=true:=by
 rcases h with⟨rfl,rfl⟩|⟨q,rfl|rfl,rfl⟩
 ·rfl
 ·simp only[V.closed,jf1 ok,K6]
 ·simp only[V.closed,jf1 ok,K6]
theorem jad(L:List AObj)(o:AObj):(L++[o])[L.length]? = some o:=ae
theorem jao(L:List AObj)(o o':AObj):(L++[o]).set L.length o'=L++[o']:=ae
theorem K2:type_of% (And.intro @jad (And.intro @jao (@YW))):=And.intro @jad (And.intro @jao (@YW))
theorem jaK(h:List AObj)(a b c d:V)(r:List V):jab h 4 (.rptr (a::b::c::d::r))=some [a,b,c,d]:=by simp[jab]
theorem jb4 {h:List AObj}{n:Nat}{a b c d:V}{t:TypeId}(hh:h[n]? = some (.cells [a,b,c,d] t)):jab h 4 (.ptr n 0)=some [a,b,c,d]:=by simp[jab,hh]
theorem jc9(h:List AObj)(p:V):jaF env h 41 p=(jab h 4 p).map .agg:=by
 unfold jaF;rw[show aggT env 41=some true by kernel_rfl,show sz env 41=some 4 by kernel_rfl];rfl
theorem jee(h:List AObj)(p:V):jaF env h 38 p=(jab h 4 p).map .agg:=by
 unfold jaF;rw[show aggT env 38=some true by kernel_rfl,show sz env 38=some 4 by kernel_rfl];rfl
theorem z44:ja8 env 41=some (.agg [.str [],.int .i64 0,.int .i64 0,.nilsl]):=ac
theorem z29:ja8 env 38=some (.agg [.str [],.bool false,.int .i64 0,.nilsl]):=ac
theorem jif:One env 39 9 16:=⟨ac,ac,ac,ac,ac,⟨.str [],ac,rfl⟩⟩
theorem el27:jfE env 36=some 41:=ac
theorem by44:bys env 41=some 56:=ac
theorem zn44:jhm env 41=some 4:=ac
def Col.cap(c:Col)(cap:RCap):Col:={ c with w:=.row (c.ws.map V.str) c.ws.length cap }
def joH(c:Col):Col:=c.cap .unk
inductive GrowC (ts:List Nat):V->List Col->Prop
 |nil:GrowC ts .nilsl []
 |tok (cs:List Col) (k e:Nat) (h:ts[k]? = some e) (hne:cs ≠ []):GrowC ts (.row (jaM cs) cs.length (.tok k e 4)) cs
theorem jdR(cs:List Col)(c:Col):jaM (cs++[c])=jaM cs++c.cells:=by simp[jaM]
theorem jtE {T:Tm}{U:S}{x:Operand}:opT env false T U (.buildSlice 36 1 #[(0,x)])=(jaP env T x).bind λv=>if v.cells.length=4 then some (.row v.cells 1 .full,U)else none:=by
 unfold opT;simp only[jba,jbp,jbs,jcs];cases jaP env T x with
 |none=>rfl
 |some v =>
  simp only[Kw,Kl,el27,tys2,z44];by_cases hv:v.cells.length=4
  ·simp[jei,hv,YW]
  ·simp[jei,hv,YW]
theorem GrowC.append {hp:List AObj}{ts:List Nat}{v:V}{cs:List Col}(g:GrowC ts v cs)(c:Col)(cap:RCap)(hc:c.cells.all V.isCell=true)(hb:cs.length+1<=1000) :
  ∃v' ts',appO env false ⟨hp,ts⟩ 36 36 v (.row c.cells 1 cap)=some (v',⟨hp,ts'⟩)/\GrowC ts' v' (cs++[c]):=by
 have hnew:jaT hp 4 1 (.row c.cells 1 cap)=some c.cells:=by simp[jaT,Col.cells]
 have hl1:(1:Nat)*56<=lim/\1<=lim:=af;have hl2:(cs.length+1)*56<=lim/\cs.length+1<=lim:=by have h:lim=2^40:=rfl;rw[h];omega
 unfold appO;simp only[el27,tys2,by44,zn44,vLen,hnew,Kl,Km];cases g with
 |nil =>
  refine⟨.row (jaM [c]) 1 (.tok ts.length 0 4),ts++[0],?_,.tok [c] ts.length 0 ae ae⟩;simp[jbf,hl1,jaM]
 | tok _ k e hk hne =>
  have hkl:k<ts.length:=by
   rcases Qm k ts.length with h1|h1
   ·exact h1
   ·rw[Ql h1]at hk;simp at hk
  refine⟨.row (jaM (cs++[c])) (cs++[c]).length (.tok k (e+1) 4),ts.set k (e+1),?_,.tok _ k (e+1) (by simp[hkl]) ae⟩;have hl3:(jaM cs).length=cs.length*4:=jcx cs;simp[jbf,hl2,hl3,hk,hc,jdR]
theorem jmD(s:List UInt8):(V.str s).isCell=true:=rfl
theorem ju8 {w:V}{ws:List (List UInt8)}(h:IsW w ws)(hb:ws.length<=1000)(hp:List AObj)(ts:List Nat) :
  ∃cap ts',appO env false ⟨hp,ts⟩ 39 39 (.row [] 0 .full) w=some (.row (ws.map V.str) ws.length cap,⟨hp,ts'⟩)/\∀(k e:Nat),ts[k]? = some e->ts'[k]? = some e:=by
 by_cases hn:ws=[]
 ·subst hn;refine⟨.full,ts,?_,λ_ _ h=>h⟩;unfold appO;simp only[jif.elem,jif.size,jif.bytes,jif.slice,jif.zeros,Kl,Km]
  rcases h with⟨rfl,_⟩|rfl<;>simp[vLen,jaT,jbf]
 ·rcases h with⟨_,h⟩|rfl
  ·exact absurd h hn
  ·have hl2:ws.length*16<=lim/\ws.length<=lim:=by have h:lim=2^40:=rfl;rw[h];omega
   have hall:(ws.map V.str).all V.isCell=true:=by simp[V.isCell]
   have hne:¬ws.length=0:=λh=>hn (Q5 h)
   refine⟨.tok ts.length 0 1,ts++[0],?_,λk e hk => ?_⟩
   ·unfold appO;simp only[jif.elem,jif.size,jif.bytes,jif.slice,jif.zeros,Kl,Km];have htk:List.take ws.length (ws.map V.str)=ws.map V.str:=Qu ae;simp[vLen,jaT,jbf,hl2,hne,hn,htk,jmD]
   ·rw[Ki]
    ·exact hk
    ·rcases Qm k ts.length with h1|h1
     ·exact h1
     ·rw[Ql h1]at hk;simp at hk
theorem jwN:env.P.funcs[106]? = some Tryz.f106:=ac
theorem jbe {w:V}{ws:List (List UInt8)}(h:IsW w ws):w.isCell=true:=by rcases h with⟨rfl,_⟩|rfl<;>rfl
theorem jae(s:List UInt8):(V.str s).isCell=true:=rfl
theorem jam(b:Bool):(V.bool b).isCell=true:=rfl
theorem Qf:type_of% (And.intro @jac (And.intro @jae (@jam))):=And.intro @jac (And.intro @jae (@jam))
theorem jdp(L:List AObj)(a b c d:V)(t:TypeId):jab (L++[.cells [a,b,c,d] t]) 4 (.ptr L.length 0)=some [a,b,c,d]:=jb4 (jad _ _)
theorem GrowC.keep {ts ts':List Nat}{v:V}{cs:List Col}(g:GrowC ts v cs)(h:∀(k e:Nat),ts[k]? = some e->ts'[k]? = some e):GrowC ts' v cs:=by
 cases g with
 |nil=>exact .nil
 |tok _ k e hk hne=>exact .tok _ k e (h k e hk) hne
theorem GrowC.cells {ts:List Nat}{v:V}{cs:List Col}(g:GrowC ts v cs):v.cells=[v]:=by cases g<;>rfl
theorem GrowC.cell {ts:List Nat}{v:V}{cs:List Col}(g:GrowC ts v cs):v.isCell=true:=by cases g<;>rfl
def jtF(cs:List Col):V:=if cs=[]then .nilsl else .row (jaM (cs.map joH)) cs.length .unk
theorem jlg(h:List AObj)(d:Nat)(ws:List (List UInt8)):(ws.map V.str).mapM (jaL h (d+1))=some (ws.map V.str) :=
 jfL h (d+1) _ λv hv=>by
  obtain⟨z,_,rfl⟩:=Ji.1 hv;rfl
theorem jlh(h:List AObj)(d:Nat):∀P:List Col,(∀c∈P,∃cap,c.w=.row (c.ws.map V.str) c.ws.length cap)->(jaM P).mapM (jaL h (d+2))=some (jaM (P.map joH))
 | [],_=>rfl
 |c::P,hp=>by
  obtain⟨cap,hw⟩:=hp c ae;rw[jbE,jal,jal,jal,jal,jlh h d P λx hx=>hp x (by simp[hx]),hw,jbB,jav,jav,ja2,jlg];rfl
theorem jqq {h:List AObj}{d:Nat}{ts:List Nat}{u:V}{P cs:List Col}(hg:GrowC ts u P)(hp:∀c∈P,∃cap,c.w=.row (c.ws.map V.str) c.ws.length cap)(hm:P.map joH=cs.map joH):jaL h (d+3) u=some (jtF cs):=by
 have hl:P.length=cs.length:=by have:=congrArg List.length hm;simpa using this
 cases hg with
 |nil =>
  have:cs=[]:=Q5 hl.symm;subst this;rfl
 |tok _ k e hk hne =>
  rw[ja2,jlh h d P hp,hm,hl];have he:cs ≠ []:=λe=>hne (Q5 (by rw[hl,e];rfl))
  simp[jtF,he]
theorem jli(nm:List UInt8)(pb:Bool)(many:Int)(cv:V)(cs:List Col)(hc:IsC cv cs)(ok:OkC cs)(hl:cs.length<=100)(hw:∀i,i<cs.length->(cs.getD i Col.none).ws.length<=100)(U:S) :
  jaf env (ev env) 106 [.agg [.str nm,.bool pb,.int .i64 many,cv]] U=some (.agg [.str nm,.bool pb,.int .i64 many,jtF cs],U):=by
 refine jak (by simp[V.closed,V.closed.closedL,ja5 hc ok]) jwN rfl ?_ U;have hcc:cv.isCell=true:=by rcases hc with⟨rfl,_⟩|⟨q,_,rfl⟩<;>rfl
 simp only[Tryz.f106,simprocAttr,zK,Vq,tys2,z29,z44,jaj,jaa,Jj,Q6,Ju,K9,J7,Ku,Qk,jae,jam,jac,hcc,V.isCell,J8]
 refine jax (λm T D U=>D=[]/\T 1=.ptr 0 0/\T 2=.ptr 1 0/\T 3=cv/\∃(L:List AObj) (ts:List Nat) (i:Nat) (P:List Col) (u:V),U=⟨L,ts⟩/\L[0]? = some (.cells [.str nm,.bool pb,.int .i64 many,u] 38) /\
  L[1]? = some (.cells [.str [],.bool false,.int .i64 0,.nilsl] 38)/\T 4=.int .i64 i/\i<=cs.length/\m=cs.length-i/\GrowC ts u P/\P.length=i/\P.map joH=(cs.take i).map joH/\∀c∈P,∃cap,c.w=.row (c.ws.map V.str) c.ws.length cap) ?_ _ _ _ _
  ⟨rfl,rfl,rfl,rfl,_,_,0,[],.nilsl,rfl,rfl,rfl,rfl,aa,rfl,.nil,rfl,rfl,λc h=>by simp at h⟩
 rintro m T D U ⟨rfl,t1,t2,t3,L,ts,i,P,u,rfl,l0,l1,t4,hi,rfl,hg,hpl,hpm,hpw⟩;refine jaB ?_
 have hn0:0<L.length:=by
  rcases Qm 0 L.length with h|h
  ·exact h
  ·rw[Ql h]at l0;simp at l0
 have hn1:1<L.length:=by
  rcases Qm 1 L.length with h|h
  ·exact h
  ·rw[Ql h]at l1;simp at l1
 by_cases hlt:i<cs.length
 ·have c1:(i:Int)<(cs.length:Int):=by omega
  have e1:IntKind.i64.wrap ((i:Int)+1)=((i+1:Nat):Int):=by rw[wrap_i64 aa aa];omega
  have hwi:=ok.at hlt;have hws:=hw i hlt;generalize hcd:cs.getD i Col.none=c at *;have hE0:∀o,(L++[o])[0]? = some (.cells [.str nm,.bool pb,.int .i64 many,u] 38):=λo=>by rw[Ki hn0];exact l0
  obtain⟨cap,ts',hA,hk⟩:=ju8 hwi aa (L++[.cells [.str c.name,.int .i64 c.lo,.int .i64 c.hi,c.w] 41]) ts;obtain⟨u',ts'',hB,hg'⟩:=(hg.keep hk).append (hp:=L++[.cells [.str c.name,.int .i64 c.lo,.int .i64 c.hi,.row (c.ws.map V.str) c.ws.length cap] 41]) (c.cap cap) .full (by simp[Col.cells,Col.cap,V.isCell]) aa;have hcells:(c.cap cap).cells=[.str c.name,.int .i64 c.lo,.int .i64 c.hi,.row (c.ws.map V.str) c.ws.length cap]:=rfl;rw[hcells]at hB;have hic:=jbe hwi;have hiu:=hg'.cell;have hcu:=hg'.cells;have hx:=jeS hc hlt;rw[hcd]at hx;simp only[simprocAttr,zK,Vq,tys2,t1,t2,t3,t4,c1,e1,je9 hc,hx,jc9,jaK,z44,jad,jao,jaa,Jj,Q6,Ju,K9,J7,Ku,Qk,jae,jac,YG,hic,hiu,hcu,joC jif,hA,jdp,jtE,hE0,hB,Q8,Jb];have hset:∀o A:AObj,((L++[o]).set 0 A)[0]? = some A:=λo A=>by rw[Kn ae]
  have hset1:∀o A:AObj,((L++[o]).set 0 A)[1]? = some (.cells [.str [],.bool false,.int .i64 0,.nilsl] 38):=λo A=>by
   rw[Kg aa,Ki hn1];exact l1
  refine⟨cs.length-(i+1),aa,_,_,i+1,P++[c.cap cap],u',rfl,hset _ _,hset1 _ _,rfl,aa,rfl,hg',by simp[hpl],?_,?_⟩
  ·rw[Js,hpm,V9,Js]
   congr 1
   have:cs[i]? = some c:=by rw[<- hcd];simp[List.getD,hlt]
   rw[this];rfl
  ·intro x hx
   rcases Jx.1 hx with h|h
   ·exact hpw x h
   ·simp only[J9]at h;subst h;exact⟨cap,rfl⟩
 ·have hi2:i=cs.length:=by omega
  subst hi2;have c1:¬(cs.length:Int)<(cs.length:Int):=aa;have hiu:=hg.cell;have hset1:∀A:AObj,(L.set 1 A)[1]? = some A:=λA=>by rw[Kn hn1]
  simp only[simprocAttr,zK,Vq,tys2,t1,t2,t3,t4,c1,je9 hc,jee,jb4 l0,l1,jaa,Jj,Q6,Ju,K9,J7,Ku,Qk,jae,jac,jam,hiu,jb4 (hset1 _),YW];rw[Jp]at hpm;simp only[jay,jai,jeo,jal,jaQ,jbB,jaz,jav,jqq hg hpw hpm,Kl,Kw]
theorem jwO:env.P.funcs[286]? = some Tryz.f286:=ac
def jiO(ws:List (List UInt8)):Prop:=∃k i,k<i/\i<ws.length/\ws.getD k []=ws.getD i []
open Classical in
theorem jfx(w:V)(ws:List (List UInt8))(h:IsW w ws)(hl:ws.length<=1000)(U:S):jaf env (ev env) 286 [w] U=some (.bool (decide (jiO ws)),U):=by
 refine jak (by simp[jcn h]) jwO rfl ?_ U;simp only[Tryz.f286,simprocAttr,zK,Vq];refine jax (λm T D U=>D=[]/\U=S.empty/\T 0=w/\∃i:Nat,T 3=.int .i64 i/\i<=ws.length/\m=ws.length-i/\∀j k,k<j->j<i->ws.getD k [] ≠ ws.getD j []) ?_ _ _ _ _ ⟨rfl,rfl,rfl,0,rfl,aa,rfl,λj k h1 h2=>aa⟩;rintro m T D U ⟨rfl,rfl,t0,i,t3,hi,rfl,hno⟩;refine jaB ?_;by_cases hlt:i<ws.length
 ·have c1:(i:Int)<(ws.length:Int):=by omega
  have e1:IntKind.i64.wrap ((i:Int)+1)=((i+1:Nat):Int):=by rw[wrap_i64 aa aa];omega
  simp only[simprocAttr,zK,Vq,t0,t3,c1,e1,jcU h];refine jax (λm T D U=>D=[]/\U=S.empty/\T 0=w/\T 3=.int .i64 i/\∃k:Nat,T 4=.int .i64 k/\k<=i/\m=i-k/\∀j,j<k->ws.getD j [] ≠ ws.getD i []) ?_ _ _ _ _ ⟨rfl,rfl,t0,t3,0,rfl,aa,rfl,λj h1=>aa⟩;rintro m T D U ⟨rfl,rfl,t0,t3,k,t4,hk,rfl,hno2⟩;refine jaB ?_;by_cases hlt2:k<i
  ·have c2:(k:Int)<(i:Int):=by omega
   have e2:IntKind.i64.wrap ((k:Int)+1)=((k+1:Nat):Int):=by rw[wrap_i64 aa aa];omega
   have x1:=jmC h hlt;have x2:=jmC h (show k<ws.length by omega);by_cases he:ws.getD k []=ws.getD i []
   ·have hv:jiO ws:=⟨k,i,hlt2,hlt,he⟩;simp only[simprocAttr,zK,Vq,t0,t3,t4,c2,e2,x1,x2,jar,jaA,he];refine⟨ac,?_⟩;simp[jay,jai,jaz,hv]
   ·simp only[simprocAttr,zK,Vq,t0,t3,t4,c2,e2,x1,x2,jar,jaA,he]
    exact⟨ac,i-(k+1),aa,k+1,rfl,aa,rfl,λj hj=>by
     rcases Qm j k with h2|h2
     ·exact hno2 j h2
     ·have:j=k:=by omega
      subst this;exact he⟩
  ·have hk2:k=i:=by omega
   subst hk2;have c2:¬(k:Int)<(k:Int):=aa;simp only[simprocAttr,zK,Vq,t0,t3,t4,c2,e1]
   exact⟨ws.length-(k+1),aa,k+1,rfl,aa,rfl,λj q h1 h2=>by
    rcases Qm j k with h3|h3
    ·exact hno j q h1 h3
    ·have:j=k:=by omega
     subst this;exact hno2 q h1⟩
 ·have hi2:i=ws.length:=by omega
  subst hi2;have c1:¬(ws.length:Int)<(ws.length:Int):=aa;have hn:¬jiO ws:=λ⟨k,j,h1,h2,h3⟩=>hno j k h1 h2 h3
  simp only[simprocAttr,zK,Vq,t0,t3,c1,jcU h];simp[jay,jai,jaz,hn]
theorem jwP:env.P.funcs[263]? = some Tryz.f263:=ac
open Classical in
noncomputable def colE(c:Col):Int :=
 if c.ws.length=0 then(if c.lo < -1000000\/1000000<c.hi\/c.hi<c.lo then 2 else 0)
 else if 64<c.ws.length then 4
 else if ∃i,i<c.ws.length/\¬jaZ (c.ws.getD i [])then 19
 else if jiO c.ws then 8
 else if c.lo ≠ 0\/c.hi ≠ (c.ws.length:Int)-1 then 2 else 0
def jdS(c:Col):Prop:=c.name.length<2^63/\c.ws.length<=1000/\∀i,i<c.ws.length->(c.ws.getD i []).length<2^63
open Classical in
theorem jig(c:Col)(h:IsW c.w c.ws)(hs:jdS c)(U:S):jaf env (ev env) 263 [.agg [.str c.name,.int .i64 c.lo,.int .i64 c.hi,c.w]] U=some (.int .i64 (colE c),U):=by
 refine jak (by simp[V.closed,V.closed.closedL,jcn h]) jwP rfl ?_ U;obtain⟨hs1,hs2,hs3⟩:=hs;have hic:=jbe h;obtain⟨nm,lo,hi,w,ws⟩:=c;simp only at h hs1 hs2 hs3 hic ⊢;by_cases h0:ws.length=0
 ·have c0:(ws.length:Int)=0:=by omega
  by_cases h1:lo < -1000000
  ·have he:colE ⟨nm,lo,hi,w,ws⟩=2:=by simp only[colE,h0,Km];rw[Kj (.inl h1)]
   simp only[Tryz.f263,simprocAttr,zK,Vq,tys2,jaj,jcU h,c0,h1];simp only[jay,jai,jav,he]
  by_cases h2:1000000<hi
  ·have he:colE ⟨nm,lo,hi,w,ws⟩=2:=by simp only[colE,h0,Km];rw[Kj (.inr (.inl h2))]
   simp only[Tryz.f263,simprocAttr,zK,Vq,tys2,jaj,jcU h,c0,h1,h2];simp only[jay,jai,jav,he]
  by_cases h3:hi<lo
  ·have he:colE ⟨nm,lo,hi,w,ws⟩=2:=by simp only[colE,h0,Km];rw[Kj (.inr (.inr h3))]
   simp only[Tryz.f263,simprocAttr,zK,Vq,tys2,jaj,jcU h,c0,h1,h2,h3];simp only[jay,jai,jav,he]
  ·have he:colE ⟨nm,lo,hi,w,ws⟩=0:=by simp only[colE,h0,Km];rw[Kh aa]
   simp only[Tryz.f263,simprocAttr,zK,Vq,tys2,jaj,jcU h,c0,h1,h2,h3];simp only[jay,jai,jav,he]
 have c0:¬(ws.length:Int)=0:=aa;by_cases h1:(64:Int)<(ws.length:Int)
 ·have he:colE ⟨nm,lo,hi,w,ws⟩=4:=by simp only[colE];rw[Kh h0,Kj aa]
  simp only[Tryz.f263,simprocAttr,zK,Vq,tys2,jaj,jcU h,c0,h1];simp only[jay,jai,jav,he]
 simp only[Tryz.f263,simprocAttr,zK,Vq,tys2,jaj,jcU h,c0,h1];refine jax (λm T D U=>D=[]/\U=⟨[.cells [.str nm,.int .i64 lo,.int .i64 hi,w] 41],[]⟩/\T 1=.ptr 0 0/\T 3=.int .i64 ws.length/\∃i:Nat,T 4=.int .i64 i/\i<=ws.length/\m=ws.length-i/\∀j,j<i->jaZ (ws.getD j [])) ?_ _ _ _ _ ⟨rfl,rfl,rfl,rfl,0,rfl,aa,rfl,λj h1=>aa⟩;rintro m T D U ⟨rfl,rfl,t1,t3,i,t4,hi',rfl,hok⟩;refine jaB ?_;by_cases hlt:i<ws.length
 ·have c1:(i:Int)<(ws.length:Int):=by omega
  have e1:IntKind.i64.wrap ((i:Int)+1)=((i+1:Nat):Int):=by rw[wrap_i64 aa aa];omega
  have x1:=jmC h hlt;by_cases hn:jaZ (ws.getD i [])
  ·simp only[simprocAttr,zK,Vq,tys2,t1,t3,t4,c1,e1,x1,jar,jd4 _ (hs3 i hlt),hn]
   exact⟨ws.length-(i+1),aa,i+1,rfl,aa,rfl,λj hj=>by
    rcases Qm j i with h2|h2
    ·exact hok j h2
    ·have:j=i:=by omega
     subst this;exact hn⟩
  ·have he:colE ⟨nm,lo,hi,w,ws⟩=19:=by simp only[colE];rw[Kh h0,Kh aa,Kj ⟨i,hlt,hn⟩]
   simp only[simprocAttr,zK,Vq,tys2,t1,t3,t4,c1,e1,x1,jar,jd4 _ (hs3 i hlt),hn];simp only[jay,jai,jav,he]
 ·have hi2:i=ws.length:=by omega
  subst hi2;have c1:¬(ws.length:Int)<(ws.length:Int):=aa;have hno:¬∃i,i<ws.length/\¬jaZ (ws.getD i []):=λ⟨i,h1,h2⟩=>h2 (hok i h1)
  by_cases h2:jiO ws
  ·have he:colE ⟨nm,lo,hi,w,ws⟩=8:=by simp only[colE];rw[Kh h0,Kh aa,Kh hno,Kj h2]
   simp only[simprocAttr,zK,Vq,tys2,t1,t3,t4,c1,jfx w ws h hs2,h2];simp only[jay,jai,jav,he]
  have e2:IntKind.i64.wrap ((ws.length:Int)-1)=(ws.length:Int)-1:=wrap_i64 aa aa;by_cases h3:lo=0
  ·by_cases h4:hi=(ws.length:Int)-1
   ·have he:colE ⟨nm,lo,hi,w,ws⟩=0:=by simp only[colE];rw[Kh h0,Kh aa,Kh hno,Kh h2,Kh (by rintro(h|h);exact h h3;exact h h4)]
    simp only[simprocAttr,zK,Vq,tys2,t1,t3,t4,c1,jfx w ws h hs2,h2,h3,e2,h4];simp only[jay,jai,jav,<- h3,<- h4,he]
   ·have he:colE ⟨nm,lo,hi,w,ws⟩=2:=by simp only[colE];rw[Kh h0,Kh aa,Kh hno,Kh h2,Kj (.inr h4)]
    simp only[simprocAttr,zK,Vq,tys2,t1,t3,t4,c1,jfx w ws h hs2,h2,h3,e2,h4];simp only[jay,jai,jav,<- h3,he]
  ·have he:colE ⟨nm,lo,hi,w,ws⟩=2:=by simp only[colE];rw[Kh h0,Kh aa,Kh hno,Kh h2,Kj (.inl h3)]
   simp only[simprocAttr,zK,Vq,tys2,t1,t3,t4,c1,jfx w ws h hs2,h2,h3];simp only[jay,jai,jav,he]
theorem jrV(L:List AObj)(o:AObj):(L++[o]).length=L.length+1:=ae
open Classical in
noncomputable def colX(cs:List Col)(i:Nat):Int :=
 if ¬jaZ (cs.getD i Col.none).name then 19
 else if ∃k,k<i/\(cs.getD k Col.none).name=(cs.getD i Col.none).name then 8
 else colE (cs.getD i Col.none)
noncomputable def jce(cs:List Col):Nat->Nat->Int × Int
 |0,_=>(0,-1)
 |m+1,i=>if colX cs i=0 then jce cs m (i+1)else(colX cs i,i)
open Classical in
noncomputable def jda(nm:List UInt8)(pb:Bool)(many:Int)(cs:List Col):Int × Int :=
 if ¬jaZ nm then(19,-1)
 else if(pb=true/\many ≠ 0)\/(pb=false/\(many<1\/50<many))then(2,-1)
 else if cs.length=0 then(3,-1)
 else if 16<cs.length then(4,-1)
 else jce cs cs.length 0
abbrev Q24(r:Int × Int):Post:=⟨wpR env [.tmp 2,.tmp 3] λv' U'=>jaL U'.heap jai v'=some (.tup [.int .i64 r.1,.int .i64 r.2]),λ_ _ _ _=>False,wpR env [.tmp 2,.tmp 3] λv' U'=>jaL U'.heap jai v'=some (.tup [.int .i64 r.1,.int .i64 r.2])⟩
open Classical in
theorem jgZ(nm:List UInt8)(pb:Bool)(many:Int)(cv:V)(cs:List Col)(hc:IsC cv cs)(ok:OkC cs)(hl:cs.length<=1000)(hs:∀i,i<cs.length->jdS (cs.getD i Col.none))(r:Int × Int)(hr:r=jce cs cs.length 0)(c2:Code)
  (h2:∀T U,r=(0,-1)->G env 224 none 84 (Q24 r) [] c2 T [] U) (T:Tm) (t1:T 1=.ptr 0 0) (t4:T 4=.int .i64 0) :
  je6 env 224 none 84 (jeH 1 (jaC Tryz.f224)) T [] ⟨[.cells [.str nm,.bool pb,.int .i64 many,cv] 38],[]⟩ (Kt.post env 224 none 84 (Q24 r) [.blk 1,.code c2]):=by
 simp only[jaC,Tryz.f224,Kv,jeH,blkC,Option.or,Nat.reduceEqDiff,Kq,Km,reduceIte]
 refine jax (λm T D U=>D=[]/\T 1=.ptr 0 0/\∃(L:List AObj) (ts:List Nat) (i:Nat),U=⟨L,ts⟩/\L[0]? = some (.cells [.str nm,.bool pb,.int .i64 many,cv] 38)/\T 4=.int .i64 i/\i<=cs.length/\m=cs.length-i/\r=jce cs (cs.length-i) i) ?_ _ _ _ _
  ⟨rfl,t1,_,_,0,rfl,rfl,t4,aa,rfl,by simpa using hr⟩
 clear t1 t4 T;rintro m T D U ⟨rfl,t1,L,ts,i,rfl,l0,t4,hi,rfl,hri⟩;refine jaB ?_
 have hn0:0<L.length:=by
  rcases Qm 0 L.length with h|h
  ·exact h
  ·rw[Ql h]at l0;simp at l0
 by_cases hlt:i<cs.length
 ·have c1:(i:Int)<(cs.length:Int):=by omega
  have e1:IntKind.i64.wrap ((i:Int)+1)=((i+1:Nat):Int):=by rw[wrap_i64 aa aa];omega
  have hwc:=ok.at hlt;have hsc:=hs i hlt;have hx:=jeS hc hlt;have hic:=jbe hwc;have hE0:∀o,(L++[o])[0]? = some (.cells [.str nm,.bool pb,.int .i64 many,cv] 38):=λo=>by rw[Ki hn0];exact l0
  obtain⟨q,hq⟩:∃q,cs.length-i=q+1:=⟨cs.length-i-1,aa⟩;have hq2:q=cs.length-(i+1):=aa;have hstep:jce cs (cs.length-i) i=if colX cs i=0 then jce cs q (i+1)else(colX cs i,(i:Int)):=by rw[hq];rfl
  rw[hstep]at hri;by_cases hnm:jaZ (cs.getD i Col.none).name
  case neg =>
   have hX:colX cs i=19:=by simp only[colX];rw[Kj hnm]
   rw[hX,Kh aa]at hri;subst hri;simp -implicitDefEqProofs only[simprocAttr,zK,Vq,tys2,t1,t4,c1,l0,hE0,je9 hc,hx,jc9,jaK,z44,jad,jao,jaa,Jj,Q6,K9,J7,Ku,Qk,jae,jac,hic,YW,jd4 _ hsc.1,hnm];simp only[jay,jai,jbM,jal,jaQ,jav,Kl,Kw]
  simp -implicitDefEqProofs only[simprocAttr,zK,Vq,tys2,t1,t4,c1,l0,hE0,je9 hc,hx,jc9,jaK,z44,jad,jao,jaa,Jj,Q6,K9,J7,Ku,Qk,jae,jac,hic,YW,jd4 _ hsc.1,hnm]
  refine jax (λm T D U=>D=[]/\U=⟨L++[.cells [.str (cs.getD i Col.none).name,.int .i64 (cs.getD i Col.none).lo,.int .i64 (cs.getD i Col.none).hi,(cs.getD i Col.none).w] 41],ts⟩/\T 1=.ptr 0 0/\T 4=.int .i64 i/\T 5=.ptr L.length 0 /\
   ∃k:Nat,T 6=.int .i64 k/\k<=i/\m=i-k/\∀j,j<k->(cs.getD j Col.none).name ≠ (cs.getD i Col.none).name) ?_ _ _ _ _ ⟨rfl,rfl,t1,t4,rfl,0,rfl,aa,rfl,λj h1=>aa⟩
  rintro m T D U ⟨rfl,rfl,t1,t4,t5,k,t6,hk,rfl,hno⟩;refine jaB ?_;by_cases hlt2:k<i
  ·have c3:(k:Int)<(i:Int):=by omega
   have e2:IntKind.i64.wrap ((k:Int)+1)=((k+1:Nat):Int):=by rw[wrap_i64 aa aa];omega
   have hy:=jeS hc (show k<cs.length by omega);by_cases he:(cs.getD k Col.none).name=(cs.getD i Col.none).name
   ·have hX:colX cs i=8:=by simp only[colX];rw[Kh (not_not_intro hnm),Kj ⟨k,hlt2,he⟩]
    rw[hX,Kh aa]at hri;subst hri;simp -implicitDefEqProofs only[simprocAttr,zK,Vq,tys2,t1,t4,t5,t6,c3,hE0,hy,jar,jad,jaA,he];refine⟨ac,?_⟩;simp only[jay,jai,jbM,jal,jaQ,jav,Kl,Kw]
   ·simp -implicitDefEqProofs only[simprocAttr,zK,Vq,tys2,t1,t4,t5,t6,c3,e2,hE0,hy,jar,jad,jaA,he]
    exact⟨ac,i-(k+1),aa,k+1,rfl,aa,rfl,λj hj=>by
     rcases Qm j k with h2|h2
     ·exact hno j h2
     ·have:j=k:=by omega
      subst this;exact he⟩
  ·have hk2:k=i:=by omega
   subst hk2;have c3:¬(k:Int)<(k:Int):=aa;have hX:colX cs k=colE (cs.getD k Col.none):=by simp only[colX];rw[Kh (not_not_intro hnm),Kh (by rintro⟨j,h1,h2⟩;exact hno j h1 h2)]
   by_cases hz:colE (cs.getD k Col.none)=0
   ·rw[hX,Kj hz,hq2]at hri;simp -implicitDefEqProofs only[simprocAttr,zK,Vq,tys2,t1,t4,t5,t6,c3,e1,jc9,jdp,jig _ hwc hsc,hz];exact⟨cs.length-(k+1),aa,_,_,k+1,rfl,hE0 _,rfl,aa,rfl,hri⟩
   ·rw[hX,Kh hz]at hri;subst hri;simp -implicitDefEqProofs only[simprocAttr,zK,Vq,tys2,t1,t4,t5,t6,c3,jc9,jdp,jig _ hwc hsc,hz];simp only[jay,jai,jbM,jal,jaQ,jav,Kl,Kw]
 ·have hi2:i=cs.length:=by omega
  subst hi2;have c1:¬(cs.length:Int)<(cs.length:Int):=aa;have h0:r=(0,-1):=by rw[hri,Xh];rfl
  simp -implicitDefEqProofs only[simprocAttr,zK,Vq,tys2,t1,t4,c1,l0,je9 hc];exact h2 _ _ h0
end Go.Proofs.YtajaampgajieeaaGreatDoor
