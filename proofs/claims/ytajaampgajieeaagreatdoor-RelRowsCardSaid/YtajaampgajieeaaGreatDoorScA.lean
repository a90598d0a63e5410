/- Proved here: names, words, columns. Conditions: those of each theorem; no statement of the seat is proved in this text. -/
import Derived.Test.YtajaampgajieeaaGreatDoorEnvT
set_option linter.unusedSimpArgs false
set_option maxHeartbeats 16000000
set_option maxRecDepth 1000000
set_option linter.unusedVariables false
set_option linter.unusedSectionVars false
namespace Go.Proofs.YtajaampgajieeaaGreatDoor
open Go.Ab
theorem u3:env.P.underlying 3=some (.int .i64):=by kernel_rfl
theorem u4:env.P.underlying 4=some .bool:=by kernel_rfl
theorem u5:env.P.underlying 5=some (.int .u8):=by kernel_rfl
theorem u9:env.P.underlying 9=some .string:=by kernel_rfl
theorem u24:env.P.underlying 39=some (.slice 9):=by kernel_rfl
theorem u72:env.P.underlying 274=some (.array 35 9):=by kernel_rfl
theorem u115:env.P.underlying 150=some (.int .u64):=by kernel_rfl
theorem s9:sz env 9=some 1:=by kernel_rfl
theorem s24:sz env 39=some 1:=by kernel_rfl
theorem s3:sz env 3=some 1:=by kernel_rfl
theorem g9:aggT env 9=some false:=by kernel_rfl
theorem g24:aggT env 39=some false:=by kernel_rfl
theorem g3:aggT env 3=some false:=by kernel_rfl
theorem tys:env.P.underlying 3=some (.int .i64)/\env.P.underlying 4=some .bool/\env.P.underlying 5=some (.int .u8)/\env.P.underlying 9=some .string/\env.P.underlying 39=some (.slice 9)/\env.P.underlying 150=some (.int .u64)/\sz env 9=some 1/\sz env 39=some 1/\sz env 3=some 1 /\
  (∀h p,jaF env h 9 p=(jab h 1 p).bind (·[0]?))/\(∀h p,jaF env h 39 p=(jab h 1 p).bind (·[0]?))/\(∀h p,jaF env h 3 p=(jab h 1 p).bind (·[0]?)) :=
 ⟨u3,u4,u5,u9,u24,u115,s9,s24,s3,λ_ _=>jaw g9,λ_ _=>jaw g24,λ_ _=>jaw g3⟩
theorem mb(f:FuncId)(r:Nat)(h:(f==157 ||f==182 && r==3)=false):env.mutb f r=false:=h
theorem stb(f:FuncId)(r:Nat)(h:(f==28 && r==6)=false):env.stab f r=false:=h
theorem Kc:type_of% (Kd @mb (Kd @stb @tys)):=Kd @mb (Kd @stb @tys)
theorem jwS:env.P.funcs[341]? = some Tryz.f341:=by kernel_rfl
theorem jwT:env.P.funcs[317]? = some Tryz.f317:=by kernel_rfl
theorem jwU:env.P.funcs[316]? = some Tryz.f316:=by kernel_rfl
theorem jwV:env.P.funcs[284]? = some Tryz.f284:=by kernel_rfl
theorem jwW:env.P.funcs[257]? = some Tryz.f257:=by kernel_rfl
theorem jwX:env.P.funcs[262]? = some Tryz.f262:=by kernel_rfl
theorem jsa(s:List UInt8)(U:S):jai env (ev env) 341 [.str s] U=some (.bool false,U):=by
 refine jal rfl rfl rfl jwS rfl (by simp[Tryz.f341]) (by simp[Tryz.f341]) (jah ?_) U;simp only[Tryz.f341,Ka,simprocAttr,Ys,Y0,Kc,Vq,jaD];simp[jaz,jaj,jaA]
theorem jig(s:List UInt8)(U:S):jai env (ev env) 317 [.str s] U=some (.bool false,U):=by
 refine jal rfl rfl rfl jwT rfl (by simp[Tryz.f317]) (by simp[Tryz.f317]) (jah ?_) U;simp only[Tryz.f317,Ka,simprocAttr,Ys,Y0,Kc,Vq,jaD];simp[jaz,jaj,jaA]
theorem jlj(a b:List UInt8)(U:S):jai env (ev env) 316 [.str a,.str b] U=some (.bool (Op.bytesLess a b),U):=by
 refine jal rfl rfl rfl jwU rfl (by simp[Tryz.f316]) (by simp[Tryz.f316]) (jah ?_) U;cases h:Op.bytesLess a b<;>
 ·simp only[Tryz.f316,Ka,simprocAttr,Ys,Y0,Kc,Vq,jle,jsa,h];simp[jaz,jaj,jaA]
theorem jgV:∀{a b c:List UInt8},Op.bytesLess a b=true->Op.bytesLess b c=true->Op.bytesLess a c=true
 |_,[],_,h,_=>by simp[Op.bytesLess]at h
 |_,_::_,[],_,h=>by simp[Op.bytesLess]at h
 | [],y::b,z::c,_,_=>rfl
 | x::a,y::b,z::c,h,k=>by
  simp only[Op.bytesLess,J7,Ql,Q7,beq_iff_eq]at h k ⊢
  rcases h with h|⟨rfl,h⟩
  ·rcases k with k|⟨rfl,k⟩
   ·exact .inl (UInt8.lt_trans h k)
   ·exact .inl h
  ·rcases k with k|⟨rfl,k⟩
   ·exact .inl k
   ·exact .inr ⟨rfl,jgV h k⟩
def jqI(ws:List (List UInt8)):Prop:=∀i j,i<j->j<ws.length->Op.bytesLess (ws.getD i []) (ws.getD j [])=true
theorem jsb {ws:List (List UInt8)}{s:List UInt8}{lo:Nat}(hl:lo<=ws.length)(h1:∀i,i<lo->Op.bytesLess (ws.getD i []) s=true)(h2:∀i,lo<=i->i<ws.length->Op.bytesLess (ws.getD i []) s=false) :
  ws.countP (λw=>Op.bytesLess w s)=lo:=by
 have e:ws=ws.take lo++ws.drop lo:=(Xl lo ws).symm;rw[e,Vm]
 have a1:(ws.take lo).countP (λw=>Op.bytesLess w s)=(ws.take lo).length:=by
  rw[List.countP_eq_length];intro w hw;obtain⟨i,hi,rfl⟩:=Xc.1 hw;have:=h1 i (by simp at hi;omega);have hi2:i<ws.length:=by simp at hi;omega
  simpa[List.getD,hi2]using this
 have a2:(ws.drop lo).countP (λw=>Op.bytesLess w s)=0:=by
  rw[List.countP_eq_zero];intro w hw;obtain⟨i,hi,rfl⟩:=Xc.1 hw;have hi2:lo+i<ws.length:=by simp at hi;omega
  have:=h2 (lo+i) (by omega) hi2;simpa[List.getD,hi2]using this
 rw[a1,a2];simp;omega
theorem jvg {ws:List (List UInt8)}{s:List UInt8}{lo:Nat}(hr:jqI ws)(h1:∀i,i<lo->Op.bytesLess (ws.getD i []) s=true)(h2:∀i,lo<=i->i<ws.length->Op.bytesLess (ws.getD i []) s=false) :
  (s∈ws)↔(lo<ws.length/\ws.getD lo []=s):=by
 constructor
 ·intro hm;obtain⟨k,hk,rfl⟩:=Xc.1 hm;have ek:ws.getD k []=ws[k]:=by simp[List.getD,hk]
  have hlo:lo<=k:=by
   rcases Qf k lo with h|h
   ·have:=h1 k h;rw[ek,jlg]at this;simp at this
   ·exact h
  rcases Qf lo k with h|h
  ·have:=hr lo k h hk;rw[ek,h2 lo (Kz _) (by omega)]at this;simp at this
  ·have:lo=k:=by omega
   subst this;exact⟨hk,ek⟩
 ·rintro⟨h,rfl⟩;simp[List.getD,h]
theorem jmJ(ws:List (List UInt8))(hw:ws.length<2^40)(hr:jqI ws)(s:List UInt8)(U:S) :
  jai env (ev env) 284 [.row (ws.map V.str) ws.length .full,.str s] U=some (.tup [.int .i64 (ws.countP (λw=>Op.bytesLess w s):Nat),.bool (decide (s∈ws))],U):=by
 refine jal rfl rfl (by simp[V.closed,jeI]) jwV rfl (by simp[Tryz.f284]) (by simp[Tryz.f284]) (jah ?_) U;simp only[Nat.reduceGcd,Tryz.f284,Ka,Nat.reduceLT,Nat.reduceEqDiff,Kk,Kn,reduceIte,Ys,Y0,Int.reduceEq,Int.reduceLT,Int.reduceLE,Int.reduceNeg,mb,Nat.reduceBEq,tys,stb,Vq,jle,jaB]
 refine jay (λm T D U=>D=[]/\U=S.empty/\T 0=.row (ws.map V.str) ws.length .full/\T 1=.str s/\T 6=.int .i64 ws.length/\∃lo hi:Nat,T 7=.int .i64 lo/\T 8=.int .i64 hi/\lo<=hi/\hi<=ws.length/\m=hi-lo /\
  (∀i,i<lo->Op.bytesLess (ws.getD i []) s=true)/\(∀i,hi<=i->i<ws.length->Op.bytesLess (ws.getD i []) s=false)) ?_ _ _ _ _ ⟨rfl,rfl,rfl,rfl,rfl,0,ws.length,rfl,rfl,by omega,by omega,rfl,λi h=>by omega,λi h1 h2=>by omega⟩
 rintro m T D U ⟨rfl,rfl,t0,t1,t6,lo,hi,t7,t8,h1,h2,rfl,i1,i2⟩;refine jah ?_;by_cases hlt:lo<hi
 ·have c1:(lo:Int)<(hi:Int):=by omega
  have e1:IntKind.i64.wrap ((lo:Int)+(hi:Int))=((lo+hi:Nat):Int):=by rw[wrap_i64 (by omega) (by omega)];omega
  have e2:IntKind.u64.wrap (((lo+hi:Nat):Int))=((lo+hi:Nat):Int):=by rw[IntKind.wrap_u64];omega
  have e3:((lo+hi:Nat):Int).fdiv (2^min (Int.toNat 1) IntKind.u64.bits)=(((lo+hi)/2:Nat):Int):=by
   rw[show min (Int.toNat 1) IntKind.u64.bits=1 from by decide];rw[Int.fdiv_eq_ediv_of_nonneg _ (by omega)];omega
  have e4:IntKind.i64.wrap ((((lo+hi)/2:Nat):Int))=(((lo+hi)/2:Nat):Int):=by rw[wrap_i64 (by omega) (by omega)]
  have c2:(lo+hi)/2<ws.length:=by omega
  have e5:IntKind.i64.wrap ((((lo+hi)/2:Nat):Int)+1)=(((lo+hi)/2+1:Nat):Int):=by rw[wrap_i64 (by omega) (by omega)];omega
  have e6:¬((1:Int)<0):=by omega
  cases hb:Op.bytesLess (ws.getD ((lo+hi)/2) []) s with
  | true =>
   simp only[Nat.reduceGcd,Ka,Nat.reduceLT,Nat.reduceEqDiff,Kk,Kn,reduceIte,Ys,Y0,Int.reduceEq,Int.reduceLT,Int.reduceLE,Int.reduceNeg,mb,Nat.reduceBEq,tys,stb,Vq,t0,t1,t6,t7,t8,c1,e1,e2,e3,e4,e5,e6,jdf,c2,jlj,hb,jnP];refine⟨⟨by omega,by omega⟩,hi-((lo+hi)/2+1),by omega,(lo+hi)/2+1,hi,rfl,rfl,by omega,by omega,rfl,λi hi' => ?_,i2⟩
   rcases Qf i ((lo+hi)/2)with h|h
   ·exact jgV (hr i _ h c2) hb
   ·have:i=(lo+hi)/2:=by omega
    subst this;exact hb
  | false =>
   simp only[Nat.reduceGcd,Ka,Nat.reduceLT,Nat.reduceEqDiff,Kk,Kn,reduceIte,Ys,Y0,Int.reduceEq,Int.reduceLT,Int.reduceLE,Int.reduceNeg,mb,Nat.reduceBEq,tys,stb,Vq,t0,t1,t6,t7,t8,c1,e1,e2,e3,e4,e5,e6,jdf,c2,jlj,hb,jnP];refine⟨⟨by omega,by omega⟩,(lo+hi)/2-lo,by omega,lo,(lo+hi)/2,rfl,rfl,by omega,by omega,rfl,i1,λi h3 h4 => ?_⟩
   rcases Qf ((lo+hi)/2) i with h|h
   ·cases hc:Op.bytesLess (ws.getD i []) s with
    |false=>rfl
    |true =>
     have:=jgV (hr _ i h h4) hc;rw[hb]at this;simp at this
   ·have:i=(lo+hi)/2:=by omega
    subst this;exact hb
 ·have he:hi=lo:=by omega
  obtain rfl:lo=hi:=he.symm;have c1:¬(lo:Int)<(lo:Int):=by omega
  have hcnt:=jsb h2 i1 i2;have hmem:=jvg hr i1 i2;by_cases c3:lo<ws.length
  ·have c4:(lo:Int)<(ws.length:Int):=by omega
   have c6:(0:Int)<=(lo:Int)/\(lo:Int)<(ws.length:Int):=by omega
   by_cases c5:ws.getD lo []=s
   ·have hm:s∈ws:=hmem.2 ⟨c3,c5⟩;simp only[Nat.reduceGcd,Ka,Nat.reduceLT,Nat.reduceEqDiff,Kk,Kn,reduceIte,Ys,Y0,Int.reduceEq,Int.reduceLT,Int.reduceLE,Int.reduceNeg,mb,Nat.reduceBEq,tys,stb,Vq,t0,t1,t6,t7,t8,c1,c4,c6,jdf,c3,c5,jaB,jig];simp[jaz,jaj,jbN,jam,jaQ,jav,jaA,hcnt,hm]
   ·have hm:¬s∈ws:=λh=>c5 (hmem.1 h).2
    simp only[Nat.reduceGcd,Ka,Nat.reduceLT,Nat.reduceEqDiff,Kk,Kn,reduceIte,Ys,Y0,Int.reduceEq,Int.reduceLT,Int.reduceLE,Int.reduceNeg,mb,Nat.reduceBEq,tys,stb,Vq,t0,t1,t6,t7,t8,c1,c4,c6,jdf,c3,c5,jaB,jig];simp[jaz,jaj,jbN,jam,jaQ,jav,jaA,hcnt,hm]
  ·have c4:¬(lo:Int)<(ws.length:Int):=by omega
   have hm:¬s∈ws:=λh=>c3 (hmem.1 h).1
   simp only[Nat.reduceGcd,Ka,Nat.reduceLT,Nat.reduceEqDiff,Kk,Kn,reduceIte,Ys,Y0,Int.reduceEq,Int.reduceLT,Int.reduceLE,Int.reduceNeg,mb,Nat.reduceBEq,tys,stb,Vq,t0,t1,t6,t7,t8,c1,c4,jdf,c3,jaB,jig];simp[jaz,jaj,jbN,jam,jaQ,jav,jaA,hcnt,hm]
def okC(c:UInt8):Prop:=(97<=c.toNat/\c.toNat<=122)\/(48<=c.toNat/\c.toNat<=57)\/c.toNat=95
instance (c:UInt8):Decidable (okC c):=by unfold okC;infer_instance
def jb0:List (List UInt8):=["above","and","batch","between","bits","by","consistent","count","else","factor","from","histogram","identity","if","join","keep","late","limit","mode","none","not","of","on","or","peak","prefix","quantile","running","sum","then","total","tree","using","where","with"].map λs=>s.toList.map λc=>UInt8.ofNat c.toNat
theorem joX:jqG=jb0.map V.str:=by kernel_rfl
theorem jgm:jb0.length=35:=by kernel_rfl
def jqJ(ws:List (List UInt8)):Bool:=(List.range ws.length).all λj=>(List.range j).all λi=>Op.bytesLess (ws.getD i []) (ws.getD j [])
theorem jlk:jqI jb0:=by
 have h:jqJ jb0=true:=by kernel_rfl
 intro i j hij hj;unfold jqJ at h;rw[Qi]at h;have h1:=h j (by simpa using hj);rw[Qi]at h1;exact h1 i (by simpa using hij)
def jaY(s:List UInt8):Prop:=1<=s.length/\s.length<=20/\97<=(s.getD 0 0).toNat/\(s.getD 0 0).toNat<=122/\(∀i,i<s.length->okC (s.getD i 0))/\s ∉ jb0
instance (s:List UInt8):Decidable (jaY s):=by unfold jaY;infer_instance
theorem jtU:jb2 env 274 (.rptr jqG) none none none=some (.row (jb0.map V.str) jb0.length .full):=by
 rw[joX,jgm];exact jqx u72 s9 (by rw[Q1,jgm])
theorem jc1(s:List UInt8)(hs:s.length<2^63)(U:S):jai env (ev env) 257 [.str s] U=some (.bool (decide (jaY s)),U):=by
 refine jal rfl rfl rfl jwW rfl (by simp[Tryz.f257]) (by simp[Tryz.f257]) (jah ?_) U;by_cases h1:(s.length:Int)<1
 ·have hn:¬jaY s:=λh=>by have:=h.1;omega
  simp only[Tryz.f257,Ka,simprocAttr,Ys,Y0,Kc,Vq,h1,jaV,jcd,jbU u9];simp[jaz,jaj,jaA,hn]
 by_cases h2:(20:Int)<(s.length:Int)
 ·have hn:¬jaY s:=λh=>by have:=h.2.1;omega
  simp only[Tryz.f257,Ka,simprocAttr,Ys,Y0,Kc,Vq,h1,h2,jaV,jcd,jbU u9];simp[jaz,jaj,jaA,hn]
 have hb:(0:Int)<=0/\(0:Int)<(s.length:Int):=by omega
 have e0:Int.toNat 0=0:=rfl;by_cases h3:(((s.getD 0 0).toNat:Nat):Int)<97
 ·have hn:¬jaY s:=λh=>by have:=h.2.2.1;omega
  simp only[Tryz.f257,Ka,simprocAttr,Ys,Y0,Kc,Vq,h1,h2,h3,jaV,jcd,jbU u9,hb];simp[jaz,jaj,jaA,hn]
 by_cases h4:(122:Int)<(((s.getD 0 0).toNat:Nat):Int)
 ·have hn:¬jaY s:=λh=>by have:=h.2.2.2.1;omega
  simp only[Tryz.f257,Ka,simprocAttr,Ys,Y0,Kc,Vq,h1,h2,h3,h4,jaV,jcd,jbU u9,hb];simp[jaz,jaj,jaA,hn]
 simp only[Tryz.f257,Ka,simprocAttr,Ys,Y0,Kc,Vq,h1,h2,h3,h4,jaV,jcd,jbU u9,hb];refine jay (λm T D U=>D=[]/\U=S.empty/\T 0=.str s/\T 26=.int .i64 s.length/\∃i:Nat,T 27=.int .i64 i/\i<=s.length/\m=s.length-i/\∀j,j<i->okC (s.getD j 0)) ?_ _ _ _ _ ⟨rfl,rfl,rfl,rfl,0,rfl,by omega,rfl,λj h=>by omega⟩;rintro m T D U ⟨rfl,rfl,t0,t26,i,t27,hi,rfl,hok⟩;refine jah ?_;by_cases hlt:i<s.length
 ·have c1:(i:Int)<(s.length:Int):=by omega
  have c2:(0:Int)<=(i:Int)/\(i:Int)<(s.length:Int):=by omega
  have e1:=wS i (by omega)
  have hstep:okC (s.getD i 0)->∀j,j<i+1->okC (s.getD j 0):=λh j hj=>by
   rcases Qf j i with h2|h2
   ·exact hok j h2
   ·have:j=i:=by omega
    subst this;exact h
  have hbad:¬okC (s.getD i 0)->¬jaY s:=λh hn=>h (hn.2.2.2.2.1 i hlt)
  have hun:okC (s.getD i 0)↔((97<=(s.getD i 0).toNat/\(s.getD i 0).toNat<=122)\/(48<=(s.getD i 0).toNat/\(s.getD i 0).toNat<=57)\/(s.getD i 0).toNat=95):=Iff.rfl;simp only[Ka,simprocAttr,Ys,Y0,Kc,Vq,t0,t26,t27,c1,e1,jaV,jcd,jbU u9,c2,K8];generalize (s.getD i 0)=c at *
  have inv:okC c->∃m',m'<s.length-i/\∃i_1:Nat,V.int IntKind.i64 ((i+1:Nat):Int)=V.int IntKind.i64 (i_1:Nat)/\i_1<=s.length/\m'=s.length-i_1/\∀(j:Nat),j<i_1->okC (s.getD j 0) :=
   λh=>⟨s.length-(i+1),by omega,i+1,rfl,by omega,rfl,hstep h⟩
  have bad:¬okC c->jaO S.empty.heap jaj (jaz [V.bool false])=some (V.bool (decide (jaY s))):=λh=>by
   simp[jaz,jaj,jaA,hbad h]
  repeat' (first|apply Kd|intro _)
  all_goals first|exact inv (by unfold okC;omega)|exact bad (by unfold okC;omega)
 ·have hi2:i=s.length:=by omega
  have c1:¬(i:Int)<(s.length:Int):=by omega
  subst hi2
  have key:(s∈jb0)=¬jaY s:=by
   apply propext;constructor
   ·exact λh hn=>hn.2.2.2.2.2 h
   ·intro h;apply Jh;intro hm;exact h ⟨by omega,by omega,by omega,by omega,hok,hm⟩
  simp only[Ka,simprocAttr,Ys,Y0,Kc,Vq,t0,t26,t27,c1,jaV,jbX,jbY,jtU,jmJ jb0 (by rw[jgm];decide) jlk,show env.gl 0=some (.rptr jqG)from rfl];by_cases hn:jaY s
  ·have hm:¬s∈jb0:=hn.2.2.2.2.2;simp[jaz,jaj,jaA,hn,hm]
  ·have hm:s∈jb0:=by rw[key];exact hn
   simp[jaz,jaj,jaA,hn,hm]
theorem jsc(U:S):jai env (ev env) 285 [] U=some (.row (jb0.map V.str) jb0.length .unk,U) :=
 ja6 rfl rfl rfl (k:=20) (by rw[<- jb9];kernel_rfl) U
theorem jd2(s:List UInt8)(hs:s.length<2^63)(U:S):jai env (ev env) 262 [.str s] U=some (.bool (decide (jaY s)),U):=by
 refine jal rfl rfl rfl jwX rfl (by simp[Tryz.f262]) (by simp[Tryz.f262]) (jah ?_) U;by_cases h1:(s.length:Int)<1
 ·have hn:¬jaY s:=λh=>by have:=h.1;omega
  simp only[Tryz.f262,Ka,simprocAttr,Ys,Y0,Kc,Vq,h1,jaV,jcd,jbU u9];simp[jaz,jaj,jaA,hn]
 by_cases h2:(20:Int)<(s.length:Int)
 ·have hn:¬jaY s:=λh=>by have:=h.2.1;omega
  simp only[Tryz.f262,Ka,simprocAttr,Ys,Y0,Kc,Vq,h1,h2,jaV,jcd,jbU u9];simp[jaz,jaj,jaA,hn]
 have hb:(0:Int)<=0/\(0:Int)<(s.length:Int):=by omega
 have e0:Int.toNat 0=0:=rfl;by_cases h3:(((s.getD 0 0).toNat:Nat):Int)<97
 ·have hn:¬jaY s:=λh=>by have:=h.2.2.1;omega
  simp only[Tryz.f262,Ka,simprocAttr,Ys,Y0,Kc,Vq,h1,h2,h3,jaV,jcd,jbU u9,hb];simp[jaz,jaj,jaA,hn]
 by_cases h4:(122:Int)<(((s.getD 0 0).toNat:Nat):Int)
 ·have hn:¬jaY s:=λh=>by have:=h.2.2.2.1;omega
  simp only[Tryz.f262,Ka,simprocAttr,Ys,Y0,Kc,Vq,h1,h2,h3,h4,jaV,jcd,jbU u9,hb];simp[jaz,jaj,jaA,hn]
 simp only[Tryz.f262,Ka,simprocAttr,Ys,Y0,Kc,Vq,h1,h2,h3,h4,jaV,jcd,jbU u9,hb];refine jay (λm T D U=>D=[]/\U=S.empty/\T 0=.str s/\∃i:Nat,T 3=.int .i64 i/\i<=s.length/\m=s.length-i/\∀j,j<i->okC (s.getD j 0)) ?_ _ _ _ _ ⟨rfl,rfl,rfl,0,rfl,by omega,rfl,λj h=>by omega⟩;rintro m T D U ⟨rfl,rfl,t0,i,t3,hi,rfl,hok⟩;refine jah ?_;by_cases hlt:i<s.length
 ·have c1:(i:Int)<(s.length:Int):=by omega
  have c2:(0:Int)<=(i:Int)/\(i:Int)<(s.length:Int):=by omega
  have e1:=wS i (by omega)
  have hstep:okC (s.getD i 0)->∀j,j<i+1->okC (s.getD j 0):=λh j hj=>by
   rcases Qf j i with h2|h2
   ·exact hok j h2
   ·have:j=i:=by omega
    subst this;exact h
  have hbad:¬okC (s.getD i 0)->¬jaY s:=λh hn=>h (hn.2.2.2.2.1 i hlt)
  simp only[Ka,simprocAttr,Ys,Y0,Kc,Vq,t0,t3,c1,e1,jaV,jcd,jbU u9,c2,K8];generalize (s.getD i 0)=c at *
  have inv:okC c->∃m',m'<s.length-i/\∃i_1:Nat,V.int IntKind.i64 ((i+1:Nat):Int)=V.int IntKind.i64 (i_1:Nat)/\i_1<=s.length/\m'=s.length-i_1/\∀(j:Nat),j<i_1->okC (s.getD j 0) :=
   λh=>⟨s.length-(i+1),by omega,i+1,rfl,by omega,rfl,hstep h⟩
  have bad:¬okC c->jaO S.empty.heap jaj (jaz [V.bool false])=some (V.bool (decide (jaY s))):=λh=>by
   simp[jaz,jaj,jaA,hbad h]
  repeat' (first|apply Kd|intro _)
  all_goals first|exact inv (by unfold okC;omega)|exact bad (by unfold okC;omega)
 ·have hi2:i=s.length:=by omega
  have c1:¬(i:Int)<(s.length:Int):=by omega
  subst hi2
  have key:(s∈jb0)=¬jaY s:=by
   apply propext;constructor
   ·exact λh hn=>hn.2.2.2.2.2 h
   ·intro h;apply Jh;intro hm;exact h ⟨by omega,by omega,by omega,by omega,hok,hm⟩
  simp only[Ka,simprocAttr,Ys,Y0,Kc,Vq,t0,t3,c1,jaV,jsc];refine jay (λm T D U=>D=[]/\U=S.empty/\T 0=.str s/\T 5=.row (jb0.map V.str) jb0.length .unk/\∃i:Nat,T 6=.int .i64 i/\i<=jb0.length/\m=jb0.length-i/\∀j,j<i->jb0.getD j [] ≠ s) ?_ _ _ _ _ ⟨rfl,rfl,t0,rfl,0,rfl,by omega,rfl,λj h=>by omega⟩;rintro m T D U ⟨rfl,rfl,t0,t5,i,t6,hi,rfl,hno⟩;refine jah ?_;have hw:=jgm;by_cases hlt:i<jb0.length
  ·have c1:(i:Int)<(jb0.length:Int):=by omega
   have c2:(0:Int)<=(i:Int)/\(i:Int)<(jb0.length:Int):=by omega
   have e1:=wS i (by omega)
   by_cases he:jb0.getD i []=s
   ·have hn:¬jaY s:=λh=>h.2.2.2.2.2 (by rw[<- he];simp[List.getD,hlt])
    simp only[Ka,simprocAttr,Ys,Y0,Kc,Vq,t0,t5,t6,c1,c2,e1,jdf,hlt,he,jaB];simp[jaz,jaj,jaA,hn]
   ·simp only[Ka,simprocAttr,Ys,Y0,Kc,Vq,t0,t5,t6,c1,c2,e1,jdf,hlt,he,jaB]
    exact⟨jb0.length-(i+1),by omega,i+1,rfl,by omega,rfl,λj hj=>by
     rcases Qf j i with h2|h2
     ·exact hno j h2
     ·have:j=i:=by omega
      subst this;exact he⟩
  ·have hi3:i=jb0.length:=by omega
   subst hi3;have c1:¬(jb0.length:Int)<(jb0.length:Int):=by omega
   have hm:¬s∈jb0:=by
    intro hm;obtain⟨k,hk,rfl⟩:=Xc.1 hm;exact hno k hk (by simp[List.getD,hk])
   have hn:jaY s:=⟨by omega,by omega,by omega,by omega,hok,hm⟩;simp only[Ka,simprocAttr,Ys,Y0,Kc,Vq,t0,t5,t6,c1,jdf];simp[jaz,jaj,jaA,hn]
structure Col where
 name:List UInt8
 lo:Int
 hi:Int
 w:V
 ws:List (List UInt8)
def Col.cells(c:Col):List V:=[.str c.name,.int .i64 c.lo,.int .i64 c.hi,c.w]
def Col.none:Col:=⟨[],0,0,.nilsl,[]⟩
def IsW(w:V)(ws:List (List UInt8)):Prop:=(w=.nilsl/\ws=[])\/w=.row (ws.map V.str) ws.length .unk
def jaL(cs:List Col):List V:=(cs.map Col.cells).flatten
def IsC(v:V)(cs:List Col):Prop:=(v=.nilsl/\cs=[])\/∃q,(q=RCap.unk\/q=RCap.full)/\v=.row (jaL cs) cs.length q
def OkC(cs:List Col):Prop:=∀c∈cs,IsW c.w c.ws
theorem OkC.at {cs:List Col}(h:OkC cs){i:Nat}(hi:i<cs.length):IsW (cs.getD i Col.none).w (cs.getD i Col.none).ws:=h _ (by simp[List.getD,hi])
theorem jbC(c:Col)(cs:List Col):jaL (c::cs)=.str c.name::.int .i64 c.lo::.int .i64 c.hi::c.w::jaL cs:=rfl
theorem jcs:∀cs:List Col,(jaL cs).length=cs.length*4
 | []=>rfl
 |c::cs=>by rw[jbC];simp only[K9,jcs cs];omega
theorem jgW:∀(cs:List Col) (i:Nat),(jaL cs).drop (i*4)=jaL (cs.drop i)
 |cs,0=>by simp
 | [],i+1=>by simp[jaL]
 |c::cs,i+1=>by
  rw[jbC,show(i+1)*4=i*4+1+1+1+1 by omega];simp only[Kv];exact jgW cs i
theorem jn7 {cs:List Col}{i:Nat}(hi:i<cs.length):jaL (cs.drop i)=.str (cs.getD i Col.none).name::.int .i64 (cs.getD i Col.none).lo::.int .i64 (cs.getD i Col.none).hi::(cs.getD i Col.none).w::jaL (cs.drop (i+1)):=by
 have e:cs.drop i=cs.getD i Col.none::cs.drop (i+1):=by
  rw[K7 hi];simp[List.getD,hi]
 rw[e,jbC]
theorem jfe {v:V}{cs:List Col}(h:IsC v cs):ja5 (some (.slice 41)) v=some (.int .i64 cs.length):=by
 rcases h with⟨rfl,rfl⟩|⟨q,_,rfl⟩<;>rfl
theorem jcR {v:V}{ws:List (List UInt8)}(h:IsW v ws):ja5 (some (.slice 9)) v=some (.int .i64 ws.length):=by
 rcases h with⟨rfl,rfl⟩|rfl<;>rfl
theorem jeW {v:V}{cs:List Col}(h:IsC v cs){i:Nat}(hi:i<cs.length):jax 4 v (.int .i64 (i:Int))=some (.rptr (.str (cs.getD i Col.none).name::.int .i64 (cs.getD i Col.none).lo::.int .i64 (cs.getD i Col.none).hi::(cs.getD i Col.none).w::jaL (cs.drop (i+1)))):=by
 rcases h with⟨rfl,rfl⟩|⟨q,_,rfl⟩
 ·simp at hi
 ·rw[Ys,Kh (by omega),K8,jgW,jn7 hi]
theorem jmK {v:V}{ws:List (List UInt8)}(h:IsW v ws){i:Nat}(hi:i<ws.length):jax 1 v (.int .i64 (i:Int))=some (.rptr (.str (ws.getD i [])::(ws.map V.str).drop (i+1))):=by
 rcases h with⟨rfl,rfl⟩|rfl
 ·simp at hi
 ·rw[Ys,Kh (by omega),K8,Jw,K7 (by simpa using hi)];simp[List.getD,hi]
theorem jaq(h:List AObj)(v:V)(r:List V):(jab h 1 (.rptr (v::r))).bind (·[0]?)=some v:=by
 have:=Yz h (v::r) 0;simpa using this
theorem u27:env.P.underlying 36=some (.slice 41):=by kernel_rfl
theorem u32:env.P.underlying 32=some (.int .i64):=by kernel_rfl
theorem tys2:env.P.underlying 36=some (.slice 41)/\env.P.underlying 32=some (.int .i64)/\sz env 36=some 1/\sz env 41=some 4/\sz env 38=some 4/\sz env 4=some 1/\jat env 38 0=some 0/\jat env 38 1=some 1/\jat env 38 2=some 2/\jat env 38 3=some 3 /\
  jat env 41 0=some 0/\jat env 41 1=some 1/\jat env 41 2=some 2/\jat env 41 3=some 3/\(∀h p,jaF env h 36 p=(jab h 1 p).bind (·[0]?))/\(∀h p,jaF env h 4 p=(jab h 1 p).bind (·[0]?)):=by
 have g27:aggT env 36=some false:=by kernel_rfl
 have g4:aggT env 4=some false:=by kernel_rfl
 exact⟨u27,u32,by kernel_rfl,by kernel_rfl,by kernel_rfl,by kernel_rfl,by kernel_rfl,by kernel_rfl,by kernel_rfl,by kernel_rfl,by kernel_rfl,by kernel_rfl,by kernel_rfl,by kernel_rfl,λ_ _=>jaw g27,λ_ _=>jaw g4⟩
theorem jco {w:V}{ws:List (List UInt8)}(h:IsW w ws):w.closed=true:=by
 rcases h with⟨rfl,rfl⟩|rfl
 ·rfl
 ·simp only[V.closed,jeI,K2]
theorem jf3:∀{cs:List Col},OkC cs->V.closed.closedL (jaL cs)=true
 | [],h=>rfl
 |c::cs,h=>by
  rw[jbC];simp only[V.closed.closedL,V.closed,jco (h c (by simp)),jf3 (cs:=cs) λx hx=>h x (by simp[hx]),K2]
theorem ja4 {v:V}{cs:List Col}(h:IsC v cs)(ok:OkC cs):v.closed=true:=by
 rcases h with⟨rfl,rfl⟩|⟨q,rfl|rfl,rfl⟩
 ·rfl
 ·simp only[V.closed,jf3 ok,K2]
 ·simp only[V.closed,jf3 ok,K2]
theorem jad(L:List AObj)(o:AObj):(L++[o])[L.length]? = some o:=by simp
theorem jao(L:List AObj)(o o':AObj):(L++[o]).set L.length o'=L++[o']:=by simp
theorem Ud:type_of% (And.intro @jad (And.intro @jao (@YW))):=And.intro @jad (And.intro @jao (@YW))
theorem jaK(h:List AObj)(a b c d:V)(r:List V):jab h 4 (.rptr (a::b::c::d::r))=some [a,b,c,d]:=by simp[jab]
theorem jb4 {h:List AObj}{n:Nat}{a b c d:V}{t:TypeId}(hh:h[n]? = some (.cells [a,b,c,d] t)):jab h 4 (.ptr n 0)=some [a,b,c,d]:=by simp[jab,hh]
theorem jc6(h:List AObj)(p:V):jaF env h 41 p=(jab h 4 p).map .agg:=by
 unfold jaF;rw[show aggT env 41=some true by kernel_rfl,show sz env 41=some 4 by kernel_rfl];rfl
theorem jec(h:List AObj)(p:V):jaF env h 38 p=(jab h 4 p).map .agg:=by
 unfold jaF;rw[show aggT env 38=some true by kernel_rfl,show sz env 38=some 4 by kernel_rfl];rfl
theorem z44:ja2 env 41=some (.agg [.str [],.int .i64 0,.int .i64 0,.nilsl]):=by kernel_rfl
theorem z29:ja2 env 38=some (.agg [.str [],.bool false,.int .i64 0,.nilsl]):=by kernel_rfl
theorem jih:One env 39 9 16:=⟨by kernel_rfl,by kernel_rfl,by kernel_rfl,by kernel_rfl,by kernel_rfl,⟨.str [],by kernel_rfl,rfl⟩⟩
theorem el27:jfI env 36=some 41:=by kernel_rfl
theorem by44:bys env 41=some 56:=by kernel_rfl
theorem zn44:jhN env 41=some 4:=by kernel_rfl
def Col.cap(c:Col)(cap:RCap):Col:={ c with w:=.row (c.ws.map V.str) c.ws.length cap }
def joY(c:Col):Col:=c.cap .unk
inductive GrowC (ts:List Nat):V->List Col->Prop
 |nil:GrowC ts .nilsl []
 |tok (cs:List Col) (k e:Nat) (h:ts[k]? = some e) (hne:cs ≠ []):GrowC ts (.row (jaL cs) cs.length (.tok k e 4)) cs
theorem jdS(cs:List Col)(c:Col):jaL (cs++[c])=jaL cs++c.cells:=by simp[jaL]
theorem jtV {T:Tm}{U:S}{x:Operand}:opT env false T U (.buildSlice 36 1 #[(0,x)])=(jaP env T x).bind λv=>if v.cells.length=4 then some (.row v.cells 1 .full,U)else none:=by
 unfold opT;simp only[ja3,jbs,jbw,jcw];cases jaP env T x with
 |none=>rfl
 |some v =>
  simp only[K6,Kl,el27,tys2,z44];by_cases hv:v.cells.length=4
  ·simp[jei,hv,YW]
  ·simp[jei,hv,YW]
theorem GrowC.append {hp:List AObj}{ts:List Nat}{v:V}{cs:List Col}(g:GrowC ts v cs)(c:Col)(cap:RCap)(hc:c.cells.all V.isCell=true)(hb:cs.length+1<=1000) :
  ∃v' ts',appO env false ⟨hp,ts⟩ 36 36 v (.row c.cells 1 cap)=some (v',⟨hp,ts'⟩)/\GrowC ts' v' (cs++[c]):=by
 have hnew:jaU hp 4 1 (.row c.cells 1 cap)=some c.cells:=by simp[jaU,Col.cells]
 have hl1:(1:Nat)*56<=lim/\1<=lim:=by decide
 have hl2:(cs.length+1)*56<=lim/\cs.length+1<=lim:=by have h:lim=2^40:=rfl;rw[h];omega
 unfold appO;simp only[el27,tys2,by44,zn44,vLen,hnew,Kl,Kk];cases g with
 |nil =>
  refine⟨.row (jaL [c]) 1 (.tok ts.length 0 4),ts++[0],?_,.tok [c] ts.length 0 (by simp) (by simp)⟩;simp[jbm,hl1,jaL]
 | tok _ k e hk hne =>
  have hkl:k<ts.length:=by
   rcases Qf k ts.length with h1|h1
   ·exact h1
   ·rw[Qg h1]at hk;simp at hk
  refine⟨.row (jaL (cs++[c])) (cs++[c]).length (.tok k (e+1) 4),ts.set k (e+1),?_,.tok _ k (e+1) (by simp[hkl]) (by simp)⟩;have hl3:(jaL cs).length=cs.length*4:=jcs cs;simp[jbm,hl2,hl3,hk,hc,jdS]
theorem jmL(s:List UInt8):(V.str s).isCell=true:=rfl
theorem jvh {w:V}{ws:List (List UInt8)}(h:IsW w ws)(hb:ws.length<=1000)(hp:List AObj)(ts:List Nat) :
  ∃cap ts',appO env false ⟨hp,ts⟩ 39 39 (.row [] 0 .full) w=some (.row (ws.map V.str) ws.length cap,⟨hp,ts'⟩)/\∀(k e:Nat),ts[k]? = some e->ts'[k]? = some e:=by
 by_cases hn:ws=[]
 ·subst hn;refine⟨.full,ts,?_,λ_ _ h=>h⟩;unfold appO;simp only[jih.elem,jih.size,jih.bytes,jih.slice,jih.zeros,Kl,Kk]
  rcases h with⟨rfl,_⟩|rfl<;>simp[vLen,jaU,jbm]
 ·rcases h with⟨_,h⟩|rfl
  ·exact absurd h hn
  ·have hl2:ws.length*16<=lim/\ws.length<=lim:=by have h:lim=2^40:=rfl;rw[h];omega
   have hall:(ws.map V.str).all V.isCell=true:=by simp[V.isCell]
   have hne:¬ws.length=0:=λh=>hn (Qn h)
   refine⟨.tok ts.length 0 1,ts++[0],?_,λk e hk => ?_⟩
   ·unfold appO;simp only[jih.elem,jih.size,jih.bytes,jih.slice,jih.zeros,Kl,Kk];have htk:List.take ws.length (ws.map V.str)=ws.map V.str:=Qo (by simp);simp[vLen,jaU,jbm,hl2,hne,hn,htk,jmL]
   ·rw[Ki]
    ·exact hk
    ·rcases Qf k ts.length with h1|h1
     ·exact h1
     ·rw[Qg h1]at hk;simp at hk
theorem jwY:env.P.funcs[106]? = some Tryz.f106:=by kernel_rfl
theorem ja8 {w:V}{ws:List (List UInt8)}(h:IsW w ws):w.isCell=true:=by rcases h with⟨rfl,_⟩|rfl<;>rfl
theorem jae(s:List UInt8):(V.str s).isCell=true:=rfl
theorem jas(b:Bool):(V.bool b).isCell=true:=rfl
theorem Uf:type_of% (And.intro @jac (And.intro @jae (@jas))):=And.intro @jac (And.intro @jae (@jas))
theorem jdm(L:List AObj)(a b c d:V)(t:TypeId):jab (L++[.cells [a,b,c,d] t]) 4 (.ptr L.length 0)=some [a,b,c,d]:=jb4 (jad _ _)
theorem GrowC.keep {ts ts':List Nat}{v:V}{cs:List Col}(g:GrowC ts v cs)(h:∀(k e:Nat),ts[k]? = some e->ts'[k]? = some e):GrowC ts' v cs:=by
 cases g with
 |nil=>exact .nil
 |tok _ k e hk hne=>exact .tok _ k e (h k e hk) hne
theorem GrowC.cells {ts:List Nat}{v:V}{cs:List Col}(g:GrowC ts v cs):v.cells=[v]:=by cases g<;>rfl
theorem GrowC.cell {ts:List Nat}{v:V}{cs:List Col}(g:GrowC ts v cs):v.isCell=true:=by cases g<;>rfl
def jtW(cs:List Col):V:=if cs=[]then .nilsl else .row (jaL (cs.map joY)) cs.length .unk
theorem jll(h:List AObj)(d:Nat)(ws:List (List UInt8)):(ws.map V.str).mapM (jaO h (d+1))=some (ws.map V.str) :=
 jfP h (d+1) _ λv hv=>by
  obtain⟨z,_,rfl⟩:=Jg.1 hv;rfl
theorem jlm(h:List AObj)(d:Nat):∀P:List Col,(∀c∈P,∃cap,c.w=.row (c.ws.map V.str) c.ws.length cap)->(jaL P).mapM (jaO h (d+2))=some (jaL (P.map joY))
 | [],_=>rfl
 |c::P,hp=>by
  obtain⟨cap,hw⟩:=hp c (by simp);rw[jbC,jam,jam,jam,jam,jlm h d P λx hx=>hp x (by simp[hx]),hw,jbM,jav,jav,jbb,jll];rfl
theorem jqK {h:List AObj}{d:Nat}{ts:List Nat}{u:V}{P cs:List Col}(hg:GrowC ts u P)(hp:∀c∈P,∃cap,c.w=.row (c.ws.map V.str) c.ws.length cap)(hm:P.map joY=cs.map joY):jaO h (d+3) u=some (jtW cs):=by
 have hl:P.length=cs.length:=by have:=congrArg List.length hm;simpa using this
 cases hg with
 |nil =>
  have:cs=[]:=Qn hl.symm;subst this;rfl
 |tok _ k e hk hne =>
  rw[jbb,jlm h d P hp,hm,hl];have he:cs ≠ []:=λe=>hne (Qn (by rw[hl,e];rfl))
  simp[jtW,he]
theorem jln(nm:List UInt8)(pb:Bool)(many:Int)(cv:V)(cs:List Col)(hc:IsC cv cs)(ok:OkC cs)(hl:cs.length<=100)(hw:∀i,i<cs.length->(cs.getD i Col.none).ws.length<=100)(U:S) :
  jai env (ev env) 106 [.agg [.str nm,.bool pb,.int .i64 many,cv]] U=some (.agg [.str nm,.bool pb,.int .i64 many,jtW cs],U):=by
 refine jal rfl rfl (by simp[V.closed,V.closed.closedL,ja4 hc ok]) jwY rfl (by simp[Tryz.f106]) (by simp[Tryz.f106]) (jah ?_) U;have hcc:cv.isCell=true:=by rcases hc with⟨rfl,_⟩|⟨q,_,rfl⟩<;>rfl
 simp only[Tryz.f106,Ka,simprocAttr,Ys,Y0,Kc,Vq,tys2,z29,z44,jak,jaa,Jb,Qk,Jm,Kv,Jt,Ku,Qj,jae,jas,jac,hcc,V.isCell,Ju]
 refine jay (λm T D U=>D=[]/\T 1=.ptr 0 0/\T 2=.ptr 1 0/\T 3=cv/\∃(L:List AObj) (ts:List Nat) (i:Nat) (P:List Col) (u:V),U=⟨L,ts⟩/\L[0]? = some (.cells [.str nm,.bool pb,.int .i64 many,u] 38) /\
  L[1]? = some (.cells [.str [],.bool false,.int .i64 0,.nilsl] 38)/\T 4=.int .i64 i/\i<=cs.length/\m=cs.length-i/\GrowC ts u P/\P.length=i/\P.map joY=(cs.take i).map joY/\∀c∈P,∃cap,c.w=.row (c.ws.map V.str) c.ws.length cap) ?_ _ _ _ _
  ⟨rfl,rfl,rfl,rfl,_,_,0,[],.nilsl,rfl,rfl,rfl,rfl,by omega,rfl,.nil,rfl,rfl,λc h=>by simp at h⟩
 rintro m T D U ⟨rfl,t1,t2,t3,L,ts,i,P,u,rfl,l0,l1,t4,hi,rfl,hg,hpl,hpm,hpw⟩;refine jah ?_
 have hn0:0<L.length:=by
  rcases Qf 0 L.length with h|h
  ·exact h
  ·rw[Qg h]at l0;simp at l0
 have hn1:1<L.length:=by
  rcases Qf 1 L.length with h|h
  ·exact h
  ·rw[Qg h]at l1;simp at l1
 by_cases hlt:i<cs.length
 ·have c1:(i:Int)<(cs.length:Int):=by omega
  have e1:=wS i (by omega)
  have hwi:=ok.at hlt;have hws:=hw i hlt;generalize hcd:cs.getD i Col.none=c at *;have hE0:∀o,(L++[o])[0]? = some (.cells [.str nm,.bool pb,.int .i64 many,u] 38):=λo=>by rw[Ki hn0];exact l0
  obtain⟨cap,ts',hA,hk⟩:=jvh hwi (by omega) (L++[.cells [.str c.name,.int .i64 c.lo,.int .i64 c.hi,c.w] 41]) ts;obtain⟨u',ts'',hB,hg'⟩:=(hg.keep hk).append (hp:=L++[.cells [.str c.name,.int .i64 c.lo,.int .i64 c.hi,.row (c.ws.map V.str) c.ws.length cap] 41]) (c.cap cap) .full (by simp[Col.cells,Col.cap,V.isCell]) (by omega);have hcells:(c.cap cap).cells=[.str c.name,.int .i64 c.lo,.int .i64 c.hi,.row (c.ws.map V.str) c.ws.length cap]:=rfl;rw[hcells]at hB;have hic:=ja8 hwi;have hiu:=hg'.cell;have hcu:=hg'.cells;have hx:=jeW hc hlt;rw[hcd]at hx;simp only[Ka,simprocAttr,Ys,Y0,Kc,Vq,tys2,t1,t2,t3,t4,c1,e1,jfe hc,hx,jc6,jaK,z44,jad,jao,jaa,Jb,Qk,Jm,Kv,Jt,Ku,Qj,jae,jac,YG,hic,hiu,hcu,joT jih,hA,jdm,jtV,hE0,hB,Qu,Qz];have hset:∀o A:AObj,((L++[o]).set 0 A)[0]? = some A:=λo A=>by rw[Ko (by simp)]
  have hset1:∀o A:AObj,((L++[o]).set 0 A)[1]? = some (.cells [.str [],.bool false,.int .i64 0,.nilsl] 38):=λo A=>by
   rw[Kg (by omega),Ki hn1];exact l1
  refine⟨cs.length-(i+1),by omega,_,_,i+1,P++[c.cap cap],u',rfl,hset _ _,hset1 _ _,rfl,by omega,rfl,hg',by simp[hpl],?_,?_⟩
  ·rw[J2,hpm,Vg,J2]
   congr 1
   have:cs[i]? = some c:=by rw[<- hcd];simp[List.getD,hlt]
   rw[this];rfl
  ·intro x hx
   rcases Jk.1 hx with h|h
   ·exact hpw x h
   ·simp only[Jv]at h;subst h;exact⟨cap,rfl⟩
 ·have hi2:i=cs.length:=by omega
  subst hi2;have c1:¬(cs.length:Int)<(cs.length:Int):=by omega
  have hiu:=hg.cell;have hset1:∀A:AObj,(L.set 1 A)[1]? = some A:=λA=>by rw[Ko hn1]
  simp only[Ka,simprocAttr,Ys,Y0,Kc,Vq,tys2,t1,t2,t3,t4,c1,jfe hc,jec,jb4 l0,l1,jaa,Jb,Qk,Jm,Kv,Jt,Ku,Qj,jae,jac,jas,hiu,jb4 (hset1 _),YW];rw[Jn]at hpm;simp only[jaz,jaj,jep,jam,jaQ,jbM,jaA,jav,jqK hg hpw hpm,Kl,K6]
theorem jwZ:env.P.funcs[286]? = some Tryz.f286:=by kernel_rfl
def jiQ(ws:List (List UInt8)):Prop:=∃k i,k<i/\i<ws.length/\ws.getD k []=ws.getD i []
open Classical in
theorem jfB(w:V)(ws:List (List UInt8))(h:IsW w ws)(hl:ws.length<=1000)(U:S):jai env (ev env) 286 [w] U=some (.bool (decide (jiQ ws)),U):=by
 refine jal rfl rfl (by simp[jco h]) jwZ rfl (by simp[Tryz.f286]) (by simp[Tryz.f286]) (jah ?_) U;simp only[Tryz.f286,Ka,simprocAttr,Ys,Y0,Kc,Vq];refine jay (λm T D U=>D=[]/\U=S.empty/\T 0=w/\∃i:Nat,T 3=.int .i64 i/\i<=ws.length/\m=ws.length-i/\∀j k,k<j->j<i->ws.getD k [] ≠ ws.getD j []) ?_ _ _ _ _ ⟨rfl,rfl,rfl,0,rfl,by omega,rfl,λj k h1 h2=>by omega⟩;rintro m T D U ⟨rfl,rfl,t0,i,t3,hi,rfl,hno⟩;refine jah ?_;by_cases hlt:i<ws.length
 ·have c1:(i:Int)<(ws.length:Int):=by omega
  have e1:=wS i (by omega)
  simp only[Ka,simprocAttr,Ys,Y0,Kc,Vq,t0,t3,c1,e1,jcR h];refine jay (λm T D U=>D=[]/\U=S.empty/\T 0=w/\T 3=.int .i64 i/\∃k:Nat,T 4=.int .i64 k/\k<=i/\m=i-k/\∀j,j<k->ws.getD j [] ≠ ws.getD i []) ?_ _ _ _ _ ⟨rfl,rfl,t0,t3,0,rfl,by omega,rfl,λj h1=>by omega⟩;rintro m T D U ⟨rfl,rfl,t0,t3,k,t4,hk,rfl,hno2⟩;refine jah ?_;by_cases hlt2:k<i
  ·have c2:(k:Int)<(i:Int):=by omega
   have e2:=wS k (by omega)
   have x1:=jmK h hlt;have x2:=jmK h (show k<ws.length by omega);by_cases he:ws.getD k []=ws.getD i []
   ·have hv:jiQ ws:=⟨k,i,hlt2,hlt,he⟩;simp only[Ka,simprocAttr,Ys,Y0,Kc,Vq,t0,t3,t4,c2,e2,x1,x2,jaq,jaB,he];refine⟨by kernel_rfl,?_⟩;simp[jaz,jaj,jaA,hv]
   ·simp only[Ka,simprocAttr,Ys,Y0,Kc,Vq,t0,t3,t4,c2,e2,x1,x2,jaq,jaB,he]
    exact⟨by kernel_rfl,i-(k+1),by omega,k+1,rfl,by omega,rfl,λj hj=>by
     rcases Qf j k with h2|h2
     ·exact hno2 j h2
     ·have:j=k:=by omega
      subst this;exact he⟩
  ·have hk2:k=i:=by omega
   subst hk2;have c2:¬(k:Int)<(k:Int):=by omega
   simp only[Ka,simprocAttr,Ys,Y0,Kc,Vq,t0,t3,t4,c2,e1]
   exact⟨ws.length-(k+1),by omega,k+1,rfl,by omega,rfl,λj q h1 h2=>by
    rcases Qf j k with h3|h3
    ·exact hno j q h1 h3
    ·have:j=k:=by omega
     subst this;exact hno2 q h1⟩
 ·have hi2:i=ws.length:=by omega
  subst hi2;have c1:¬(ws.length:Int)<(ws.length:Int):=by omega
  have hn:¬jiQ ws:=λ⟨k,j,h1,h2,h3⟩=>hno j k h1 h2 h3
  simp only[Ka,simprocAttr,Ys,Y0,Kc,Vq,t0,t3,c1,jcR h];simp[jaz,jaj,jaA,hn]
theorem jw0:env.P.funcs[263]? = some Tryz.f263:=by kernel_rfl
open Classical in
noncomputable def colE(c:Col):Int :=
 if c.ws.length=0 then(if c.lo < -1000000\/1000000<c.hi\/c.hi<c.lo then 2 else 0)
 else if 64<c.ws.length then 4
 else if ∃i,i<c.ws.length/\¬jaY (c.ws.getD i [])then 19
 else if jiQ c.ws then 8
 else if c.lo ≠ 0\/c.hi ≠ (c.ws.length:Int)-1 then 2 else 0
def jdT(c:Col):Prop:=c.name.length<2^63/\c.ws.length<=1000/\∀i,i<c.ws.length->(c.ws.getD i []).length<2^63
open Classical in
theorem jii(c:Col)(h:IsW c.w c.ws)(hs:jdT c)(U:S):jai env (ev env) 263 [.agg [.str c.name,.int .i64 c.lo,.int .i64 c.hi,c.w]] U=some (.int .i64 (colE c),U):=by
 refine jal rfl rfl (by simp[V.closed,V.closed.closedL,jco h]) jw0 rfl (by simp[Tryz.f263]) (by simp[Tryz.f263]) (jah ?_) U;obtain⟨hs1,hs2,hs3⟩:=hs;have hic:=ja8 h;obtain⟨nm,lo,hi,w,ws⟩:=c;simp only at h hs1 hs2 hs3 hic ⊢;by_cases h0:ws.length=0
 ·have c0:(ws.length:Int)=0:=by omega
  by_cases h1:lo < -1000000
  ·have he:colE ⟨nm,lo,hi,w,ws⟩=2:=by simp only[colE,h0,Kk];rw[Kh (.inl h1)]
   simp only[Tryz.f263,Ka,simprocAttr,Ys,Y0,Kc,Vq,tys2,jak,jcR h,c0,h1];simp only[jaz,jaj,jav,he]
  by_cases h2:1000000<hi
  ·have he:colE ⟨nm,lo,hi,w,ws⟩=2:=by simp only[colE,h0,Kk];rw[Kh (.inr (.inl h2))]
   simp only[Tryz.f263,Ka,simprocAttr,Ys,Y0,Kc,Vq,tys2,jak,jcR h,c0,h1,h2];simp only[jaz,jaj,jav,he]
  by_cases h3:hi<lo
  ·have he:colE ⟨nm,lo,hi,w,ws⟩=2:=by simp only[colE,h0,Kk];rw[Kh (.inr (.inr h3))]
   simp only[Tryz.f263,Ka,simprocAttr,Ys,Y0,Kc,Vq,tys2,jak,jcR h,c0,h1,h2,h3];simp only[jaz,jaj,jav,he]
  ·have he:colE ⟨nm,lo,hi,w,ws⟩=0:=by simp only[colE,h0,Kk];rw[Ke (by omega)]
   simp only[Tryz.f263,Ka,simprocAttr,Ys,Y0,Kc,Vq,tys2,jak,jcR h,c0,h1,h2,h3];simp only[jaz,jaj,jav,he]
 have c0:¬(ws.length:Int)=0:=by omega
 by_cases h1:(64:Int)<(ws.length:Int)
 ·have he:colE ⟨nm,lo,hi,w,ws⟩=4:=by simp only[colE];rw[Ke h0,Kh (by omega)]
  simp only[Tryz.f263,Ka,simprocAttr,Ys,Y0,Kc,Vq,tys2,jak,jcR h,c0,h1];simp only[jaz,jaj,jav,he]
 simp only[Tryz.f263,Ka,simprocAttr,Ys,Y0,Kc,Vq,tys2,jak,jcR h,c0,h1];refine jay (λm T D U=>D=[]/\U=⟨[.cells [.str nm,.int .i64 lo,.int .i64 hi,w] 41],[]⟩/\T 1=.ptr 0 0/\T 3=.int .i64 ws.length/\∃i:Nat,T 4=.int .i64 i/\i<=ws.length/\m=ws.length-i/\∀j,j<i->jaY (ws.getD j [])) ?_ _ _ _ _ ⟨rfl,rfl,rfl,rfl,0,rfl,by omega,rfl,λj h1=>by omega⟩;rintro m T D U ⟨rfl,rfl,t1,t3,i,t4,hi',rfl,hok⟩;refine jah ?_;by_cases hlt:i<ws.length
 ·have c1:(i:Int)<(ws.length:Int):=by omega
  have e1:=wS i (by omega)
  have x1:=jmK h hlt;by_cases hn:jaY (ws.getD i [])
  ·simp only[Ka,simprocAttr,Ys,Y0,Kc,Vq,tys2,t1,t3,t4,c1,e1,x1,jaq,jd2 _ (hs3 i hlt),hn]
   exact⟨ws.length-(i+1),by omega,i+1,rfl,by omega,rfl,λj hj=>by
    rcases Qf j i with h2|h2
    ·exact hok j h2
    ·have:j=i:=by omega
     subst this;exact hn⟩
  ·have he:colE ⟨nm,lo,hi,w,ws⟩=19:=by simp only[colE];rw[Ke h0,Ke (by omega),Kh ⟨i,hlt,hn⟩]
   simp only[Ka,simprocAttr,Ys,Y0,Kc,Vq,tys2,t1,t3,t4,c1,e1,x1,jaq,jd2 _ (hs3 i hlt),hn];simp only[jaz,jaj,jav,he]
 ·have hi2:i=ws.length:=by omega
  subst hi2;have c1:¬(ws.length:Int)<(ws.length:Int):=by omega
  have hno:¬∃i,i<ws.length/\¬jaY (ws.getD i []):=λ⟨i,h1,h2⟩=>h2 (hok i h1)
  by_cases h2:jiQ ws
  ·have he:colE ⟨nm,lo,hi,w,ws⟩=8:=by simp only[colE];rw[Ke h0,Ke (by omega),Ke hno,Kh h2]
   simp only[Ka,simprocAttr,Ys,Y0,Kc,Vq,tys2,t1,t3,t4,c1,jfB w ws h hs2,h2];simp only[jaz,jaj,jav,he]
  have e2:IntKind.i64.wrap ((ws.length:Int)-1)=(ws.length:Int)-1:=wrap_i64 (by omega) (by omega);by_cases h3:lo=0
  ·by_cases h4:hi=(ws.length:Int)-1
   ·have he:colE ⟨nm,lo,hi,w,ws⟩=0:=by simp only[colE];rw[Ke h0,Ke (by omega),Ke hno,Ke h2,Ke (by rintro(h|h);exact h h3;exact h h4)]
    simp only[Ka,simprocAttr,Ys,Y0,Kc,Vq,tys2,t1,t3,t4,c1,jfB w ws h hs2,h2,h3,e2,h4];simp only[jaz,jaj,jav,<- h3,<- h4,he]
   ·have he:colE ⟨nm,lo,hi,w,ws⟩=2:=by simp only[colE];rw[Ke h0,Ke (by omega),Ke hno,Ke h2,Kh (.inr h4)]
    simp only[Ka,simprocAttr,Ys,Y0,Kc,Vq,tys2,t1,t3,t4,c1,jfB w ws h hs2,h2,h3,e2,h4];simp only[jaz,jaj,jav,<- h3,he]
  ·have he:colE ⟨nm,lo,hi,w,ws⟩=2:=by simp only[colE];rw[Ke h0,Ke (by omega),Ke hno,Ke h2,Kh (.inl h3)]
   simp only[Ka,simprocAttr,Ys,Y0,Kc,Vq,tys2,t1,t3,t4,c1,jfB w ws h hs2,h2,h3];simp only[jaz,jaj,jav,he]
theorem jsd(L:List AObj)(o:AObj):(L++[o]).length=L.length+1:=by simp
open Classical in
noncomputable def colX(cs:List Col)(i:Nat):Int :=
 if ¬jaY (cs.getD i Col.none).name then 19
 else if ∃k,k<i/\(cs.getD k Col.none).name=(cs.getD i Col.none).name then 8
 else colE (cs.getD i Col.none)
noncomputable def jce(cs:List Col):Nat->Nat->Int × Int
 |0,_=>(0,-1)
 |m+1,i=>if colX cs i=0 then jce cs m (i+1)else(colX cs i,i)
open Classical in
noncomputable def jc7(nm:List UInt8)(pb:Bool)(many:Int)(cs:List Col):Int × Int :=
 if ¬jaY nm then(19,-1)
 else if(pb=true/\many ≠ 0)\/(pb=false/\(many<1\/50<many))then(2,-1)
 else if cs.length=0 then(3,-1)
 else if 16<cs.length then(4,-1)
 else jce cs cs.length 0
abbrev Q24(r:Int × Int):Post:=⟨wpR env [.tmp 2,.tmp 3] λv' U'=>jaO U'.heap jaj v'=some (.tup [.int .i64 r.1,.int .i64 r.2]),λ_ _ _ _=>False,wpR env [.tmp 2,.tmp 3] λv' U'=>jaO U'.heap jaj v'=some (.tup [.int .i64 r.1,.int .i64 r.2])⟩
open Classical in
theorem jgX(nm:List UInt8)(pb:Bool)(many:Int)(cv:V)(cs:List Col)(hc:IsC cv cs)(ok:OkC cs)(hl:cs.length<=1000)(hs:∀i,i<cs.length->jdT (cs.getD i Col.none))(r:Int × Int)(hr:r=jce cs cs.length 0)(c2:Code)
  (h2:∀T U,r=(0,-1)->G env 224 none 84 (Q24 r) [] c2 T [] U) (T:Tm) (t1:T 1=.ptr 0 0) (t4:T 4=.int .i64 0) :
  jeo env 224 none 84 (jdP 1 (jaC Tryz.f224)) T [] ⟨[.cells [.str nm,.bool pb,.int .i64 many,cv] 38],[]⟩ (Kt.post env 224 none 84 (Q24 r) [.blk 1,.code c2]):=by
 simp only[jaC,Tryz.f224,Ks,jdP,blkC,Option.or,Nat.reduceEqDiff,Kn,Kk,reduceIte]
 refine jay (λm T D U=>D=[]/\T 1=.ptr 0 0/\∃(L:List AObj) (ts:List Nat) (i:Nat),U=⟨L,ts⟩/\L[0]? = some (.cells [.str nm,.bool pb,.int .i64 many,cv] 38)/\T 4=.int .i64 i/\i<=cs.length/\m=cs.length-i/\r=jce cs (cs.length-i) i) ?_ _ _ _ _
  ⟨rfl,t1,_,_,0,rfl,rfl,t4,by omega,rfl,by simpa using hr⟩
 clear t1 t4 T;rintro m T D U ⟨rfl,t1,L,ts,i,rfl,l0,t4,hi,rfl,hri⟩;refine jah ?_
 have hn0:0<L.length:=by
  rcases Qf 0 L.length with h|h
  ·exact h
  ·rw[Qg h]at l0;simp at l0
 by_cases hlt:i<cs.length
 ·have c1:(i:Int)<(cs.length:Int):=by omega
  have e1:=wS i (by omega)
  have hwc:=ok.at hlt;have hsc:=hs i hlt;have hx:=jeW hc hlt;have hic:=ja8 hwc;have hE0:∀o,(L++[o])[0]? = some (.cells [.str nm,.bool pb,.int .i64 many,cv] 38):=λo=>by rw[Ki hn0];exact l0
  obtain⟨q,hq⟩:∃q,cs.length-i=q+1:=⟨cs.length-i-1,by omega⟩;have hq2:q=cs.length-(i+1):=by omega
  have hstep:jce cs (cs.length-i) i=if colX cs i=0 then jce cs q (i+1)else(colX cs i,(i:Int)):=by rw[hq];rfl
  rw[hstep]at hri;by_cases hnm:jaY (cs.getD i Col.none).name
  case neg =>
   have hX:colX cs i=19:=by simp only[colX];rw[Kh hnm]
   rw[hX,Ke (by omega)]at hri;subst hri;simp -implicitDefEqProofs only[Ka,simprocAttr,Ys,Y0,Kc,Vq,tys2,t1,t4,c1,l0,hE0,jfe hc,hx,jc6,jaK,z44,jad,jao,jaa,Jb,Qk,Kv,Jt,Ku,Qj,jae,jac,hic,YW,jd2 _ hsc.1,hnm];simp only[jaz,jaj,jbN,jam,jaQ,jav,Kl,K6]
  simp -implicitDefEqProofs only[Ka,simprocAttr,Ys,Y0,Kc,Vq,tys2,t1,t4,c1,l0,hE0,jfe hc,hx,jc6,jaK,z44,jad,jao,jaa,Jb,Qk,Kv,Jt,Ku,Qj,jae,jac,hic,YW,jd2 _ hsc.1,hnm]
  refine jay (λm T D U=>D=[]/\U=⟨L++[.cells [.str (cs.getD i Col.none).name,.int .i64 (cs.getD i Col.none).lo,.int .i64 (cs.getD i Col.none).hi,(cs.getD i Col.none).w] 41],ts⟩/\T 1=.ptr 0 0/\T 4=.int .i64 i/\T 5=.ptr L.length 0 /\
   ∃k:Nat,T 6=.int .i64 k/\k<=i/\m=i-k/\∀j,j<k->(cs.getD j Col.none).name ≠ (cs.getD i Col.none).name) ?_ _ _ _ _ ⟨rfl,rfl,t1,t4,rfl,0,rfl,by omega,rfl,λj h1=>by omega⟩
  rintro m T D U ⟨rfl,rfl,t1,t4,t5,k,t6,hk,rfl,hno⟩;refine jah ?_;by_cases hlt2:k<i
  ·have c3:(k:Int)<(i:Int):=by omega
   have e2:=wS k (by omega)
   have hy:=jeW hc (show k<cs.length by omega);by_cases he:(cs.getD k Col.none).name=(cs.getD i Col.none).name
   ·have hX:colX cs i=8:=by simp only[colX];rw[Ke (not_not_intro hnm),Kh ⟨k,hlt2,he⟩]
    rw[hX,Ke (by omega)]at hri;subst hri;simp -implicitDefEqProofs only[Ka,simprocAttr,Ys,Y0,Kc,Vq,tys2,t1,t4,t5,t6,c3,hE0,hy,jaq,jad,jaB,he];refine⟨by kernel_rfl,?_⟩;simp only[jaz,jaj,jbN,jam,jaQ,jav,Kl,K6]
   ·simp -implicitDefEqProofs only[Ka,simprocAttr,Ys,Y0,Kc,Vq,tys2,t1,t4,t5,t6,c3,e2,hE0,hy,jaq,jad,jaB,he]
    exact⟨by kernel_rfl,i-(k+1),by omega,k+1,rfl,by omega,rfl,λj hj=>by
     rcases Qf j k with h2|h2
     ·exact hno j h2
     ·have:j=k:=by omega
      subst this;exact he⟩
  ·have hk2:k=i:=by omega
   subst hk2;have c3:¬(k:Int)<(k:Int):=by omega
   have hX:colX cs k=colE (cs.getD k Col.none):=by simp only[colX];rw[Ke (not_not_intro hnm),Ke (by rintro⟨j,h1,h2⟩;exact hno j h1 h2)]
   by_cases hz:colE (cs.getD k Col.none)=0
   ·rw[hX,Kh hz,hq2]at hri;simp -implicitDefEqProofs only[Ka,simprocAttr,Ys,Y0,Kc,Vq,tys2,t1,t4,t5,t6,c3,e1,jc6,jdm,jii _ hwc hsc,hz];exact⟨cs.length-(k+1),by omega,_,_,k+1,rfl,hE0 _,rfl,by omega,rfl,hri⟩
   ·rw[hX,Ke hz]at hri;subst hri;simp -implicitDefEqProofs only[Ka,simprocAttr,Ys,Y0,Kc,Vq,tys2,t1,t4,t5,t6,c3,jc6,jdm,jii _ hwc hsc,hz];simp only[jaz,jaj,jbN,jam,jaQ,jav,Kl,K6]
 ·have hi2:i=cs.length:=by omega
  subst hi2;have c1:¬(cs.length:Int)<(cs.length:Int):=by omega
  have h0:r=(0,-1):=by rw[hri,J6];rfl
  simp -implicitDefEqProofs only[Ka,simprocAttr,Ys,Y0,Kc,Vq,tys2,t1,t4,c1,l0,jfe hc];exact h2 _ _ h0
end Go.Proofs.YtajaampgajieeaaGreatDoor
