/- Proved here: names, words, columns. Conditions: those of each theorem; no statement of the seat is proved in this text. -/
import Derived.Test.YtajaampgajieeaaGreatDoorEnvT
set_option linter.unusedSimpArgs false
namespace Go.Proofs.YtajaampgajieeaaGreatDoor
open Go.Ab
set_option maxHeartbeats 4000000
set_option maxRecDepth 100000
set_option linter.unusedSimpArgs false
set_option linter.unusedVariables false
set_option linter.unusedSectionVars false
theorem u3:env.P.underlying 3=some (.int .i64):=by kernel_rfl
theorem u4:env.P.underlying 4=some .bool:=by kernel_rfl
theorem u5:env.P.underlying 5=some (.int .u8):=by kernel_rfl
theorem u9:env.P.underlying 9=some .string:=by kernel_rfl
theorem u24:env.P.underlying 39=some (.slice 9):=by kernel_rfl
theorem u72:env.P.underlying 274=some (.array 35 9):=by kernel_rfl
theorem u115:env.P.underlying 150=some (.int .u64):=by kernel_rfl
theorem s9:sz env 9=some 1:=by kernel_rfl
theorem s24:sz env 39=some 1:=by kernel_rfl
theorem s3:sz env 3=some 1:=by kernel_rfl
theorem g9:aggT env 9=some false:=by kernel_rfl
theorem g24:aggT env 39=some false:=by kernel_rfl
theorem g3:aggT env 3=some false:=by kernel_rfl
theorem tys:env.P.underlying 3=some (.int .i64)∧env.P.underlying 4=some .bool∧env.P.underlying 5=some (.int .u8)∧env.P.underlying 9=some .string∧env.P.underlying 39=some (.slice 9)∧env.P.underlying 150=some (.int .u64)∧sz env 9=some 1∧sz env 39=some 1∧sz env 3=some 1 ∧
  (∀ h p,jaS env h 9 p=(jag h 1 p).bind (·[0]?))∧(∀ h p,jaS env h 39 p=(jag h 1 p).bind (·[0]?))∧(∀ h p,jaS env h 3 p=(jag h 1 p).bind (·[0]?)) :=
 ⟨u3,u4,u5,u9,u24,u115,s9,s24,s3,fun _ _=>jaG g9,fun _ _=>jaG g24,fun _ _=>jaG g3⟩
theorem mb (f:FuncId)(r:Nat)(h:(f == 157 || f == 182 && r == 3)=false):env.mutb f r=false:=h
theorem stb (f:FuncId)(r:Nat)(h:(f == 28 && r == 6)=false):env.stab f r=false:=h
theorem jtJ:env.P.funcs[341]? = some Tryz.f341:=by kernel_rfl
theorem jtK:env.P.funcs[317]? = some Tryz.f317:=by kernel_rfl
theorem jtL:env.P.funcs[316]? = some Tryz.f316:=by kernel_rfl
theorem jtM:env.P.funcs[284]? = some Tryz.f284:=by kernel_rfl
theorem jtN:env.P.funcs[257]? = some Tryz.f257:=by kernel_rfl
theorem jtO:env.P.funcs[262]? = some Tryz.f262:=by kernel_rfl
theorem jqc (s:List UInt8)(σ:S):jah env (ev env) 341 [.str s] σ=some (.bool false,σ):=by
 refine jar rfl rfl rfl jtJ rfl (by simp [Tryz.f341]) (by simp [Tryz.f341]) (jaj ?_) σ
 simp -implicitDefEqProofs only [Tryz.f341,Ka,Nat.reduceLT,Nat.reduceEqDiff,Ke,Kc,reduceIte,Ys,Y0,Int.reduceEq,Int.reduceLT,Int.reduceLE,Int.reduceNeg,mb,Nat.reduceBEq,tys,stb,Vq,jax]
 simp [jau,jak,jaF]
theorem jig (s:List UInt8)(σ:S):jah env (ev env) 317 [.str s] σ=some (.bool false,σ):=by
 refine jar rfl rfl rfl jtK rfl (by simp [Tryz.f317]) (by simp [Tryz.f317]) (jaj ?_) σ
 simp -implicitDefEqProofs only [Tryz.f317,Ka,Nat.reduceLT,Nat.reduceEqDiff,Ke,Kc,reduceIte,Ys,Y0,Int.reduceEq,Int.reduceLT,Int.reduceLE,Int.reduceNeg,mb,Nat.reduceBEq,tys,stb,Vq,jax]
 simp [jau,jak,jaF]
theorem jkV (a b:List UInt8)(σ:S):jah env (ev env) 316 [.str a,.str b] σ=some (.bool (Op.bytesLess a b),σ):=by
 refine jar rfl rfl rfl jtL rfl (by simp [Tryz.f316]) (by simp [Tryz.f316]) (jaj ?_) σ
 cases h:Op.bytesLess a b <;>
 ·simp -implicitDefEqProofs only [Tryz.f316,Ka,Nat.reduceLT,Nat.reduceEqDiff,Ke,Kc,reduceIte,Ys,Y0,Int.reduceEq,Int.reduceLT,Int.reduceLE,Int.reduceNeg,mb,Nat.reduceBEq,tys,stb,Vq,jkQ,jqc,h]
  simp [jau,jak,jaF]
theorem jgO:∀ {a b c:List UInt8},Op.bytesLess a b=true→Op.bytesLess b c=true→Op.bytesLess a c=true
 | _,[],_,h,_=>by simp [Op.bytesLess] at h
 | _,_::_,[],_,h=>by simp [Op.bytesLess] at h
 | [],y::b,z::c,_,_=>rfl
 | x::a,y::b,z::c,h,k=>by
  simp only [Op.bytesLess,Je,K5,Qm,beq_iff_eq] at h k ⊢
  rcases h with h | ⟨rfl,h⟩
  ·rcases k with k | ⟨rfl,k⟩
   ·exact .inl (UInt8.lt_trans h k)
   ·exact .inl h
  ·rcases k with k | ⟨rfl,k⟩
   ·exact .inl k
   ·exact .inr ⟨rfl,jgO h k⟩
def jo5 (ws:List (List UInt8)):Prop:=∀ i j,i<j→j<ws.length→Op.bytesLess (ws.getD i []) (ws.getD j [])=true
theorem jqd {ws:List (List UInt8)}{s:List UInt8}{lo:Nat}(hl:lo≤ws.length)(h1:∀ i,i<lo→Op.bytesLess (ws.getD i []) s=true)(h2:∀ i,lo≤i→i<ws.length→Op.bytesLess (ws.getD i []) s=false) :
  ws.countP (fun w=>Op.bytesLess w s)=lo:=by
 have e:ws=ws.take lo++ws.drop lo:=(List.take_append_drop lo ws).symm
 rw [e,List.countP_append]
 have a1:(ws.take lo).countP (fun w=>Op.bytesLess w s)=(ws.take lo).length:=by
  rw [List.countP_eq_length]
  intro w hw
  obtain ⟨i,hi,rfl⟩:=Ju.1 hw
  have:=h1 i (by simp at hi; omega)
  have hi2:i<ws.length:=by simp at hi; omega
  simpa [List.getD,hi2] using this
 have a2:(ws.drop lo).countP (fun w=>Op.bytesLess w s)=0:=by
  rw [List.countP_eq_zero]
  intro w hw
  obtain ⟨i,hi,rfl⟩:=Ju.1 hw
  have hi2:lo+i<ws.length:=by simp at hi; omega
  have:=h2 (lo+i) (by omega) hi2
  simpa [List.getD,hi2] using this
 rw [a1,a2]
 simp; omega
theorem jsC {ws:List (List UInt8)}{s:List UInt8}{lo:Nat}(hr:jo5 ws)(h1:∀ i,i<lo→Op.bytesLess (ws.getD i []) s=true)(h2:∀ i,lo≤i→i<ws.length→Op.bytesLess (ws.getD i []) s=false) :
  (s∈ws)↔(lo<ws.length∧ws.getD lo []=s):=by
 constructor
 ·intro hm
  obtain ⟨k,hk,rfl⟩:=Ju.1 hm
  have ek:ws.getD k []=ws[k]:=by simp [List.getD,hk]
  have hlo:lo≤k:=by
   rcases K1 k lo with h | h
   ·have:=h1 k h; rw [ek,jkR] at this; simp at this
   ·exact h
  rcases K1 lo k with h | h
  ·have:=hr lo k h hk
   rw [ek,h2 lo (Ku _) (by omega)] at this; simp at this
  ·have:lo=k:=by omega
   subst this
   exact ⟨hk,ek⟩
 ·rintro ⟨h,rfl⟩
  simp [List.getD,h]
theorem jl3 (ws:List (List UInt8))(hw:ws.length<2 ^ 40)(hr:jo5 ws)(s:List UInt8)(σ:S) :
  jah env (ev env) 284 [.row (ws.map V.str) ws.length .full,.str s] σ=some (.tup [.int .i64 (ws.countP (fun w=>Op.bytesLess w s):Nat),.bool (decide (s∈ws))],σ):=by
 refine jar rfl rfl (by simp [V.closed,jeK]) jtM rfl (by simp [Tryz.f284]) (by simp [Tryz.f284]) (jaj ?_) σ
 simp -implicitDefEqProofs only [Tryz.f284,Ka,Nat.reduceLT,Nat.reduceEqDiff,Ke,Kc,reduceIte,Ys,Y0,Int.reduceEq,Int.reduceLT,Int.reduceLE,Int.reduceNeg,mb,Nat.reduceBEq,tys,stb,Vq,jkQ,jas]
 refine jaI (fun m T D σ=>D=[]∧σ=S.empty∧T 0=.row (ws.map V.str) ws.length .full∧T 1=.str s∧T 6=.int .i64 ws.length∧∃ lo hi:Nat,T 7=.int .i64 lo∧T 8=.int .i64 hi∧lo≤hi∧hi≤ws.length∧m=hi - lo ∧
  (∀ i,i<lo→Op.bytesLess (ws.getD i []) s=true)∧(∀ i,hi≤i→i<ws.length→Op.bytesLess (ws.getD i []) s=false)) ?_ _ _ _ _ ⟨rfl,rfl,rfl,rfl,rfl,0,ws.length,rfl,rfl,by omega,by omega,rfl,fun i h=>by omega,fun i h1 h2=>by omega⟩
 rintro m T D σ ⟨rfl,rfl,t0,t1,t6,lo,hi,t7,t8,h1,h2,rfl,i1,i2⟩
 refine jaj ?_
 by_cases hlt:lo<hi
 ·have c1:(lo:Int)<(hi:Int):=by omega
  have e1:IntKind.i64.wrap ((lo:Int)+(hi:Int))=((lo+hi:Nat):Int):=by rw [wrap_i64 (by omega) (by omega)]; omega
  have e2:IntKind.u64.wrap (((lo+hi:Nat):Int))=((lo+hi:Nat):Int):=by rw [IntKind.wrap_u64]; omega
  have e3:((lo+hi:Nat):Int).fdiv (2 ^ min (Int.toNat 1) IntKind.u64.bits)=(((lo+hi) / 2:Nat):Int):=by
   rw [show min (Int.toNat 1) IntKind.u64.bits=1 from by decide]
   rw [Int.fdiv_eq_ediv_of_nonneg _ (by omega)]; omega
  have e4:IntKind.i64.wrap ((((lo+hi) / 2:Nat):Int))=(((lo+hi) / 2:Nat):Int):=by rw [wrap_i64 (by omega) (by omega)]
  have c2:(lo+hi) / 2<ws.length:=by omega
  have e5:IntKind.i64.wrap ((((lo+hi) / 2:Nat):Int)+1)=(((lo+hi) / 2+1:Nat):Int):=by rw [wrap_i64 (by omega) (by omega)]; omega
  have e6:¬ ((1:Int)<0):=by omega
  cases hb:Op.bytesLess (ws.getD ((lo+hi) / 2) []) s with
  | true =>
   simp -implicitDefEqProofs only [Ka,Nat.reduceLT,Nat.reduceEqDiff,Ke,Kc,reduceIte,Ys,Y0,Int.reduceEq,Int.reduceLT,Int.reduceLE,Int.reduceNeg,mb,Nat.reduceBEq,tys,stb,Vq,t0,t1,t6,t7,t8,c1,e1,e2,e3,e4,e5,e6,jdd,c2,jkV,hb,jmM]
   refine ⟨⟨by omega,by omega⟩,hi - ((lo+hi) / 2+1),by omega,(lo+hi) / 2+1,hi,rfl,rfl,by omega,by omega,rfl,fun i hi' => ?_,i2⟩
   rcases K1 i ((lo+hi) / 2) with h | h
   ·exact jgO (hr i _ h c2) hb
   ·have:i=(lo+hi) / 2:=by omega
    subst this; exact hb
  | false =>
   simp -implicitDefEqProofs only [Ka,Nat.reduceLT,Nat.reduceEqDiff,Ke,Kc,reduceIte,Ys,Y0,Int.reduceEq,Int.reduceLT,Int.reduceLE,Int.reduceNeg,mb,Nat.reduceBEq,tys,stb,Vq,t0,t1,t6,t7,t8,c1,e1,e2,e3,e4,e5,e6,jdd,c2,jkV,hb,jmM]
   refine ⟨⟨by omega,by omega⟩,(lo+hi) / 2 - lo,by omega,lo,(lo+hi) / 2,rfl,rfl,by omega,by omega,rfl,i1,fun i h3 h4 => ?_⟩
   rcases K1 ((lo+hi) / 2) i with h | h
   ·cases hc:Op.bytesLess (ws.getD i []) s with
    | false=>rfl
    | true =>
     have:=jgO (hr _ i h h4) hc
     rw [hb] at this; simp at this
   ·have:i=(lo+hi) / 2:=by omega
    subst this; exact hb
 ·have he:hi=lo:=by omega
  obtain rfl:lo=hi:=he.symm
  have c1:¬ (lo:Int)<(lo:Int):=by omega
  have hcnt:=jqd h2 i1 i2
  have hmem:=jsC hr i1 i2
  by_cases c3:lo<ws.length
  ·have c4:(lo:Int)<(ws.length:Int):=by omega
   have c6:(0:Int)≤(lo:Int)∧(lo:Int)<(ws.length:Int):=by omega
   by_cases c5:ws.getD lo []=s
   ·have hm:s∈ws:=hmem.2 ⟨c3,c5⟩
    simp -implicitDefEqProofs only [Ka,Nat.reduceLT,Nat.reduceEqDiff,Ke,Kc,reduceIte,Ys,Y0,Int.reduceEq,Int.reduceLT,Int.reduceLE,Int.reduceNeg,mb,Nat.reduceBEq,tys,stb,Vq,t0,t1,t6,t7,t8,c1,c4,c6,jdd,c3,c5,jas,jig]
    simp [jau,jak,jbP,jaz,jaW,jat,jaF,hcnt,hm]
   ·have hm:¬ s∈ws:=fun h=>c5 (hmem.1 h).2
    simp -implicitDefEqProofs only [Ka,Nat.reduceLT,Nat.reduceEqDiff,Ke,Kc,reduceIte,Ys,Y0,Int.reduceEq,Int.reduceLT,Int.reduceLE,Int.reduceNeg,mb,Nat.reduceBEq,tys,stb,Vq,t0,t1,t6,t7,t8,c1,c4,c6,jdd,c3,c5,jas,jig]
    simp [jau,jak,jbP,jaz,jaW,jat,jaF,hcnt,hm]
  ·have c4:¬ (lo:Int)<(ws.length:Int):=by omega
   have hm:¬ s∈ws:=fun h=>c3 (hmem.1 h).1
   simp -implicitDefEqProofs only [Ka,Nat.reduceLT,Nat.reduceEqDiff,Ke,Kc,reduceIte,Ys,Y0,Int.reduceEq,Int.reduceLT,Int.reduceLE,Int.reduceNeg,mb,Nat.reduceBEq,tys,stb,Vq,t0,t1,t6,t7,t8,c1,c4,jdd,c3,jas,jig]
   simp [jau,jak,jbP,jaz,jaW,jat,jaF,hcnt,hm]
def okC (c:UInt8):Prop:=(97≤c.toNat∧c.toNat≤122)∨(48≤c.toNat∧c.toNat≤57)∨c.toNat=95
instance (c:UInt8):Decidable (okC c):=by unfold okC; infer_instance
def jbQ:List (List UInt8):=["above","and","batch","between","bits","by","consistent","count","else","factor","from","histogram","identity","if","join","keep","late","limit","mode","none","not","of","on","or","peak","prefix","quantile","running","sum","then","total","tree","using","where","with"].map fun s=>s.toList.map fun c=>UInt8.ofNat c.toNat
theorem jnK:jo4=jbQ.map V.str:=by kernel_rfl
theorem jgh:jbQ.length=35:=by kernel_rfl
def jo6 (ws:List (List UInt8)):Bool:=(List.range ws.length).all fun j=>(List.range j).all fun i=>Op.bytesLess (ws.getD i []) (ws.getD j [])
theorem jkW:jo5 jbQ:=by
 have h:jo6 jbQ=true:=by kernel_rfl
 intro i j hij hj
 unfold jo6 at h
 rw [Kz] at h
 have h1:=h j (by simpa using hj)
 rw [Kz] at h1
 exact h1 i (by simpa using hij)
def jaZ (s:List UInt8):Prop:=1≤s.length∧s.length≤20∧97≤(s.getD 0 0).toNat∧(s.getD 0 0).toNat≤122∧(∀ i,i<s.length→okC (s.getD i 0))∧s ∉ jbQ
instance (s:List UInt8):Decidable (jaZ s):=by unfold jaZ; infer_instance
theorem jrA:jct env 274 (.rptr jo4) none none none=some (.row (jbQ.map V.str) jbQ.length .full):=by
 rw [jnK,jgh]
 exact joY u72 s9 (by rw [Jn,jgh])
theorem jcY (s:List UInt8)(hs:s.length<2 ^ 63)(σ:S):jah env (ev env) 257 [.str s] σ=some (.bool (decide (jaZ s)),σ):=by
 refine jar rfl rfl rfl jtN rfl (by simp [Tryz.f257]) (by simp [Tryz.f257]) (jaj ?_) σ
 by_cases h1:(s.length:Int)<1
 ·have hn:¬ jaZ s:=fun h=>by have:=h.1; omega
  simp -implicitDefEqProofs only [Tryz.f257,Ka,Nat.reduceLT,Nat.reduceEqDiff,Ke,Kc,reduceIte,Ys,Y0,Int.reduceEq,Int.reduceLT,Int.reduceLE,Int.reduceNeg,mb,Nat.reduceBEq,tys,stb,Vq,h1,jaX,jb5,jbM u9]
  simp [jau,jak,jaF,hn]
 by_cases h2:(20:Int)<(s.length:Int)
 ·have hn:¬ jaZ s:=fun h=>by have:=h.2.1; omega
  simp -implicitDefEqProofs only [Tryz.f257,Ka,Nat.reduceLT,Nat.reduceEqDiff,Ke,Kc,reduceIte,Ys,Y0,Int.reduceEq,Int.reduceLT,Int.reduceLE,Int.reduceNeg,mb,Nat.reduceBEq,tys,stb,Vq,h1,h2,jaX,jb5,jbM u9]
  simp [jau,jak,jaF,hn]
 have hb:(0:Int)≤0∧(0:Int)<(s.length:Int):=by omega
 have e0:Int.toNat 0=0:=rfl
 by_cases h3:(((s.getD 0 0).toNat:Nat):Int)<97
 ·have hn:¬ jaZ s:=fun h=>by have:=h.2.2.1; omega
  simp -implicitDefEqProofs only [Tryz.f257,Ka,Nat.reduceLT,Nat.reduceEqDiff,Ke,Kc,reduceIte,Ys,Y0,Int.reduceEq,Int.reduceLT,Int.reduceLE,Int.reduceNeg,mb,Nat.reduceBEq,tys,stb,Vq,h1,h2,h3,jaX,jb5,jbM u9,hb]
  simp [jau,jak,jaF,hn]
 by_cases h4:(122:Int)<(((s.getD 0 0).toNat:Nat):Int)
 ·have hn:¬ jaZ s:=fun h=>by have:=h.2.2.2.1; omega
  simp -implicitDefEqProofs only [Tryz.f257,Ka,Nat.reduceLT,Nat.reduceEqDiff,Ke,Kc,reduceIte,Ys,Y0,Int.reduceEq,Int.reduceLT,Int.reduceLE,Int.reduceNeg,mb,Nat.reduceBEq,tys,stb,Vq,h1,h2,h3,h4,jaX,jb5,jbM u9,hb]
  simp [jau,jak,jaF,hn]
 simp -implicitDefEqProofs only [Tryz.f257,Ka,Nat.reduceLT,Nat.reduceEqDiff,Ke,Kc,reduceIte,Ys,Y0,Int.reduceEq,Int.reduceLT,Int.reduceLE,Int.reduceNeg,mb,Nat.reduceBEq,tys,stb,Vq,h1,h2,h3,h4,jaX,jb5,jbM u9,hb]
 refine jaI (fun m T D σ=>D=[]∧σ=S.empty∧T 0=.str s∧T 26=.int .i64 s.length∧∃ i:Nat,T 27=.int .i64 i∧i≤s.length∧m=s.length - i∧∀ j,j<i→okC (s.getD j 0)) ?_ _ _ _ _ ⟨rfl,rfl,rfl,rfl,0,rfl,by omega,rfl,fun j h=>by omega⟩
 rintro m T D σ ⟨rfl,rfl,t0,t26,i,t27,hi,rfl,hok⟩
 refine jaj ?_
 by_cases hlt:i<s.length
 ·have c1:(i:Int)<(s.length:Int):=by omega
  have c2:(0:Int)≤(i:Int)∧(i:Int)<(s.length:Int):=by omega
  have e1:IntKind.i64.wrap ((i:Int)+1)=((i+1:Nat):Int):=by rw [wrap_i64 (by omega) (by omega)]; omega
  have hstep:okC (s.getD i 0)→∀ j,j<i+1→okC (s.getD j 0):=fun h j hj=>by
   rcases K1 j i with h2 | h2
   ·exact hok j h2
   ·have:j=i:=by omega
    subst this; exact h
  have hbad:¬ okC (s.getD i 0)→¬ jaZ s:=fun h hn=>h (hn.2.2.2.2.1 i hlt)
  have hun:okC (s.getD i 0)↔((97≤(s.getD i 0).toNat∧(s.getD i 0).toNat≤122)∨(48≤(s.getD i 0).toNat∧(s.getD i 0).toNat≤57)∨(s.getD i 0).toNat=95):=Iff.rfl
  simp -implicitDefEqProofs only [Ka,Nat.reduceLT,Nat.reduceEqDiff,Ke,Kc,reduceIte,Ys,Y0,Int.reduceEq,Int.reduceLT,Int.reduceLE,Int.reduceNeg,mb,Nat.reduceBEq,tys,stb,Vq,t0,t26,t27,c1,e1,jaX,jb5,jbM u9,c2,Qf]
  generalize (s.getD i 0)=c at *
  have inv:okC c→∃ m',m'<s.length - i∧∃ i_1:Nat,V.int IntKind.i64 ((i+1:Nat):Int)=V.int IntKind.i64 (i_1:Nat)∧i_1≤s.length∧m'=s.length - i_1∧∀ (j:Nat),j<i_1→okC (s.getD j 0) :=
   fun h=>⟨s.length - (i+1),by omega,i+1,rfl,by omega,rfl,hstep h⟩
  have bad:¬ okC c→ja2 S.empty.heap jak (jau [V.bool false])=some (V.bool (decide (jaZ s))):=fun h=>by
   simp [jau,jak,jaF,hbad h]
  repeat' (first | apply Kd | intro _)
  all_goals first | exact inv (by unfold okC; omega) | exact bad (by unfold okC; omega)
 ·have hi2:i=s.length:=by omega
  have c1:¬ (i:Int)<(s.length:Int):=by omega
  subst hi2
  have key:(s∈jbQ)=¬ jaZ s:=by
   apply propext
   constructor
   ·exact fun h hn=>hn.2.2.2.2.2 h
   ·intro h
    apply Xf
    intro hm
    exact h ⟨by omega,by omega,by omega,by omega,hok,hm⟩
  simp -implicitDefEqProofs only [Ka,Nat.reduceLT,Nat.reduceEqDiff,Ke,Kc,reduceIte,Ys,Y0,Int.reduceEq,Int.reduceLT,Int.reduceLE,Int.reduceNeg,mb,Nat.reduceBEq,tys,stb,Vq,t0,t26,t27,c1,jaX,jb3,jb4,jrA,jl3 jbQ (by rw [jgh]; decide) jkW,show env.gl 0=some (.rptr jo4) from rfl]
  by_cases hn:jaZ s
  ·have hm:¬ s∈jbQ:=hn.2.2.2.2.2
   simp [jau,jak,jaF,hn,hm]
  ·have hm:s∈jbQ:=by rw [key]; exact hn
   simp [jau,jak,jaF,hn,hm]
theorem jqe (σ:S):jah env (ev env) 285 [] σ=some (.row (jbQ.map V.str) jbQ.length .unk,σ) :=
 jbb rfl rfl rfl (k:=20) (by rw [← jb1]; kernel_rfl) σ
theorem jee (s:List UInt8)(hs:s.length<2 ^ 63)(σ:S):jah env (ev env) 262 [.str s] σ=some (.bool (decide (jaZ s)),σ):=by
 refine jar rfl rfl rfl jtO rfl (by simp [Tryz.f262]) (by simp [Tryz.f262]) (jaj ?_) σ
 by_cases h1:(s.length:Int)<1
 ·have hn:¬ jaZ s:=fun h=>by have:=h.1; omega
  simp -implicitDefEqProofs only [Tryz.f262,Ka,Nat.reduceLT,Nat.reduceEqDiff,Ke,Kc,reduceIte,Ys,Y0,Int.reduceEq,Int.reduceLT,Int.reduceLE,Int.reduceNeg,mb,Nat.reduceBEq,tys,stb,Vq,h1,jaX,jb5,jbM u9]
  simp [jau,jak,jaF,hn]
 by_cases h2:(20:Int)<(s.length:Int)
 ·have hn:¬ jaZ s:=fun h=>by have:=h.2.1; omega
  simp -implicitDefEqProofs only [Tryz.f262,Ka,Nat.reduceLT,Nat.reduceEqDiff,Ke,Kc,reduceIte,Ys,Y0,Int.reduceEq,Int.reduceLT,Int.reduceLE,Int.reduceNeg,mb,Nat.reduceBEq,tys,stb,Vq,h1,h2,jaX,jb5,jbM u9]
  simp [jau,jak,jaF,hn]
 have hb:(0:Int)≤0∧(0:Int)<(s.length:Int):=by omega
 have e0:Int.toNat 0=0:=rfl
 by_cases h3:(((s.getD 0 0).toNat:Nat):Int)<97
 ·have hn:¬ jaZ s:=fun h=>by have:=h.2.2.1; omega
  simp -implicitDefEqProofs only [Tryz.f262,Ka,Nat.reduceLT,Nat.reduceEqDiff,Ke,Kc,reduceIte,Ys,Y0,Int.reduceEq,Int.reduceLT,Int.reduceLE,Int.reduceNeg,mb,Nat.reduceBEq,tys,stb,Vq,h1,h2,h3,jaX,jb5,jbM u9,hb]
  simp [jau,jak,jaF,hn]
 by_cases h4:(122:Int)<(((s.getD 0 0).toNat:Nat):Int)
 ·have hn:¬ jaZ s:=fun h=>by have:=h.2.2.2.1; omega
  simp -implicitDefEqProofs only [Tryz.f262,Ka,Nat.reduceLT,Nat.reduceEqDiff,Ke,Kc,reduceIte,Ys,Y0,Int.reduceEq,Int.reduceLT,Int.reduceLE,Int.reduceNeg,mb,Nat.reduceBEq,tys,stb,Vq,h1,h2,h3,h4,jaX,jb5,jbM u9,hb]
  simp [jau,jak,jaF,hn]
 simp -implicitDefEqProofs only [Tryz.f262,Ka,Nat.reduceLT,Nat.reduceEqDiff,Ke,Kc,reduceIte,Ys,Y0,Int.reduceEq,Int.reduceLT,Int.reduceLE,Int.reduceNeg,mb,Nat.reduceBEq,tys,stb,Vq,h1,h2,h3,h4,jaX,jb5,jbM u9,hb]
 refine jaI (fun m T D σ=>D=[]∧σ=S.empty∧T 0=.str s∧∃ i:Nat,T 3=.int .i64 i∧i≤s.length∧m=s.length - i∧∀ j,j<i→okC (s.getD j 0)) ?_ _ _ _ _ ⟨rfl,rfl,rfl,0,rfl,by omega,rfl,fun j h=>by omega⟩
 rintro m T D σ ⟨rfl,rfl,t0,i,t3,hi,rfl,hok⟩
 refine jaj ?_
 by_cases hlt:i<s.length
 ·have c1:(i:Int)<(s.length:Int):=by omega
  have c2:(0:Int)≤(i:Int)∧(i:Int)<(s.length:Int):=by omega
  have e1:IntKind.i64.wrap ((i:Int)+1)=((i+1:Nat):Int):=by rw [wrap_i64 (by omega) (by omega)]; omega
  have hstep:okC (s.getD i 0)→∀ j,j<i+1→okC (s.getD j 0):=fun h j hj=>by
   rcases K1 j i with h2 | h2
   ·exact hok j h2
   ·have:j=i:=by omega
    subst this; exact h
  have hbad:¬ okC (s.getD i 0)→¬ jaZ s:=fun h hn=>h (hn.2.2.2.2.1 i hlt)
  simp -implicitDefEqProofs only [Ka,Nat.reduceLT,Nat.reduceEqDiff,Ke,Kc,reduceIte,Ys,Y0,Int.reduceEq,Int.reduceLT,Int.reduceLE,Int.reduceNeg,mb,Nat.reduceBEq,tys,stb,Vq,t0,t3,c1,e1,jaX,jb5,jbM u9,c2,Qf]
  generalize (s.getD i 0)=c at *
  have inv:okC c→∃ m',m'<s.length - i∧∃ i_1:Nat,V.int IntKind.i64 ((i+1:Nat):Int)=V.int IntKind.i64 (i_1:Nat)∧i_1≤s.length∧m'=s.length - i_1∧∀ (j:Nat),j<i_1→okC (s.getD j 0) :=
   fun h=>⟨s.length - (i+1),by omega,i+1,rfl,by omega,rfl,hstep h⟩
  have bad:¬ okC c→ja2 S.empty.heap jak (jau [V.bool false])=some (V.bool (decide (jaZ s))):=fun h=>by
   simp [jau,jak,jaF,hbad h]
  repeat' (first | apply Kd | intro _)
  all_goals first | exact inv (by unfold okC; omega) | exact bad (by unfold okC; omega)
 ·have hi2:i=s.length:=by omega
  have c1:¬ (i:Int)<(s.length:Int):=by omega
  subst hi2
  have key:(s∈jbQ)=¬ jaZ s:=by
   apply propext
   constructor
   ·exact fun h hn=>hn.2.2.2.2.2 h
   ·intro h
    apply Xf
    intro hm
    exact h ⟨by omega,by omega,by omega,by omega,hok,hm⟩
  simp -implicitDefEqProofs only [Ka,Nat.reduceLT,Nat.reduceEqDiff,Ke,Kc,reduceIte,Ys,Y0,Int.reduceEq,Int.reduceLT,Int.reduceLE,Int.reduceNeg,mb,Nat.reduceBEq,tys,stb,Vq,t0,t3,c1,jaX,jqe]
  refine jaI (fun m T D σ=>D=[]∧σ=S.empty∧T 0=.str s∧T 5=.row (jbQ.map V.str) jbQ.length .unk∧∃ i:Nat,T 6=.int .i64 i∧i≤jbQ.length∧m=jbQ.length - i∧∀ j,j<i→jbQ.getD j [] ≠ s) ?_ _ _ _ _ ⟨rfl,rfl,t0,rfl,0,rfl,by omega,rfl,fun j h=>by omega⟩
  rintro m T D σ ⟨rfl,rfl,t0,t5,i,t6,hi,rfl,hno⟩
  refine jaj ?_
  have hw:=jgh
  by_cases hlt:i<jbQ.length
  ·have c1:(i:Int)<(jbQ.length:Int):=by omega
   have c2:(0:Int)≤(i:Int)∧(i:Int)<(jbQ.length:Int):=by omega
   have e1:IntKind.i64.wrap ((i:Int)+1)=((i+1:Nat):Int):=by rw [wrap_i64 (by omega) (by omega)]; omega
   by_cases he:jbQ.getD i []=s
   ·have hn:¬ jaZ s:=fun h=>h.2.2.2.2.2 (by rw [← he]; simp [List.getD,hlt])
    simp -implicitDefEqProofs only [Ka,Nat.reduceLT,Nat.reduceEqDiff,Ke,Kc,reduceIte,Ys,Y0,Int.reduceEq,Int.reduceLT,Int.reduceLE,Int.reduceNeg,mb,Nat.reduceBEq,tys,stb,Vq,t0,t5,t6,c1,c2,e1,jdd,hlt,he,jas]
    simp [jau,jak,jaF,hn]
   ·simp -implicitDefEqProofs only [Ka,Nat.reduceLT,Nat.reduceEqDiff,Ke,Kc,reduceIte,Ys,Y0,Int.reduceEq,Int.reduceLT,Int.reduceLE,Int.reduceNeg,mb,Nat.reduceBEq,tys,stb,Vq,t0,t5,t6,c1,c2,e1,jdd,hlt,he,jas]
    exact ⟨jbQ.length - (i+1),by omega,i+1,rfl,by omega,rfl,fun j hj=>by
     rcases K1 j i with h2 | h2
     ·exact hno j h2
     ·have:j=i:=by omega
      subst this; exact he⟩
  ·have hi3:i=jbQ.length:=by omega
   subst hi3
   have c1:¬ (jbQ.length:Int)<(jbQ.length:Int):=by omega
   have hm:¬ s∈jbQ:=by
    intro hm
    obtain ⟨k,hk,rfl⟩:=Ju.1 hm
    exact hno k hk (by simp [List.getD,hk])
   have hn:jaZ s:=⟨by omega,by omega,by omega,by omega,hok,hm⟩
   simp -implicitDefEqProofs only [Ka,Nat.reduceLT,Nat.reduceEqDiff,Ke,Kc,reduceIte,Ys,Y0,Int.reduceEq,Int.reduceLT,Int.reduceLE,Int.reduceNeg,mb,Nat.reduceBEq,tys,stb,Vq,t0,t5,t6,c1,jdd]
   simp [jau,jak,jaF,hn]
structure Col where
 name:List UInt8
 lo:Int
 hi:Int
 w:V
 ws:List (List UInt8)
def Col.cells (c:Col):List V:=[.str c.name,.int .i64 c.lo,.int .i64 c.hi,c.w]
def Col.none:Col:=⟨[],0,0,.nilsl,[]⟩
def IsW (w:V)(ws:List (List UInt8)):Prop:=(w=.nilsl∧ws=[])∨w=.row (ws.map V.str) ws.length .unk
def jaL (cs:List Col):List V:=(cs.map Col.cells).flatten
def IsC (v:V)(cs:List Col):Prop:=(v=.nilsl∧cs=[])∨∃ q,(q=RCap.unk∨q=RCap.full)∧v=.row (jaL cs) cs.length q
def OkC (cs:List Col):Prop:=∀ c∈cs,IsW c.w c.ws
theorem OkC.at {cs:List Col}(h:OkC cs){i:Nat}(hi:i<cs.length):IsW (cs.getD i Col.none).w (cs.getD i Col.none).ws:=h _ (by simp [List.getD,hi])
theorem jbF (c:Col)(cs:List Col):jaL (c::cs)=.str c.name::.int .i64 c.lo::.int .i64 c.hi::c.w::jaL cs:=rfl
theorem jds:∀ cs:List Col,(jaL cs).length=cs.length * 4
 | []=>rfl
 | c::cs=>by rw [jbF]; simp only [K7,jds cs]; omega
theorem jjc:∀ (cs:List Col) (i:Nat),(jaL cs).drop (i * 4)=jaL (cs.drop i)
 | cs,0=>by simp
 | [],i+1=>by simp [jaL]
 | c::cs,i+1=>by
  rw [jbF,show (i+1) * 4=i * 4+1+1+1+1 by omega]
  simp only [K2]
  exact jjc cs i
theorem jqf {cs:List Col}{i:Nat}(hi:i<cs.length):jaL (cs.drop i)=.str (cs.getD i Col.none).name::.int .i64 (cs.getD i Col.none).lo::.int .i64 (cs.getD i Col.none).hi::(cs.getD i Col.none).w::jaL (cs.drop (i+1)):=by
 have e:cs.drop i=cs.getD i Col.none::cs.drop (i+1):=by
  rw [Qu hi]
  simp [List.getD,hi]
 rw [e,jbF]
theorem jhd {v:V}{cs:List Col}(h:IsC v cs):jbE (some (.slice 41)) v=some (.int .i64 cs.length):=by
 rcases h with ⟨rfl,rfl⟩ | ⟨q,_,rfl⟩ <;> rfl
theorem jcN {v:V}{ws:List (List UInt8)}(h:IsW v ws):jbE (some (.slice 9)) v=some (.int .i64 ws.length):=by
 rcases h with ⟨rfl,rfl⟩ | rfl <;> rfl
theorem jgP {v:V}{cs:List Col}(h:IsC v cs){i:Nat}(hi:i<cs.length):jaC 4 v (.int .i64 (i:Int))=some (.rptr (.str (cs.getD i Col.none).name::.int .i64 (cs.getD i Col.none).lo::.int .i64 (cs.getD i Col.none).hi::(cs.getD i Col.none).w::jaL (cs.drop (i+1)))):=by
 rcases h with ⟨rfl,rfl⟩ | ⟨q,_,rfl⟩
 ·simp at hi
 ·rw [Ys,Kh (by omega),Qf,jjc,jqf hi]
theorem jl4 {v:V}{ws:List (List UInt8)}(h:IsW v ws){i:Nat}(hi:i<ws.length):jaC 1 v (.int .i64 (i:Int))=some (.rptr (.str (ws.getD i [])::(ws.map V.str).drop (i+1))):=by
 rcases h with ⟨rfl,rfl⟩ | rfl
 ·simp at hi
 ·rw [Ys,Kh (by omega),Qf,J3,Qu (by simpa using hi)]
  simp [List.getD,hi]
theorem jaw (h:List AObj)(v:V)(r:List V):(jag h 1 (.rptr (v::r))).bind (·[0]?)=some v:=by
 have:=Yz h (v::r) 0
 simpa using this
theorem u27:env.P.underlying 36=some (.slice 41):=by kernel_rfl
theorem u32:env.P.underlying 32=some (.int .i64):=by kernel_rfl
theorem tys2:env.P.underlying 36=some (.slice 41)∧env.P.underlying 32=some (.int .i64)∧sz env 36=some 1∧sz env 41=some 4∧sz env 38=some 4∧sz env 4=some 1∧jav env 38 0=some 0∧jav env 38 1=some 1∧jav env 38 2=some 2∧jav env 38 3=some 3 ∧
  jav env 41 0=some 0∧jav env 41 1=some 1∧jav env 41 2=some 2∧jav env 41 3=some 3∧(∀ h p,jaS env h 36 p=(jag h 1 p).bind (·[0]?))∧(∀ h p,jaS env h 4 p=(jag h 1 p).bind (·[0]?)):=by
 have g27:aggT env 36=some false:=by kernel_rfl
 have g4:aggT env 4=some false:=by kernel_rfl
 exact ⟨u27,u32,by kernel_rfl,by kernel_rfl,by kernel_rfl,by kernel_rfl,by kernel_rfl,by kernel_rfl,by kernel_rfl,by kernel_rfl,by kernel_rfl,by kernel_rfl,by kernel_rfl,by kernel_rfl,fun _ _=>jaG g27,fun _ _=>jaG g4⟩
theorem jcB {w:V}{ws:List (List UInt8)}(h:IsW w ws):w.closed=true:=by
 rcases h with ⟨rfl,rfl⟩ | rfl
 ·rfl
 ·simp only [V.closed,jeK,K6]
theorem jfV:∀ {cs:List Col},OkC cs→V.closed.closedL (jaL cs)=true
 | [],h=>rfl
 | c::cs,h=>by
  rw [jbF]
  simp only [V.closed.closedL,V.closed,jcB (h c (by simp)),jfV (cs:=cs) fun x hx=>h x (by simp [hx]),K6]
theorem jce {v:V}{cs:List Col}(h:IsC v cs)(ok:OkC cs):v.closed=true:=by
 rcases h with ⟨rfl,rfl⟩ | ⟨q,rfl | rfl,rfl⟩
 ·rfl
 ·simp only [V.closed,jfV ok,K6]
 ·simp only [V.closed,jfV ok,K6]
theorem jaf (L:List AObj)(o:AObj):(L++[o])[L.length]? = some o:=by simp
theorem jap (L:List AObj)(o o':AObj):(L++[o]).set L.length o'=L++[o']:=by simp
theorem jaN (h:List AObj)(a b c d:V)(r:List V):jag h 4 (.rptr (a::b::c::d::r))=some [a,b,c,d]:=by simp [jag]
theorem jcZ {h:List AObj}{n:Nat}{a b c d:V}{t:TypeId}(hh:h[n]? = some (.cells [a,b,c,d] t)):jag h 4 (.ptr n 0)=some [a,b,c,d]:=by simp [jag,hh]
theorem jeU (h:List AObj)(p:V):jaS env h 41 p=(jag h 4 p).map .agg:=by
 unfold jaS
 rw [show aggT env 41=some true by kernel_rfl,show sz env 41=some 4 by kernel_rfl]
 rfl
theorem jfe (h:List AObj)(p:V):jaS env h 38 p=(jag h 4 p).map .agg:=by
 unfold jaS
 rw [show aggT env 38=some true by kernel_rfl,show sz env 38=some 4 by kernel_rfl]
 rfl
theorem z44:jbr env 41=some (.agg [.str [],.int .i64 0,.int .i64 0,.nilsl]):=by kernel_rfl
theorem z29:jbr env 38=some (.agg [.str [],.bool false,.int .i64 0,.nilsl]):=by kernel_rfl
theorem jih:One env 39 9 16:=⟨by kernel_rfl,by kernel_rfl,by kernel_rfl,by kernel_rfl,by kernel_rfl,⟨.str [],by kernel_rfl,rfl⟩⟩
theorem el27:jf0 env 36=some 41:=by kernel_rfl
theorem by44:bys env 41=some 56:=by kernel_rfl
theorem zn44:jjx env 41=some 4:=by kernel_rfl
def Col.cap (c:Col)(cap:RCap):Col:={ c with w:=.row (c.ws.map V.str) c.ws.length cap }
def jnL (c:Col):Col:=c.cap .unk
inductive GrowC (ts:List Nat):V→List Col→Prop
 | nil:GrowC ts .nilsl []
 | tok (cs:List Col) (k e:Nat) (h:ts[k]? = some e) (hne:cs ≠ []):GrowC ts (.row (jaL cs) cs.length (.tok k e 4)) cs
theorem jd0 (cs:List Col)(c:Col):jaL (cs++[c])=jaL cs++c.cells:=by simp [jaL]
theorem jrB {T:Tm}{σ:S}{x:Operand}:opT env false T σ (.buildSlice 36 1 #[(0,x)])=(jaM env T x).bind fun v=>if v.cells.length=4 then some (.row v.cells 1 .full,σ) else none:=by
 unfold opT
 simp only [ja3,ja8,jbo,jcI]
 cases jaM env T x with
 | none=>rfl
 | some v =>
  simp only [Qh,Ko,el27,tys2,z44]
  by_cases hv:v.cells.length=4
  ·simp [jfE,hv,YW]
  ·simp [jfE,hv,YW]
theorem GrowC.append {hp:List AObj}{ts:List Nat}{v:V}{cs:List Col}(g:GrowC ts v cs)(c:Col)(cap:RCap)(hc:c.cells.all V.isCell=true)(hb:cs.length+1≤1000) :
  ∃ v' ts',appO env false ⟨hp,ts⟩ 36 36 v (.row c.cells 1 cap)=some (v',⟨hp,ts'⟩)∧GrowC ts' v' (cs++[c]):=by
 have hnew:ja5 hp 4 1 (.row c.cells 1 cap)=some c.cells:=by simp [ja5,Col.cells]
 have hl1:(1:Nat) * 56≤lim∧1≤lim:=by decide
 have hl2:(cs.length+1) * 56≤lim∧cs.length+1≤lim:=by have h:lim=2 ^ 40:=rfl; rw [h]; omega
 unfold appO
 simp only [el27,tys2,by44,zn44,vLen,hnew,Ko,Ke]
 cases g with
 | nil =>
  refine ⟨.row (jaL [c]) 1 (.tok ts.length 0 4),ts++[0],?_,.tok [c] ts.length 0 (by simp) (by simp)⟩
  simp [jbJ,hl1,jaL]
 | tok _ k e hk hne =>
  have hkl:k<ts.length:=by
   rcases K1 k ts.length with h1 | h1
   ·exact h1
   ·rw [K8 h1] at hk; simp at hk
  refine ⟨.row (jaL (cs++[c])) (cs++[c]).length (.tok k (e+1) 4),ts.set k (e+1),?_,.tok _ k (e+1) (by simp [hkl]) (by simp)⟩
  have hl3:(jaL cs).length=cs.length * 4:=jds cs
  simp [jbJ,hl2,hl3,hk,hc,jd0]
theorem jl5 (s:List UInt8):(V.str s).isCell=true:=rfl
theorem jtP {w:V}{ws:List (List UInt8)}(h:IsW w ws)(hb:ws.length≤1000)(hp:List AObj)(ts:List Nat) :
  ∃ cap ts',appO env false ⟨hp,ts⟩ 39 39 (.row [] 0 .full) w=some (.row (ws.map V.str) ws.length cap,⟨hp,ts'⟩)∧∀ (k e:Nat),ts[k]? = some e→ts'[k]? = some e:=by
 by_cases hn:ws=[]
 ·subst hn
  refine ⟨.full,ts,?_,fun _ _ h=>h⟩
  unfold appO
  simp only [jih.elem,jih.size,jih.bytes,jih.slice,jih.zeros,Ko,Ke]
  rcases h with ⟨rfl,_⟩ | rfl <;> simp [vLen,ja5,jbJ]
 ·rcases h with ⟨_,h⟩ | rfl
  ·exact absurd h hn
  ·have hl2:ws.length * 16≤lim∧ws.length≤lim:=by have h:lim=2 ^ 40:=rfl; rw [h]; omega
   have hall:(ws.map V.str).all V.isCell=true:=by simp [V.isCell]
   have hne:¬ ws.length=0:=fun h=>hn (Qt h)
   refine ⟨.tok ts.length 0 1,ts++[0],?_,fun k e hk => ?_⟩
   ·unfold appO
    simp only [jih.elem,jih.size,jih.bytes,jih.slice,jih.zeros,Ko,Ke]
    have htk:List.take ws.length (ws.map V.str)=ws.map V.str:=Ql (by simp)
    simp [vLen,ja5,jbJ,hl2,hne,hn,htk,jl5]
   ·rw [Kn]
    ·exact hk
    ·rcases K1 k ts.length with h1 | h1
     ·exact h1
     ·rw [K8 h1] at hk; simp at hk
theorem jtQ:env.P.funcs[106]? = some Tryz.f106:=by kernel_rfl
theorem jbC {w:V}{ws:List (List UInt8)}(h:IsW w ws):w.isCell=true:=by rcases h with ⟨rfl,_⟩ | rfl <;> rfl
theorem jae (s:List UInt8):(V.str s).isCell=true:=rfl
theorem jam (b:Bool):(V.bool b).isCell=true:=rfl
theorem jdt (L:List AObj)(a b c d:V)(t:TypeId):jag (L++[.cells [a,b,c,d] t]) 4 (.ptr L.length 0)=some [a,b,c,d]:=jcZ (jaf _ _)
theorem GrowC.keep {ts ts':List Nat}{v:V}{cs:List Col}(g:GrowC ts v cs)(h:∀ (k e:Nat),ts[k]? = some e→ts'[k]? = some e):GrowC ts' v cs:=by
 cases g with
 | nil=>exact .nil
 | tok _ k e hk hne=>exact .tok _ k e (h k e hk) hne
theorem GrowC.cells {ts:List Nat}{v:V}{cs:List Col}(g:GrowC ts v cs):v.cells=[v]:=by cases g <;> rfl
theorem GrowC.cell {ts:List Nat}{v:V}{cs:List Col}(g:GrowC ts v cs):v.isCell=true:=by cases g <;> rfl
def jrC (cs:List Col):V:=if cs=[] then .nilsl else .row (jaL (cs.map jnL)) cs.length .unk
theorem jo7 (h:List AObj)(d:Nat)(ws:List (List UInt8)):(ws.map V.str).mapM (ja2 h (d+1))=some (ws.map V.str) :=
 jfJ h (d+1) _ fun v hv=>by
  obtain ⟨z,_,rfl⟩:=Xr.1 hv
  rfl
theorem jkX (h:List AObj)(d:Nat):∀ P:List Col,(∀ c∈P,∃ cap,c.w=.row (c.ws.map V.str) c.ws.length cap)→(jaL P).mapM (ja2 h (d+2))=some (jaL (P.map jnL))
 | [],_=>rfl
 | c::P,hp=>by
  obtain ⟨cap,hw⟩:=hp c (by simp)
  rw [jbF,jaz,jaz,jaz,jaz,jkX h d P fun x hx=>hp x (by simp [hx]),hw,jdr,jat,jat,jfd,jo7]
  rfl
theorem jo8 {h:List AObj}{d:Nat}{ts:List Nat}{u:V}{P cs:List Col}(hg:GrowC ts u P)(hp:∀ c∈P,∃ cap,c.w=.row (c.ws.map V.str) c.ws.length cap)(hm:P.map jnL=cs.map jnL):ja2 h (d+3) u=some (jrC cs):=by
 have hl:P.length=cs.length:=by have:=congrArg List.length hm; simpa using this
 cases hg with
 | nil =>
  have:cs=[]:=Qt hl.symm
  subst this
  rfl
 | tok _ k e hk hne =>
  rw [jfd,jkX h d P hp,hm,hl]
  have he:cs ≠ []:=fun e=>hne (Qt (by rw [hl,e]; rfl))
  simp [jrC,he]
theorem jkY (nm:List UInt8)(pb:Bool)(many:Int)(cv:V)(cs:List Col)(hc:IsC cv cs)(ok:OkC cs)(hl:cs.length≤100)(hw:∀ i,i<cs.length→(cs.getD i Col.none).ws.length≤100)(σ:S) :
  jah env (ev env) 106 [.agg [.str nm,.bool pb,.int .i64 many,cv]] σ=some (.agg [.str nm,.bool pb,.int .i64 many,jrC cs],σ):=by
 refine jar rfl rfl (by simp [V.closed,V.closed.closedL,jce hc ok]) jtQ rfl (by simp [Tryz.f106]) (by simp [Tryz.f106]) (jaj ?_) σ
 have hcc:cv.isCell=true:=by rcases hc with ⟨rfl,_⟩ | ⟨q,_,rfl⟩ <;> rfl
 simp -implicitDefEqProofs only [Tryz.f106,Ka,Nat.reduceLT,Nat.reduceEqDiff,Ke,Kc,reduceIte,Ys,Y0,Int.reduceEq,Int.reduceLT,Int.reduceLE,Int.reduceNeg,mb,Nat.reduceBEq,tys,stb,Vq,tys2,z29,z44,jay,jaa,Q1,Qq,Q6,K2,Jl,K3,Qn,jae,jam,jad,hcc,V.isCell,Jx,Nat.reduceAdd,Nat.reduceLeDiff]
 refine jaI (fun m T D σ=>D=[]∧T 1=.ptr 0 0∧T 2=.ptr 1 0∧T 3=cv∧∃ (L:List AObj) (ts:List Nat) (i:Nat) (P:List Col) (u:V),σ=⟨L,ts⟩∧L[0]? = some (.cells [.str nm,.bool pb,.int .i64 many,u] 38) ∧
  L[1]? = some (.cells [.str [],.bool false,.int .i64 0,.nilsl] 38)∧T 4=.int .i64 i∧i≤cs.length∧m=cs.length - i∧GrowC ts u P∧P.length=i∧P.map jnL=(cs.take i).map jnL∧∀ c∈P,∃ cap,c.w=.row (c.ws.map V.str) c.ws.length cap) ?_ _ _ _ _
  ⟨rfl,rfl,rfl,rfl,_,_,0,[],.nilsl,rfl,rfl,rfl,rfl,by omega,rfl,.nil,rfl,rfl,fun c h=>by simp at h⟩
 rintro m T D σ ⟨rfl,t1,t2,t3,L,ts,i,P,u,rfl,l0,l1,t4,hi,rfl,hg,hpl,hpm,hpw⟩
 refine jaj ?_
 have hn0:0<L.length:=by
  rcases K1 0 L.length with h | h
  ·exact h
  ·rw [K8 h] at l0; simp at l0
 have hn1:1<L.length:=by
  rcases K1 1 L.length with h | h
  ·exact h
  ·rw [K8 h] at l1; simp at l1
 by_cases hlt:i<cs.length
 ·have c1:(i:Int)<(cs.length:Int):=by omega
  have e1:IntKind.i64.wrap ((i:Int)+1)=((i+1:Nat):Int):=by rw [wrap_i64 (by omega) (by omega)]; omega
  have hwi:=ok.at hlt
  have hws:=hw i hlt
  generalize hcd:cs.getD i Col.none=c at *
  have hE0:∀ o,(L++[o])[0]? = some (.cells [.str nm,.bool pb,.int .i64 many,u] 38):=fun o=>by rw [Kn hn0]; exact l0
  obtain ⟨cap,ts',hA,hk⟩:=jtP hwi (by omega) (L++[.cells [.str c.name,.int .i64 c.lo,.int .i64 c.hi,c.w] 41]) ts
  obtain ⟨u',ts'',hB,hg'⟩:=(hg.keep hk).append (hp:=L++[.cells [.str c.name,.int .i64 c.lo,.int .i64 c.hi,.row (c.ws.map V.str) c.ws.length cap] 41]) (c.cap cap) .full (by simp [Col.cells,Col.cap,V.isCell]) (by omega)
  have hcells:(c.cap cap).cells=[.str c.name,.int .i64 c.lo,.int .i64 c.hi,.row (c.ws.map V.str) c.ws.length cap]:=rfl
  rw [hcells] at hB
  have hic:=jbC hwi
  have hiu:=hg'.cell
  have hcu:=hg'.cells
  have hx:=jgP hc hlt
  rw [hcd] at hx
  simp -implicitDefEqProofs only [Ka,Nat.reduceLT,Nat.reduceEqDiff,Ke,Kc,reduceIte,Ys,Y0,Int.reduceEq,Int.reduceLT,Int.reduceLE,Int.reduceNeg,mb,Nat.reduceBEq,tys,stb,Vq,tys2,t1,t2,t3,t4,c1,e1,jhd hc,hx,jeU,jaN,z44,jaf,jap,jaa,Q1,Qq,Q6,K2,Jl,K3,Qn,jae,jad,YG,hic,hiu,hcu,jnG jih,hA,jdt,jrB,hE0,hB,Nat.reduceAdd,Nat.reduceLeDiff,K9,Qw]
  have hset:∀ o A:AObj,((L++[o]).set 0 A)[0]? = some A:=fun o A=>by rw [Ks (by simp)]
  have hset1:∀ o A:AObj,((L++[o]).set 0 A)[1]? = some (.cells [.str [],.bool false,.int .i64 0,.nilsl] 38):=fun o A=>by
   rw [K0 (by omega),Kn hn1]; exact l1
  refine ⟨cs.length - (i+1),by omega,_,_,i+1,P++[c.cap cap],u',rfl,hset _ _,hset1 _ _,rfl,by omega,rfl,hg',by simp [hpl],?_,?_⟩
  ·rw [Xu,hpm,Vl,Xu]
   congr 1
   have:cs[i]? = some c:=by rw [← hcd]; simp [List.getD,hlt]
   rw [this]
   rfl
  ·intro x hx
   rcases Jv.1 hx with h | h
   ·exact hpw x h
   ·simp only [J4] at h
    subst h
    exact ⟨cap,rfl⟩
 ·have hi2:i=cs.length:=by omega
  subst hi2
  have c1:¬ (cs.length:Int)<(cs.length:Int):=by omega
  have hiu:=hg.cell
  have hset1:∀ A:AObj,(L.set 1 A)[1]? = some A:=fun A=>by rw [Ks hn1]
  simp -implicitDefEqProofs only [Ka,Nat.reduceLT,Nat.reduceEqDiff,Ke,Kc,reduceIte,Ys,Y0,Int.reduceEq,Int.reduceLT,Int.reduceLE,Int.reduceNeg,mb,Nat.reduceBEq,tys,stb,Vq,tys2,t1,t2,t3,t4,c1,jhd hc,jfe,jcZ l0,l1,jaa,Q1,Qq,Q6,K2,Jl,K3,Qn,jae,jad,jam,hiu,Nat.reduceAdd,Nat.reduceLeDiff,jcZ (hset1 _),YW]
  rw [Xe] at hpm
  simp only [jau,jak,jic,jaz,jaW,jdr,jaF,jat,jo8 hg hpw hpm,Ko,Qh]
theorem jtR:env.P.funcs[286]? = some Tryz.f286:=by kernel_rfl
def jiI (ws:List (List UInt8)):Prop:=∃ k i,k<i∧i<ws.length∧ws.getD k []=ws.getD i []
open Classical in
theorem jfx (w:V)(ws:List (List UInt8))(h:IsW w ws)(hl:ws.length≤1000)(σ:S):jah env (ev env) 286 [w] σ=some (.bool (decide (jiI ws)),σ):=by
 refine jar rfl rfl (by simp [jcB h]) jtR rfl (by simp [Tryz.f286]) (by simp [Tryz.f286]) (jaj ?_) σ
 simp -implicitDefEqProofs only [Tryz.f286,Ka,Nat.reduceLT,Nat.reduceEqDiff,Ke,Kc,reduceIte,Ys,Y0,Int.reduceEq,Int.reduceLT,Int.reduceLE,Int.reduceNeg,mb,Nat.reduceBEq,tys,stb,Vq]
 refine jaI (fun m T D σ=>D=[]∧σ=S.empty∧T 0=w∧∃ i:Nat,T 3=.int .i64 i∧i≤ws.length∧m=ws.length - i∧∀ j k,k<j→j<i→ws.getD k [] ≠ ws.getD j []) ?_ _ _ _ _ ⟨rfl,rfl,rfl,0,rfl,by omega,rfl,fun j k h1 h2=>by omega⟩
 rintro m T D σ ⟨rfl,rfl,t0,i,t3,hi,rfl,hno⟩
 refine jaj ?_
 by_cases hlt:i<ws.length
 ·have c1:(i:Int)<(ws.length:Int):=by omega
  have e1:IntKind.i64.wrap ((i:Int)+1)=((i+1:Nat):Int):=by rw [wrap_i64 (by omega) (by omega)]; omega
  simp -implicitDefEqProofs only [Ka,Nat.reduceLT,Nat.reduceEqDiff,Ke,Kc,reduceIte,Ys,Y0,Int.reduceEq,Int.reduceLT,Int.reduceLE,Int.reduceNeg,mb,Nat.reduceBEq,tys,stb,Vq,t0,t3,c1,e1,jcN h]
  refine jaI (fun m T D σ=>D=[]∧σ=S.empty∧T 0=w∧T 3=.int .i64 i∧∃ k:Nat,T 4=.int .i64 k∧k≤i∧m=i - k∧∀ j,j<k→ws.getD j [] ≠ ws.getD i []) ?_ _ _ _ _ ⟨rfl,rfl,t0,t3,0,rfl,by omega,rfl,fun j h1=>by omega⟩
  rintro m T D σ ⟨rfl,rfl,t0,t3,k,t4,hk,rfl,hno2⟩
  refine jaj ?_
  by_cases hlt2:k<i
  ·have c2:(k:Int)<(i:Int):=by omega
   have e2:IntKind.i64.wrap ((k:Int)+1)=((k+1:Nat):Int):=by rw [wrap_i64 (by omega) (by omega)]; omega
   have x1:=jl4 h hlt
   have x2:=jl4 h (show k<ws.length by omega)
   by_cases he:ws.getD k []=ws.getD i []
   ·have hv:jiI ws:=⟨k,i,hlt2,hlt,he⟩
    simp -implicitDefEqProofs only [Ka,Nat.reduceLT,Nat.reduceEqDiff,Ke,Kc,reduceIte,Ys,Y0,Int.reduceEq,Int.reduceLT,Int.reduceLE,Int.reduceNeg,mb,Nat.reduceBEq,tys,stb,Vq,t0,t3,t4,c2,e2,x1,x2,jaw,jas,he]
    refine ⟨by kernel_rfl,?_⟩
    simp [jau,jak,jaF,hv]
   ·simp -implicitDefEqProofs only [Ka,Nat.reduceLT,Nat.reduceEqDiff,Ke,Kc,reduceIte,Ys,Y0,Int.reduceEq,Int.reduceLT,Int.reduceLE,Int.reduceNeg,mb,Nat.reduceBEq,tys,stb,Vq,t0,t3,t4,c2,e2,x1,x2,jaw,jas,he]
    exact ⟨by kernel_rfl,i - (k+1),by omega,k+1,rfl,by omega,rfl,fun j hj=>by
     rcases K1 j k with h2 | h2
     ·exact hno2 j h2
     ·have:j=k:=by omega
      subst this; exact he⟩
  ·have hk2:k=i:=by omega
   subst hk2
   have c2:¬ (k:Int)<(k:Int):=by omega
   simp -implicitDefEqProofs only [Ka,Nat.reduceLT,Nat.reduceEqDiff,Ke,Kc,reduceIte,Ys,Y0,Int.reduceEq,Int.reduceLT,Int.reduceLE,Int.reduceNeg,mb,Nat.reduceBEq,tys,stb,Vq,t0,t3,t4,c2,e1]
   exact ⟨ws.length - (k+1),by omega,k+1,rfl,by omega,rfl,fun j q h1 h2=>by
    rcases K1 j k with h3 | h3
    ·exact hno j q h1 h3
    ·have:j=k:=by omega
     subst this; exact hno2 q h1⟩
 ·have hi2:i=ws.length:=by omega
  subst hi2
  have c1:¬ (ws.length:Int)<(ws.length:Int):=by omega
  have hn:¬ jiI ws:=fun ⟨k,j,h1,h2,h3⟩=>hno j k h1 h2 h3
  simp -implicitDefEqProofs only [Ka,Nat.reduceLT,Nat.reduceEqDiff,Ke,Kc,reduceIte,Ys,Y0,Int.reduceEq,Int.reduceLT,Int.reduceLE,Int.reduceNeg,mb,Nat.reduceBEq,tys,stb,Vq,t0,t3,c1,jcN h]
  simp [jau,jak,jaF,hn]
theorem jtS:env.P.funcs[263]? = some Tryz.f263:=by kernel_rfl
open Classical in
noncomputable def colE (c:Col):Int :=
 if c.ws.length=0 then (if c.lo < -1000000∨1000000<c.hi∨c.hi<c.lo then 2 else 0)
 else if 64<c.ws.length then 4
 else if ∃ i,i<c.ws.length∧¬ jaZ (c.ws.getD i []) then 19
 else if jiI c.ws then 8
 else if c.lo ≠ 0∨c.hi ≠ (c.ws.length:Int) - 1 then 2 else 0
def jfW (c:Col):Prop:=c.name.length<2 ^ 63∧c.ws.length≤1000∧∀ i,i<c.ws.length→(c.ws.getD i []).length<2 ^ 63
open Classical in
theorem jii (c:Col)(h:IsW c.w c.ws)(hs:jfW c)(σ:S):jah env (ev env) 263 [.agg [.str c.name,.int .i64 c.lo,.int .i64 c.hi,c.w]] σ=some (.int .i64 (colE c),σ):=by
 refine jar rfl rfl (by simp [V.closed,V.closed.closedL,jcB h]) jtS rfl (by simp [Tryz.f263]) (by simp [Tryz.f263]) (jaj ?_) σ
 obtain ⟨hs1,hs2,hs3⟩:=hs
 have hic:=jbC h
 obtain ⟨nm,lo,hi,w,ws⟩:=c
 simp only at h hs1 hs2 hs3 hic ⊢
 by_cases h0:ws.length=0
 ·have c0:(ws.length:Int)=0:=by omega
  by_cases h1:lo < -1000000
  ·have he:colE ⟨nm,lo,hi,w,ws⟩=2:=by simp only [colE,h0,Ke]; rw [Kh (.inl h1)]
   simp -implicitDefEqProofs only [Tryz.f263,Ka,Nat.reduceLT,Nat.reduceEqDiff,Ke,Kc,reduceIte,Ys,Y0,Int.reduceEq,Int.reduceLT,Int.reduceLE,Int.reduceNeg,mb,Nat.reduceBEq,tys,stb,Vq,tys2,jay,jcN h,c0,h1]
   simp only [jau,jak,jat,he]
  by_cases h2:1000000<hi
  ·have he:colE ⟨nm,lo,hi,w,ws⟩=2:=by simp only [colE,h0,Ke]; rw [Kh (.inr (.inl h2))]
   simp -implicitDefEqProofs only [Tryz.f263,Ka,Nat.reduceLT,Nat.reduceEqDiff,Ke,Kc,reduceIte,Ys,Y0,Int.reduceEq,Int.reduceLT,Int.reduceLE,Int.reduceNeg,mb,Nat.reduceBEq,tys,stb,Vq,tys2,jay,jcN h,c0,h1,h2]
   simp only [jau,jak,jat,he]
  by_cases h3:hi<lo
  ·have he:colE ⟨nm,lo,hi,w,ws⟩=2:=by simp only [colE,h0,Ke]; rw [Kh (.inr (.inr h3))]
   simp -implicitDefEqProofs only [Tryz.f263,Ka,Nat.reduceLT,Nat.reduceEqDiff,Ke,Kc,reduceIte,Ys,Y0,Int.reduceEq,Int.reduceLT,Int.reduceLE,Int.reduceNeg,mb,Nat.reduceBEq,tys,stb,Vq,tys2,jay,jcN h,c0,h1,h2,h3]
   simp only [jau,jak,jat,he]
  ·have he:colE ⟨nm,lo,hi,w,ws⟩=0:=by simp only [colE,h0,Ke]; rw [Kg (by omega)]
   simp -implicitDefEqProofs only [Tryz.f263,Ka,Nat.reduceLT,Nat.reduceEqDiff,Ke,Kc,reduceIte,Ys,Y0,Int.reduceEq,Int.reduceLT,Int.reduceLE,Int.reduceNeg,mb,Nat.reduceBEq,tys,stb,Vq,tys2,jay,jcN h,c0,h1,h2,h3]
   simp only [jau,jak,jat,he]
 have c0:¬ (ws.length:Int)=0:=by omega
 by_cases h1:(64:Int)<(ws.length:Int)
 ·have he:colE ⟨nm,lo,hi,w,ws⟩=4:=by simp only [colE]; rw [Kg h0,Kh (by omega)]
  simp -implicitDefEqProofs only [Tryz.f263,Ka,Nat.reduceLT,Nat.reduceEqDiff,Ke,Kc,reduceIte,Ys,Y0,Int.reduceEq,Int.reduceLT,Int.reduceLE,Int.reduceNeg,mb,Nat.reduceBEq,tys,stb,Vq,tys2,jay,jcN h,c0,h1]
  simp only [jau,jak,jat,he]
 simp -implicitDefEqProofs only [Tryz.f263,Ka,Nat.reduceLT,Nat.reduceEqDiff,Ke,Kc,reduceIte,Ys,Y0,Int.reduceEq,Int.reduceLT,Int.reduceLE,Int.reduceNeg,mb,Nat.reduceBEq,tys,stb,Vq,tys2,jay,jcN h,c0,h1]
 refine jaI (fun m T D σ=>D=[]∧σ=⟨[.cells [.str nm,.int .i64 lo,.int .i64 hi,w] 41],[]⟩∧T 1=.ptr 0 0∧T 3=.int .i64 ws.length∧∃ i:Nat,T 4=.int .i64 i∧i≤ws.length∧m=ws.length - i∧∀ j,j<i→jaZ (ws.getD j [])) ?_ _ _ _ _ ⟨rfl,rfl,rfl,rfl,0,rfl,by omega,rfl,fun j h1=>by omega⟩
 rintro m T D σ ⟨rfl,rfl,t1,t3,i,t4,hi',rfl,hok⟩
 refine jaj ?_
 by_cases hlt:i<ws.length
 ·have c1:(i:Int)<(ws.length:Int):=by omega
  have e1:IntKind.i64.wrap ((i:Int)+1)=((i+1:Nat):Int):=by rw [wrap_i64 (by omega) (by omega)]; omega
  have x1:=jl4 h hlt
  by_cases hn:jaZ (ws.getD i [])
  ·simp -implicitDefEqProofs only [Ka,Nat.reduceLT,Nat.reduceEqDiff,Ke,Kc,reduceIte,Ys,Y0,Int.reduceEq,Int.reduceLT,Int.reduceLE,Int.reduceNeg,mb,Nat.reduceBEq,tys,stb,Vq,tys2,t1,t3,t4,c1,e1,x1,jaw,jee _ (hs3 i hlt),hn]
   exact ⟨ws.length - (i+1),by omega,i+1,rfl,by omega,rfl,fun j hj=>by
    rcases K1 j i with h2 | h2
    ·exact hok j h2
    ·have:j=i:=by omega
     subst this; exact hn⟩
  ·have he:colE ⟨nm,lo,hi,w,ws⟩=19:=by simp only [colE]; rw [Kg h0,Kg (by omega),Kh ⟨i,hlt,hn⟩]
   simp -implicitDefEqProofs only [Ka,Nat.reduceLT,Nat.reduceEqDiff,Ke,Kc,reduceIte,Ys,Y0,Int.reduceEq,Int.reduceLT,Int.reduceLE,Int.reduceNeg,mb,Nat.reduceBEq,tys,stb,Vq,tys2,t1,t3,t4,c1,e1,x1,jaw,jee _ (hs3 i hlt),hn]
   simp only [jau,jak,jat,he]
 ·have hi2:i=ws.length:=by omega
  subst hi2
  have c1:¬ (ws.length:Int)<(ws.length:Int):=by omega
  have hno:¬ ∃ i,i<ws.length∧¬ jaZ (ws.getD i []):=fun ⟨i,h1,h2⟩=>h2 (hok i h1)
  by_cases h2:jiI ws
  ·have he:colE ⟨nm,lo,hi,w,ws⟩=8:=by simp only [colE]; rw [Kg h0,Kg (by omega),Kg hno,Kh h2]
   simp -implicitDefEqProofs only [Ka,Nat.reduceLT,Nat.reduceEqDiff,Ke,Kc,reduceIte,Ys,Y0,Int.reduceEq,Int.reduceLT,Int.reduceLE,Int.reduceNeg,mb,Nat.reduceBEq,tys,stb,Vq,tys2,t1,t3,t4,c1,jfx w ws h hs2,h2]
   simp only [jau,jak,jat,he]
  have e2:IntKind.i64.wrap ((ws.length:Int) - 1)=(ws.length:Int) - 1:=wrap_i64 (by omega) (by omega)
  by_cases h3:lo=0
  ·by_cases h4:hi=(ws.length:Int) - 1
   ·have he:colE ⟨nm,lo,hi,w,ws⟩=0:=by simp only [colE]; rw [Kg h0,Kg (by omega),Kg hno,Kg h2,Kg (by rintro (h | h); exact h h3; exact h h4)]
    simp -implicitDefEqProofs only [Ka,Nat.reduceLT,Nat.reduceEqDiff,Ke,Kc,reduceIte,Ys,Y0,Int.reduceEq,Int.reduceLT,Int.reduceLE,Int.reduceNeg,mb,Nat.reduceBEq,tys,stb,Vq,tys2,t1,t3,t4,c1,jfx w ws h hs2,h2,h3,e2,h4]
    simp only [jau,jak,jat,← h3,← h4,he]
   ·have he:colE ⟨nm,lo,hi,w,ws⟩=2:=by simp only [colE]; rw [Kg h0,Kg (by omega),Kg hno,Kg h2,Kh (.inr h4)]
    simp -implicitDefEqProofs only [Ka,Nat.reduceLT,Nat.reduceEqDiff,Ke,Kc,reduceIte,Ys,Y0,Int.reduceEq,Int.reduceLT,Int.reduceLE,Int.reduceNeg,mb,Nat.reduceBEq,tys,stb,Vq,tys2,t1,t3,t4,c1,jfx w ws h hs2,h2,h3,e2,h4]
    simp only [jau,jak,jat,← h3,he]
  ·have he:colE ⟨nm,lo,hi,w,ws⟩=2:=by simp only [colE]; rw [Kg h0,Kg (by omega),Kg hno,Kg h2,Kh (.inl h3)]
   simp -implicitDefEqProofs only [Ka,Nat.reduceLT,Nat.reduceEqDiff,Ke,Kc,reduceIte,Ys,Y0,Int.reduceEq,Int.reduceLT,Int.reduceLE,Int.reduceNeg,mb,Nat.reduceBEq,tys,stb,Vq,tys2,t1,t3,t4,c1,jfx w ws h hs2,h2,h3]
   simp only [jau,jak,jat,he]
theorem jqg (L:List AObj)(o:AObj):(L++[o]).length=L.length+1:=by simp
open Classical in
noncomputable def colX (cs:List Col)(i:Nat):Int :=
 if ¬ jaZ (cs.getD i Col.none).name then 19
 else if ∃ k,k<i∧(cs.getD k Col.none).name=(cs.getD i Col.none).name then 8
 else colE (cs.getD i Col.none)
noncomputable def jb6 (cs:List Col):Nat→Nat→Int × Int
 | 0,_=>(0,-1)
 | m+1,i=>if colX cs i=0 then jb6 cs m (i+1) else (colX cs i,i)
open Classical in
noncomputable def jeQ (nm:List UInt8)(pb:Bool)(many:Int)(cs:List Col):Int × Int :=
 if ¬ jaZ nm then (19,-1)
 else if (pb=true∧many ≠ 0)∨(pb=false∧(many<1∨50<many)) then (2,-1)
 else if cs.length=0 then (3,-1)
 else if 16<cs.length then (4,-1)
 else jb6 cs cs.length 0
abbrev Q24 (r:Int × Int):Post:=⟨wpR env [.tmp 2,.tmp 3] fun v' σ'=>ja2 σ'.heap jak v'=some (.tup [.int .i64 r.1,.int .i64 r.2]),fun _ _ _ _=>False,wpR env [.tmp 2,.tmp 3] fun v' σ'=>ja2 σ'.heap jak v'=some (.tup [.int .i64 r.1,.int .i64 r.2])⟩
open Classical in
theorem jgQ (nm:List UInt8)(pb:Bool)(many:Int)(cv:V)(cs:List Col)(hc:IsC cv cs)(ok:OkC cs)(hl:cs.length≤1000)(hs:∀ i,i<cs.length→jfW (cs.getD i Col.none))(r:Int × Int)(hr:r=jb6 cs cs.length 0)(c2:Code)
  (h2:∀ T σ,r=(0,-1)→G env 224 none 84 (Q24 r) [] c2 T [] σ) (T:Tm) (t1:T 1=.ptr 0 0) (t4:T 4=.int .i64 0) :
  jia env 224 none 84 (jkT 1 (jaK Tryz.f224)) T [] ⟨[.cells [.str nm,.bool pb,.int .i64 many,cv] 38],[]⟩ (Kt.post env 224 none 84 (Q24 r) [.blk 1,.code c2]):=by
 simp only [jaK,Tryz.f224,Kv,jkT,blkC,Option.or,Nat.reduceEqDiff,Kc,Ke,reduceIte]
 refine jaI (fun m T D σ=>D=[]∧T 1=.ptr 0 0∧∃ (L:List AObj) (ts:List Nat) (i:Nat),σ=⟨L,ts⟩∧L[0]? = some (.cells [.str nm,.bool pb,.int .i64 many,cv] 38)∧T 4=.int .i64 i∧i≤cs.length∧m=cs.length - i∧r=jb6 cs (cs.length - i) i) ?_ _ _ _ _
  ⟨rfl,t1,_,_,0,rfl,rfl,t4,by omega,rfl,by simpa using hr⟩
 clear t1 t4 T
 rintro m T D σ ⟨rfl,t1,L,ts,i,rfl,l0,t4,hi,rfl,hri⟩
 refine jaj ?_
 have hn0:0<L.length:=by
  rcases K1 0 L.length with h | h
  ·exact h
  ·rw [K8 h] at l0; simp at l0
 by_cases hlt:i<cs.length
 ·have c1:(i:Int)<(cs.length:Int):=by omega
  have e1:IntKind.i64.wrap ((i:Int)+1)=((i+1:Nat):Int):=by rw [wrap_i64 (by omega) (by omega)]; omega
  have hwc:=ok.at hlt
  have hsc:=hs i hlt
  have hx:=jgP hc hlt
  have hic:=jbC hwc
  have hE0:∀ o,(L++[o])[0]? = some (.cells [.str nm,.bool pb,.int .i64 many,cv] 38):=fun o=>by rw [Kn hn0]; exact l0
  obtain ⟨q,hq⟩:∃ q,cs.length - i=q+1:=⟨cs.length - i - 1,by omega⟩
  have hq2:q=cs.length - (i+1):=by omega
  have hstep:jb6 cs (cs.length - i) i=if colX cs i=0 then jb6 cs q (i+1) else (colX cs i,(i:Int)):=by rw [hq]; rfl
  rw [hstep] at hri
  by_cases hnm:jaZ (cs.getD i Col.none).name
  case neg =>
   have hX:colX cs i=19:=by simp only [colX]; rw [Kh hnm]
   rw [hX,Kg (by omega)] at hri
   subst hri
   simp -implicitDefEqProofs only [Ka,Nat.reduceLT,Nat.reduceEqDiff,Ke,Kc,reduceIte,Ys,Y0,Int.reduceEq,Int.reduceLT,Int.reduceLE,Int.reduceNeg,mb,Nat.reduceBEq,tys,stb,Vq,tys2,t1,t4,c1,l0,hE0,jhd hc,hx,jeU,jaN,z44,jaf,jap,jaa,Q1,Qq,K2,Jl,K3,Qn,jae,jad,hic,YW,Nat.reduceAdd,Nat.reduceLeDiff,jee _ hsc.1,hnm]
   simp only [jau,jak,jbP,jaz,jaW,jat,Ko,Qh]
  simp -implicitDefEqProofs only [Ka,Nat.reduceLT,Nat.reduceEqDiff,Ke,Kc,reduceIte,Ys,Y0,Int.reduceEq,Int.reduceLT,Int.reduceLE,Int.reduceNeg,mb,Nat.reduceBEq,tys,stb,Vq,tys2,t1,t4,c1,l0,hE0,jhd hc,hx,jeU,jaN,z44,jaf,jap,jaa,Q1,Qq,K2,Jl,K3,Qn,jae,jad,hic,YW,Nat.reduceAdd,Nat.reduceLeDiff,jee _ hsc.1,hnm]
  refine jaI (fun m T D σ=>D=[]∧σ=⟨L++[.cells [.str (cs.getD i Col.none).name,.int .i64 (cs.getD i Col.none).lo,.int .i64 (cs.getD i Col.none).hi,(cs.getD i Col.none).w] 41],ts⟩∧T 1=.ptr 0 0∧T 4=.int .i64 i∧T 5=.ptr L.length 0 ∧
   ∃ k:Nat,T 6=.int .i64 k∧k≤i∧m=i - k∧∀ j,j<k→(cs.getD j Col.none).name ≠ (cs.getD i Col.none).name) ?_ _ _ _ _ ⟨rfl,rfl,t1,t4,rfl,0,rfl,by omega,rfl,fun j h1=>by omega⟩
  rintro m T D σ ⟨rfl,rfl,t1,t4,t5,k,t6,hk,rfl,hno⟩
  refine jaj ?_
  by_cases hlt2:k<i
  ·have c3:(k:Int)<(i:Int):=by omega
   have e2:IntKind.i64.wrap ((k:Int)+1)=((k+1:Nat):Int):=by rw [wrap_i64 (by omega) (by omega)]; omega
   have hy:=jgP hc (show k<cs.length by omega)
   by_cases he:(cs.getD k Col.none).name=(cs.getD i Col.none).name
   ·have hX:colX cs i=8:=by simp only [colX]; rw [Kg (not_not_intro hnm),Kh ⟨k,hlt2,he⟩]
    rw [hX,Kg (by omega)] at hri
    subst hri
    simp -implicitDefEqProofs only [Ka,Nat.reduceLT,Nat.reduceEqDiff,Ke,Kc,reduceIte,Ys,Y0,Int.reduceEq,Int.reduceLT,Int.reduceLE,Int.reduceNeg,mb,Nat.reduceBEq,tys,stb,Vq,tys2,t1,t4,t5,t6,c3,hE0,hy,jaw,jaf,jas,he]
    refine ⟨by kernel_rfl,?_⟩
    simp only [jau,jak,jbP,jaz,jaW,jat,Ko,Qh]
   ·simp -implicitDefEqProofs only [Ka,Nat.reduceLT,Nat.reduceEqDiff,Ke,Kc,reduceIte,Ys,Y0,Int.reduceEq,Int.reduceLT,Int.reduceLE,Int.reduceNeg,mb,Nat.reduceBEq,tys,stb,Vq,tys2,t1,t4,t5,t6,c3,e2,hE0,hy,jaw,jaf,jas,he]
    exact ⟨by kernel_rfl,i - (k+1),by omega,k+1,rfl,by omega,rfl,fun j hj=>by
     rcases K1 j k with h2 | h2
     ·exact hno j h2
     ·have:j=k:=by omega
      subst this; exact he⟩
  ·have hk2:k=i:=by omega
   subst hk2
   have c3:¬ (k:Int)<(k:Int):=by omega
   have hX:colX cs k=colE (cs.getD k Col.none):=by simp only [colX]; rw [Kg (not_not_intro hnm),Kg (by rintro ⟨j,h1,h2⟩; exact hno j h1 h2)]
   by_cases hz:colE (cs.getD k Col.none)=0
   ·rw [hX,Kh hz,hq2] at hri
    simp -implicitDefEqProofs only [Ka,Nat.reduceLT,Nat.reduceEqDiff,Ke,Kc,reduceIte,Ys,Y0,Int.reduceEq,Int.reduceLT,Int.reduceLE,Int.reduceNeg,mb,Nat.reduceBEq,tys,stb,Vq,tys2,t1,t4,t5,t6,c3,e1,jeU,jdt,jii _ hwc hsc,hz]
    exact ⟨cs.length - (k+1),by omega,_,_,k+1,rfl,hE0 _,rfl,by omega,rfl,hri⟩
   ·rw [hX,Kg hz] at hri
    subst hri
    simp -implicitDefEqProofs only [Ka,Nat.reduceLT,Nat.reduceEqDiff,Ke,Kc,reduceIte,Ys,Y0,Int.reduceEq,Int.reduceLT,Int.reduceLE,Int.reduceNeg,mb,Nat.reduceBEq,tys,stb,Vq,tys2,t1,t4,t5,t6,c3,jeU,jdt,jii _ hwc hsc,hz]
    simp only [jau,jak,jbP,jaz,jaW,jat,Ko,Qh]
 ·have hi2:i=cs.length:=by omega
  subst hi2
  have c1:¬ (cs.length:Int)<(cs.length:Int):=by omega
  have h0:r=(0,-1):=by rw [hri,J5]; rfl
  simp -implicitDefEqProofs only [Ka,Nat.reduceLT,Nat.reduceEqDiff,Ke,Kc,reduceIte,Ys,Y0,Int.reduceEq,Int.reduceLT,Int.reduceLE,Int.reduceNeg,mb,Nat.reduceBEq,tys,stb,Vq,tys2,t1,t4,c1,l0,jhd hc]
  exact h2 _ _ h0
end Go.Proofs.YtajaampgajieeaaGreatDoor
