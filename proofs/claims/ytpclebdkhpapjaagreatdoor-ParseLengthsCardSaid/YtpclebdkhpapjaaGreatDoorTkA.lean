/- Proved here: numbers and words of the scanner. Conditions: those of each theorem; no statement of the seat is proved in this text. -/
import Derived.Test.YtpclebdkhpapjaaGreatDoorPpA
import Derived.Test.YtpclebdkhpapjaaGreatDoorRows
set_option linter.unusedSimpArgs false
set_option linter.unusedVariables false
set_option linter.unusedSectionVars false
namespace Go.Proofs.YtpclebdkhpapjaaGreatDoor
open Go.Ab
set_option maxHeartbeats 8000000
set_option maxRecDepth 1000000
def asciiV (s:String):V:=.str (s.toList.map fun c=>UInt8.ofNat c.toNat)
def jmP:List V:=["above","and","batch","between","bits","by","consistent","count","else","factor","from","histogram","identity","if","join","keep","late","limit","mode","none","not","of","on","or","peak","prefix","quantile","running","sum","then","total","tree","using","where","with"].map asciiV
def jiM:List V:=[1,10,100,1000,10000,100000,1000000,10000000,100000000,1000000000,10000000000,100000000000,1000000000000,10000000000000,100000000000000,1000000000000000,10000000000000000,100000000000000000,1000000000000000000,10000000000000000000].map fun n=>V.int .u64 n
def glV (g:Nat):Option V :=
 match g with
 | 0=>some (.rptr jmP)
 | 1=>some (.rptr jiM)
 | 2=>some (.rptr [.any])
 | 3=>some (.rptr [.any])
 | _=>none
def memN (f:Nat):List Nat→Bool
 | []=>false
 | g::r=>match Nat.beq f g with
  | true=>true
  | false=>memN f r
theorem jn2 {g:Nat}{v:V}(h:glV g=some v):(g=0∧v=.rptr jmP)∨(g=1∧v=.rptr jiM)∨(g=2∧v=.rptr [.any])∨(g=3∧v=.rptr [.any]):=by
 unfold glV at h
 split at h
 ·simp at h; exact .inl ⟨rfl,h.symm⟩
 ·simp at h; exact .inr (.inl ⟨rfl,h.symm⟩)
 ·simp at h; exact .inr (.inr (.inl ⟨rfl,h.symm⟩))
 ·simp at h; exact .inr (.inr (.inr ⟨rfl,h.symm⟩))
 ·simp at h
theorem jn3 (g:Nat)(v:V)(h:glV g=some v):v.closed=true:=by
 rcases jn2 h with ⟨_,rfl⟩ | ⟨_,rfl⟩ | ⟨_,rfl⟩ | ⟨_,rfl⟩ <;> kernel_rfl
theorem gl_ok {E:Env}(hE:E.gl=glV)(hP:E.P=Tryz.prog){W:World}{l:List (String × DataW Unit)}(h:laidMetH Tryz.prog l W)(hp:(l.all fun x=>x.2.handleName?.isNone)=true)(m0:("privhouse/schema.reserved",Rows.laid_privhouse_schema_reserved)∈l)
  (m3:("internal/strconv.uint64pow10",Rows.laid_internal_strconv_uint64pow10)∈l) (m1:("strconv.ErrSyntax",Rows.laid_strconv_ErrSyntax)∈l) (m2:("strconv.ErrRange",Rows.laid_strconv_ErrRange)∈l):GOK E (Ctx.top W):=by
 obtain ⟨P,p,m,gl⟩:=E
 simp only at hE hP
 subst hE hP
 intro g v hv
 rcases jn2 hv with ⟨rfl,rfl⟩ | ⟨rfl,rfl⟩ | ⟨rfl,rfl⟩ | ⟨rfl,rfl⟩
 ·exact jfB (k:=5) h hp m0 (g:=0) (t:=171) (by kernel_rfl) (by kernel_rfl) (by kernel_rfl)
 ·exact jfB (k:=5) h hp m3 (g:=1) (t:=197) (by kernel_rfl) (by kernel_rfl) (by kernel_rfl)
 ·exact jfB (k:=5) h hp m1 (g:=2) (t:=93) (by kernel_rfl) (by kernel_rfl) (by kernel_rfl)
 ·exact jfB (k:=5) h hp m2 (g:=3) (t:=93) (by kernel_rfl) (by kernel_rfl) (by kernel_rfl)
end Go.Proofs.YtpclebdkhpapjaaGreatDoor
namespace Go.Proofs.YtpclebdkhpapjaaGreatDoor.T
open Go.Ab
set_option maxHeartbeats 8000000
set_option maxRecDepth 100000
def jmQ:List Nat:=[122,21,159,146,44,87,126,19,121,155,124,109,158,185,186,215,145,29,68,103,104,105,106,107,108,110,123,157,184,176,214,175,224,42,14,8]
def jus (f:FuncId):Option (List V→Option V):=match Nat.beq f 127 with | true=>some jnt | false=>none
noncomputable def env:Env:={ P:=Tryz.prog,pure:=fun f=>memN f jmQ,mutb:=fun f _=>f == 45 || f == 46 || f == 224,gl:=glV,hook:=jus,stab:=fun f r=>(f == 19 && r == 9) || (f == 68 && r == 28) }
theorem env_ok:env.Ok :=
  { mixed:=by kernel_rfl
    glc:=jn3
    hook:=fun f g h=>by
      simp only [env,jus] at h
      split at h
      · rename_i hf
        have e:=Jd hf
        subst e
        simp only [Kf] at h
        subst h
        exact jlf (E:=env) (fn:=Tryz.f127) Tryz.func127 (by kernel_rfl) (by kernel_rfl) (by kernel_rfl) rfl
      · simp at h }
end Go.Proofs.YtpclebdkhpapjaaGreatDoor.T
namespace Go.Proofs.YtpclebdkhpapjaaGreatDoor.T.N
open Go.Ab
set_option maxHeartbeats 8000000
set_option maxRecDepth 100000
theorem u3:env.P.underlying 3=some (.int .i64):=by kernel_rfl
theorem u4:env.P.underlying 4=some .bool:=by kernel_rfl
theorem u5:env.P.underlying 5=some (.int .u8):=by kernel_rfl
theorem u9:env.P.underlying 9=some .string:=by kernel_rfl
theorem u24:env.P.underlying 107=some (.slice 9):=by kernel_rfl
theorem u72:env.P.underlying 171=some (.array 35 9):=by kernel_rfl
theorem u115:env.P.underlying 194=some (.int .u64):=by kernel_rfl
theorem s9:sz env 9=some 1:=by kernel_rfl
theorem s24:sz env 107=some 1:=by kernel_rfl
theorem s3:sz env 3=some 1:=by kernel_rfl
theorem g9:aggT env 9=some false:=by kernel_rfl
theorem g24:aggT env 107=some false:=by kernel_rfl
theorem g3:aggT env 3=some false:=by kernel_rfl
theorem tys:env.P.underlying 3=some (.int .i64)∧env.P.underlying 4=some .bool∧env.P.underlying 5=some (.int .u8)∧env.P.underlying 9=some .string∧env.P.underlying 107=some (.slice 9)∧env.P.underlying 194=some (.int .u64)∧sz env 9=some 1∧sz env 107=some 1∧sz env 3=some 1 ∧
  (∀ h p,jbC env h 9 p=(jas h 1 p).bind (·[0]?))∧(∀ h p,jbC env h 107 p=(jas h 1 p).bind (·[0]?))∧(∀ h p,jbC env h 3 p=(jas h 1 p).bind (·[0]?)) :=
 ⟨u3,u4,u5,u9,u24,u115,s9,s24,s3,fun _ _=>jbd g9,fun _ _=>jbd g24,fun _ _=>jbd g3⟩
theorem mb (f:FuncId)(r:Nat)(h:(f == 45 || f == 46 || f == 224)=false):env.mutb f r=false:=h
theorem stb (f:FuncId)(r:Nat)(h:(f == 19 && r == 9 || f == 68 && r == 28)=false):env.stab f r=false:=h
theorem jvK:env.P.funcs[215]? = some Tryz.f215:=by kernel_rfl
theorem jvL:env.P.funcs[186]? = some Tryz.f186:=by kernel_rfl
theorem jvM:env.P.funcs[185]? = some Tryz.f185:=by kernel_rfl
theorem jvN:env.P.funcs[158]? = some Tryz.f158:=by kernel_rfl
theorem jvO:env.P.funcs[124]? = some Tryz.f124:=by kernel_rfl
theorem jrA (s:List UInt8)(σ:S):jaC env (ev env) 215 [.str s] σ=some (.bool false,σ):=by
 refine jaF rfl rfl rfl jvK rfl (by simp [Tryz.f215]) (by simp [Tryz.f215]) (jaE ?_) σ
 simp -implicitDefEqProofs only [Tryz.f215,Kb,jaj,Nat.reduceLT,Nat.reduceEqDiff,Kh,Kg,reduceIte,Ys,jak,jaf,argT,resT,setT,Y0,Int.reduceEq,Int.reduceLT,Int.reduceLE,Int.reduceNeg,mb,Nat.reduceBEq,tys,stb,jad]
 simp [ja4,jaB,jbl]
theorem jiN (s:List UInt8)(σ:S):jaC env (ev env) 186 [.str s] σ=some (.bool false,σ):=by
 refine jaF rfl rfl rfl jvL rfl (by simp [Tryz.f186]) (by simp [Tryz.f186]) (jaE ?_) σ
 simp -implicitDefEqProofs only [Tryz.f186,Kb,jaj,Nat.reduceLT,Nat.reduceEqDiff,Kh,Kg,reduceIte,Ys,jak,jaf,argT,resT,setT,Y0,Int.reduceEq,Int.reduceLT,Int.reduceLE,Int.reduceNeg,mb,Nat.reduceBEq,tys,stb,jad]
 simp [ja4,jaB,jbl]
theorem jlz (a b:List UInt8)(σ:S):jaC env (ev env) 185 [.str a,.str b] σ=some (.bool (Op.bytesLess a b),σ):=by
 refine jaF rfl rfl rfl jvM rfl (by simp [Tryz.f185]) (by simp [Tryz.f185]) (jaE ?_) σ
 cases h:Op.bytesLess a b <;>
 ·simp -implicitDefEqProofs only [Tryz.f185,Kb,jaj,Nat.reduceLT,Nat.reduceEqDiff,Kh,Kg,reduceIte,Ys,jak,jaf,argT,resT,setT,Y0,Int.reduceEq,Int.reduceLT,Int.reduceLE,Int.reduceNeg,mb,Nat.reduceBEq,tys,stb,jlj,jrA,h]
  simp [ja4,jaB,jbl]
theorem jhl:∀ {a b c:List UInt8},Op.bytesLess a b=true→Op.bytesLess b c=true→Op.bytesLess a c=true
 | _,[],_,h,_=>by simp [Op.bytesLess] at h
 | _,_::_,[],_,h=>by simp [Op.bytesLess] at h
 | [],y::b,z::c,_,_=>rfl
 | x::a,y::b,z::c,h,k=>by
  simp only [Op.bytesLess,Qs,K2,Ql,beq_iff_eq] at h k ⊢
  rcases h with h | ⟨rfl,h⟩
  ·rcases k with k | ⟨rfl,k⟩
   ·exact .inl (UInt8.lt_trans h k)
   ·exact .inl h
  ·rcases k with k | ⟨rfl,k⟩
   ·exact .inl k
   ·exact .inr ⟨rfl,jhl h k⟩
def jqs (ws:List (List UInt8)):Prop:=∀ i j,i<j→j<ws.length→Op.bytesLess (ws.getD i []) (ws.getD j [])=true
theorem jrB {ws:List (List UInt8)}{s:List UInt8}{lo:Nat}(hl:lo≤ws.length)(h1:∀ i,i<lo→Op.bytesLess (ws.getD i []) s=true)(h2:∀ i,lo≤i→i<ws.length→Op.bytesLess (ws.getD i []) s=false) :
  ws.countP (fun w=>Op.bytesLess w s)=lo:=by
 have e:ws=ws.take lo++ws.drop lo:=(Xn lo ws).symm
 rw [e,List.countP_append]
 have a1:(ws.take lo).countP (fun w=>Op.bytesLess w s)=(ws.take lo).length:=by
  rw [List.countP_eq_length]
  intro w hw
  obtain ⟨i,hi,rfl⟩:=Jk.1 hw
  have:=h1 i (by simp at hi; omega)
  have hi2:i<ws.length:=by simp at hi; omega
  simpa [List.getD,hi2] using this
 have a2:(ws.drop lo).countP (fun w=>Op.bytesLess w s)=0:=by
  rw [List.countP_eq_zero]
  intro w hw
  obtain ⟨i,hi,rfl⟩:=Jk.1 hw
  have hi2:lo+i<ws.length:=by simp at hi; omega
  have:=h2 (lo+i) (by omega) hi2
  simpa [List.getD,hi2] using this
 rw [a1,a2]
 simp; omega
theorem jut {ws:List (List UInt8)}{s:List UInt8}{lo:Nat}(hr:jqs ws)(h1:∀ i,i<lo→Op.bytesLess (ws.getD i []) s=true)(h2:∀ i,lo≤i→i<ws.length→Op.bytesLess (ws.getD i []) s=false) :
  (s∈ws)↔(lo<ws.length∧ws.getD lo []=s):=by
 constructor
 ·intro hm
  obtain ⟨k,hk,rfl⟩:=Jk.1 hm
  have ek:ws.getD k []=ws[k]:=by simp [List.getD,hk]
  have hlo:lo≤k:=by
   rcases K7 k lo with h | h
   ·have:=h1 k h; rw [ek,jll] at this; simp at this
   ·exact h
  rcases K7 lo k with h | h
  ·have:=hr lo k h hk
   rw [ek,h2 lo (Kx _) (by omega)] at this; simp at this
  ·have:lo=k:=by omega
   subst this
   exact ⟨hk,ek⟩
 ·rintro ⟨h,rfl⟩
  simp [List.getD,h]
theorem jmR (ws:List (List UInt8))(hw:ws.length<2 ^ 40)(hr:jqs ws)(s:List UInt8)(σ:S) :
  jaC env (ev env) 158 [.row (ws.map V.str) ws.length .full,.str s] σ=some (.tup [.int .i64 (ws.countP (fun w=>Op.bytesLess w s):Nat),.bool (decide (s∈ws))],σ):=by
 refine jaF rfl rfl (by simp [V.closed,jf8]) jvN rfl (by simp [Tryz.f158]) (by simp [Tryz.f158]) (jaE ?_) σ
 simp -implicitDefEqProofs only [Tryz.f158,Kb,jaj,Nat.reduceLT,Nat.reduceEqDiff,Kh,Kg,reduceIte,Ys,jak,jaf,argT,resT,setT,Y0,Int.reduceEq,Int.reduceLT,Int.reduceLE,Int.reduceNeg,mb,Nat.reduceBEq,tys,stb,jlj,jac]
 refine jcf (fun m T D σ=>D=[]∧σ=S.empty∧T 0=.row (ws.map V.str) ws.length .full∧T 1=.str s∧T 6=.int .i64 ws.length∧∃ lo hi:Nat,T 7=.int .i64 lo∧T 8=.int .i64 hi∧lo≤hi∧hi≤ws.length∧m=hi - lo ∧
  (∀ i,i<lo→Op.bytesLess (ws.getD i []) s=true)∧(∀ i,hi≤i→i<ws.length→Op.bytesLess (ws.getD i []) s=false)) ?_ _ _ _ _ ⟨rfl,rfl,rfl,rfl,rfl,0,ws.length,rfl,rfl,by omega,by omega,rfl,fun i h=>by omega,fun i h1 h2=>by omega⟩
 rintro m T D σ ⟨rfl,rfl,t0,t1,t6,lo,hi,t7,t8,h1,h2,rfl,i1,i2⟩
 refine jaE ?_
 by_cases hlt:lo<hi
 ·have c1:(lo:Int)<(hi:Int):=by omega
  have e1:IntKind.i64.wrap ((lo:Int)+(hi:Int))=((lo+hi:Nat):Int):=by rw [wrap_i64 (by omega) (by omega)]; omega
  have e2:IntKind.u64.wrap (((lo+hi:Nat):Int))=((lo+hi:Nat):Int):=by rw [IntKind.wrap_u64]; omega
  have e3:((lo+hi:Nat):Int).fdiv (2 ^ min (Int.toNat 1) IntKind.u64.bits)=(((lo+hi) / 2:Nat):Int):=by
   rw [show min (Int.toNat 1) IntKind.u64.bits=1 from by decide]
   rw [Vh _ (by omega)]; omega
  have e4:IntKind.i64.wrap ((((lo+hi) / 2:Nat):Int))=(((lo+hi) / 2:Nat):Int):=by rw [wrap_i64 (by omega) (by omega)]
  have c2:(lo+hi) / 2<ws.length:=by omega
  have e5:IntKind.i64.wrap ((((lo+hi) / 2:Nat):Int)+1)=(((lo+hi) / 2+1:Nat):Int):=by rw [wrap_i64 (by omega) (by omega)]; omega
  have e6:¬ ((1:Int)<0):=by omega
  cases hb:Op.bytesLess (ws.getD ((lo+hi) / 2) []) s with
  | true =>
   simp -implicitDefEqProofs only [Kb,jaj,Nat.reduceLT,Nat.reduceEqDiff,Kh,Kg,reduceIte,Ys,jak,jaf,argT,resT,setT,Y0,Int.reduceEq,Int.reduceLT,Int.reduceLE,Int.reduceNeg,mb,Nat.reduceBEq,tys,stb,t0,t1,t6,t7,t8,c1,e1,e2,e3,e4,e5,e6,jdN,c2,jlz,hb,jdd]
   refine ⟨⟨by omega,by omega⟩,hi - ((lo+hi) / 2+1),by omega,(lo+hi) / 2+1,hi,rfl,rfl,by omega,by omega,rfl,fun i hi' => ?_,i2⟩
   rcases K7 i ((lo+hi) / 2) with h | h
   ·exact jhl (hr i _ h c2) hb
   ·have:i=(lo+hi) / 2:=by omega
    subst this; exact hb
  | false =>
   simp -implicitDefEqProofs only [Kb,jaj,Nat.reduceLT,Nat.reduceEqDiff,Kh,Kg,reduceIte,Ys,jak,jaf,argT,resT,setT,Y0,Int.reduceEq,Int.reduceLT,Int.reduceLE,Int.reduceNeg,mb,Nat.reduceBEq,tys,stb,t0,t1,t6,t7,t8,c1,e1,e2,e3,e4,e5,e6,jdN,c2,jlz,hb,jdd]
   refine ⟨⟨by omega,by omega⟩,(lo+hi) / 2 - lo,by omega,lo,(lo+hi) / 2,rfl,rfl,by omega,by omega,rfl,i1,fun i h3 h4 => ?_⟩
   rcases K7 ((lo+hi) / 2) i with h | h
   ·cases hc:Op.bytesLess (ws.getD i []) s with
    | false=>rfl
    | true =>
     have:=jhl (hr _ i h h4) hc
     rw [hb] at this; simp at this
   ·have:i=(lo+hi) / 2:=by omega
    subst this; exact hb
 ·have he:hi=lo:=by omega
  obtain rfl:lo=hi:=he.symm
  have c1:¬ (lo:Int)<(lo:Int):=by omega
  have hcnt:=jrB h2 i1 i2
  have hmem:=jut hr i1 i2
  by_cases c3:lo<ws.length
  ·have c4:(lo:Int)<(ws.length:Int):=by omega
   have c6:(0:Int)≤(lo:Int)∧(lo:Int)<(ws.length:Int):=by omega
   by_cases c5:ws.getD lo []=s
   ·have hm:s∈ws:=hmem.2 ⟨c3,c5⟩
    simp -implicitDefEqProofs only [Kb,jaj,Nat.reduceLT,Nat.reduceEqDiff,Kh,Kg,reduceIte,Ys,jak,jaf,argT,resT,setT,Y0,Int.reduceEq,Int.reduceLT,Int.reduceLE,Int.reduceNeg,mb,Nat.reduceBEq,tys,stb,t0,t1,t6,t7,t8,c1,c4,c6,jdN,c3,c5,jac,jiN]
    simp [ja4,jaB,jbf,jaD,jaR,ja1,jbl,hcnt,hm]
   ·have hm:¬ s∈ws:=fun h=>c5 (hmem.1 h).2
    simp -implicitDefEqProofs only [Kb,jaj,Nat.reduceLT,Nat.reduceEqDiff,Kh,Kg,reduceIte,Ys,jak,jaf,argT,resT,setT,Y0,Int.reduceEq,Int.reduceLT,Int.reduceLE,Int.reduceNeg,mb,Nat.reduceBEq,tys,stb,t0,t1,t6,t7,t8,c1,c4,c6,jdN,c3,c5,jac,jiN]
    simp [ja4,jaB,jbf,jaD,jaR,ja1,jbl,hcnt,hm]
  ·have c4:¬ (lo:Int)<(ws.length:Int):=by omega
   have hm:¬ s∈ws:=fun h=>c3 (hmem.1 h).1
   simp -implicitDefEqProofs only [Kb,jaj,Nat.reduceLT,Nat.reduceEqDiff,Kh,Kg,reduceIte,Ys,jak,jaf,argT,resT,setT,Y0,Int.reduceEq,Int.reduceLT,Int.reduceLE,Int.reduceNeg,mb,Nat.reduceBEq,tys,stb,t0,t1,t6,t7,t8,c1,c4,jdN,c3,jac,jiN]
   simp [ja4,jaB,jbf,jaD,jaR,ja1,jbl,hcnt,hm]
def okC (c:UInt8):Prop:=(97≤c.toNat∧c.toNat≤122)∨(48≤c.toNat∧c.toNat≤57)∨c.toNat=95
instance (c:UInt8):Decidable (okC c):=by unfold okC; infer_instance
def wordsW:List (List UInt8):=["above","and","batch","between","bits","by","consistent","count","else","factor","from","histogram","identity","if","join","keep","late","limit","mode","none","not","of","on","or","peak","prefix","quantile","running","sum","then","total","tree","using","where","with"].map fun s=>s.toList.map fun c=>UInt8.ofNat c.toNat
theorem resV_words:jmP=wordsW.map V.str:=by kernel_rfl
theorem words_len:wordsW.length=35:=by kernel_rfl
def jqt (ws:List (List UInt8)):Bool:=(List.range ws.length).all fun j=>(List.range j).all fun i=>Op.bytesLess (ws.getD i []) (ws.getD j [])
theorem jlA:jqs wordsW:=by
 have h:jqt wordsW=true:=by kernel_rfl
 intro i j hij hj
 unfold jqt at h
 rw [Ky] at h
 have h1:=h j (by simpa using hj)
 rw [Ky] at h1
 exact h1 i (by simpa using hij)
def IsName (s:List UInt8):Prop:=1≤s.length∧s.length≤20∧97≤(s.getD 0 0).toNat∧(s.getD 0 0).toNat≤122∧(∀ i,i<s.length→okC (s.getD i 0))∧s ∉ wordsW
instance (s:List UInt8):Decidable (IsName s):=by unfold IsName; infer_instance
theorem jtm:jdD env 171 (.rptr jmP) none none none=some (.row (wordsW.map V.str) wordsW.length .full):=by
 rw [resV_words,words_len]
 exact jpP u72 s9 (by rw [Jo,words_len])
theorem name_call (s:List UInt8)(hs:s.length<2 ^ 63)(σ:S):jaC env (ev env) 124 [.str s] σ=some (.bool (decide (IsName s)),σ):=by
 refine jaF rfl rfl rfl jvO rfl (by simp [Tryz.f124]) (by simp [Tryz.f124]) (jaE ?_) σ
 by_cases h1:(s.length:Int)<1
 ·have hn:¬ IsName s:=fun h=>by have:=h.1; omega
  simp -implicitDefEqProofs only [Tryz.f124,Kb,jaj,Nat.reduceLT,Nat.reduceEqDiff,Kh,Kg,reduceIte,Ys,jak,jaf,argT,resT,setT,Y0,Int.reduceEq,Int.reduceLT,Int.reduceLE,Int.reduceNeg,mb,Nat.reduceBEq,tys,stb,h1,ja6,jaJ,jaI u9]
  simp [ja4,jaB,jbl,hn]
 by_cases h2:(20:Int)<(s.length:Int)
 ·have hn:¬ IsName s:=fun h=>by have:=h.2.1; omega
  simp -implicitDefEqProofs only [Tryz.f124,Kb,jaj,Nat.reduceLT,Nat.reduceEqDiff,Kh,Kg,reduceIte,Ys,jak,jaf,argT,resT,setT,Y0,Int.reduceEq,Int.reduceLT,Int.reduceLE,Int.reduceNeg,mb,Nat.reduceBEq,tys,stb,h1,h2,ja6,jaJ,jaI u9]
  simp [ja4,jaB,jbl,hn]
 have hb:(0:Int)≤0∧(0:Int)<(s.length:Int):=by omega
 have e0:Int.toNat 0=0:=rfl
 by_cases h3:(((s.getD 0 0).toNat:Nat):Int)<97
 ·have hn:¬ IsName s:=fun h=>by have:=h.2.2.1; omega
  simp -implicitDefEqProofs only [Tryz.f124,Kb,jaj,Nat.reduceLT,Nat.reduceEqDiff,Kh,Kg,reduceIte,Ys,jak,jaf,argT,resT,setT,Y0,Int.reduceEq,Int.reduceLT,Int.reduceLE,Int.reduceNeg,mb,Nat.reduceBEq,tys,stb,h1,h2,h3,ja6,jaJ,jaI u9,hb]
  simp [ja4,jaB,jbl,hn]
 by_cases h4:(122:Int)<(((s.getD 0 0).toNat:Nat):Int)
 ·have hn:¬ IsName s:=fun h=>by have:=h.2.2.2.1; omega
  simp -implicitDefEqProofs only [Tryz.f124,Kb,jaj,Nat.reduceLT,Nat.reduceEqDiff,Kh,Kg,reduceIte,Ys,jak,jaf,argT,resT,setT,Y0,Int.reduceEq,Int.reduceLT,Int.reduceLE,Int.reduceNeg,mb,Nat.reduceBEq,tys,stb,h1,h2,h3,h4,ja6,jaJ,jaI u9,hb]
  simp [ja4,jaB,jbl,hn]
 simp -implicitDefEqProofs only [Tryz.f124,Kb,jaj,Nat.reduceLT,Nat.reduceEqDiff,Kh,Kg,reduceIte,Ys,jak,jaf,argT,resT,setT,Y0,Int.reduceEq,Int.reduceLT,Int.reduceLE,Int.reduceNeg,mb,Nat.reduceBEq,tys,stb,h1,h2,h3,h4,ja6,jaJ,jaI u9,hb]
 refine jcf (fun m T D σ=>D=[]∧σ=S.empty∧T 0=.str s∧T 26=.int .i64 s.length∧∃ i:Nat,T 27=.int .i64 i∧i≤s.length∧m=s.length - i∧∀ j,j<i→okC (s.getD j 0)) ?_ _ _ _ _ ⟨rfl,rfl,rfl,rfl,0,rfl,by omega,rfl,fun j h=>by omega⟩
 rintro m T D σ ⟨rfl,rfl,t0,t26,i,t27,hi,rfl,hok⟩
 refine jaE ?_
 by_cases hlt:i<s.length
 ·have c1:(i:Int)<(s.length:Int):=by omega
  have c2:(0:Int)≤(i:Int)∧(i:Int)<(s.length:Int):=by omega
  have e1:IntKind.i64.wrap ((i:Int)+1)=((i+1:Nat):Int):=by rw [wrap_i64 (by omega) (by omega)]; omega
  have hstep:okC (s.getD i 0)→∀ j,j<i+1→okC (s.getD j 0):=fun h j hj=>by
   rcases K7 j i with h2 | h2
   ·exact hok j h2
   ·have:j=i:=by omega
    subst this; exact h
  have hbad:¬ okC (s.getD i 0)→¬ IsName s:=fun h hn=>h (hn.2.2.2.2.1 i hlt)
  have hun:okC (s.getD i 0)↔((97≤(s.getD i 0).toNat∧(s.getD i 0).toNat≤122)∨(48≤(s.getD i 0).toNat∧(s.getD i 0).toNat≤57)∨(s.getD i 0).toNat=95):=Iff.rfl
  simp -implicitDefEqProofs only [Kb,jaj,Nat.reduceLT,Nat.reduceEqDiff,Kh,Kg,reduceIte,Ys,jak,jaf,argT,resT,setT,Y0,Int.reduceEq,Int.reduceLT,Int.reduceLE,Int.reduceNeg,mb,Nat.reduceBEq,tys,stb,t0,t26,t27,c1,e1,ja6,jaJ,jaI u9,c2,K1]
  generalize (s.getD i 0)=c at *
  have inv:okC c→∃ m',m'<s.length - i∧∃ i_1:Nat,V.int IntKind.i64 ((i+1:Nat):Int)=V.int IntKind.i64 (i_1:Nat)∧i_1≤s.length∧m'=s.length - i_1∧∀ (j:Nat),j<i_1→okC (s.getD j 0) :=
   fun h=>⟨s.length - (i+1),by omega,i+1,rfl,by omega,rfl,hstep h⟩
  have bad:¬ okC c→jbu S.empty.heap jaB (ja4 [V.bool false])=some (V.bool (decide (IsName s))):=fun h=>by
   simp [ja4,jaB,jbl,hbad h]
  repeat' (first | apply Ke | intro _)
  all_goals first | exact inv (by unfold okC; omega) | exact bad (by unfold okC; omega)
 ·have hi2:i=s.length:=by omega
  have c1:¬ (i:Int)<(s.length:Int):=by omega
  subst hi2
  have key:(s∈wordsW)=¬ IsName s:=by
   apply propext
   constructor
   ·exact fun h hn=>hn.2.2.2.2.2 h
   ·intro h
    apply Vm
    intro hm
    exact h ⟨by omega,by omega,by omega,by omega,hok,hm⟩
  simp -implicitDefEqProofs only [Kb,jaj,Nat.reduceLT,Nat.reduceEqDiff,Kh,Kg,reduceIte,Ys,jak,jaf,argT,resT,setT,Y0,Int.reduceEq,Int.reduceLT,Int.reduceLE,Int.reduceNeg,mb,Nat.reduceBEq,tys,stb,t0,t26,t27,c1,ja6,jbz,jbA,jtm,jmR wordsW (by rw [words_len]; decide) jlA,show env.gl 0=some (.rptr jmP) from rfl]
  by_cases hn:IsName s
  ·have hm:¬ s∈wordsW:=hn.2.2.2.2.2
   simp [ja4,jaB,jbl,hn,hm]
  ·have hm:s∈wordsW:=by rw [key]; exact hn
   simp [ja4,jaB,jbl,hn,hm]
end Go.Proofs.YtpclebdkhpapjaaGreatDoor.T.N
namespace Go.Proofs.YtpclebdkhpapjaaGreatDoor.T
open Go.Ab
set_option maxHeartbeats 8000000
set_option maxRecDepth 100000
theorem u3:env.P.underlying 3=some (.int .i64):=by kernel_rfl
theorem u5:env.P.underlying 5=some (.int .u8):=by kernel_rfl
theorem u9:env.P.underlying 9=some .string:=by kernel_rfl
theorem u24:env.P.underlying 107=some (.slice 9):=by kernel_rfl
theorem u45:env.P.underlying 43=some (.slice 47):=by kernel_rfl
theorem u97:env.P.underlying 77=some (.slice 5):=by kernel_rfl
theorem tys:env.P.underlying 3=some (.int .i64)∧env.P.underlying 4=some .bool∧env.P.underlying 5=some (.int .u8)∧env.P.underlying 9=some .string∧env.P.underlying 107=some (.slice 9)∧env.P.underlying 43=some (.slice 47)∧env.P.underlying 77=some (.slice 5) ∧
  sz env 9=some 1∧sz env 107=some 1∧sz env 3=some 1∧sz env 5=some 1∧sz env 47=some 4∧sz env 77=some 1∧sz env 88=some 1∧sz env 90=some 2 ∧
  jby env 47 0=some 0∧jby env 47 1=some 1∧jby env 90 0=some 0∧jby env 90 1=some 1 ∧
  (∀ h p,jbC env h 9 p=(jas h 1 p).bind (·[0]?))∧(∀ h p,jbC env h 3 p=(jas h 1 p).bind (·[0]?))∧(∀ h p,jbC env h 77 p=(jas h 1 p).bind (·[0]?))∧(∀ h p,jbC env h 88 p=(jas h 1 p).bind (·[0]?)):=by
 have g9:aggT env 9=some false:=by kernel_rfl
 have g3:aggT env 3=some false:=by kernel_rfl
 have g97:aggT env 77=some false:=by kernel_rfl
 have g108:aggT env 88=some false:=by kernel_rfl
 exact ⟨u3,by kernel_rfl,u5,u9,u24,u45,u97,by kernel_rfl,by kernel_rfl,by kernel_rfl,by kernel_rfl,by kernel_rfl,by kernel_rfl,by kernel_rfl,by kernel_rfl,by kernel_rfl,by kernel_rfl,by kernel_rfl,by kernel_rfl,
  fun _ _=>jbd g9,fun _ _=>jbd g3,fun _ _=>jbd g97,fun _ _=>jbd g108⟩
theorem mb (f:FuncId)(r:Nat)(h:(f == 45 || f == 46 || f == 224)=false):env.mutb f r=false:=h
theorem stb (f:FuncId)(r:Nat)(h:(f == 19 && r == 9 || f == 68 && r == 28)=false):env.stab f r=false:=h
theorem jqu (b o:Nat):(V.ptr b o).cells=[.ptr b o]:=rfl
def Buf (h:List AObj)(p:Nat)(v:V)(s:List UInt8):Prop :=
 (v=.nilsl∧s=[])∨∃ b,v=.hsl b 0 s.length s.length (.grow 1)∧h[b]? = some (.cells (jav s) 5)∧b ≠ p∧s ≠ []
def Bld (σ:S)(p:Nat)(s:List UInt8):Prop:=∃ a v,σ.heap[p]? = some (.cells [a,v] 90)∧((a=.nilptr∧s=[])∨a=.ptr p 0)∧Buf σ.heap p v s
theorem Buf.cells {h:List AObj}{p:Nat}{v:V}{s:List UInt8}(hb:Buf h p v s):v.cells=[v]∧v.isCell=true:=by
 rcases hb with ⟨rfl,_⟩ | ⟨b,rfl,_⟩ <;> exact ⟨rfl,rfl⟩
theorem jkz (a b:List UInt8):jav (a++b)=jav a++jav b:=by simp [jav]
theorem jb4 (a:List UInt8):(jav a).length=a.length:=by simp [jav]
theorem jfX (a:List UInt8):(jav a).all V.isCell=true:=by simp [jav,V.isCell]
theorem e97:je7 env 77=some 5:=by kernel_rfl
theorem b5:bys env 5=some 1:=by kernel_rfl
theorem zn5:ji5 env 5=some 1:=by kernel_rfl
theorem jrC (L:List AObj)(ts:List Nat)(p:Nat)(v:V)(s new:List UInt8)(hb:Buf L p v s)(hn:new ≠ [])(hl:s.length+new.length≤2 ^ 30)(hpl:p<L.length) :
  ∃ L',jbT true 1 1 new.length 5 (jav new) v ⟨L,ts⟩=some (.hsl L.length 0 (s++new).length (s++new).length (.grow 1),⟨L',ts⟩)∧L'[L.length]? = some (.cells (jav (s++new)) 5)∧L'[p]? = L[p]? ∧
   (∀ (q:Nat) (cs:List V),L[q]? = some (.cells cs 47)→L'[q]? = some (.cells cs 47)):=by
 have hlim:lim=2 ^ 40:=rfl
 have hn1:¬ new.length=0:=fun h=>hn (K9 h)
 rcases hb with ⟨rfl,rfl⟩ | ⟨b,rfl,hbL,hbp,hs⟩
 ·refine ⟨L++[.cells (jav new) 5],?_,by simp,by rw [Kw hpl],fun q cs hq=>jbU hq _⟩
  have h1:new.length * 1≤lim∧new.length≤lim:=by rw [hlim]; omega
  simp only [jbT,hn1,Kg,h1,and_self,Kh,S.push,Js]
 ·have hs1:s.length ≠ 0:=fun h=>hs (K9 h)
  have hblt:=ja3 hbL
  refine ⟨(L.set b .dead)++[.cells (jav (s++new)) 5],?_,by simp,?_,fun q cs hq => ?_⟩
  ·have h1:¬ s.length+new.length≤s.length:=by omega
   have h2:(s.length+new.length) * 1≤lim∧s.length+new.length≤lim:=by rw [hlim]; omega
   have htk:List.take s.length (jav s)=jav s:=Qj (by rw [jb4]; omega)
   simp [jbT,h1,h2,jfX,hbL,jb4,htk,S.push,S.set,jkz]
  ·rw [Kw (by simpa using hpl),Kl hbp]
  ·have hne:b ≠ q:=by rintro rfl; rw [hbL] at hq; cases hq
   rw [Kw (by simpa using ja3 hq),Kl hne]; exact hq
theorem jqv (L:List AObj)(ts:List Nat)(p:Nat)(v:V)(s new:List UInt8)(hb:Buf L p v s)(hn:new ≠ [])(hl:s.length+new.length≤2 ^ 30)(hpl:p<L.length) :
  ∃ L',appO env true ⟨L,ts⟩ 77 9 v (.str new)=some (.hsl L.length 0 (s++new).length (s++new).length (.grow 1),⟨L',ts⟩)∧L'[L.length]? = some (.cells (jav (s++new)) 5)∧L'[p]? = L[p]? ∧
   (∀ (q:Nat) (cs:List V),L[q]? = some (.cells cs 47)→L'[q]? = some (.cells cs 47)):=by
 obtain ⟨L',h1,h2⟩:=jrC L ts p v s new hb hn hl hpl
 refine ⟨L',?_,h2⟩
 have hv:jbs L 1 new.length (.str new)=some (jav new):=by simp [jbs,jav]
 unfold appO
 simp only [e97,tys,b5,zn5,Ko,vLen,hv,Kh]
 exact h1
noncomputable def ustr (σ:S)(pt:TypeId)(p n:V):Option (V × S) :=
 match n with
 | .int .i64 n=>jes env pt p n σ
 | _=>none
theorem jrD {m:Bool}{T:Tm}{σ:S}(x y:Operand)(t u:TypeId):opT env m T σ (.call ⟨.builtin .unsafeString,#[x,y],#[t,u]⟩)=(jaj env T x).bind fun p=>(jaj env T y).bind fun n=>ustr σ t p n:=by
 unfold opT ustr
 simp only [jbh,jbm,jbt,jbn,Kz]
 cases jaj env T x with
 | none=>rfl
 | some v =>
  cases jaj env T y with
  | none=>rfl
  | some w=>cases w <;> first | rfl | (rename_i k n; cases k <;> rfl)
def W (l:List String):List (List UInt8):=l.map fun s=>s.toList.map fun c=>UInt8.ofNat c.toNat
def jb5:List (List UInt8):=W ["(",")","[","]","+","-","*","/",",","=","!=","<","<=",">",">=",".."]
theorem joG (σ:S):jaC env (ev env) 159 [] σ=some (.row (jb5.map V.str) 16 .unk,σ):=jhf rfl rfl rfl (k:=20) (by rw [← jiu]; kernel_rfl) σ
theorem jb6:∀ s:List UInt8,jci (jav s)=some s
 | []=>rfl
 | b::s=>by
  have h:=jb6 s
  unfold jav at h ⊢
  simp only [Je,jci,h,Kz,Kf,Jn,and_true]
  simp
theorem jgI:∀ s:List UInt8,jgU (jav s)=true
 | []=>rfl
 | b::s=>by
  have h:=jgI s
  unfold jav at h ⊢
  have hb:=b.toNat_lt
  simp only [Je,jgU,h]
  simp
  omega
theorem u132:env.P.underlying 113=some (.pointer 5):=by kernel_rfl
theorem juu:env.P.cellsOf 5=1:=by kernel_rfl
theorem jrE (σ:S)(b:Nat)(s:List UInt8)(hs:s ≠ [])(hl:s.length≤2 ^ 30)(hb:σ.heap[b]? = some (.cells (jav s) 5)):ustr σ 113 (.ptr b 0) (.int .i64 s.length)=some (.str s,σ.set b (.ro (jav s) 5)):=by
 have h0:¬ (s.length:Int)=0:=fun h=>hs (K9 (by omega))
 have hlim:lim=2 ^ 40:=rfl
 have h1:s.length≤lim:=by rw [hlim]; omega
 have htk:List.take s.length (jav s)=jav s:=Qj (by rw [jb4]; omega)
 simp only [ustr,jes,h0,Kg,hb,u132]
 simp [juu,jb4,htk,jgI,jb6,h1]
theorem jvP:env.P.funcs[126]? = some Tryz.f126:=by kernel_rfl
theorem at87:env.P.funcs[87]? = some Tryz.f87:=by kernel_rfl
theorem jmS (h:List AObj)(v:V)(r:List V):(jas h 1 (.rptr (v::r))).bind (·[0]?)=some v:=by
 have:=Yz h (v::r) 0
 simpa using this
def jfq (ws:List (List UInt8))(s:List UInt8):Nat→Nat→Int
 | 0,_ => -1
 | m+1,i=>if s=ws.getD i [] then i else jfq ws s m (i+1)
theorem jjR (ws:List (List UInt8))(s:List UInt8):∀ m i,0≤jfq ws s m i↔∃ j,i≤j∧j<i+m∧s=ws.getD j []
  | 0, i => by simp only [jfq]; constructor
               · intro h; omega
               · rintro ⟨j,h1,h2,_⟩; omega
  | m+1,i=>by
    simp only [jfq]
    by_cases h:s=ws.getD i []
    · rw [Kp h]
      exact ⟨fun _=>⟨i,by omega,by omega,h⟩,fun _=>by omega⟩
    · rw [Kq h,jjR ws s m (i+1)]
      constructor
      · rintro ⟨j,h1,h2,h3⟩; exact ⟨j,by omega,by omega,h3⟩
      · rintro ⟨j,h1,h2,h3⟩
        refine ⟨j,?_,by omega,h3⟩
        rcases K7 i j with h4 | h4
        · omega
        · have:j=i:=by omega
          subst this; exact absurd h3 h
theorem jqw (ws:List (List UInt8))(s:List UInt8):0≤jfq ws s ws.length 0↔s∈ws:=by
 rw [jjR]
 constructor
 ·rintro ⟨j,_,h2,rfl⟩
  have h2:j<ws.length:=by omega
  simp [List.getD,h2]
 ·intro h
  obtain ⟨j,hj,rfl⟩:=Jk.1 h
  exact ⟨j,by omega,by omega,by simp [List.getD,hj]⟩
theorem jjS (ws:List (List UInt8))(c:RCap)(hc:∀ k e s,c ≠ .tok k e s):(V.row (ws.map V.str) ws.length c).closed=true:=by
 simp only [V.closed,jf8,Bool.and_true]
theorem jjT (ws:List (List UInt8))(c:RCap)(hc:∀ k e s,c ≠ .tok k e s)(hl:ws.length≤1000)(s:List UInt8)(σ:S):jaC env (ev env) 126 [.row (ws.map V.str) ws.length c,.str s] σ=some (.int .i64 (jfq ws s ws.length 0),σ):=by
 refine jaF rfl rfl (by rw [J1,jjS ws c hc]; rfl) jvP rfl (by simp [Tryz.f126]) (by simp [Tryz.f126]) (jaE ?_) σ
 simp -implicitDefEqProofs only [Tryz.f126,Kb,jaj,Nat.reduceLT,Nat.reduceEqDiff,Kh,Kg,reduceIte,Ys,jak,jaf,argT,resT,setT,Y0,Int.reduceEq,Int.reduceLT,Int.reduceLE,Int.reduceNeg,mb,Nat.reduceBEq,tys,stb]
 refine jcf (fun m T D σ=>D=[]∧σ=S.empty∧T 0=.row (ws.map V.str) ws.length c∧T 1=.str s∧T 7=.int .i64 ws.length∧∃ i:Nat,T 8=.int .i64 i∧i≤ws.length∧m=ws.length - i∧jfq ws s ws.length 0=jfq ws s (ws.length - i) i) ?_ _ _ _ _ ⟨rfl,rfl,rfl,rfl,rfl,0,rfl,by omega,rfl,rfl⟩
 rintro m T D σ ⟨rfl,rfl,t0,t1,t7,i,t8,hi,rfl,hf⟩
 refine jaE ?_
 by_cases hlt:i<ws.length
 ·have c1:(i:Int)<(ws.length:Int):=by omega
  have e1:IntKind.i64.wrap ((i:Int)+1)=((i+1:Nat):Int):=by rw [wrap_i64 (by omega) (by omega)]; omega
  have c2:(0:Int)≤(i:Int)∧(i:Int)<(ws.length:Int):=by omega
  obtain ⟨q,hq⟩:∃ q,ws.length - i=q+1:=⟨ws.length - i - 1,by omega⟩
  have hq2:q=ws.length - (i+1):=by omega
  have hstep:jfq ws s (ws.length - i) i=if s=ws.getD i [] then (i:Int) else jfq ws s q (i+1):=by rw [hq]; rfl
  rw [hstep] at hf
  by_cases hn:s=ws.getD i []
  ·rw [Kp hn] at hf
   simp -implicitDefEqProofs only [Kb,jaj,Nat.reduceLT,Nat.reduceEqDiff,Kh,Kg,reduceIte,Ys,jak,jaf,argT,resT,setT,Y0,Int.reduceEq,Int.reduceLT,Int.reduceLE,Int.reduceNeg,mb,Nat.reduceBEq,tys,stb,t0,t1,t7,t8,c1,c2,e1,jdN,hlt,jac,← hn]
   simp only [ja4,jaB,ja1,hf]
  ·rw [Kq hn,hq2] at hf
   simp -implicitDefEqProofs only [Kb,jaj,Nat.reduceLT,Nat.reduceEqDiff,Kh,Kg,reduceIte,Ys,jak,jaf,argT,resT,setT,Y0,Int.reduceEq,Int.reduceLT,Int.reduceLE,Int.reduceNeg,mb,Nat.reduceBEq,tys,stb,t0,t1,t7,t8,c1,c2,e1,jdN,hlt,jac,hn]
   exact ⟨ws.length - (i+1),by omega,i+1,rfl,by omega,rfl,hf⟩
 ·have hi2:i=ws.length:=by omega
  subst hi2
  have c1:¬ (ws.length:Int)<(ws.length:Int):=by omega
  rw [Vb] at hf
  simp -implicitDefEqProofs only [Kb,jaj,Nat.reduceLT,Nat.reduceEqDiff,Kh,Kg,reduceIte,Ys,jak,jaf,argT,resT,setT,Y0,Int.reduceEq,Int.reduceLT,Int.reduceLE,Int.reduceNeg,mb,Nat.reduceBEq,tys,stb,t0,t1,t7,t8,c1]
  simp only [ja4,jaB,ja1,hf]; rfl
theorem jdP (ws:List (List UInt8))(c:RCap)(hc:∀ k e s,c ≠ .tok k e s)(hl:ws.length≤1000)(s:List UInt8)(σ:S):jaC env (ev env) 87 [.row (ws.map V.str) ws.length c,.str s] σ=some (.bool (decide (s∈ws)),σ):=by
 refine jaF rfl rfl (by rw [J1,jjS ws c hc]; rfl) at87 rfl (by simp [Tryz.f87]) (by simp [Tryz.f87]) (jaE ?_) σ
 have hk:=jqw ws s
 by_cases h:s∈ws
 ·have c0:=hk.2 h
  simp -implicitDefEqProofs only [Tryz.f87,Kb,jaj,Nat.reduceLT,Nat.reduceEqDiff,Kh,Kg,reduceIte,Ys,jak,jaf,argT,resT,setT,Y0,Int.reduceEq,Int.reduceLT,Int.reduceLE,Int.reduceNeg,mb,Nat.reduceBEq,tys,stb,jjT ws c hc hl,c0]
  simp only [ja4,jaB,jbl,h,decide_true]
 ·have c0:¬ 0≤jfq ws s ws.length 0:=fun q=>h (hk.1 q)
  simp -implicitDefEqProofs only [Tryz.f87,Kb,jaj,Nat.reduceLT,Nat.reduceEqDiff,Kh,Kg,reduceIte,Ys,jak,jaf,argT,resT,setT,Y0,Int.reduceEq,Int.reduceLT,Int.reduceLE,Int.reduceNeg,mb,Nat.reduceBEq,tys,stb,jjT ws c hc hl,c0]
  simp only [ja4,jaB,jbl,h,decide_false]
structure Tok where
 kind:Int
 text:List UInt8
 n:Int
 pos:Int
def Tok.cells (t:Tok):List V:=[.int .i64 t.kind,.str t.text,.int .i64 t.n,.int .i64 t.pos]
def L1:List (List UInt8):=W ["(","[","/",".."]
def L2:List (List UInt8):=W [")","]",",","/",".."]
def Lft (a:Tok):Prop:=a.kind=5∧a.text∈L1
def Rgt (b:Tok):Prop:=b.kind=5∧b.text∈L2
instance (a:Tok):Decidable (Lft a):=by unfold Lft; infer_instance
instance (a:Tok):Decidable (Rgt a):=by unfold Rgt; infer_instance
def juv (a b:Tok):Prop:=Lft a∨Rgt b
instance (a b:Tok):Decidable (juv a b):=by unfold juv; infer_instance
def Tok.none:Tok:=⟨0,[],0,0⟩
def jqx (t:Tok):List UInt8:=if t.kind=4 then 39::(t.text++[39]) else t.text
def flatT (l:List Tok):List V:=(l.map Tok.cells).flatten
theorem jjU (c:Tok)(cs:List Tok):flatT (c::cs)=.int .i64 c.kind::.str c.text::.int .i64 c.n::.int .i64 c.pos::flatT cs:=rfl
theorem jlB {h:List AObj}{n:Nat}{a b c d:V}{t:TypeId}(hh:h[n]? = some (.cells [a,b,c,d] t)):jas h 4 (.ptr n 0)=some [a,b,c,d]:=by simp [jas,hh]
theorem jbG (L:List AObj)(o:AObj):(L++[o])[L.length]? = some o:=by simp
theorem jcF (L:List AObj)(o o':AObj):(L++[o]).set L.length o'=L++[o']:=by simp
theorem Bld.app {L:List AObj}{ts:List Nat}{p:Nat}{s:List UInt8}(h:Bld ⟨L,ts⟩ p s)(o:AObj):Bld ⟨L++[o],ts⟩ p s:=by
 obtain ⟨a,v,h1,h2,h3⟩:=h
 refine ⟨a,v,jbU h1 _,h2,?_⟩
 rcases h3 with h | ⟨b,h4,h5,h6⟩
 ·exact .inl h
 ·exact .inr ⟨b,h4,jbU h5 _,h6⟩
theorem jba (s:List UInt8):(V.str s).isCell=true:=rfl
theorem l1 (a:Tok):Lft a↔(a.kind=5∧(a.text=[40]∨a.text=[91]∨a.text=[47]∨a.text=[46,46])):=by
 have e:L1=[[40],[91],[47],[46,46]]:=by kernel_rfl
 unfold Lft; rw [e]; simp
theorem l2 (b:Tok):Rgt b↔(b.kind=5∧(b.text=[41]∨b.text=[93]∨b.text=[44]∨b.text=[47]∨b.text=[46,46])):=by
 have e:L2=[[41],[93],[44],[47],[46,46]]:=by kernel_rfl
 unfold Rgt; rw [e]; simp
def IsDg (c:UInt8):Prop:=48≤c.toNat∧c.toNat≤57
def decV:Nat→List UInt8→Nat
 | a,[]=>a
 | a,c::r=>decV (a * 10+(c.toNat - 48)) r
theorem jfI (l r:List UInt8):∀ a:Nat,decV a (l++r)=decV (decV a l) r:=by
 induction l with
 | nil=>exact fun a=>rfl
 | cons c l ih=>exact fun a=>ih _
theorem jmT (l:List UInt8):∀ a:Nat,a≤decV a l:=by
 induction l with
 | nil=>exact fun a=>Kx _
 | cons c l ih =>
  intro a
  show a≤decV (a * 10+(c.toNat - 48)) l
  generalize c.toNat - 48=x
  have h1:a≤a * 10+x:=by omega
  exact Qm h1 (ih (a * 10+x))
theorem jiO {s:List UInt8}{i:Nat}(h:i<s.length):s.take (i+1)=s.take i++[s.getD i 0]:=by
 rw [X9]
 simp [List.getD,h]
theorem jgJ {s:List UInt8}{i:Nat}(h:i<s.length):decV 0 (s.take (i+1))=decV 0 (s.take i) * 10+((s.getD i 0).toNat - 48):=by
 rw [jiO h,jfI]; rfl
theorem jlC (s:List UInt8)(i:Nat):decV 0 (s.take i)≤decV 0 s:=by
 conv=>rhs; rw [← Xn i s,jfI]
 exact jmT _ _
theorem jvQ:env.P.funcs[175]? = some Tryz.f175:=by kernel_rfl
theorem jvR:env.P.funcs[214]? = some Tryz.f214:=by kernel_rfl
theorem jvS:env.P.funcs[184]? = some Tryz.f184:=by kernel_rfl
theorem u140:env.P.underlying 211=some (.int .i64):=by kernel_rfl
theorem u151:env.P.underlying 159=some (.int .u64):=by kernel_rfl
theorem u115:env.P.underlying 194=some (.int .u64):=by kernel_rfl
theorem u2:env.P.underlying 2=some (.int .i64):=by kernel_rfl
theorem jgK (s:List UInt8)(i:Nat):(jav s)[i]? = if i<s.length then some (V.int .u8 (s.getD i 0).toNat) else none:=by
 unfold jav
 rw [Vs]
 by_cases h:i<s.length
 ·simp [h]
 ·simp [h]
theorem jn4 (h:List AObj)(p:V):jbC env h 5 p=(jas h 1 p).bind (·[0]?):=jbd (by kernel_rfl)
def jmU (n:Nat):V:=if n<18446744073709551616 then .tup [.int .u64 n,.nilif] else .tup [.int .u64 18446744073709551615,.iface 211 (.int .i64 1)]
theorem jbO (h:List AObj)(d:Nat)(t:TypeId)(v:V):jbu h (d+1) (.iface t v)=(jbu h d v).map (.iface t):=rfl
theorem jb8 (h:List AObj)(d:Nat):jbu h (d+1) .nilif=some .nilif:=rfl
theorem w64a:IntKind.u64.wrap 64=64:=by decide
theorem w64:IntKind.u64.wrap (1 * 2 ^ min (Int.toNat 64) IntKind.u64.bits)=0:=by decide
theorem w64m:IntKind.u64.wrap (0 - 1)=18446744073709551615:=by decide
theorem w10:IntKind.u8.wrap 10=10:=by decide
theorem w10b:IntKind.u64.wrap 10=10:=by decide
theorem jqy (s:List UInt8):decV 0 (s.take 0)<18446744073709551616:=by
 rw [Ji]
 show 0<18446744073709551616
 omega
abbrev Q135 (s:List UInt8):Post:=⟨wpR env [.tmp 6,.tmp 7] fun v' σ'=>jbu σ'.heap jaB v'=some (jmU (decV 0 s)),fun _ _ _ _=>False,wpR env [.tmp 6,.tmp 7] fun v' σ'=>jbu σ'.heap jaB v'=some (jmU (decV 0 s))⟩
theorem jjb (s:List UInt8)(hd:∀ i,i<s.length→IsDg (s.getD i 0))(hl:s.length≤2 ^ 30)(c2:Code)(h2:∀ T,decV 0 s<18446744073709551616→T 12=.bool false→T 13=.int .u64 (decV 0 s)→G env 175 none 172 (Q135 s) [] c2 T [] ⟨[],[]⟩)(T:Tm)
  (a1:T 1=.int .i64 10) (a8:T 8=.bool false) (a9:T 9=.str s) (a10:T 10=.int .u64 1844674407370955162) (a11:T 11=.int .u64 18446744073709551615) (a12:T 12=.bool false) (a99:T 99=.row (jav s) s.length .unk) (a100:T 100=.int .i64 s.length) (a101:T 101=.int .i64 (0:Nat)) (a13:T 13=.int .u64 (decV 0 (s.take 0))) :
  jhy env 175 none 172 (je6 3 (jaA Tryz.f175)) T [] ⟨[],[]⟩ (Kt.post env 175 none 172 (Q135 s) [.blk 3,.code c2]):=by
 simp only [jaA,Tryz.f175,Ku,je6,blkC,Option.or,Nat.reduceEqDiff,Kg,Kh,reduceIte]
 refine jcf (fun m T D σ=>D=[]∧σ=⟨[],[]⟩∧T 1=.int .i64 10∧T 8=.bool false∧T 9=.str s∧T 10=.int .u64 1844674407370955162∧T 11=.int .u64 18446744073709551615∧T 12=.bool false∧T 99=.row (jav s) s.length .unk∧T 100=.int .i64 s.length ∧
  ∃ i:Nat,T 101=.int .i64 i∧i≤s.length∧m=s.length - i∧T 13=.int .u64 (decV 0 (s.take i))∧decV 0 (s.take i)<18446744073709551616) ?_ _ _ _ _ ⟨rfl,rfl,a1,a8,a9,a10,a11,a12,a99,a100,0,a101,Q0 _,rfl,a13,jqy s⟩
 clear a1 a8 a9 a10 a11 a12 a99 a100 a101 a13 T
 rintro m T D σ ⟨rfl,rfl,t1,t8,t9,t10,t11,t12,t99,t100,i,t101,hi,rfl,t13,hn⟩
 refine jaE ?_
 by_cases hlt:i<s.length
 ·have c1:(i:Int)<(s.length:Int):=by omega
  have c2:(0:Int)≤(i:Int)∧(i:Int)<(s.length:Int):=by omega
  have e1:IntKind.i64.wrap ((i:Int)+1)=((i+1:Nat):Int):=by rw [wrap_i64 (by omega) (by omega)]; omega
  obtain ⟨d1,d2⟩:=hd i hlt
  have hst:=jgJ hlt
  have hle:=jlC s (i+1)
  have hov:¬ decV 0 (s.take (i+1))<18446744073709551616→jmU (decV 0 s)=.tup [.int .u64 18446744073709551615,.iface 211 (.int .i64 1)]:=fun h=>by
   unfold jmU; rw [Kq (by omega)]
  generalize hc:s.getD i 0=c at *
  generalize hP:decV 0 (s.take i)=P at *
  generalize hP2:decV 0 (s.take (i+1))=P2 at *
  have k1:(48:Int)≤(c.toNat:Int):=by omega
  have k2:(c.toNat:Int)≤57:=by omega
  have k3:((c.toNat:Int)=95)=False:=eq_false (by omega)
  have k4:IntKind.u8.wrap ((c.toNat:Int) - 48)=((c.toNat - 48:Nat):Int):=by rw [jf9 (by omega) (by omega)]; omega
  have k5:¬ (10:Int)≤((c.toNat - 48:Nat):Int):=by omega
  by_cases h1:(1844674407370955162:Int)≤(P:Int)
  ·have hv:=hov (by omega)
   simp -implicitDefEqProofs only [Kb,jaj,Nat.reduceLT,Nat.reduceEqDiff,Kh,Kg,reduceIte,Ys,jak,jaf,argT,resT,setT,Y0,Int.reduceEq,Int.reduceLT,Int.reduceLE,Int.reduceNeg,mb,Nat.reduceBEq,tys,stb,t1,t8,t9,t10,t11,t12,t13,t99,t100,t101,c1,c2,e1,jgK,hlt,hc,jn4,u140,u151,u115,k1,k2,k3,k4,k5,w10,Z5,h1,jej,jeW u140]
   rw [hv]
   simp only [ja4,jaB,jbf,jaD,jaR,ja1,jbO,jb8,Ko,Kz]
  have k6:IntKind.u64.wrap ((P:Int) * 10)=((P * 10:Nat):Int):=by rw [wrap_u64 (by omega) (by omega)]; omega
  have k7:IntKind.u64.wrap ((c.toNat - 48:Nat):Int)=((c.toNat - 48:Nat):Int):=wrap_u64 (by omega) (by omega)
  by_cases h2:P2<18446744073709551616
  ·have k8:IntKind.u64.wrap (((P * 10:Nat):Int)+((c.toNat - 48:Nat):Int))=(P2:Int):=by rw [wrap_u64 (by omega) (by omega)]; omega
   have k9:¬ (P2:Int)<((P * 10:Nat):Int):=by omega
   have k10:¬ (18446744073709551615:Int)<(P2:Int):=by omega
   simp -implicitDefEqProofs only [Kb,jaj,Nat.reduceLT,Nat.reduceEqDiff,Kh,Kg,reduceIte,Ys,jak,jaf,argT,resT,setT,Y0,Int.reduceEq,Int.reduceLT,Int.reduceLE,Int.reduceNeg,mb,Nat.reduceBEq,tys,stb,t1,t8,t9,t10,t11,t12,t13,t99,t100,t101,c1,c2,e1,jgK,hlt,hc,jn4,u140,u151,u115,k1,k2,k3,k4,k5,k6,k7,k8,k9,k10,w10,w10b,Z5,h1,jej,jeW u140]
   exact ⟨s.length - (i+1),by omega,i+1,rfl,by omega,rfl,by rw [hP2],by rw [hP2]; exact h2⟩
  ·have hv:=hov h2
   have k8:IntKind.u64.wrap (((P * 10:Nat):Int)+((c.toNat - 48:Nat):Int))=((P2 - 18446744073709551616:Nat):Int):=by rw [jkq (by omega) (by omega)]; omega
   have k9:((P2 - 18446744073709551616:Nat):Int)<((P * 10:Nat):Int):=by omega
   simp -implicitDefEqProofs only [Kb,jaj,Nat.reduceLT,Nat.reduceEqDiff,Kh,Kg,reduceIte,Ys,jak,jaf,argT,resT,setT,Y0,Int.reduceEq,Int.reduceLT,Int.reduceLE,Int.reduceNeg,mb,Nat.reduceBEq,tys,stb,t1,t8,t9,t10,t11,t12,t13,t99,t100,t101,c1,c2,e1,jgK,hlt,hc,jn4,u140,u151,u115,k1,k2,k3,k4,k5,k6,k7,k8,k9,w10,w10b,Z5,h1,jej,jeW u140]
   rw [hv]
   simp only [ja4,jaB,jbf,jaD,jaR,ja1,jbO,jb8,Ko,Kz]
 ·have hi2:i=s.length:=by omega
  subst hi2
  have c1:¬ (s.length:Int)<(s.length:Int):=by omega
  rw [Ve] at t13 hn
  simp -implicitDefEqProofs only [Kb,jaj,Nat.reduceLT,Nat.reduceEqDiff,Kh,Kg,reduceIte,Ys,jak,jaf,argT,resT,setT,Y0,Int.reduceEq,Int.reduceLT,Int.reduceLE,Int.reduceNeg,mb,Nat.reduceBEq,tys,stb,t1,t8,t9,t10,t11,t12,t13,t99,t100,t101,c1]
  exact h2 _ hn t12 t13
theorem jjc (s:List UInt8)(hd:∀ i,i<s.length→IsDg (s.getD i 0))(hne:s ≠ [])(hl:s.length≤2 ^ 30)(σ:S):jaC env (ev env) 175 [.str s,.int .i64 10,.int .i64 0] σ=some (jmU (decV 0 s),σ):=by
 refine jaF rfl rfl rfl jvQ rfl (by simp [Tryz.f175]) (by simp [Tryz.f175]) (jaE ?_) σ
 have hne2:(s=[])=False:=eq_false hne
 simp -implicitDefEqProofs only [Tryz.f175,Kb,jaj,Nat.reduceLT,Nat.reduceEqDiff,Kh,Kg,reduceIte,Ys,jak,jaf,argT,resT,setT,Y0,Int.reduceEq,Int.reduceLT,Int.reduceLE,Int.reduceNeg,mb,Nat.reduceBEq,tys,stb,jaU,jac,hne2,u140,u151,u115,Z5,jix u5,jh3,w64a,w64,w64m,jb4]
 refine jjb s hd hl _ (fun T hn t12 t13 => ?_) _ rfl rfl rfl rfl rfl rfl rfl rfl rfl rfl
 simp -implicitDefEqProofs only [Kb,jaj,Nat.reduceLT,Nat.reduceEqDiff,Kh,Kg,reduceIte,Ys,jak,jaf,argT,resT,setT,Y0,Int.reduceEq,Int.reduceLT,Int.reduceLE,Int.reduceNeg,mb,Nat.reduceBEq,tys,stb,t12,t13]
 unfold jmU
 rw [Kp hn]
 simp only [ja4,jaB,jbf,jaD,jaR,ja1,jbO,jb8,Ko,Kz]
def intV (n:Nat):V:=if n<9223372036854775808 then .tup [.int .i64 n,.nilif] else .tup [.int .i64 9223372036854775807,.iface 211 (.int .i64 1)]
theorem juw:jeI env 93 211=true:=by kernel_rfl
def isIf:Option TypeDesc→Bool
 | some (.interface _)=>true
 | _=>false
theorem u100:∃ ms,env.P.underlying 93=some (.interface ms):=by
 have h:isIf (env.P.underlying 93)=true:=by kernel_rfl
 unfold isIf at h
 split at h
 ·exact ⟨_,‹_›⟩
 ·simp at h
theorem w63:IntKind.u64.wrap (1 * 2 ^ min (Int.toNat 63) IntKind.u64.bits)=9223372036854775808:=by decide
theorem w63a:IntKind.u64.wrap 63=63:=by decide
theorem w63b:IntKind.i64.wrap (64 - 1)=63:=by decide
theorem w63c:IntKind.u64.wrap (9223372036854775808 - 1)=9223372036854775807:=by decide
theorem w63d:IntKind.i64.wrap 9223372036854775807=9223372036854775807:=by decide
theorem jkA (s:List UInt8)(hd:∀ i,i<s.length→IsDg (s.getD i 0))(hne:s ≠ [])(hl:s.length≤2 ^ 30)(σ:S):jaC env (ev env) 214 [.str s,.int .i64 10,.int .i64 0] σ=some (intV (decV 0 s),σ):=by
 refine jaF rfl rfl rfl jvR rfl (by simp [Tryz.f214]) (by simp [Tryz.f214]) (jaE ?_) σ
 have hne2:(s=[])=False:=eq_false hne
 have hlen:0<s.length:=by
  rcases X1 s.length with h | h
  ·exact absurd (K9 h) hne
  ·exact h
 have c0:(0:Int)≤0∧(0:Int)<(s.length:Int):=by omega
 obtain ⟨d1,d2⟩:=hd 0 hlen
 obtain ⟨ms,u100⟩:=u100
 have hP:=jjc s hd hne hl
 unfold jmU at hP
 unfold intV
 generalize hc:s.getD 0 0=c at *
 generalize decV 0 s=n at *
 have k1:((c.toNat:Int)=43)=False:=eq_false (by omega)
 have k2:((c.toNat:Int)=45)=False:=eq_false (by omega)
 by_cases h1:n<18446744073709551616
 ·rw [Kp h1] at hP
  by_cases h2:n<9223372036854775808
  ·rw [Kp h2]
   have k3:¬ (9223372036854775808:Int)≤(n:Int):=by omega
   have k4:IntKind.i64.wrap (n:Int)=n:=wrap_i64 (by omega) (by omega)
   simp -implicitDefEqProofs only [Tryz.f214,Kb,jaj,Nat.reduceLT,Nat.reduceEqDiff,Kh,Kg,reduceIte,Ys,jak,jaf,argT,resT,setT,Y0,Int.reduceEq,Int.reduceLT,Int.reduceLE,Int.reduceNeg,mb,Nat.reduceBEq,tys,stb,jaU,jac,hne2,u140,u151,u115,u2,jaJ,jaI u9,c0,hc,k1,k2,k3,k4,hP,jcD u100,Z5,jh3,w63,w63a,w63b,w63c,w63d,jej,jeW u140,jbB]
   simp only [ja4,jaB,jbf,jaD,jaR,ja1,jbO,jb8,Ko,Kz]
  ·rw [Kq h2]
   have k3:(9223372036854775808:Int)≤(n:Int):=by omega
   simp -implicitDefEqProofs only [Tryz.f214,Kb,jaj,Nat.reduceLT,Nat.reduceEqDiff,Kh,Kg,reduceIte,Ys,jak,jaf,argT,resT,setT,Y0,Int.reduceEq,Int.reduceLT,Int.reduceLE,Int.reduceNeg,mb,Nat.reduceBEq,tys,stb,jaU,jac,hne2,u140,u151,u115,u2,jaJ,jaI u9,c0,hc,k1,k2,k3,hP,jcD u100,Z5,jh3,w63,w63a,w63b,w63c,w63d,jej,jeW u140,jbB]
   simp only [ja4,jaB,jbf,jaD,jaR,ja1,jbO,jb8,Ko,Kz]
 ·rw [Kq h1] at hP
  rw [Kq (by omega)]
  simp -implicitDefEqProofs only [Tryz.f214,Kb,jaj,Nat.reduceLT,Nat.reduceEqDiff,Kh,Kg,reduceIte,Ys,jak,jaf,argT,resT,setT,Y0,Int.reduceEq,Int.reduceLT,Int.reduceLE,Int.reduceNeg,mb,Nat.reduceBEq,tys,stb,jaU,jac,hne2,u140,u151,u115,u2,jaJ,jaI u9,c0,hc,k1,k2,hP,jeX u100,joB juw ⟨ms,u100⟩,Z5,jh3,w63,w63a,w63b,w63c,w63d,jej,jeW u140,jbB]
  simp only [ja4,jaB,jbf,jaD,jaR,ja1,jbO,jb8,Ko,Kz]
theorem jvT:env.P.funcs[224]? = some Tryz.f224:=by kernel_rfl
theorem jvU:env.P.funcs[208]? = some Tryz.f208:=by kernel_rfl
theorem jvV:env.P.funcs[176]? = some Tryz.f176:=by kernel_rfl
theorem jvW:env.P.funcs[157]? = some Tryz.f157:=by kernel_rfl
theorem jvX (r:Nat):env.mutb 224 r=true:=rfl
theorem s5:sz env 5=some 1:=by kernel_rfl
theorem z5:jbV env 5=some (.int .u8 0):=by kernel_rfl
theorem jrF (n:Nat)(v:V):(List.replicate n [v]).flatten=List.replicate n v:=by
 induction n with
 | zero=>rfl
 | succ n ih=>simp [List.replicate_succ,ih]
theorem jux {σ:S}(n:Nat)(hn:n ≠ 0)(hl:n≤2 ^ 30):jti env true σ 77 (.int .i64 n) (.int .i64 n)=some (.hsl σ.heap.length 0 n n .exact,σ.push (.cells (List.replicate n (.int .u8 0)) 5)):=by
 have hlim:(lim:Nat)=2 ^ 40:=rfl
 have h1:0≤(n:Int)∧(n:Int)≤n∧(n:Int)≤(lim:Nat)∧(n:Int) * ((1:Nat):Int)≤(lim:Nat):=by rw [hlim]; omega
 have h2:¬ n * 1=0:=by omega
 simp only [jti,e97,s5,b5,z5,Ko,h1,and_self,Kh,K1,h2,Kg,Y6,K0,K6,K4,true_or,jrF]
theorem juy (L:List AObj)(ts:List Nat)(b:Nat)(s:List UInt8)(hs:s ≠ [])(hb:L[b]? = some (.cells (List.replicate s.length (.int .u8 0)) 5))(c:HCap)(hc:HCap.room 1 c=false) :
  jrn env ⟨L,ts⟩ 77 (.hsl b 0 s.length s.length c) (.str s)=some (.int .i64 s.length,⟨L.set b (.cells (jav s) 5),ts⟩):=by
 have h1:¬ s.length=0:=fun h=>hs (K9 h)
 have hv:jbs L 1 s.length (.str s)=some (jav s):=by simp [jbs,jav]
 have h2:0+(jav s).length≤(List.replicate s.length (V.int .u8 0)).length:=by rw [jb4,List.length_replicate]; omega
 have h3:jab (List.replicate s.length (V.int .u8 0)) 0 (jav s)=jav s:=by simp [jab,jb4]
 simp only [jrn,e97,s5,Ko,vLen,Nat.min_self,hv,h1,Kg,hc,Kk,jbo,hb,h2,jfX,and_self,Kh,h3,S.set,Kz]
theorem jvY (b n:Nat)(c:HCap)(hn:0<n):jaS 1 (.hsl b 0 n n c) (.int .i64 0)=some (.ptr b 0):=by
 simp [jaS,hn]
theorem jmV (s:List UInt8)(hl:s.length≤2 ^ 30)(σ:S):jaC env (ev env) 224 [.str s] σ=some (.str s,σ):=by
 refine jaF rfl rfl rfl jvT rfl (by simp [Tryz.f224]) (by simp [Tryz.f224]) (jaE ?_) σ
 by_cases hs:s=[]
 ·subst hs
  simp -implicitDefEqProofs only [Tryz.f224,Kb,jaj,Nat.reduceLT,Nat.reduceEqDiff,Kh,Kg,reduceIte,Ys,jak,jaf,argT,resT,setT,Y0,Int.reduceEq,Int.reduceLT,Int.reduceLE,Int.reduceNeg,mb,Nat.reduceBEq,tys,stb,ja6,K6]
  simp [ja4,jaB,jcm]
 ·have h1:¬ s.length=0:=fun h=>hs (K9 h)
  have h2:((s.length:Int)=0)=False:=eq_false (by omega)
  have h3:0<s.length:=by omega
  simp -implicitDefEqProofs only [Tryz.f224,Kb,jaj,Nat.reduceLT,Nat.reduceEqDiff,Kh,Kg,reduceIte,Ys,jak,jaf,argT,resT,setT,Y0,Int.reduceEq,Int.reduceLT,Int.reduceLE,Int.reduceNeg,mb,Nat.reduceBEq,tys,stb,ja6,h2,jkn,jvX,jux s.length h1 hl,jro,juy [.cells (List.replicate s.length (.int .u8 0)) 5] [] 0 s hs rfl .exact rfl,jvY _ _ _ h3,jth,jrD,jrE ⟨[.cells (jav s) 5],[]⟩ 0 s hs hl rfl,S.push,jaU,Vo]
  simp [ja4,jaB,jcm]
theorem gl2:env.gl 3=some (.rptr [.any]):=rfl
theorem u143:∃ t,env.P.underlying 213=some (.pointer t):=by
 have h:(match env.P.underlying 213 with | some (.pointer t)=>true | _=>false)=true:=by kernel_rfl
 split at h
 ·exact ⟨_,‹_›⟩
 ·simp at h
theorem jrG (h:List AObj):jbC env h 93 (.rptr [.any])=some .any:=by rw [jbd (by kernel_rfl)]; simp [jas]
theorem jqz:V.any.cells=[.any]:=rfl
theorem joH:V.any.isCell=true:=rfl
theorem jrH (a s:List UInt8):jcC env 227 [(0,.str a),(1,.str s),(2,.any)]=some (.agg [.str a,.str s,.any]):=by kernel_rfl
theorem joI (a s:List UInt8)(hl:s.length≤2 ^ 30)(L:List AObj)(ts:List Nat):jaC env (ev env) 208 [.str a,.str s] ⟨L,ts⟩=some (.ptr L.length 0,⟨L++[.cells [.str a,.str s,.any] 227],ts⟩):=by
 refine jbE rfl rfl jvU rfl (by simp [Tryz.f208]) (by simp [Tryz.f208]) (jaE ?_)
 simp -implicitDefEqProofs only [Tryz.f208,Kb,jaj,Nat.reduceLT,Nat.reduceEqDiff,Kh,Kg,reduceIte,Ys,jak,jaf,argT,resT,setT,Y0,Int.reduceEq,Int.reduceLT,Int.reduceLE,Int.reduceNeg,mb,Nat.reduceBEq,tys,stb,jmV s hl,gl2,ja4,jrG,jqz,joH,jrH]
 exact ⟨by kernel_rfl,trivial⟩
theorem jrI (h:List AObj)(d b o:Nat):jbu h (d+1) (.ptr b o)=some .any:=rfl
theorem joJ (a s:List UInt8)(hl:s.length≤2 ^ 30)(σ:S):jaC env (ev env) 176 [.str a,.str s,.int .i64 0,.int .i64 0,.iface 211 (.int .i64 1)] σ=some (.iface 213 .any,σ):=by
 refine jaF rfl rfl rfl jvV rfl (by simp [Tryz.f176]) (by simp [Tryz.f176]) (jaE ?_) σ
 have n12:((1:Int)=2)=False:=eq_false (by omega)
 obtain ⟨t,u143⟩:=u143
 simp -implicitDefEqProofs only [Tryz.f176,Kb,jaj,Nat.reduceLT,Nat.reduceEqDiff,Kh,Kg,reduceIte,Ys,jak,jaf,argT,resT,setT,Y0,Int.reduceEq,Int.reduceLT,Int.reduceLE,Int.reduceNeg,mb,Nat.reduceBEq,tys,stb,u140,jej,jeW u140,jrp u143,joA juw u100,n12,joI a s hl,jaU]
 simp only [ja4,jaB,jbO,jrI,Kz]
theorem jlD (s:List UInt8)(hd:∀ i,i<s.length→IsDg (s.getD i 0)):∀ i,i≤s.length→decV 0 (s.take i)<10 ^ i
 | 0,_=>by rw [Ji]; exact Nat.zero_lt_one
 | i+1,hi=>by
  have h:=jlD s hd i (by omega)
  have hst:=jgJ (s:=s) (i:=i) (by omega)
  have h2:=hd i (by omega)
  have h3:10 ^ (i+1)=10 * 10 ^ i:=by rw [V6]; omega
  unfold IsDg at h2
  omega
theorem jiP (s:List UInt8)(hd:∀ i,i<s.length→IsDg (s.getD i 0))(hl:s.length≤18)(i:Nat)(hi:i≤s.length):decV 0 (s.take i)<1000000000000000000:=by
 have h1:=jlD s hd i hi
 have h2:10 ^ i≤10 ^ 18:=Vg (by omega) (by omega)
 have h3:(10:Nat) ^ 18=1000000000000000000:=by decide
 omega
theorem jqA (s:List UInt8)(hd:∀ i,i<s.length→IsDg (s.getD i 0))(hl:s.length≤18)(Q:Post)(ks:List Kt)(c2:Code)(h2:∀ T,T 5=.str s→T 6=.int .i64 (decV 0 s)→G env 184 none 77 Q ks c2 T [] ⟨[],[]⟩)(T:Tm)
  (a5:T 5=.str s) (a6:T 6=.int .i64 (0:Nat)) (a47:T 47=.row (jav s) s.length .unk) (a48:T 48=.int .i64 s.length) (a49:T 49=.int .i64 (0:Nat)) :
  jhy env 184 none 77 (je6 0 (jaA Tryz.f184)) T [] ⟨[],[]⟩ (Kt.post env 184 none 77 Q (.blk 0::.code c2::ks)):=by
 simp only [jaA,Tryz.f184,Ku,je6,blkC,Option.or,Nat.reduceEqDiff,Kg,Kh,reduceIte]
 refine jcf (fun m T D σ=>D=[]∧σ=⟨[],[]⟩∧T 5=.str s∧T 47=.row (jav s) s.length .unk∧T 48=.int .i64 s.length∧∃ i:Nat,T 49=.int .i64 i∧i≤s.length∧m=s.length - i∧T 6=.int .i64 (decV 0 (s.take i))) ?_ _ _ _ _ ⟨rfl,rfl,a5,a47,a48,0,a49,Q0 _,rfl,by rw [a6,Ji]; rfl⟩
 clear a5 a6 a47 a48 a49 T
 rintro m T D σ ⟨rfl,rfl,t5,t47,t48,i,t49,hi,rfl,t6⟩
 refine jaE ?_
 by_cases hlt:i<s.length
 ·have c1:(i:Int)<(s.length:Int):=by omega
  have c2:(0:Int)≤(i:Int)∧(i:Int)<(s.length:Int):=by omega
  have e1:IntKind.i64.wrap ((i:Int)+1)=((i+1:Nat):Int):=by rw [wrap_i64 (by omega) (by omega)]; omega
  obtain ⟨d1,d2⟩:=hd i hlt
  have hst:=jgJ hlt
  have b1:=jiP s hd hl i hi
  have b2:=jiP s hd hl (i+1) hlt
  generalize hc:s.getD i 0=c at *
  generalize hP:decV 0 (s.take i)=P at *
  generalize hP2:decV 0 (s.take (i+1))=P2 at *
  have k4:IntKind.u8.wrap ((c.toNat:Int) - 48)=((c.toNat - 48:Nat):Int):=by rw [jf9 (by omega) (by omega)]; omega
  have k5:¬ (9:Int)<((c.toNat - 48:Nat):Int):=by omega
  have k6:IntKind.i64.wrap ((P:Int) * 10)=((P * 10:Nat):Int):=by rw [wrap_i64 (by omega) (by omega)]; omega
  have k7:IntKind.i64.wrap ((c.toNat - 48:Nat):Int)=((c.toNat - 48:Nat):Int):=wrap_i64 (by omega) (by omega)
  have k8:IntKind.i64.wrap (((P * 10:Nat):Int)+((c.toNat - 48:Nat):Int))=(P2:Int):=by rw [wrap_i64 (by omega) (by omega)]; omega
  simp -implicitDefEqProofs only [Kb,jaj,Nat.reduceLT,Nat.reduceEqDiff,Kh,Kg,reduceIte,Ys,jak,jaf,argT,resT,setT,Y0,Int.reduceEq,Int.reduceLT,Int.reduceLE,Int.reduceNeg,mb,Nat.reduceBEq,tys,stb,t5,t6,t47,t48,t49,c1,c2,e1,jgK,hlt,hc,jn4,k4,k5,k6,k7,k8,Z5]
  exact ⟨s.length - (i+1),by omega,i+1,rfl,by omega,rfl,by rw [hP2]⟩
 ·have hi2:i=s.length:=by omega
  subst hi2
  have c1:¬ (s.length:Int)<(s.length:Int):=by omega
  rw [Ve] at t6
  simp -implicitDefEqProofs only [Kb,jaj,Nat.reduceLT,Nat.reduceEqDiff,Kh,Kg,reduceIte,Ys,jak,jaf,argT,resT,setT,Y0,Int.reduceEq,Int.reduceLT,Int.reduceLE,Int.reduceNeg,mb,Nat.reduceBEq,tys,stb,t5,t6,t47,t48,t49,c1]
  exact h2 _ t5 t6
theorem jqB (s:List UInt8)(hd:∀ i,i<s.length→IsDg (s.getD i 0))(hne:s ≠ [])(hl:s.length≤2 ^ 30)(σ:S):jaC env (ev env) 184 [.str s] σ=some (intV (decV 0 s),σ):=by
 refine jaF rfl rfl rfl jvS rfl (by simp [Tryz.f184]) (by simp [Tryz.f184]) (jaE ?_) σ
 have hlen:0<s.length:=by
  rcases X1 s.length with h | h
  ·exact absurd (K9 h) hne
  ·exact h
 have g0:(0:Int)<(s.length:Int):=by omega
 have c0:(0:Int)≤0∧(0:Int)<(s.length:Int):=by omega
 have g1:((s.length:Int)<1)=False:=eq_false (by omega)
 obtain ⟨d1,d2⟩:=hd 0 hlen
 have k1:(((s.getD 0 0).toNat:Int)=43)=False:=eq_false (by omega)
 have k2:(((s.getD 0 0).toNat:Int)=45)=False:=eq_false (by omega)
 by_cases h18:s.length≤18
 ·have g2:(s.length:Int)<19:=by omega
  simp -implicitDefEqProofs only [Tryz.f184,Kb,jaj,Nat.reduceLT,Nat.reduceEqDiff,Kh,Kg,reduceIte,Ys,jak,jaf,argT,resT,setT,Y0,Int.reduceEq,Int.reduceLT,Int.reduceLE,Int.reduceNeg,mb,Nat.reduceBEq,tys,stb,jaU,ja6,g0,g1,g2,jaJ,jaI u9,c0,k1,k2,jix u5,jb4]
  refine jqA s hd h18 _ _ _ (fun T t5 t6 => ?_) _ rfl rfl rfl rfl rfl
  simp -implicitDefEqProofs only [Kb,jaj,Nat.reduceLT,Nat.reduceEqDiff,Kh,Kg,reduceIte,Ys,jak,jaf,argT,resT,setT,Y0,Int.reduceEq,Int.reduceLT,Int.reduceLE,Int.reduceNeg,mb,Nat.reduceBEq,tys,stb,t5,t6,jaJ,jaI u9,c0,k1,k2]
  have hb:=jiP s hd h18 s.length (Kx _)
  rw [Ve] at hb
  unfold intV
  rw [Kp (by omega)]
  simp only [ja4,jaB,jbf,jaD,jaR,ja1,jbO,jb8,Ko,Kz]
 ·have g2:((s.length:Int)<19)=False:=eq_false (by omega)
  have hP:=jkA s hd hne hl
  unfold intV at hP ⊢
  by_cases h1:decV 0 s<9223372036854775808
  ·rw [Kp h1] at hP ⊢
   simp -implicitDefEqProofs only [Tryz.f184,Kb,jaj,Nat.reduceLT,Nat.reduceEqDiff,Kh,Kg,reduceIte,Ys,jak,jaf,argT,resT,setT,Y0,Int.reduceEq,Int.reduceLT,Int.reduceLE,Int.reduceNeg,mb,Nat.reduceBEq,tys,stb,jaU,ja6,g0,g2,hP]
   simp only [ja4,jaB,jbf,jaD,jaR,ja1,jbO,jb8,Ko,Kz]
  ·rw [Kq h1] at hP ⊢
   simp -implicitDefEqProofs only [Tryz.f184,Kb,jaj,Nat.reduceLT,Nat.reduceEqDiff,Kh,Kg,reduceIte,Ys,jak,jaf,argT,resT,setT,Y0,Int.reduceEq,Int.reduceLT,Int.reduceLE,Int.reduceNeg,mb,Nat.reduceBEq,tys,stb,jaU,ja6,g0,g2,hP]
   simp only [ja4,jaB,jbf,jaD,jaR,ja1,jbO,jb8,Ko,Kz]
def jtn (n:Nat):V:=if n<9223372036854775808 then .tup [.int .i64 n,.nilif] else .tup [.int .i64 9223372036854775807,.iface 213 .any]
theorem jqC (h:List AObj)(d:Nat):jbu h (d+1) .any=some .any:=rfl
theorem jlE (s:List UInt8)(hd:∀ i,i<s.length→IsDg (s.getD i 0))(hne:s ≠ [])(hl:s.length≤2 ^ 30)(σ:S):jaC env (ev env) 157 [.str s] σ=some (jtn (decV 0 s),σ):=by
 refine jaF rfl rfl rfl jvW rfl (by simp [Tryz.f157]) (by simp [Tryz.f157]) (jaE ?_) σ
 have hP:=jqB s hd hne hl
 have hE:=fun a=>joJ a s hl
 obtain ⟨ms,u100⟩:=u100
 unfold intV at hP
 unfold jtn
 by_cases h1:decV 0 s<9223372036854775808
 ·rw [Kp h1] at hP ⊢
  simp -implicitDefEqProofs only [Tryz.f157,Kb,jaj,Nat.reduceLT,Nat.reduceEqDiff,Kh,Kg,reduceIte,Ys,jak,jaf,argT,resT,setT,Y0,Int.reduceEq,Int.reduceLT,Int.reduceLE,Int.reduceNeg,mb,Nat.reduceBEq,tys,stb,jaU,hP,jcD u100,jbB]
  simp only [ja4,jaB,jbf,jaD,jaR,ja1,jbO,jb8,Ko,Kz]
 ·rw [Kq h1] at hP ⊢
  simp -implicitDefEqProofs only [Tryz.f157,Kb,jaj,Nat.reduceLT,Nat.reduceEqDiff,Kh,Kg,reduceIte,Ys,jak,jaf,argT,resT,setT,Y0,Int.reduceEq,Int.reduceLT,Int.reduceLE,Int.reduceNeg,mb,Nat.reduceBEq,tys,stb,jaU,hP,jeX u100,asciiV,hE,jbB]
  simp only [ja4,jaB,jbf,jaD,jaR,ja1,jbO,jqC,Ko,Kz]
def aggT (t:Tok):V:=.agg [.int .i64 t.kind,.str t.text,.int .i64 t.n,.int .i64 t.pos]
def tokE (t:Tok)(e:Int):V:=.tup [aggT t,.int .i64 e]
def numV (s:List UInt8)(p:Int):V :=
 if 1<s.length∧(s.getD 0 0).toNat=48 then tokE ⟨0,[],0,0⟩ 11 else
 if 1000000000<decV 0 s then tokE ⟨0,[],0,0⟩ 2 else tokE ⟨3,s,decV 0 s,p⟩ 0
theorem jvZ:env.P.funcs[123]? = some Tryz.f123:=by kernel_rfl
theorem zv52:jbV env 47=some (.agg [.int .i64 0,.str [],.int .i64 0,.int .i64 0]):=by kernel_rfl
theorem ld52 (a b c d:V):jbC env [.cells [a,b,c,d] 47] 47 (.ptr 0 0)=some (.agg [a,b,c,d]):=by kernel_rfl
theorem jiQ:jcC env 47 []=some (.agg [.int .i64 0,.str [],.int .i64 0,.int .i64 0]):=by kernel_rfl
theorem jn5 (s:List UInt8)(n p:Int):jcC env 47 [(0,.int .i64 3),(1,.str s),(2,.int .i64 n),(3,.int .i64 p)]=some (.agg [.int .i64 3,.str s,.int .i64 n,.int .i64 p]):=by kernel_rfl
theorem jmW (s:List UInt8)(p:Int)(hd:∀ i,i<s.length→IsDg (s.getD i 0))(hne:s ≠ [])(hl:s.length≤2 ^ 30)(σ:S):jaC env (ev env) 123 [.str s,.int .i64 p] σ=some (numV s p,σ):=by
 refine jaF rfl rfl rfl jvZ rfl (by simp [Tryz.f123]) (by simp [Tryz.f123]) (jaE ?_) σ
 have hlen:0<s.length:=by
  rcases X1 s.length with h | h
  ·exact absurd (K9 h) hne
  ·exact h
 have c0:(0:Int)≤0∧(0:Int)<(s.length:Int):=by omega
 have e0:Int.toNat 0=0:=rfl
 have hP:=jlE s hd hne hl
 obtain ⟨ms,u100⟩:=u100
 unfold numV tokE aggT
 unfold jtn at hP
 by_cases h1:(1:Int)<(s.length:Int)∧((s.getD 0 0).toNat:Int)=48
 ·obtain ⟨h1,h2⟩:=h1
  have h3:1<s.length∧(s.getD 0 0).toNat=48:=by omega
  rw [Kp h3]
  simp -implicitDefEqProofs only [Tryz.f123,Kb,jaj,Nat.reduceLT,Nat.reduceEqDiff,Kh,Kg,reduceIte,Ys,jak,jaf,argT,resT,setT,Y0,Int.reduceEq,Int.reduceLT,Int.reduceLE,Int.reduceNeg,mb,Nat.reduceBEq,tys,stb,jaU,ja6,zv52,Va,jab,Nat.reduceAdd,Nat.reduceLeDiff,ja2,jba,ld52,Yy,h1,h2,e0,jaJ,jaI u9,c0,jiQ]
  simp [ja4,jaB,jbf,jcN,jaD,jaR,ja1,jcm]
 have h3:¬ (1<s.length∧(s.getD 0 0).toNat=48):=by omega
 rw [Kq h3]
 by_cases h4:decV 0 s<9223372036854775808
 ·rw [Kp h4] at hP
  by_cases h5:1000000000<decV 0 s
  ·rw [Kp h5]
   have h6:(1000000000:Int)<(decV 0 s:Nat):=by omega
   by_cases h7:(1:Int)<(s.length:Int)
   ·have h8:(((s.getD 0 0).toNat:Int)=48)=False:=eq_false (by omega)
    simp -implicitDefEqProofs only [Tryz.f123,Kb,jaj,Nat.reduceLT,Nat.reduceEqDiff,Kh,Kg,reduceIte,Ys,jak,jaf,argT,resT,setT,Y0,Int.reduceEq,Int.reduceLT,Int.reduceLE,Int.reduceNeg,mb,Nat.reduceBEq,tys,stb,jaU,ja6,zv52,Va,jab,Nat.reduceAdd,Nat.reduceLeDiff,ja2,jba,ld52,Yy,h7,h8,h6,e0,jaJ,jaI u9,c0,jiQ,hP,jcD u100,jbB]
    simp [ja4,jaB,jbf,jcN,jaD,jaR,ja1,jcm]
   ·simp -implicitDefEqProofs only [Tryz.f123,Kb,jaj,Nat.reduceLT,Nat.reduceEqDiff,Kh,Kg,reduceIte,Ys,jak,jaf,argT,resT,setT,Y0,Int.reduceEq,Int.reduceLT,Int.reduceLE,Int.reduceNeg,mb,Nat.reduceBEq,tys,stb,jaU,ja6,zv52,Va,jab,Nat.reduceAdd,Nat.reduceLeDiff,ja2,jba,ld52,Yy,h7,h6,e0,jaJ,jaI u9,c0,jiQ,hP,jcD u100,jbB]
    simp [ja4,jaB,jbf,jcN,jaD,jaR,ja1,jcm]
  ·rw [Kq h5]
   have h6:¬ (1000000000:Int)<(decV 0 s:Nat):=by omega
   by_cases h7:(1:Int)<(s.length:Int)
   ·have h8:(((s.getD 0 0).toNat:Int)=48)=False:=eq_false (by omega)
    simp -implicitDefEqProofs only [Tryz.f123,Kb,jaj,Nat.reduceLT,Nat.reduceEqDiff,Kh,Kg,reduceIte,Ys,jak,jaf,argT,resT,setT,Y0,Int.reduceEq,Int.reduceLT,Int.reduceLE,Int.reduceNeg,mb,Nat.reduceBEq,tys,stb,jaU,ja6,zv52,Va,jab,Nat.reduceAdd,Nat.reduceLeDiff,ja2,jba,ld52,Yy,h7,h8,h6,e0,jaJ,jaI u9,c0,jn5,hP,jcD u100,jbB]
    simp [ja4,jaB,jbf,jcN,jaD,jaR,ja1,jcm]
   ·simp -implicitDefEqProofs only [Tryz.f123,Kb,jaj,Nat.reduceLT,Nat.reduceEqDiff,Kh,Kg,reduceIte,Ys,jak,jaf,argT,resT,setT,Y0,Int.reduceEq,Int.reduceLT,Int.reduceLE,Int.reduceNeg,mb,Nat.reduceBEq,tys,stb,jaU,ja6,zv52,Va,jab,Nat.reduceAdd,Nat.reduceLeDiff,ja2,jba,ld52,Yy,h7,h6,e0,jaJ,jaI u9,c0,jn5,hP,jcD u100,jbB]
    simp [ja4,jaB,jbf,jcN,jaD,jaR,ja1,jcm]
 ·rw [Kq h4] at hP
  rw [Kp (by omega)]
  by_cases h7:(1:Int)<(s.length:Int)
  ·have h8:(((s.getD 0 0).toNat:Int)=48)=False:=eq_false (by omega)
   simp -implicitDefEqProofs only [Tryz.f123,Kb,jaj,Nat.reduceLT,Nat.reduceEqDiff,Kh,Kg,reduceIte,Ys,jak,jaf,argT,resT,setT,Y0,Int.reduceEq,Int.reduceLT,Int.reduceLE,Int.reduceNeg,mb,Nat.reduceBEq,tys,stb,jaU,ja6,zv52,Va,jab,Nat.reduceAdd,Nat.reduceLeDiff,ja2,jba,ld52,Yy,h7,h8,e0,jaJ,jaI u9,c0,jiQ,hP,jeX u100,jbB]
   simp [ja4,jaB,jbf,jcN,jaD,jaR,ja1,jcm]
  ·simp -implicitDefEqProofs only [Tryz.f123,Kb,jaj,Nat.reduceLT,Nat.reduceEqDiff,Kh,Kg,reduceIte,Ys,jak,jaf,argT,resT,setT,Y0,Int.reduceEq,Int.reduceLT,Int.reduceLE,Int.reduceNeg,mb,Nat.reduceBEq,tys,stb,jaU,ja6,zv52,Va,jab,Nat.reduceAdd,Nat.reduceLeDiff,ja2,jba,ld52,Yy,h7,e0,jaJ,jaI u9,c0,jiQ,hP,jeX u100,jbB]
   simp [ja4,jaB,jbf,jcN,jaD,jaR,ja1,jcm]
theorem jv0:env.P.funcs[155]? = some Tryz.f155:=by kernel_rfl
theorem jv1:env.P.funcs[121]? = some Tryz.f121:=by kernel_rfl
theorem u87:env.P.underlying 80=some (.int .i64):=by kernel_rfl
theorem u134:env.P.underlying 139=some (.slice 80):=by kernel_rfl
theorem s87:sz env 80=some 1:=by kernel_rfl
theorem jhJ (k:IntKind):∀ ws:List Int,V.closed.closedL (ws.map (V.int k))=true
 | []=>rfl
 | w::ws=>by simp only [Je,V.closed.closedL,V.closed,Xe]; exact jhJ k ws
theorem jcW (h:List AObj)(p:V):jbC env h 80 p=(jas h 1 p).bind (·[0]?):=jbd (by kernel_rfl)
def jfr (ws:List Int)(s:Int):Nat→Nat→Int
 | 0,_ => -1
 | m+1,i=>if s=ws.getD i 0 then i else jfr ws s m (i+1)
theorem jjV (ws:List Int)(s:Int):∀ m i,0≤jfr ws s m i↔∃ j,i≤j∧j<i+m∧s=ws.getD j 0
  | 0, i => by simp only [jfr]; constructor
               · intro h; omega
               · rintro ⟨j,h1,h2,_⟩; omega
  | m+1,i=>by
    simp only [jfr]
    by_cases h:s=ws.getD i 0
    · rw [Kp h]
      exact ⟨fun _=>⟨i,by omega,by omega,h⟩,fun _=>by omega⟩
    · rw [Kq h,jjV ws s m (i+1)]
      constructor
      · rintro ⟨j,h1,h2,h3⟩; exact ⟨j,by omega,by omega,h3⟩
      · rintro ⟨j,h1,h2,h3⟩
        refine ⟨j,?_,by omega,h3⟩
        rcases K7 i j with h4 | h4
        · omega
        · have:j=i:=by omega
          subst this; exact absurd h3 h
theorem joK (ws:List Int)(s:Int):0≤jfr ws s ws.length 0↔s∈ws:=by
 rw [jjV]
 constructor
 ·rintro ⟨j,_,h2,rfl⟩
  have h2:j<ws.length:=by omega
  simp [List.getD,h2]
 ·intro h
  obtain ⟨j,hj,rfl⟩:=Jk.1 h
  exact ⟨j,by omega,by omega,by simp [List.getD,hj]⟩
theorem jiR (ws:List Int)(c:RCap)(hc:∀ k e s,c ≠ .tok k e s):(V.row (ws.map (V.int .i64)) ws.length c).closed=true:=by
 simp only [V.closed,jhJ,Bool.and_true]
theorem jiS (ws:List Int)(c:RCap)(hc:∀ k e s,c ≠ .tok k e s)(hl:ws.length≤1000)(s:Int)(σ:S):jaC env (ev env) 155 [.row (ws.map (V.int .i64)) ws.length c,.int .i64 s] σ=some (.int .i64 (jfr ws s ws.length 0),σ):=by
 refine jaF rfl rfl (by rw [J1,jiR ws c hc]; rfl) jv0 rfl (by simp [Tryz.f155]) (by simp [Tryz.f155]) (jaE ?_) σ
 simp -implicitDefEqProofs only [Tryz.f155,Kb,jaj,Nat.reduceLT,Nat.reduceEqDiff,Kh,Kg,reduceIte,Ys,jak,jaf,argT,resT,setT,Y0,Int.reduceEq,Int.reduceLT,Int.reduceLE,Int.reduceNeg,mb,Nat.reduceBEq,tys,stb,u134]
 refine jcf (fun m T D σ=>D=[]∧σ=S.empty∧T 0=.row (ws.map (V.int .i64)) ws.length c∧T 1=.int .i64 s∧T 7=.int .i64 ws.length∧∃ i:Nat,T 8=.int .i64 i∧i≤ws.length∧m=ws.length - i∧jfr ws s ws.length 0=jfr ws s (ws.length - i) i) ?_ _ _ _ _ ⟨rfl,rfl,rfl,rfl,rfl,0,rfl,by omega,rfl,rfl⟩
 rintro m T D σ ⟨rfl,rfl,t0,t1,t7,i,t8,hi,rfl,hf⟩
 refine jaE ?_
 by_cases hlt:i<ws.length
 ·have c1:(i:Int)<(ws.length:Int):=by omega
  have e1:IntKind.i64.wrap ((i:Int)+1)=((i+1:Nat):Int):=by rw [wrap_i64 (by omega) (by omega)]; omega
  have c2:(0:Int)≤(i:Int)∧(i:Int)<(ws.length:Int):=by omega
  obtain ⟨q,hq⟩:∃ q,ws.length - i=q+1:=⟨ws.length - i - 1,by omega⟩
  have hq2:q=ws.length - (i+1):=by omega
  have hstep:jfr ws s (ws.length - i) i=if s=ws.getD i 0 then (i:Int) else jfr ws s q (i+1):=by rw [hq]; rfl
  rw [hstep] at hf
  by_cases hn:s=ws.getD i 0
  ·rw [Kp hn] at hf
   simp -implicitDefEqProofs only [Kb,jaj,Nat.reduceLT,Nat.reduceEqDiff,Kh,Kg,reduceIte,Ys,jak,jaf,argT,resT,setT,Y0,Int.reduceEq,Int.reduceLT,Int.reduceLE,Int.reduceNeg,mb,Nat.reduceBEq,tys,stb,t0,t1,t7,t8,c1,c2,e1,jcW,u87,u134,s87,Y0,hlt,Yf,← hn]
   simp only [ja4,jaB,ja1,hf]
  ·rw [Kq hn,hq2] at hf
   simp -implicitDefEqProofs only [Kb,jaj,Nat.reduceLT,Nat.reduceEqDiff,Kh,Kg,reduceIte,Ys,jak,jaf,argT,resT,setT,Y0,Int.reduceEq,Int.reduceLT,Int.reduceLE,Int.reduceNeg,mb,Nat.reduceBEq,tys,stb,t0,t1,t7,t8,c1,c2,e1,jcW,u87,u134,s87,Y0,hlt,Yf,hn]
   exact ⟨ws.length - (i+1),by omega,i+1,rfl,by omega,rfl,hf⟩
 ·have hi2:i=ws.length:=by omega
  subst hi2
  have c1:¬ (ws.length:Int)<(ws.length:Int):=by omega
  rw [Vb] at hf
  simp -implicitDefEqProofs only [Kb,jaj,Nat.reduceLT,Nat.reduceEqDiff,Kh,Kg,reduceIte,Ys,jak,jaf,argT,resT,setT,Y0,Int.reduceEq,Int.reduceLT,Int.reduceLE,Int.reduceNeg,mb,Nat.reduceBEq,tys,stb,t0,t1,t7,t8,c1]
  simp only [ja4,jaB,ja1,hf]; rfl
theorem jfY (ws:List Int)(c:RCap)(hc:∀ k e s,c ≠ .tok k e s)(hl:ws.length≤1000)(s:Int)(σ:S):jaC env (ev env) 121 [.row (ws.map (V.int .i64)) ws.length c,.int .i64 s] σ=some (.bool (decide (s∈ws)),σ):=by
 refine jaF rfl rfl (by rw [J1,jiR ws c hc]; rfl) jv1 rfl (by simp [Tryz.f121]) (by simp [Tryz.f121]) (jaE ?_) σ
 have hk:=joK ws s
 by_cases h:s∈ws
 ·have c0:=hk.2 h
  simp -implicitDefEqProofs only [Tryz.f121,Kb,jaj,Nat.reduceLT,Nat.reduceEqDiff,Kh,Kg,reduceIte,Ys,jak,jaf,argT,resT,setT,Y0,Int.reduceEq,Int.reduceLT,Int.reduceLE,Int.reduceNeg,mb,Nat.reduceBEq,tys,stb,jiS ws c hc hl,c0]
  simp only [ja4,jaB,jbl,h,decide_true]
 ·have c0:¬ 0≤jfr ws s ws.length 0:=fun q=>h (hk.1 q)
  simp -implicitDefEqProofs only [Tryz.f121,Kb,jaj,Nat.reduceLT,Nat.reduceEqDiff,Kh,Kg,reduceIte,Ys,jak,jaf,argT,resT,setT,Y0,Int.reduceEq,Int.reduceLT,Int.reduceLE,Int.reduceNeg,mb,Nat.reduceBEq,tys,stb,jiS ws c hc hl,c0]
  simp only [ja4,jaB,jbl,h,decide_false]
def clsN (c:Nat):Int:=if 97≤c∧c≤122 then 2 else if 48≤c∧c≤57 then 3 else if c=32 then 1 else if c=95 then 4 else if c=39 then 5 else 0
def clsL:List Int:=(List.range 256).map clsN
theorem jlF (σ:S):jaC env (ev env) 42 [] σ=some (.agg (clsL.map (V.int .i64)),σ):=jhf rfl rfl rfl (k:=2000) (by rw [← jiu]; kernel_rfl) σ
end Go.Proofs.YtpclebdkhpapjaaGreatDoor.T
