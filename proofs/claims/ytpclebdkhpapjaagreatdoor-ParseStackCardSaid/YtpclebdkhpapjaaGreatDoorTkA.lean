/- Proved here: numbers and words of the scanner. Conditions: those of each theorem; no statement of the seat is proved in this text. -/
import Derived.Test.YtpclebdkhpapjaaGreatDoorPpA
import Derived.Test.YtpclebdkhpapjaaGreatDoorRows
set_option linter.unusedSimpArgs false
set_option linter.unusedVariables false
set_option linter.unusedSectionVars false
namespace Go.Proofs.YtpclebdkhpapjaaGreatDoor
open Go.Ab
set_option maxHeartbeats 8000000
set_option maxRecDepth 1000000
def asciiV (s:String):V:=.str (s.toList.map fun c=>UInt8.ofNat c.toNat)
def jok:List V:=["above","and","batch","between","bits","by","consistent","count","else","factor","from","histogram","identity","if","join","keep","late","limit","mode","none","not","of","on","or","peak","prefix","quantile","running","sum","then","total","tree","using","where","with"].map asciiV
def jjJ:List V:=[1,10,100,1000,10000,100000,1000000,10000000,100000000,1000000000,10000000000,100000000000,1000000000000,10000000000000,100000000000000,1000000000000000,10000000000000000,100000000000000000,1000000000000000000,10000000000000000000].map fun n=>V.int .u64 n
def glV (g:Nat):Option V :=
 match g with
 | 0=>some (.rptr jok)
 | 1=>some (.rptr jjJ)
 | 2=>some (.rptr [.any])
 | 3=>some (.rptr [.any])
 | _=>none
def memN (f:Nat):List Nat→Bool
 | []=>false
 | g::r=>match Nat.beq f g with
  | true=>true
  | false=>memN f r
theorem jpG {g:Nat}{v:V}(h:glV g=some v):(g=0∧v=.rptr jok)∨(g=1∧v=.rptr jjJ)∨(g=2∧v=.rptr [.any])∨(g=3∧v=.rptr [.any]):=by
 unfold glV at h
 split at h
 ·simp at h; exact .inl ⟨rfl,h.symm⟩
 ·simp at h; exact .inr (.inl ⟨rfl,h.symm⟩)
 ·simp at h; exact .inr (.inr (.inl ⟨rfl,h.symm⟩))
 ·simp at h; exact .inr (.inr (.inr ⟨rfl,h.symm⟩))
 ·simp at h
theorem jkZ (g:Nat)(v:V)(h:glV g=some v):v.closed=true:=by
 rcases jpG h with ⟨_,rfl⟩ | ⟨_,rfl⟩ | ⟨_,rfl⟩ | ⟨_,rfl⟩ <;> kernel_rfl
theorem gl_ok {E:Env}(hE:E.gl=glV)(hP:E.P=Tryz.prog){W:World}{l:List (String × DataW Unit)}(h:laidMetH Tryz.prog l W)(hp:(l.all fun x=>x.2.handleName?.isNone)=true)(m0:("privhouse/schema.reserved",Rows.laid_privhouse_schema_reserved)∈l)
  (m3:("internal/strconv.uint64pow10",Rows.laid_internal_strconv_uint64pow10)∈l) (m1:("strconv.ErrSyntax",Rows.laid_strconv_ErrSyntax)∈l) (m2:("strconv.ErrRange",Rows.laid_strconv_ErrRange)∈l):GOK E (Ctx.top W):=by
 obtain ⟨P,p,m,gl⟩:=E
 simp only at hE hP
 subst hE hP
 intro g v hv
 rcases jpG hv with ⟨rfl,rfl⟩ | ⟨rfl,rfl⟩ | ⟨rfl,rfl⟩ | ⟨rfl,rfl⟩
 ·exact jgb (k:=5) h hp m0 (g:=0) (t:=171) (by kernel_rfl) (by kernel_rfl) (by kernel_rfl)
 ·exact jgb (k:=5) h hp m3 (g:=1) (t:=197) (by kernel_rfl) (by kernel_rfl) (by kernel_rfl)
 ·exact jgb (k:=5) h hp m1 (g:=2) (t:=93) (by kernel_rfl) (by kernel_rfl) (by kernel_rfl)
 ·exact jgb (k:=5) h hp m2 (g:=3) (t:=93) (by kernel_rfl) (by kernel_rfl) (by kernel_rfl)
end Go.Proofs.YtpclebdkhpapjaaGreatDoor
namespace Go.Proofs.YtpclebdkhpapjaaGreatDoor.T
open Go.Ab
set_option maxHeartbeats 8000000
set_option maxRecDepth 100000
def jjK:List Nat:=[141,122,21,159,146,44,87,126,19,121,155,124,109,158,185,186,215,145,29,68,103,104,105,106,107,108,110,123,157,184,176,214,175,224,42,14,8]
def jxc (f:FuncId):Option (List V→Option V):=match Nat.beq f 127 with | true=>some jo1 | false=>none
noncomputable def env:Env:={ P:=Tryz.prog,pure:=fun f=>memN f jjK,mutb:=fun f _=>f == 45 || f == 46 || f == 224,gl:=glV,hook:=jxc,stab:=fun f r=>(f == 19 && r == 9) || (f == 68 && r == 28) }
theorem env_ok:env.Ok :=
  { mixed:=by kernel_rfl
    glc:=jkZ
    hook:=fun f g h=>by
      simp only [env,jxc] at h
      split at h
      · rename_i hf
        have e:=Qw hf
        subst e
        simp only [Kg] at h
        subst h
        exact jmw (E:=env) (fn:=Tryz.f127) Tryz.func127 (by kernel_rfl) (by kernel_rfl) (by kernel_rfl) rfl
      · simp at h }
end Go.Proofs.YtpclebdkhpapjaaGreatDoor.T
namespace Go.Proofs.YtpclebdkhpapjaaGreatDoor.T.N
open Go.Ab
set_option maxHeartbeats 8000000
set_option maxRecDepth 100000
theorem u3:env.P.underlying 3=some (.int .i64):=by kernel_rfl
theorem u4:env.P.underlying 4=some .bool:=by kernel_rfl
theorem u5:env.P.underlying 5=some (.int .u8):=by kernel_rfl
theorem u9:env.P.underlying 9=some .string:=by kernel_rfl
theorem u24:env.P.underlying 107=some (.slice 9):=by kernel_rfl
theorem u72:env.P.underlying 171=some (.array 35 9):=by kernel_rfl
theorem u115:env.P.underlying 194=some (.int .u64):=by kernel_rfl
theorem s9:sz env 9=some 1:=by kernel_rfl
theorem s24:sz env 107=some 1:=by kernel_rfl
theorem s3:sz env 3=some 1:=by kernel_rfl
theorem g9:aggT env 9=some false:=by kernel_rfl
theorem g24:aggT env 107=some false:=by kernel_rfl
theorem g3:aggT env 3=some false:=by kernel_rfl
theorem tys:env.P.underlying 3=some (.int .i64)∧env.P.underlying 4=some .bool∧env.P.underlying 5=some (.int .u8)∧env.P.underlying 9=some .string∧env.P.underlying 107=some (.slice 9)∧env.P.underlying 194=some (.int .u64)∧sz env 9=some 1∧sz env 107=some 1∧sz env 3=some 1 ∧
  (∀ h p,jbj env h 9 p=(jai h 1 p).bind (·[0]?))∧(∀ h p,jbj env h 107 p=(jai h 1 p).bind (·[0]?))∧(∀ h p,jbj env h 3 p=(jai h 1 p).bind (·[0]?)) :=
 ⟨u3,u4,u5,u9,u24,u115,s9,s24,s3,fun _ _=>jaX g9,fun _ _=>jaX g24,fun _ _=>jaX g3⟩
theorem mb (f:FuncId)(r:Nat)(h:(f == 45 || f == 46 || f == 224)=false):env.mutb f r=false:=h
theorem stb (f:FuncId)(r:Nat)(h:(f == 19 && r == 9 || f == 68 && r == 28)=false):env.stab f r=false:=h
theorem Ke:type_of% (Kf @mb (Kf @stb @tys)):=Kf @mb (Kf @stb @tys)
theorem jyF:env.P.funcs[215]? = some Tryz.f215:=by kernel_rfl
theorem jyG:env.P.funcs[186]? = some Tryz.f186:=by kernel_rfl
theorem jyH:env.P.funcs[185]? = some Tryz.f185:=by kernel_rfl
theorem jyI:env.P.funcs[158]? = some Tryz.f158:=by kernel_rfl
theorem jyJ:env.P.funcs[124]? = some Tryz.f124:=by kernel_rfl
theorem jtH (s:List UInt8)(σ:S):jas env (ev env) 215 [.str s] σ=some (.bool false,σ):=by
 refine jav rfl rfl rfl jyF rfl (by simp [Tryz.f215]) (by simp [Tryz.f215]) (jar ?_) σ
 simp only [Tryz.f215,Ka,Nat.reduceLT,Nat.reduceEqDiff,Ks,Kr,reduceIte,Ys,Y0,Int.reduceEq,Int.reduceLT,Int.reduceLE,Int.reduceNeg,mb,Nat.reduceBEq,tys,stb,Vq,jad]
 simp [jaZ,jay,jbl]
theorem jjL (s:List UInt8)(σ:S):jas env (ev env) 186 [.str s] σ=some (.bool false,σ):=by
 refine jav rfl rfl rfl jyG rfl (by simp [Tryz.f186]) (by simp [Tryz.f186]) (jar ?_) σ
 simp only [Tryz.f186,Ka,Nat.reduceLT,Nat.reduceEqDiff,Ks,Kr,reduceIte,Ys,Y0,Int.reduceEq,Int.reduceLT,Int.reduceLE,Int.reduceNeg,mb,Nat.reduceBEq,tys,stb,Vq,jad]
 simp [jaZ,jay,jbl]
theorem jmV (a b:List UInt8)(σ:S):jas env (ev env) 185 [.str a,.str b] σ=some (.bool (Op.bytesLess a b),σ):=by
 refine jav rfl rfl rfl jyH rfl (by simp [Tryz.f185]) (by simp [Tryz.f185]) (jar ?_) σ
 cases h:Op.bytesLess a b <;>
 ·simp only [Tryz.f185,Ka,Nat.reduceLT,Nat.reduceEqDiff,Ks,Kr,reduceIte,Ys,Y0,Int.reduceEq,Int.reduceLT,Int.reduceLE,Int.reduceNeg,mb,Nat.reduceBEq,tys,stb,Vq,jmA,jtH,h]
  simp [jaZ,jay,jbl]
theorem jh8:∀ {a b c:List UInt8},Op.bytesLess a b=true→Op.bytesLess b c=true→Op.bytesLess a c=true
 | _,[],_,h,_=>by simp [Op.bytesLess] at h
 | _,_::_,[],_,h=>by simp [Op.bytesLess] at h
 | [],y::b,z::c,_,_=>rfl
 | x::a,y::b,z::c,h,k=>by
  simp only [Op.bytesLess,Q0,K6,Qv,beq_iff_eq] at h k ⊢
  rcases h with h | ⟨rfl,h⟩
  ·rcases k with k | ⟨rfl,k⟩
   ·exact .inl (UInt8.lt_trans h k)
   ·exact .inl h
  ·rcases k with k | ⟨rfl,k⟩
   ·exact .inl k
   ·exact .inr ⟨rfl,jh8 h k⟩
def jsk (ws:List (List UInt8)):Prop:=∀ i j,i<j→j<ws.length→Op.bytesLess (ws.getD i []) (ws.getD j [])=true
theorem jtI {ws:List (List UInt8)}{s:List UInt8}{lo:Nat}(hl:lo≤ws.length)(h1:∀ i,i<lo→Op.bytesLess (ws.getD i []) s=true)(h2:∀ i,lo≤i→i<ws.length→Op.bytesLess (ws.getD i []) s=false) :
  ws.countP (fun w=>Op.bytesLess w s)=lo:=by
 have e:ws=ws.take lo++ws.drop lo:=(J4 lo ws).symm
 rw [e,List.countP_append]
 have a1:(ws.take lo).countP (fun w=>Op.bytesLess w s)=(ws.take lo).length:=by
  rw [List.countP_eq_length]
  intro w hw
  obtain ⟨i,hi,rfl⟩:=Jp.1 hw
  have:=h1 i (by simp at hi; omega)
  have hi2:i<ws.length:=by simp at hi; omega
  simpa [List.getD,hi2] using this
 have a2:(ws.drop lo).countP (fun w=>Op.bytesLess w s)=0:=by
  rw [List.countP_eq_zero]
  intro w hw
  obtain ⟨i,hi,rfl⟩:=Jp.1 hw
  have hi2:lo+i<ws.length:=by simp at hi; omega
  have:=h2 (lo+i) (by omega) hi2
  simpa [List.getD,hi2] using this
 rw [a1,a2]
 simp; omega
theorem jxd {ws:List (List UInt8)}{s:List UInt8}{lo:Nat}(hr:jsk ws)(h1:∀ i,i<lo→Op.bytesLess (ws.getD i []) s=true)(h2:∀ i,lo≤i→i<ws.length→Op.bytesLess (ws.getD i []) s=false) :
  (s∈ws)↔(lo<ws.length∧ws.getD lo []=s):=by
 constructor
 ·intro hm
  obtain ⟨k,hk,rfl⟩:=Jp.1 hm
  have ek:ws.getD k []=ws[k]:=by simp [List.getD,hk]
  have hlo:lo≤k:=by
   rcases Qf k lo with h | h
   ·have:=h1 k h; rw [ek,jmC] at this; simp at this
   ·exact h
  rcases Qf lo k with h | h
  ·have:=hr lo k h hk
   rw [ek,h2 lo (Ky _) (by omega)] at this; simp at this
  ·have:lo=k:=by omega
   subst this
   exact ⟨hk,ek⟩
 ·rintro ⟨h,rfl⟩
  simp [List.getD,h]
theorem jol (ws:List (List UInt8))(hw:ws.length<2 ^ 40)(hr:jsk ws)(s:List UInt8)(σ:S) :
  jas env (ev env) 158 [.row (ws.map V.str) ws.length .full,.str s] σ=some (.tup [.int .i64 (ws.countP (fun w=>Op.bytesLess w s):Nat),.bool (decide (s∈ws))],σ):=by
 refine jav rfl rfl (by simp [V.closed,jgL]) jyI rfl (by simp [Tryz.f158]) (by simp [Tryz.f158]) (jar ?_) σ
 simp only [Tryz.f158,Ka,Nat.reduceLT,Nat.reduceEqDiff,Ks,Kr,reduceIte,Ys,Y0,Int.reduceEq,Int.reduceLT,Int.reduceLE,Int.reduceNeg,mb,Nat.reduceBEq,tys,stb,Vq,jmA,jac]
 refine jbu (fun m T D σ=>D=[]∧σ=S.empty∧T 0=.row (ws.map V.str) ws.length .full∧T 1=.str s∧T 6=.int .i64 ws.length∧∃ lo hi:Nat,T 7=.int .i64 lo∧T 8=.int .i64 hi∧lo≤hi∧hi≤ws.length∧m=hi - lo ∧
  (∀ i,i<lo→Op.bytesLess (ws.getD i []) s=true)∧(∀ i,hi≤i→i<ws.length→Op.bytesLess (ws.getD i []) s=false)) ?_ _ _ _ _ ⟨rfl,rfl,rfl,rfl,rfl,0,ws.length,rfl,rfl,by omega,by omega,rfl,fun i h=>by omega,fun i h1 h2=>by omega⟩
 rintro m T D σ ⟨rfl,rfl,t0,t1,t6,lo,hi,t7,t8,h1,h2,rfl,i1,i2⟩
 refine jar ?_
 by_cases hlt:lo<hi
 ·have c1:(lo:Int)<(hi:Int):=by omega
  have e1:IntKind.i64.wrap ((lo:Int)+(hi:Int))=((lo+hi:Nat):Int):=by rw [wrap_i64 (by omega) (by omega)]; omega
  have e2:IntKind.u64.wrap (((lo+hi:Nat):Int))=((lo+hi:Nat):Int):=by rw [IntKind.wrap_u64]; omega
  have e3:((lo+hi:Nat):Int).fdiv (2 ^ min (Int.toNat 1) IntKind.u64.bits)=(((lo+hi) / 2:Nat):Int):=by
   rw [show min (Int.toNat 1) IntKind.u64.bits=1 from by decide]
   rw [Vs _ (by omega)]; omega
  have e4:IntKind.i64.wrap ((((lo+hi) / 2:Nat):Int))=(((lo+hi) / 2:Nat):Int):=by rw [wrap_i64 (by omega) (by omega)]
  have c2:(lo+hi) / 2<ws.length:=by omega
  have e5:IntKind.i64.wrap ((((lo+hi) / 2:Nat):Int)+1)=(((lo+hi) / 2+1:Nat):Int):=by rw [wrap_i64 (by omega) (by omega)]; omega
  have e6:¬ ((1:Int)<0):=by omega
  cases hb:Op.bytesLess (ws.getD ((lo+hi) / 2) []) s with
  | true =>
   simp only [Ka,Nat.reduceLT,Nat.reduceEqDiff,Ks,Kr,reduceIte,Ys,Y0,Int.reduceEq,Int.reduceLT,Int.reduceLE,Int.reduceNeg,mb,Nat.reduceBEq,tys,stb,Vq,t0,t1,t6,t7,t8,c1,e1,e2,e3,e4,e5,e6,jd3,c2,jmV,hb,jdp]
   refine ⟨⟨by omega,by omega⟩,hi - ((lo+hi) / 2+1),by omega,(lo+hi) / 2+1,hi,rfl,rfl,by omega,by omega,rfl,fun i hi' => ?_,i2⟩
   rcases Qf i ((lo+hi) / 2) with h | h
   ·exact jh8 (hr i _ h c2) hb
   ·have:i=(lo+hi) / 2:=by omega
    subst this; exact hb
  | false =>
   simp only [Ka,Nat.reduceLT,Nat.reduceEqDiff,Ks,Kr,reduceIte,Ys,Y0,Int.reduceEq,Int.reduceLT,Int.reduceLE,Int.reduceNeg,mb,Nat.reduceBEq,tys,stb,Vq,t0,t1,t6,t7,t8,c1,e1,e2,e3,e4,e5,e6,jd3,c2,jmV,hb,jdp]
   refine ⟨⟨by omega,by omega⟩,(lo+hi) / 2 - lo,by omega,lo,(lo+hi) / 2,rfl,rfl,by omega,by omega,rfl,i1,fun i h3 h4 => ?_⟩
   rcases Qf ((lo+hi) / 2) i with h | h
   ·cases hc:Op.bytesLess (ws.getD i []) s with
    | false=>rfl
    | true =>
     have:=jh8 (hr _ i h h4) hc
     rw [hb] at this; simp at this
   ·have:i=(lo+hi) / 2:=by omega
    subst this; exact hb
 ·have he:hi=lo:=by omega
  obtain rfl:lo=hi:=he.symm
  have c1:¬ (lo:Int)<(lo:Int):=by omega
  have hcnt:=jtI h2 i1 i2
  have hmem:=jxd hr i1 i2
  by_cases c3:lo<ws.length
  ·have c4:(lo:Int)<(ws.length:Int):=by omega
   have c6:(0:Int)≤(lo:Int)∧(lo:Int)<(ws.length:Int):=by omega
   by_cases c5:ws.getD lo []=s
   ·have hm:s∈ws:=hmem.2 ⟨c3,c5⟩
    simp only [Ka,Nat.reduceLT,Nat.reduceEqDiff,Ks,Kr,reduceIte,Ys,Y0,Int.reduceEq,Int.reduceLT,Int.reduceLE,Int.reduceNeg,mb,Nat.reduceBEq,tys,stb,Vq,t0,t1,t6,t7,t8,c1,c4,c6,jd3,c3,c5,jac,jjL]
    simp [jaZ,jay,ja6,jaz,jaF,jaW,jbl,hcnt,hm]
   ·have hm:¬ s∈ws:=fun h=>c5 (hmem.1 h).2
    simp only [Ka,Nat.reduceLT,Nat.reduceEqDiff,Ks,Kr,reduceIte,Ys,Y0,Int.reduceEq,Int.reduceLT,Int.reduceLE,Int.reduceNeg,mb,Nat.reduceBEq,tys,stb,Vq,t0,t1,t6,t7,t8,c1,c4,c6,jd3,c3,c5,jac,jjL]
    simp [jaZ,jay,ja6,jaz,jaF,jaW,jbl,hcnt,hm]
  ·have c4:¬ (lo:Int)<(ws.length:Int):=by omega
   have hm:¬ s∈ws:=fun h=>c3 (hmem.1 h).1
   simp only [Ka,Nat.reduceLT,Nat.reduceEqDiff,Ks,Kr,reduceIte,Ys,Y0,Int.reduceEq,Int.reduceLT,Int.reduceLE,Int.reduceNeg,mb,Nat.reduceBEq,tys,stb,Vq,t0,t1,t6,t7,t8,c1,c4,jd3,c3,jac,jjL]
   simp [jaZ,jay,ja6,jaz,jaF,jaW,jbl,hcnt,hm]
def okC (c:UInt8):Prop:=(97≤c.toNat∧c.toNat≤122)∨(48≤c.toNat∧c.toNat≤57)∨c.toNat=95
instance (c:UInt8):Decidable (okC c):=by unfold okC; infer_instance
def wordsW:List (List UInt8):=["above","and","batch","between","bits","by","consistent","count","else","factor","from","histogram","identity","if","join","keep","late","limit","mode","none","not","of","on","or","peak","prefix","quantile","running","sum","then","total","tree","using","where","with"].map fun s=>s.toList.map fun c=>UInt8.ofNat c.toNat
theorem resV_words:jok=wordsW.map V.str:=by kernel_rfl
theorem words_len:wordsW.length=35:=by kernel_rfl
def jsl (ws:List (List UInt8)):Bool:=(List.range ws.length).all fun j=>(List.range j).all fun i=>Op.bytesLess (ws.getD i []) (ws.getD j [])
theorem jmW:jsk wordsW:=by
 have h:jsl wordsW=true:=by kernel_rfl
 intro i j hij hj
 unfold jsl at h
 rw [K2] at h
 have h1:=h j (by simpa using hj)
 rw [K2] at h1
 exact h1 i (by simpa using hij)
def IsName (s:List UInt8):Prop:=1≤s.length∧s.length≤20∧97≤(s.getD 0 0).toNat∧(s.getD 0 0).toNat≤122∧(∀ i,i<s.length→okC (s.getD i 0))∧s ∉ wordsW
instance (s:List UInt8):Decidable (IsName s):=by unfold IsName; infer_instance
theorem jvX:jbT env 171 (.rptr jok) none none none=some (.row (wordsW.map V.str) wordsW.length .full):=by
 rw [resV_words,words_len]
 exact jrJ u72 s9 (by rw [J3,words_len])
theorem name_call (s:List UInt8)(hs:s.length<2 ^ 63)(σ:S):jas env (ev env) 124 [.str s] σ=some (.bool (decide (IsName s)),σ):=by
 refine jav rfl rfl rfl jyJ rfl (by simp [Tryz.f124]) (by simp [Tryz.f124]) (jar ?_) σ
 by_cases h1:(s.length:Int)<1
 ·have hn:¬ IsName s:=fun h=>by have:=h.1; omega
  simp only [Tryz.f124,Ka,simprocAttr,Ys,Y0,Ke,Vq,h1,jaK,jaG,jaE u9]
  simp [jaZ,jay,jbl,hn]
 by_cases h2:(20:Int)<(s.length:Int)
 ·have hn:¬ IsName s:=fun h=>by have:=h.2.1; omega
  simp only [Tryz.f124,Ka,simprocAttr,Ys,Y0,Ke,Vq,h1,h2,jaK,jaG,jaE u9]
  simp [jaZ,jay,jbl,hn]
 have hb:(0:Int)≤0∧(0:Int)<(s.length:Int):=by omega
 have e0:Int.toNat 0=0:=rfl
 by_cases h3:(((s.getD 0 0).toNat:Nat):Int)<97
 ·have hn:¬ IsName s:=fun h=>by have:=h.2.2.1; omega
  simp only [Tryz.f124,Ka,simprocAttr,Ys,Y0,Ke,Vq,h1,h2,h3,jaK,jaG,jaE u9,hb]
  simp [jaZ,jay,jbl,hn]
 by_cases h4:(122:Int)<(((s.getD 0 0).toNat:Nat):Int)
 ·have hn:¬ IsName s:=fun h=>by have:=h.2.2.2.1; omega
  simp only [Tryz.f124,Ka,simprocAttr,Ys,Y0,Ke,Vq,h1,h2,h3,h4,jaK,jaG,jaE u9,hb]
  simp [jaZ,jay,jbl,hn]
 simp only [Tryz.f124,Ka,simprocAttr,Ys,Y0,Ke,Vq,h1,h2,h3,h4,jaK,jaG,jaE u9,hb]
 refine jbu (fun m T D σ=>D=[]∧σ=S.empty∧T 0=.str s∧T 26=.int .i64 s.length∧∃ i:Nat,T 27=.int .i64 i∧i≤s.length∧m=s.length - i∧∀ j,j<i→okC (s.getD j 0)) ?_ _ _ _ _ ⟨rfl,rfl,rfl,rfl,0,rfl,by omega,rfl,fun j h=>by omega⟩
 rintro m T D σ ⟨rfl,rfl,t0,t26,i,t27,hi,rfl,hok⟩
 refine jar ?_
 by_cases hlt:i<s.length
 ·have c1:(i:Int)<(s.length:Int):=by omega
  have c2:(0:Int)≤(i:Int)∧(i:Int)<(s.length:Int):=by omega
  have e1:IntKind.i64.wrap ((i:Int)+1)=((i+1:Nat):Int):=by rw [wrap_i64 (by omega) (by omega)]; omega
  have hstep:okC (s.getD i 0)→∀ j,j<i+1→okC (s.getD j 0):=fun h j hj=>by
   rcases Qf j i with h2 | h2
   ·exact hok j h2
   ·have:j=i:=by omega
    subst this; exact h
  have hbad:¬ okC (s.getD i 0)→¬ IsName s:=fun h hn=>h (hn.2.2.2.2.1 i hlt)
  have hun:okC (s.getD i 0)↔((97≤(s.getD i 0).toNat∧(s.getD i 0).toNat≤122)∨(48≤(s.getD i 0).toNat∧(s.getD i 0).toNat≤57)∨(s.getD i 0).toNat=95):=Iff.rfl
  simp only [Ka,simprocAttr,Ys,Y0,Ke,Vq,t0,t26,t27,c1,e1,jaK,jaG,jaE u9,c2,K3]
  generalize (s.getD i 0)=c at *
  have inv:okC c→∃ m',m'<s.length - i∧∃ i_1:Nat,V.int IntKind.i64 ((i+1:Nat):Int)=V.int IntKind.i64 (i_1:Nat)∧i_1≤s.length∧m'=s.length - i_1∧∀ (j:Nat),j<i_1→okC (s.getD j 0) :=
   fun h=>⟨s.length - (i+1),by omega,i+1,rfl,by omega,rfl,hstep h⟩
  have bad:¬ okC c→jbm S.empty.heap jay (jaZ [V.bool false])=some (V.bool (decide (IsName s))):=fun h=>by
   simp [jaZ,jay,jbl,hbad h]
  repeat' (first | apply Kf | intro _)
  all_goals first | exact inv (by unfold okC; omega) | exact bad (by unfold okC; omega)
 ·have hi2:i=s.length:=by omega
  have c1:¬ (i:Int)<(s.length:Int):=by omega
  subst hi2
  have key:(s∈wordsW)=¬ IsName s:=by
   apply propext
   constructor
   ·exact fun h hn=>hn.2.2.2.2.2 h
   ·intro h
    apply Vw
    intro hm
    exact h ⟨by omega,by omega,by omega,by omega,hok,hm⟩
  simp only [Ka,simprocAttr,Ys,Y0,Ke,Vq,t0,t26,t27,c1,jaK,jba,jbb,jvX,jol wordsW (by rw [words_len]; decide) jmW,show env.gl 0=some (.rptr jok) from rfl]
  by_cases hn:IsName s
  ·have hm:¬ s∈wordsW:=hn.2.2.2.2.2
   simp [jaZ,jay,jbl,hn,hm]
  ·have hm:s∈wordsW:=by rw [key]; exact hn
   simp [jaZ,jay,jbl,hn,hm]
end Go.Proofs.YtpclebdkhpapjaaGreatDoor.T.N
namespace Go.Proofs.YtpclebdkhpapjaaGreatDoor.T
open Go.Ab
set_option maxHeartbeats 8000000
set_option maxRecDepth 100000
theorem u3:env.P.underlying 3=some (.int .i64):=by kernel_rfl
theorem u5:env.P.underlying 5=some (.int .u8):=by kernel_rfl
theorem u9:env.P.underlying 9=some .string:=by kernel_rfl
theorem u24:env.P.underlying 107=some (.slice 9):=by kernel_rfl
theorem u45:env.P.underlying 43=some (.slice 47):=by kernel_rfl
theorem u97:env.P.underlying 77=some (.slice 5):=by kernel_rfl
theorem u108:env.P.underlying 88=some (.pointer 90):=by kernel_rfl
theorem u147:env.P.underlying 147=some .unsafePointer:=by kernel_rfl
theorem tys:env.P.underlying 3=some (.int .i64)∧env.P.underlying 4=some .bool∧env.P.underlying 5=some (.int .u8)∧env.P.underlying 9=some .string∧env.P.underlying 107=some (.slice 9)∧env.P.underlying 43=some (.slice 47)∧env.P.underlying 77=some (.slice 5) ∧
  sz env 9=some 1∧sz env 107=some 1∧sz env 3=some 1∧sz env 5=some 1∧sz env 47=some 4∧sz env 77=some 1∧sz env 88=some 1∧sz env 90=some 2 ∧
  ja4 env 47 0=some 0∧ja4 env 47 1=some 1∧ja4 env 90 0=some 0∧ja4 env 90 1=some 1 ∧
  (∀ h p,jbj env h 9 p=(jai h 1 p).bind (·[0]?))∧(∀ h p,jbj env h 3 p=(jai h 1 p).bind (·[0]?))∧(∀ h p,jbj env h 77 p=(jai h 1 p).bind (·[0]?))∧(∀ h p,jbj env h 88 p=(jai h 1 p).bind (·[0]?)):=by
 have g9:aggT env 9=some false:=by kernel_rfl
 have g3:aggT env 3=some false:=by kernel_rfl
 have g97:aggT env 77=some false:=by kernel_rfl
 have g108:aggT env 88=some false:=by kernel_rfl
 exact ⟨u3,by kernel_rfl,u5,u9,u24,u45,u97,by kernel_rfl,by kernel_rfl,by kernel_rfl,by kernel_rfl,by kernel_rfl,by kernel_rfl,by kernel_rfl,by kernel_rfl,by kernel_rfl,by kernel_rfl,by kernel_rfl,by kernel_rfl,
  fun _ _=>jaX g9,fun _ _=>jaX g3,fun _ _=>jaX g97,fun _ _=>jaX g108⟩
theorem z110:jbE env 90=some (.agg [.nilptr,.nilsl]):=by kernel_rfl
theorem mb (f:FuncId)(r:Nat)(h:(f == 45 || f == 46 || f == 224)=false):env.mutb f r=false:=h
theorem stb (f:FuncId)(r:Nat)(h:(f == 19 && r == 9 || f == 68 && r == 28)=false):env.stab f r=false:=h
theorem Ke:type_of% (Kf @mb (Kf @stb @tys)):=Kf @mb (Kf @stb @tys)
theorem at88:env.P.funcs[88]? = some Tryz.f88:=by kernel_rfl
theorem at46:env.P.funcs[46]? = some Tryz.f46:=by kernel_rfl
theorem at47:env.P.funcs[47]? = some Tryz.f47:=by kernel_rfl
theorem jtJ {σ:S}{p:Nat}{o:AObj}(h:σ.heap[p]? = some o):σ.set p o=σ:=by
 obtain ⟨L,ts⟩:=σ
 simp only [S.set,S.mk.injEq,and_true]
 apply Xq
 intro i
 rw [Qu]
 split
 ·rename_i e; subst e
  simp only at h
  rw [h]
  have:=(Kz.1 h).1
  simp [this]
 ·rfl
theorem jvY {σ:S}{p:Nat}{a v:V}(h:σ.heap[p]? = some (.cells [a,v] 90)):jjq env σ 88 147 (some (.pointer 90)) (some .unsafePointer) (.ptr p 0)=some (.ptr p 0,σ):=by
 simp [jjq,jqj,jqk,jfC,h,tys]
theorem jtK:env.P.cellsOf 90=2:=by kernel_rfl
theorem jsm {σ:S}{p:Nat}{a v:V}(h:σ.heap[p]? = some (.cells [a,v] 90)):jjq env σ 147 88 (some .unsafePointer) (some (.pointer 90)) (.ptr p 0)=some (.ptr p 0,σ):=by
 simp [jjq,jqj,jqk,jfC,h,jtK]
theorem jtL (v:V)(σ:S):jas env (ev env) 127 [v] σ=some (v,σ):=rfl
theorem jsn (c:Bool):binO env 88 c .eql (some .nilptr) (some .nilptr)=some (.bool true):=by
 show jdv env 88 c .eql .nilptr .nilptr=_
 rw [jfi (by rfl),u108]; rfl
theorem jso (c:Bool)(b o:Nat):binO env 88 c .eql (some (.ptr b o)) (some .nilptr)=some (.bool false):=by
 show jdv env 88 c .eql (.ptr b o) .nilptr=_
 rw [jfi (by rfl),u108]; rfl
theorem jvZ (c:Bool)(b o:Nat):binO env 88 c .neq (some (.ptr b o)) (some (.ptr b o))=some (.bool false):=by
 show jdv env 88 c .neq (.ptr b o) (.ptr b o)=_
 unfold jdv
 rw [u108]
 show jfx env 88 .neq (.ptr b o) (.ptr b o)=_
 simp [jfx,ji0,u108,tys]
theorem jjM (b o:Nat):(V.ptr b o).cells=[.ptr b o]:=rfl
theorem jgj (b o:Nat):(V.ptr b o).isCell=true:=rfl
theorem jom (L:List AObj)(ts:List Nat)(p:Nat)(v:V)(hp:L[p]? = some (.cells [.nilptr,v] 90)):jas env (ev env) 88 [.ptr p 0] ⟨L,ts⟩=some (.tup [],⟨L.set p (.cells [.ptr p 0,v] 90),ts⟩):=by
 refine jbh rfl rfl at88 rfl (by simp [Tryz.f88]) (by simp [Tryz.f88]) (jar ?_)
 simp only [Tryz.f88,Ka,simprocAttr,Ys,Y0,Ke,Vq,jaa,jae,hp,jsn,u108,u147,jvY (σ:=⟨L,ts⟩) hp,jsm (σ:=⟨L,ts⟩) hp,jtL,jjM,jgj,Va,jab,jaZ]
theorem jon (L:List AObj)(ts:List Nat)(p:Nat)(v:V)(hp:L[p]? = some (.cells [.ptr p 0,v] 90)):jas env (ev env) 88 [.ptr p 0] ⟨L,ts⟩=some (.tup [],⟨L,ts⟩):=by
 refine jbh rfl rfl at88 rfl (by simp [Tryz.f88]) (by simp [Tryz.f88]) (jar ?_)
 simp only [Tryz.f88,Ka,simprocAttr,Ys,Y0,Ke,Vq,jaa,jae,hp,jso,jvZ,u108,u147,jjM,jgj,Va,jab,jaZ]
def Buf (h:List AObj)(p:Nat)(v:V)(s:List UInt8):Prop :=
 (v=.nilsl∧s=[])∨∃ b,v=.hsl b 0 s.length s.length (.grow 1)∧h[b]? = some (.cells (jaD s) 5)∧b ≠ p∧s ≠ []
def Bld (σ:S)(p:Nat)(s:List UInt8):Prop:=∃ a v,σ.heap[p]? = some (.cells [a,v] 90)∧((a=.nilptr∧s=[])∨a=.ptr p 0)∧Buf σ.heap p v s
def Stay (o:AObj):Prop:=(∀ cs,o ≠ .cells cs 90)∧∀ cs,o ≠ .cells cs 5
def jtM (σ σ':S):Prop:=∀ (q:Nat) (o:AObj),Stay o→σ.heap[q]? = some o→σ'.heap[q]? = some o
theorem Buf.cells {h:List AObj}{p:Nat}{v:V}{s:List UInt8}(hb:Buf h p v s):v.cells=[v]∧v.isCell=true:=by
 rcases hb with ⟨rfl,_⟩ | ⟨b,rfl,_⟩ <;> exact ⟨rfl,rfl⟩
theorem jlJ (a b:List UInt8):jaD (a++b)=jaD a++jaD b:=by simp [jaD]
theorem jbY (a:List UInt8):(jaD a).length=a.length:=by simp [jaD]
theorem jgw (a:List UInt8):(jaD a).all V.isCell=true:=by simp [jaD,V.isCell]
theorem e97:jfw env 77=some 5:=by kernel_rfl
theorem b5:bys env 5=some 1:=by kernel_rfl
theorem zn5:jj8 env 5=some 1:=by kernel_rfl
theorem jtN (L:List AObj)(ts:List Nat)(p:Nat)(v:V)(s new:List UInt8)(hb:Buf L p v s)(hn:new ≠ [])(hl:s.length+new.length≤2 ^ 30)(hpl:p<L.length) :
  ∃ L',jbN true 1 1 new.length 5 (jaD new) v ⟨L,ts⟩=some (.hsl L.length 0 (s++new).length (s++new).length (.grow 1),⟨L',ts⟩)∧L'[L.length]? = some (.cells (jaD (s++new)) 5)∧L'[p]? = L[p]? ∧
   (∀ (q:Nat) (o:AObj),Stay o→L[q]? = some o→L'[q]? = some o):=by
 have hlim:lim=2 ^ 40:=rfl
 have hn1:¬ new.length=0:=fun h=>hn (Qh h)
 rcases hb with ⟨rfl,rfl⟩ | ⟨b,rfl,hbL,hbp,hs⟩
 ·refine ⟨L++[.cells (jaD new) 5],?_,by simp,by rw [K0 hpl],fun q o _ hq=>jbR hq _⟩
  have h1:new.length * 1≤lim∧new.length≤lim:=by rw [hlim]; omega
  simp only [jbN,hn1,Kr,h1,and_self,Ks,S.push,J2]
 ·have hs1:s.length ≠ 0:=fun h=>hs (Qh h)
  have hblt:=jaT hbL
  refine ⟨(L.set b .dead)++[.cells (jaD (s++new)) 5],?_,by simp,?_,fun q o ho hq => ?_⟩
  ·have h1:¬ s.length+new.length≤s.length:=by omega
   have h2:(s.length+new.length) * 1≤lim∧s.length+new.length≤lim:=by rw [hlim]; omega
   have htk:List.take s.length (jaD s)=jaD s:=Qj (by rw [jbY]; omega)
   simp [jbN,h1,h2,jgw,hbL,jbY,htk,S.push,S.set,jlJ]
  ·rw [K0 (by simpa using hpl),Ki hbp]
  ·have hne:b ≠ q:=by rintro rfl; rw [hbL] at hq; cases hq; exact ho.2 _ rfl
   rw [K0 (by simpa using jaT hq),Ki hne]; exact hq
theorem jsp (L:List AObj)(ts:List Nat)(p:Nat)(v:V)(s new:List UInt8)(hb:Buf L p v s)(hn:new ≠ [])(hl:s.length+new.length≤2 ^ 30)(hpl:p<L.length) :
  ∃ L',appO env true ⟨L,ts⟩ 77 9 v (.str new)=some (.hsl L.length 0 (s++new).length (s++new).length (.grow 1),⟨L',ts⟩)∧L'[L.length]? = some (.cells (jaD (s++new)) 5)∧L'[p]? = L[p]? ∧
   (∀ (q:Nat) (o:AObj),Stay o→L[q]? = some o→L'[q]? = some o):=by
 obtain ⟨L',h1,h2⟩:=jtN L ts p v s new hb hn hl hpl
 refine ⟨L',?_,h2⟩
 have hv:jby L 1 new.length (.str new)=some (jaD new):=by simp [jby,jaD]
 unfold appO
 simp only [e97,tys,b5,zn5,Kk,vLen,hv,Ks]
 exact h1
theorem jtO (L:List AObj)(ts:List Nat)(p:Nat)(v:V)(s:List UInt8)(hb:Buf L p v s):appO env true ⟨L,ts⟩ 77 9 v (.str [])=some (v,⟨L,ts⟩):=by
 have hv:jby L 1 0 (.str [])=some []:=by simp [jby]
 unfold appO
 simp only [e97,tys,b5,zn5,Kk,vLen,K5,hv,Ks]
 rcases hb with ⟨rfl,rfl⟩ | ⟨b,rfl,hbL,hbp,hs⟩
 ·simp [jbN]
 ·simp [jbN]
theorem mb83 (r:Nat):env.mutb 46 r=true:=rfl
theorem jh9 (L:List AObj)(ts:List Nat)(p:Nat)(s:List UInt8)(h:Bld ⟨L,ts⟩ p s):∃ L' v,jas env (ev env) 88 [.ptr p 0] ⟨L,ts⟩=some (.tup [],⟨L',ts⟩)∧L'[p]? = some (.cells [.ptr p 0,v] 90)∧Buf L' p v s∧L'.length=L.length∧jtM ⟨L,ts⟩ ⟨L',ts⟩:=by
 obtain ⟨a,v,hp,ha,hb⟩:=h
 simp only at hp hb
 have hlt:=jaT hp
 rcases ha with ⟨rfl,rfl⟩ | rfl
 ·refine ⟨L.set p (.cells [.ptr p 0,v] 90),v,jom L ts p v hp,by simp [hlt],?_,by simp,fun q o ho hq => ?_⟩
  ·rcases hb with h | ⟨b,_,_,_,h⟩
   ·exact .inl h
   ·exact absurd rfl h
  ·have hne:p ≠ q:=by rintro rfl; simp only at hq; rw [hp] at hq; cases hq; exact ho.1 _ rfl
   simp only at hq ⊢
   rw [Ki hne]; exact hq
 ·exact ⟨L,v,jon L ts p v hp,hp,hb,rfl,fun q o ho hq=>hq⟩
theorem jhx (L:List AObj)(ts:List Nat)(p:Nat)(s new:List UInt8)(h:Bld ⟨L,ts⟩ p s)(hl:s.length+new.length≤2 ^ 30) :
  ∃ L',jas env (ev env) 46 [.ptr p 0,.str new] ⟨L,ts⟩=some (.tup [.int .i64 new.length,.nilif],⟨L',ts⟩)∧Bld ⟨L',ts⟩ p (s++new)∧jtM ⟨L,ts⟩ ⟨L',ts⟩:=by
 obtain ⟨L1,v,hc,hp,hb,hlen,hk⟩:=jh9 L ts p s h
 have hplt:=jaT hp
 by_cases hn:new=[]
 ·subst hn
  refine ⟨L1,?_,?_,hk⟩
  ·refine jbh rfl rfl at46 rfl (by simp [Tryz.f46]) (by simp [Tryz.f46]) (jar ?_)
   have hs:L1.set p (.cells [.ptr p 0,v] 90)=L1:=by
    have:=jtJ (σ:=⟨L1,ts⟩) hp
    simpa [S.set] using this
   simp only [Tryz.f46,Ka,simprocAttr,Ys,Y0,Ke,Vq,jaa,jae,hc,hp,mb83,jtO L1 ts p v s hb,Va,jab,hb.cells,jgj,jaZ,jaK,hs]
  ·rw [Qx]; exact ⟨_,v,hp,.inr rfl,hb⟩
 obtain ⟨L2,ha,h1,h2,h3⟩:=jsp L1 ts p v s new hb hn hl hplt
 have hp2:L2[p]? = some (.cells [.ptr p 0,v] 90):=by rw [h2]; exact hp
 have hp3:=jaT hp2
 have hne:L1.length ≠ p:=by omega
 refine ⟨L2.set p (.cells [.ptr p 0,.hsl L1.length 0 (s++new).length (s++new).length (.grow 1)] 90),?_,?_,?_⟩
 ·refine jbh rfl rfl at46 rfl (by simp [Tryz.f46]) (by simp [Tryz.f46]) (jar ?_)
  simp only [Tryz.f46,Ka,simprocAttr,Ys,Y0,Ke,Vq,jaa,jae,hc,hp,mb83,ha,hp2,Va,jab,jgj,jaZ,jaK]
 ·refine ⟨.ptr p 0,_,by simp [hp3],.inr rfl,.inr ⟨_,rfl,?_,hne,by simp [hn]⟩⟩
  simp only
  rw [Ki (fun e=>hne e.symm)]; exact h1
 ·intro q o ho hq
  have:=h3 q o ho (hk q o ho hq)
  have hne2:p ≠ q:=by rintro rfl; rw [hp2] at this; cases this; exact ho.1 _ rfl
  simp only
  rw [Ki hne2]; exact this
theorem jmX {m:Bool}{T:Tm}{σ:S}(x:Operand)(t:TypeId):opT env m T σ (.call ⟨.builtin .unsafeSliceData,#[x],#[t]⟩)=((jaL env T x).bind jdw).map fun v=>(v,σ):=by
 unfold opT
 simp only [jbn,jbs,jbD,jbt,Kw]
 cases jaL env T x with
 | none=>rfl
 | some v =>
  simp only [Kw,Kk]
  cases jdw v <;> rfl
noncomputable def ustr (σ:S)(pt:TypeId)(p n:V):Option (V × S) :=
 match n with
 | .int .i64 n=>jeM env pt p n σ
 | _=>none
theorem jlK {m:Bool}{T:Tm}{σ:S}(x y:Operand)(t u:TypeId):opT env m T σ (.call ⟨.builtin .unsafeString,#[x,y],#[t,u]⟩)=(jaL env T x).bind fun p=>(jaL env T y).bind fun n=>ustr σ t p n:=by
 unfold opT ustr
 simp only [jbn,jbs,jbD,jbt,Kw]
 cases jaL env T x with
 | none=>rfl
 | some v =>
  cases jaL env T y with
  | none=>rfl
  | some w=>cases w <;> first | rfl | (rename_i k n; cases k <;> rfl)
def W (l:List String):List (List UInt8):=l.map fun s=>s.toList.map fun c=>UInt8.ofNat c.toNat
def jcc:List (List UInt8):=W ["(",")","[","]","+","-","*","/",",","=","!=","<","<=",">",">=",".."]
theorem jqv (σ:S):jas env (ev env) 159 [] σ=some (.row (jcc.map V.str) 16 .unk,σ):=jd8 rfl rfl rfl (k:=20) (by rw [← jfQ]; kernel_rfl) σ
theorem jcr:∀ s:List UInt8,jcn (jaD s)=some s
 | []=>rfl
 | b::s=>by
  have h:=jcr s
  unfold jaD at h ⊢
  simp only [Ji,jcn,h,Kw,Kg,Jt,and_true]
  simp
theorem jhy:∀ s:List UInt8,jhI (jaD s)=true
 | []=>rfl
 | b::s=>by
  have h:=jhy s
  unfold jaD at h ⊢
  have hb:=b.toNat_lt
  simp only [Ji,jhI,h]
  simp
  omega
theorem u132:env.P.underlying 113=some (.pointer 5):=by kernel_rfl
theorem jxe:env.P.cellsOf 5=1:=by kernel_rfl
theorem jtP (σ:S):ustr σ 113 .nilptr (.int .i64 0)=some (.str [],σ):=rfl
theorem jpH (σ:S)(b:Nat)(s:List UInt8)(hs:s ≠ [])(hl:s.length≤2 ^ 30)(hb:σ.heap[b]? = some (.cells (jaD s) 5)):ustr σ 113 (.ptr b 0) (.int .i64 s.length)=some (.str s,σ.set b (.ro (jaD s) 5)):=by
 have h0:¬ (s.length:Int)=0:=fun h=>hs (Qh (by omega))
 have hlim:lim=2 ^ 40:=rfl
 have h1:s.length≤lim:=by rw [hlim]; omega
 have htk:List.take s.length (jaD s)=jaD s:=Qj (by rw [jbY]; omega)
 simp only [ustr,jeM,h0,Kr,hb,u132]
 simp [jxe,jbY,htk,jhy,jcr,h1]
theorem jjN (L:List AObj)(ts:List Nat)(p:Nat)(s:List UInt8)(h:Bld ⟨L,ts⟩ p s)(hl:s.length≤2 ^ 30):∃ σ',jas env (ev env) 47 [.ptr p 0] ⟨L,ts⟩=some (.str s,σ')∧jtM ⟨L,ts⟩ σ':=by
 obtain ⟨a,v,hp,ha,hb⟩:=h
 simp only at hp hb
 have hplt:=jaT hp
 rcases hb with ⟨rfl,rfl⟩ | ⟨b,rfl,hbL,hbp,hs⟩
 ·refine ⟨⟨L,ts⟩,jbh rfl rfl at47 rfl (by simp [Tryz.f47]) (by simp [Tryz.f47]) (jar ?_),fun q o _ hq=>hq⟩
  simp only [Tryz.f47,Ka,simprocAttr,Ys,Y0,Ke,Vq,jaa,jae,hp,jmX,jdw,jlK,jtP,jaZ]
  exact ⟨by kernel_rfl,trivial⟩
 ·have hs1:0<s.length:=by
   rcases Xg s.length with h | h
   ·exact absurd (Qh h) hs
   ·exact h
  refine ⟨S.set ⟨L,ts⟩ b (.ro (jaD s) 5),jbh rfl rfl at47 rfl (by simp [Tryz.f47]) (by simp [Tryz.f47]) (jar ?_),fun q o ho hq=>by
   have hne:b ≠ q:=by rintro rfl; simp only at hq; rw [hbL] at hq; cases hq; exact ho.2 _ rfl
   show (L.set b _)[q]? = _
   rw [Ki hne]; exact hq⟩
  simp only [Tryz.f47,Ka,simprocAttr,Ys,Y0,Ke,Vq,jaa,jae,hp,jmX,jdw,hs1,jrB,jlK,jpH ⟨L,ts⟩ b s hs hl hbL,jaZ]
  exact ⟨by kernel_rfl,trivial⟩
theorem jyK:env.P.funcs[126]? = some Tryz.f126:=by kernel_rfl
theorem at87:env.P.funcs[87]? = some Tryz.f87:=by kernel_rfl
theorem joo (h:List AObj)(v:V)(r:List V):(jai h 1 (.rptr (v::r))).bind (·[0]?)=some v:=by
 have:=Yz h (v::r) 0
 simpa using this
def jfW (ws:List (List UInt8))(s:List UInt8):Nat→Nat→Int
 | 0,_ => -1
 | m+1,i=>if s=ws.getD i [] then i else jfW ws s m (i+1)
theorem jk0 (ws:List (List UInt8))(s:List UInt8):∀ m i,0≤jfW ws s m i↔∃ j,i≤j∧j<i+m∧s=ws.getD j []
  | 0, i => by simp only [jfW]; constructor
               · intro h; omega
               · rintro ⟨j,h1,h2,_⟩; omega
  | m+1,i=>by
    simp only [jfW]
    by_cases h:s=ws.getD i []
    · rw [Km h]
      exact ⟨fun _=>⟨i,by omega,by omega,h⟩,fun _=>by omega⟩
    · rw [Kn h,jk0 ws s m (i+1)]
      constructor
      · rintro ⟨j,h1,h2,h3⟩; exact ⟨j,by omega,by omega,h3⟩
      · rintro ⟨j,h1,h2,h3⟩
        refine ⟨j,?_,by omega,h3⟩
        rcases Qf i j with h4 | h4
        · omega
        · have:j=i:=by omega
          subst this; exact absurd h3 h
theorem jsq (ws:List (List UInt8))(s:List UInt8):0≤jfW ws s ws.length 0↔s∈ws:=by
 rw [jk0]
 constructor
 ·rintro ⟨j,_,h2,rfl⟩
  have h2:j<ws.length:=by omega
  simp [List.getD,h2]
 ·intro h
  obtain ⟨j,hj,rfl⟩:=Jp.1 h
  exact ⟨j,by omega,by omega,by simp [List.getD,hj]⟩
theorem jk1 (ws:List (List UInt8))(c:RCap)(hc:∀ k e s,c ≠ .tok k e s):(V.row (ws.map V.str) ws.length c).closed=true:=by
 simp only [V.closed,jgL,Bool.and_true]
theorem jk2 (ws:List (List UInt8))(c:RCap)(hc:∀ k e s,c ≠ .tok k e s)(hl:ws.length≤1000)(s:List UInt8)(σ:S):jas env (ev env) 126 [.row (ws.map V.str) ws.length c,.str s] σ=some (.int .i64 (jfW ws s ws.length 0),σ):=by
 refine jav rfl rfl (by rw [Xc,jk1 ws c hc]; rfl) jyK rfl (by simp [Tryz.f126]) (by simp [Tryz.f126]) (jar ?_) σ
 simp only [Tryz.f126,Ka,simprocAttr,Ys,Y0,Ke,Vq]
 refine jbu (fun m T D σ=>D=[]∧σ=S.empty∧T 0=.row (ws.map V.str) ws.length c∧T 1=.str s∧T 7=.int .i64 ws.length∧∃ i:Nat,T 8=.int .i64 i∧i≤ws.length∧m=ws.length - i∧jfW ws s ws.length 0=jfW ws s (ws.length - i) i) ?_ _ _ _ _ ⟨rfl,rfl,rfl,rfl,rfl,0,rfl,by omega,rfl,rfl⟩
 rintro m T D σ ⟨rfl,rfl,t0,t1,t7,i,t8,hi,rfl,hf⟩
 refine jar ?_
 by_cases hlt:i<ws.length
 ·have c1:(i:Int)<(ws.length:Int):=by omega
  have e1:IntKind.i64.wrap ((i:Int)+1)=((i+1:Nat):Int):=by rw [wrap_i64 (by omega) (by omega)]; omega
  have c2:(0:Int)≤(i:Int)∧(i:Int)<(ws.length:Int):=by omega
  obtain ⟨q,hq⟩:∃ q,ws.length - i=q+1:=⟨ws.length - i - 1,by omega⟩
  have hq2:q=ws.length - (i+1):=by omega
  have hstep:jfW ws s (ws.length - i) i=if s=ws.getD i [] then (i:Int) else jfW ws s q (i+1):=by rw [hq]; rfl
  rw [hstep] at hf
  by_cases hn:s=ws.getD i []
  ·rw [Km hn] at hf
   simp only [Ka,simprocAttr,Ys,Y0,Ke,Vq,t0,t1,t7,t8,c1,c2,e1,jd3,hlt,jac,← hn]
   simp only [jaZ,jay,jaW,hf]
  ·rw [Kn hn,hq2] at hf
   simp only [Ka,simprocAttr,Ys,Y0,Ke,Vq,t0,t1,t7,t8,c1,c2,e1,jd3,hlt,jac,hn]
   exact ⟨ws.length - (i+1),by omega,i+1,rfl,by omega,rfl,hf⟩
 ·have hi2:i=ws.length:=by omega
  subst hi2
  have c1:¬ (ws.length:Int)<(ws.length:Int):=by omega
  rw [Vi] at hf
  simp only [Ka,simprocAttr,Ys,Y0,Ke,Vq,t0,t1,t7,t8,c1]
  simp only [jaZ,jay,jaW,hf]; rfl
theorem jd5 (ws:List (List UInt8))(c:RCap)(hc:∀ k e s,c ≠ .tok k e s)(hl:ws.length≤1000)(s:List UInt8)(σ:S):jas env (ev env) 87 [.row (ws.map V.str) ws.length c,.str s] σ=some (.bool (decide (s∈ws)),σ):=by
 refine jav rfl rfl (by rw [Xc,jk1 ws c hc]; rfl) at87 rfl (by simp [Tryz.f87]) (by simp [Tryz.f87]) (jar ?_) σ
 have hk:=jsq ws s
 by_cases h:s∈ws
 ·have c0:=hk.2 h
  simp only [Tryz.f87,Ka,simprocAttr,Ys,Y0,Ke,Vq,jk2 ws c hc hl,c0]
  simp only [jaZ,jay,jbl,h,decide_true]
 ·have c0:¬ 0≤jfW ws s ws.length 0:=fun q=>h (hk.1 q)
  simp only [Tryz.f87,Ka,simprocAttr,Ys,Y0,Ke,Vq,jk2 ws c hc hl,c0]
  simp only [jaZ,jay,jbl,h,decide_false]
structure Tok where
 kind:Int
 text:List UInt8
 n:Int
 pos:Int
def Tok.cells (t:Tok):List V:=[.int .i64 t.kind,.str t.text,.int .i64 t.n,.int .i64 t.pos]
def L1:List (List UInt8):=W ["(","[","/",".."]
def L2:List (List UInt8):=W [")","]",",","/",".."]
def Lft (a:Tok):Prop:=a.kind=5∧a.text∈L1
def Rgt (b:Tok):Prop:=b.kind=5∧b.text∈L2
instance (a:Tok):Decidable (Lft a):=by unfold Lft; infer_instance
instance (a:Tok):Decidable (Rgt a):=by unfold Rgt; infer_instance
def jxf (a b:Tok):Prop:=Lft a∨Rgt b
instance (a b:Tok):Decidable (jxf a b):=by unfold jxf; infer_instance
def Tok.none:Tok:=⟨0,[],0,0⟩
def jsr (t:Tok):List UInt8:=if t.kind=4 then 39::(t.text++[39]) else t.text
def flatT (l:List Tok):List V:=(l.map Tok.cells).flatten
theorem jk3 (c:Tok)(cs:List Tok):flatT (c::cs)=.int .i64 c.kind::.str c.text::.int .i64 c.n::.int .i64 c.pos::flatT cs:=rfl
theorem jmY {h:List AObj}{n:Nat}{a b c d:V}{t:TypeId}(hh:h[n]? = some (.cells [a,b,c,d] t)):jai h 4 (.ptr n 0)=some [a,b,c,d]:=by simp [jai,hh]
theorem jbI (L:List AObj)(o:AObj):(L++[o])[L.length]? = some o:=by simp
theorem jcM (L:List AObj)(o o':AObj):(L++[o]).set L.length o'=L++[o']:=by simp
theorem Bld.app {L:List AObj}{ts:List Nat}{p:Nat}{s:List UInt8}(h:Bld ⟨L,ts⟩ p s)(o:AObj):Bld ⟨L++[o],ts⟩ p s:=by
 obtain ⟨a,v,h1,h2,h3⟩:=h
 refine ⟨a,v,jbR h1 _,h2,?_⟩
 rcases h3 with h | ⟨b,h4,h5,h6⟩
 ·exact .inl h
 ·exact .inr ⟨b,h4,jbR h5 _,h6⟩
theorem jbd (s:List UInt8):(V.str s).isCell=true:=rfl
theorem l1 (a:Tok):Lft a↔(a.kind=5∧(a.text=[40]∨a.text=[91]∨a.text=[47]∨a.text=[46,46])):=by
 have e:L1=[[40],[91],[47],[46,46]]:=by kernel_rfl
 unfold Lft; rw [e]; simp
theorem l2 (b:Tok):Rgt b↔(b.kind=5∧(b.text=[41]∨b.text=[93]∨b.text=[44]∨b.text=[47]∨b.text=[46,46])):=by
 have e:L2=[[41],[93],[44],[47],[46,46]]:=by kernel_rfl
 unfold Rgt; rw [e]; simp
def IsDg (c:UInt8):Prop:=48≤c.toNat∧c.toNat≤57
def decV:Nat→List UInt8→Nat
 | a,[]=>a
 | a,c::r=>decV (a * 10+(c.toNat - 48)) r
theorem decV_app (l r:List UInt8):∀ a:Nat,decV a (l++r)=decV (decV a l) r:=by
 induction l with
 | nil=>exact fun a=>rfl
 | cons c l ih=>exact fun a=>ih _
theorem jop (l:List UInt8):∀ a:Nat,a≤decV a l:=by
 induction l with
 | nil=>exact fun a=>Ky _
 | cons c l ih =>
  intro a
  show a≤decV (a * 10+(c.toNat - 48)) l
  generalize c.toNat - 48=x
  have h1:a≤a * 10+x:=by omega
  exact Qr h1 (ih (a * 10+x))
theorem jjO {s:List UInt8}{i:Nat}(h:i<s.length):s.take (i+1)=s.take i++[s.getD i 0]:=by
 rw [Vh]
 simp [List.getD,h]
theorem jhz {s:List UInt8}{i:Nat}(h:i<s.length):decV 0 (s.take (i+1))=decV 0 (s.take i) * 10+((s.getD i 0).toNat - 48):=by
 rw [jjO h,decV_app]; rfl
theorem jmZ (s:List UInt8)(i:Nat):decV 0 (s.take i)≤decV 0 s:=by
 conv=>rhs; rw [← J4 i s,decV_app]
 exact jop _ _
theorem jxg:env.P.funcs[175]? = some Tryz.f175:=by kernel_rfl
theorem jyL:env.P.funcs[214]? = some Tryz.f214:=by kernel_rfl
theorem jyM:env.P.funcs[184]? = some Tryz.f184:=by kernel_rfl
theorem u140:env.P.underlying 211=some (.int .i64):=by kernel_rfl
theorem u151:env.P.underlying 159=some (.int .u64):=by kernel_rfl
theorem u115:env.P.underlying 194=some (.int .u64):=by kernel_rfl
theorem u2:env.P.underlying 2=some (.int .i64):=by kernel_rfl
theorem jhA (s:List UInt8)(i:Nat):(jaD s)[i]? = if i<s.length then some (V.int .u8 (s.getD i 0).toNat) else none:=by
 unfold jaD
 rw [Xr]
 by_cases h:i<s.length
 ·simp [h]
 ·simp [h]
theorem jpI (h:List AObj)(p:V):jbj env h 5 p=(jai h 1 p).bind (·[0]?):=jaX (by kernel_rfl)
def jke (n:Nat):V:=if n<18446744073709551616 then .tup [.int .u64 n,.nilif] else .tup [.int .u64 18446744073709551615,.iface 211 (.int .i64 1)]
theorem jbJ (h:List AObj)(d:Nat)(t:TypeId)(v:V):jbm h (d+1) (.iface t v)=(jbm h d v).map (.iface t):=rfl
theorem jbU (h:List AObj)(d:Nat):jbm h (d+1) .nilif=some .nilif:=rfl
theorem w64a:IntKind.u64.wrap 64=64:=by decide
theorem w64:IntKind.u64.wrap (1 * 2 ^ min (Int.toNat 64) IntKind.u64.bits)=0:=by decide
theorem w64m:IntKind.u64.wrap (0 - 1)=18446744073709551615:=by decide
theorem w10:IntKind.u8.wrap 10=10:=by decide
theorem w10b:IntKind.u64.wrap 10=10:=by decide
theorem jss (s:List UInt8):decV 0 (s.take 0)<18446744073709551616:=by
 rw [Jk]
 show 0<18446744073709551616
 omega
abbrev Q135 (s:List UInt8):Post:=⟨wpR env [.tmp 6,.tmp 7] fun v' σ'=>jbm σ'.heap jay v'=some (jke (decV 0 s)),fun _ _ _ _=>False,wpR env [.tmp 6,.tmp 7] fun v' σ'=>jbm σ'.heap jay v'=some (jke (decV 0 s))⟩
theorem jgx (s:List UInt8)(hd:∀ i,i<s.length→IsDg (s.getD i 0))(hl:s.length≤2 ^ 30)(c2:Code)(h2:∀ T,decV 0 s<18446744073709551616→T 12=.bool false→T 13=.int .u64 (decV 0 s)→G env 175 none 172 (Q135 s) [] c2 T [] ⟨[],[]⟩)(T:Tm)
  (a1:T 1=.int .i64 10) (a8:T 8=.bool false) (a9:T 9=.str s) (a10:T 10=.int .u64 1844674407370955162) (a11:T 11=.int .u64 18446744073709551615) (a12:T 12=.bool false) (a99:T 99=.row (jaD s) s.length .unk) (a100:T 100=.int .i64 s.length) (a101:T 101=.int .i64 (0:Nat)) (a13:T 13=.int .u64 (decV 0 (s.take 0))) :
  jil env 175 none 172 (jfz 3 (jax Tryz.f175)) T [] ⟨[],[]⟩ (Kt.post env 175 none 172 (Q135 s) [.blk 3,.code c2]):=by
 simp only [jax,Tryz.f175,Kv,jfz,blkC,Option.or,Nat.reduceEqDiff,Kr,Ks,reduceIte]
 refine jbu (fun m T D σ=>D=[]∧σ=⟨[],[]⟩∧T 1=.int .i64 10∧T 8=.bool false∧T 9=.str s∧T 10=.int .u64 1844674407370955162∧T 11=.int .u64 18446744073709551615∧T 12=.bool false∧T 99=.row (jaD s) s.length .unk∧T 100=.int .i64 s.length ∧
  ∃ i:Nat,T 101=.int .i64 i∧i≤s.length∧m=s.length - i∧T 13=.int .u64 (decV 0 (s.take i))∧decV 0 (s.take i)<18446744073709551616) ?_ _ _ _ _ ⟨rfl,rfl,a1,a8,a9,a10,a11,a12,a99,a100,0,a101,Ql _,rfl,a13,jss s⟩
 clear a1 a8 a9 a10 a11 a12 a99 a100 a101 a13 T
 rintro m T D σ ⟨rfl,rfl,t1,t8,t9,t10,t11,t12,t99,t100,i,t101,hi,rfl,t13,hn⟩
 refine jar ?_
 by_cases hlt:i<s.length
 ·have c1:(i:Int)<(s.length:Int):=by omega
  have c2:(0:Int)≤(i:Int)∧(i:Int)<(s.length:Int):=by omega
  have e1:IntKind.i64.wrap ((i:Int)+1)=((i+1:Nat):Int):=by rw [wrap_i64 (by omega) (by omega)]; omega
  obtain ⟨d1,d2⟩:=hd i hlt
  have hst:=jhz hlt
  have hle:=jmZ s (i+1)
  have hov:¬ decV 0 (s.take (i+1))<18446744073709551616→jke (decV 0 s)=.tup [.int .u64 18446744073709551615,.iface 211 (.int .i64 1)]:=fun h=>by
   unfold jke; rw [Kn (by omega)]
  generalize hc:s.getD i 0=c at *
  generalize hP:decV 0 (s.take i)=P at *
  generalize hP2:decV 0 (s.take (i+1))=P2 at *
  have k1:(48:Int)≤(c.toNat:Int):=by omega
  have k2:(c.toNat:Int)≤57:=by omega
  have k3:((c.toNat:Int)=95)=False:=eq_false (by omega)
  have k4:IntKind.u8.wrap ((c.toNat:Int) - 48)=((c.toNat - 48:Nat):Int):=by rw [jgM (by omega) (by omega)]; omega
  have k5:¬ (10:Int)≤((c.toNat - 48:Nat):Int):=by omega
  by_cases h1:(1844674407370955162:Int)≤(P:Int)
  ·have hv:=hov (by omega)
   simp only [Ka,Nat.reduceLT,Nat.reduceEqDiff,Ks,Kr,reduceIte,Ys,Y0,Int.reduceEq,Int.reduceLT,Int.reduceLE,Int.reduceNeg,mb,Nat.reduceBEq,tys,stb,Vq,t1,t8,t9,t10,t11,t12,t13,t99,t100,t101,c1,c2,e1,jhA,hlt,hc,jpI,u140,u151,u115,k1,k2,k3,k4,k5,w10,Z5,h1,jeB,jfj u140]
   rw [hv]
   simp only [jaZ,jay,ja6,jaz,jaF,jaW,jbJ,jbU,Kk,Kw]
  have k6:IntKind.u64.wrap ((P:Int) * 10)=((P * 10:Nat):Int):=by rw [wrap_u64 (by omega) (by omega)]; omega
  have k7:IntKind.u64.wrap ((c.toNat - 48:Nat):Int)=((c.toNat - 48:Nat):Int):=wrap_u64 (by omega) (by omega)
  by_cases h2:P2<18446744073709551616
  ·have k8:IntKind.u64.wrap (((P * 10:Nat):Int)+((c.toNat - 48:Nat):Int))=(P2:Int):=by rw [wrap_u64 (by omega) (by omega)]; omega
   have k9:¬ (P2:Int)<((P * 10:Nat):Int):=by omega
   have k10:¬ (18446744073709551615:Int)<(P2:Int):=by omega
   simp only [Ka,Nat.reduceLT,Nat.reduceEqDiff,Ks,Kr,reduceIte,Ys,Y0,Int.reduceEq,Int.reduceLT,Int.reduceLE,Int.reduceNeg,mb,Nat.reduceBEq,tys,stb,Vq,t1,t8,t9,t10,t11,t12,t13,t99,t100,t101,c1,c2,e1,jhA,hlt,hc,jpI,u140,u151,u115,k1,k2,k3,k4,k5,k6,k7,k8,k9,k10,w10,w10b,Z5,h1,jeB,jfj u140]
   exact ⟨s.length - (i+1),by omega,i+1,rfl,by omega,rfl,by rw [hP2],by rw [hP2]; exact h2⟩
  ·have hv:=hov h2
   have k8:IntKind.u64.wrap (((P * 10:Nat):Int)+((c.toNat - 48:Nat):Int))=((P2 - 18446744073709551616:Nat):Int):=by rw [jlB (by omega) (by omega)]; omega
   have k9:((P2 - 18446744073709551616:Nat):Int)<((P * 10:Nat):Int):=by omega
   simp only [Ka,Nat.reduceLT,Nat.reduceEqDiff,Ks,Kr,reduceIte,Ys,Y0,Int.reduceEq,Int.reduceLT,Int.reduceLE,Int.reduceNeg,mb,Nat.reduceBEq,tys,stb,Vq,t1,t8,t9,t10,t11,t12,t13,t99,t100,t101,c1,c2,e1,jhA,hlt,hc,jpI,u140,u151,u115,k1,k2,k3,k4,k5,k6,k7,k8,k9,w10,w10b,Z5,h1,jeB,jfj u140]
   rw [hv]
   simp only [jaZ,jay,ja6,jaz,jaF,jaW,jbJ,jbU,Kk,Kw]
 ·have hi2:i=s.length:=by omega
  subst hi2
  have c1:¬ (s.length:Int)<(s.length:Int):=by omega
  rw [Ju] at t13 hn
  simp only [Ka,Nat.reduceLT,Nat.reduceEqDiff,Ks,Kr,reduceIte,Ys,Y0,Int.reduceEq,Int.reduceLT,Int.reduceLE,Int.reduceNeg,mb,Nat.reduceBEq,tys,stb,Vq,t1,t8,t9,t10,t11,t12,t13,t99,t100,t101,c1]
  exact h2 _ hn t12 t13
theorem jkf (s:List UInt8)(hd:∀ i,i<s.length→IsDg (s.getD i 0))(hne:s ≠ [])(hl:s.length≤2 ^ 30)(σ:S):jas env (ev env) 175 [.str s,.int .i64 10,.int .i64 0] σ=some (jke (decV 0 s),σ):=by
 refine jav rfl rfl rfl jxg rfl (by simp [Tryz.f175]) (by simp [Tryz.f175]) (jar ?_) σ
 have hne2:(s=[])=False:=eq_false hne
 simp only [Tryz.f175,Ka,Nat.reduceLT,Nat.reduceEqDiff,Ks,Kr,reduceIte,Ys,Y0,Int.reduceEq,Int.reduceLT,Int.reduceLE,Int.reduceNeg,mb,Nat.reduceBEq,tys,stb,Vq,jaq,jac,hne2,u140,u151,u115,Z5,jgK u5,jhe,w64a,w64,w64m,jbY]
 refine jgx s hd hl _ (fun T hn t12 t13 => ?_) _ rfl rfl rfl rfl rfl rfl rfl rfl rfl rfl
 simp only [Ka,Nat.reduceLT,Nat.reduceEqDiff,Ks,Kr,reduceIte,Ys,Y0,Int.reduceEq,Int.reduceLT,Int.reduceLE,Int.reduceNeg,mb,Nat.reduceBEq,tys,stb,Vq,t12,t13]
 unfold jke
 rw [Km hn]
 simp only [jaZ,jay,ja6,jaz,jaF,jaW,jbJ,jbU,Kk,Kw]
def intV (n:Nat):V:=if n<9223372036854775808 then .tup [.int .i64 n,.nilif] else .tup [.int .i64 9223372036854775807,.iface 211 (.int .i64 1)]
theorem jxh:je5 env 93 211=true:=by kernel_rfl
def isIf:Option TypeDesc→Bool
 | some (.interface _)=>true
 | _=>false
theorem u100:∃ ms,env.P.underlying 93=some (.interface ms):=by
 have h:isIf (env.P.underlying 93)=true:=by kernel_rfl
 unfold isIf at h
 split at h
 ·exact ⟨_,‹_›⟩
 ·simp at h
theorem w63:IntKind.u64.wrap (1 * 2 ^ min (Int.toNat 63) IntKind.u64.bits)=9223372036854775808:=by decide
theorem w63a:IntKind.u64.wrap 63=63:=by decide
theorem w63b:IntKind.i64.wrap (64 - 1)=63:=by decide
theorem w63c:IntKind.u64.wrap (9223372036854775808 - 1)=9223372036854775807:=by decide
theorem w63d:IntKind.i64.wrap 9223372036854775807=9223372036854775807:=by decide
theorem jlL (s:List UInt8)(hd:∀ i,i<s.length→IsDg (s.getD i 0))(hne:s ≠ [])(hl:s.length≤2 ^ 30)(σ:S):jas env (ev env) 214 [.str s,.int .i64 10,.int .i64 0] σ=some (intV (decV 0 s),σ):=by
 refine jav rfl rfl rfl jyL rfl (by simp [Tryz.f214]) (by simp [Tryz.f214]) (jar ?_) σ
 have hne2:(s=[])=False:=eq_false hne
 have hlen:0<s.length:=by
  rcases Xg s.length with h | h
  ·exact absurd (Qh h) hne
  ·exact h
 have c0:(0:Int)≤0∧(0:Int)<(s.length:Int):=by omega
 obtain ⟨d1,d2⟩:=hd 0 hlen
 obtain ⟨ms,u100⟩:=u100
 have hP:=jkf s hd hne hl
 unfold jke at hP
 unfold intV
 generalize hc:s.getD 0 0=c at *
 generalize decV 0 s=n at *
 have k1:((c.toNat:Int)=43)=False:=eq_false (by omega)
 have k2:((c.toNat:Int)=45)=False:=eq_false (by omega)
 by_cases h1:n<18446744073709551616
 ·rw [Km h1] at hP
  by_cases h2:n<9223372036854775808
  ·rw [Km h2]
   have k3:¬ (9223372036854775808:Int)≤(n:Int):=by omega
   have k4:IntKind.i64.wrap (n:Int)=n:=wrap_i64 (by omega) (by omega)
   simp only [Tryz.f214,Ka,Nat.reduceLT,Nat.reduceEqDiff,Ks,Kr,reduceIte,Ys,Y0,Int.reduceEq,Int.reduceLT,Int.reduceLE,Int.reduceNeg,mb,Nat.reduceBEq,tys,stb,Vq,jaq,jac,hne2,u140,u151,u115,u2,jaG,jaE u9,c0,hc,k1,k2,k3,k4,hP,jco u100,Z5,jhe,w63,w63a,w63b,w63c,w63d,jeB,jfj u140,jbz]
   simp only [jaZ,jay,ja6,jaz,jaF,jaW,jbJ,jbU,Kk,Kw]
  ·rw [Kn h2]
   have k3:(9223372036854775808:Int)≤(n:Int):=by omega
   simp only [Tryz.f214,Ka,Nat.reduceLT,Nat.reduceEqDiff,Ks,Kr,reduceIte,Ys,Y0,Int.reduceEq,Int.reduceLT,Int.reduceLE,Int.reduceNeg,mb,Nat.reduceBEq,tys,stb,Vq,jaq,jac,hne2,u140,u151,u115,u2,jaG,jaE u9,c0,hc,k1,k2,k3,hP,jco u100,Z5,jhe,w63,w63a,w63b,w63c,w63d,jeB,jfj u140,jbz]
   simp only [jaZ,jay,ja6,jaz,jaF,jaW,jbJ,jbU,Kk,Kw]
 ·rw [Kn h1] at hP
  rw [Kn (by omega)]
  simp only [Tryz.f214,Ka,Nat.reduceLT,Nat.reduceEqDiff,Ks,Kr,reduceIte,Ys,Y0,Int.reduceEq,Int.reduceLT,Int.reduceLE,Int.reduceNeg,mb,Nat.reduceBEq,tys,stb,Vq,jaq,jac,hne2,u140,u151,u115,u2,jaG,jaE u9,c0,hc,k1,k2,hP,jfk u100,jqr jxh ⟨ms,u100⟩,Z5,jhe,w63,w63a,w63b,w63c,w63d,jeB,jfj u140,jbz]
  simp only [jaZ,jay,ja6,jaz,jaF,jaW,jbJ,jbU,Kk,Kw]
theorem jyN:env.P.funcs[224]? = some Tryz.f224:=by kernel_rfl
theorem jyO:env.P.funcs[208]? = some Tryz.f208:=by kernel_rfl
theorem jyP:env.P.funcs[176]? = some Tryz.f176:=by kernel_rfl
theorem jyQ:env.P.funcs[157]? = some Tryz.f157:=by kernel_rfl
theorem jyR (r:Nat):env.mutb 224 r=true:=rfl
theorem s5:sz env 5=some 1:=by kernel_rfl
theorem z5:jbE env 5=some (.int .u8 0):=by kernel_rfl
theorem rep_flat (n:Nat)(v:V):(List.replicate n [v]).flatten=List.replicate n v:=by
 induction n with
 | zero=>rfl
 | succ n ih=>simp [List.replicate_succ,ih]
theorem jxi {σ:S}(n:Nat)(hn:n ≠ 0)(hl:n≤2 ^ 30):jqn env true σ 77 (.int .i64 n) (.int .i64 n)=some (.hsl σ.heap.length 0 n n .exact,σ.push (.cells (List.replicate n (.int .u8 0)) 5)):=by
 have hlim:(lim:Nat)=2 ^ 40:=rfl
 have h1:0≤(n:Int)∧(n:Int)≤n∧(n:Int)≤(lim:Nat)∧(n:Int) * ((1:Nat):Int)≤(lim:Nat):=by rw [hlim]; omega
 have h2:¬ n * 1=0:=by omega
 simp only [jqn,e97,s5,b5,z5,Kk,h1,and_self,Ks,K3,h2,Kr,Y6,K1,K5,K8,true_or,rep_flat]
theorem jxj (L:List AObj)(ts:List Nat)(b:Nat)(s:List UInt8)(hs:s ≠ [])(hb:L[b]? = some (.cells (List.replicate s.length (.int .u8 0)) 5))(c:HCap)(hc:HCap.room 1 c=false) :
  jtu env ⟨L,ts⟩ 77 (.hsl b 0 s.length s.length c) (.str s)=some (.int .i64 s.length,⟨L.set b (.cells (jaD s) 5),ts⟩):=by
 have h1:¬ s.length=0:=fun h=>hs (Qh h)
 have hv:jby L 1 s.length (.str s)=some (jaD s):=by simp [jby,jaD]
 have h2:0+(jaD s).length≤(List.replicate s.length (V.int .u8 0)).length:=by rw [jbY,List.length_replicate]; omega
 have h3:jab (List.replicate s.length (V.int .u8 0)) 0 (jaD s)=jaD s:=by simp [jab,jbY]
 simp only [jtu,e97,s5,Kk,vLen,Nat.min_self,hv,h1,Kr,hc,Kl,jbv,hb,h2,jgw,and_self,Ks,h3,S.set,Kw]
theorem jyS (b n:Nat)(c:HCap)(hn:0<n):jaJ 1 (.hsl b 0 n n c) (.int .i64 0)=some (.ptr b 0):=by
 simp [jaJ,hn]
theorem joq (s:List UInt8)(hl:s.length≤2 ^ 30)(σ:S):jas env (ev env) 224 [.str s] σ=some (.str s,σ):=by
 refine jav rfl rfl rfl jyN rfl (by simp [Tryz.f224]) (by simp [Tryz.f224]) (jar ?_) σ
 by_cases hs:s=[]
 ·subst hs
  simp only [Tryz.f224,Ka,simprocAttr,Ys,Y0,Ke,Vq,jaK,K5]
  simp [jaZ,jay,jb8]
 ·have h1:¬ s.length=0:=fun h=>hs (Qh h)
  have h2:((s.length:Int)=0)=False:=eq_false (by omega)
  have h3:0<s.length:=by omega
  simp only [Tryz.f224,Ka,simprocAttr,Ys,Y0,Ke,Vq,jaK,h2,jhg,jyR,jxi s.length h1 hl,jtv,jxj [.cells (List.replicate s.length (.int .u8 0)) 5] [] 0 s hs rfl .exact rfl,jyS _ _ _ h3,jrB,jlK,jpH ⟨[.cells (jaD s) 5],[]⟩ 0 s hs hl rfl,S.push,jaq,V0]
  simp [jaZ,jay,jb8]
theorem gl2:env.gl 3=some (.rptr [.any]):=rfl
theorem u143:∃ t,env.P.underlying 213=some (.pointer t):=by
 have h:(match env.P.underlying 213 with | some (.pointer t)=>true | _=>false)=true:=by kernel_rfl
 split at h
 ·exact ⟨_,‹_›⟩
 ·simp at h
theorem jtQ (h:List AObj):jbj env h 93 (.rptr [.any])=some .any:=by rw [jaX (by kernel_rfl)]; simp [jai]
theorem jst:V.any.cells=[.any]:=rfl
theorem jqw:V.any.isCell=true:=rfl
theorem jtR (a s:List UInt8):jb9 env 227 [(0,.str a),(1,.str s),(2,.any)]=some (.agg [.str a,.str s,.any]):=by kernel_rfl
theorem jqx (a s:List UInt8)(hl:s.length≤2 ^ 30)(L:List AObj)(ts:List Nat):jas env (ev env) 208 [.str a,.str s] ⟨L,ts⟩=some (.ptr L.length 0,⟨L++[.cells [.str a,.str s,.any] 227],ts⟩):=by
 refine jbh rfl rfl jyO rfl (by simp [Tryz.f208]) (by simp [Tryz.f208]) (jar ?_)
 simp only [Tryz.f208,Ka,simprocAttr,Ys,Y0,Ke,Vq,joq s hl,gl2,jaZ,jtQ,jst,jqw,jtR]
 exact ⟨by kernel_rfl,trivial⟩
theorem jtS (h:List AObj)(d b o:Nat):jbm h (d+1) (.ptr b o)=some .any:=rfl
theorem jqy (a s:List UInt8)(hl:s.length≤2 ^ 30)(σ:S):jas env (ev env) 176 [.str a,.str s,.int .i64 0,.int .i64 0,.iface 211 (.int .i64 1)] σ=some (.iface 213 .any,σ):=by
 refine jav rfl rfl rfl jyP rfl (by simp [Tryz.f176]) (by simp [Tryz.f176]) (jar ?_) σ
 have n12:((1:Int)=2)=False:=eq_false (by omega)
 obtain ⟨t,u143⟩:=u143
 simp only [Tryz.f176,Ka,simprocAttr,Ys,Y0,Ke,Vq,u140,jeB,jfj u140,jtw u143,jqq jxh u100,n12,jqx a s hl,jaq]
 simp only [jaZ,jay,jbJ,jtS,Kw]
theorem dec_bound (s:List UInt8)(hd:∀ i,i<s.length→IsDg (s.getD i 0)):∀ i,i≤s.length→decV 0 (s.take i)<10 ^ i
 | 0,_=>by rw [Jk]; exact Nat.zero_lt_one
 | i+1,hi=>by
  have h:=dec_bound s hd i (by omega)
  have hst:=jhz (s:=s) (i:=i) (by omega)
  have h2:=hd i (by omega)
  have h3:10 ^ (i+1)=10 * 10 ^ i:=by rw [Vy]; omega
  unfold IsDg at h2
  omega
theorem dec_small (s:List UInt8)(hd:∀ i,i<s.length→IsDg (s.getD i 0))(hl:s.length≤18)(i:Nat)(hi:i≤s.length):decV 0 (s.take i)<1000000000000000000:=by
 have h1:=dec_bound s hd i hi
 have h2:10 ^ i≤10 ^ 18:=J9 (by omega) (by omega)
 have h3:(10:Nat) ^ 18=1000000000000000000:=by decide
 omega
theorem jsu (s:List UInt8)(hd:∀ i,i<s.length→IsDg (s.getD i 0))(hl:s.length≤18)(Q:Post)(ks:List Kt)(c2:Code)(h2:∀ T,T 5=.str s→T 6=.int .i64 (decV 0 s)→G env 184 none 77 Q ks c2 T [] ⟨[],[]⟩)(T:Tm)
  (a5:T 5=.str s) (a6:T 6=.int .i64 (0:Nat)) (a47:T 47=.row (jaD s) s.length .unk) (a48:T 48=.int .i64 s.length) (a49:T 49=.int .i64 (0:Nat)) :
  jil env 184 none 77 (jfz 0 (jax Tryz.f184)) T [] ⟨[],[]⟩ (Kt.post env 184 none 77 Q (.blk 0::.code c2::ks)):=by
 simp only [jax,Tryz.f184,Kv,jfz,blkC,Option.or,Nat.reduceEqDiff,Kr,Ks,reduceIte]
 refine jbu (fun m T D σ=>D=[]∧σ=⟨[],[]⟩∧T 5=.str s∧T 47=.row (jaD s) s.length .unk∧T 48=.int .i64 s.length∧∃ i:Nat,T 49=.int .i64 i∧i≤s.length∧m=s.length - i∧T 6=.int .i64 (decV 0 (s.take i))) ?_ _ _ _ _ ⟨rfl,rfl,a5,a47,a48,0,a49,Ql _,rfl,by rw [a6,Jk]; rfl⟩
 clear a5 a6 a47 a48 a49 T
 rintro m T D σ ⟨rfl,rfl,t5,t47,t48,i,t49,hi,rfl,t6⟩
 refine jar ?_
 by_cases hlt:i<s.length
 ·have c1:(i:Int)<(s.length:Int):=by omega
  have c2:(0:Int)≤(i:Int)∧(i:Int)<(s.length:Int):=by omega
  have e1:IntKind.i64.wrap ((i:Int)+1)=((i+1:Nat):Int):=by rw [wrap_i64 (by omega) (by omega)]; omega
  obtain ⟨d1,d2⟩:=hd i hlt
  have hst:=jhz hlt
  have b1:=dec_small s hd hl i hi
  have b2:=dec_small s hd hl (i+1) hlt
  generalize hc:s.getD i 0=c at *
  generalize hP:decV 0 (s.take i)=P at *
  generalize hP2:decV 0 (s.take (i+1))=P2 at *
  have k4:IntKind.u8.wrap ((c.toNat:Int) - 48)=((c.toNat - 48:Nat):Int):=by rw [jgM (by omega) (by omega)]; omega
  have k5:¬ (9:Int)<((c.toNat - 48:Nat):Int):=by omega
  have k6:IntKind.i64.wrap ((P:Int) * 10)=((P * 10:Nat):Int):=by rw [wrap_i64 (by omega) (by omega)]; omega
  have k7:IntKind.i64.wrap ((c.toNat - 48:Nat):Int)=((c.toNat - 48:Nat):Int):=wrap_i64 (by omega) (by omega)
  have k8:IntKind.i64.wrap (((P * 10:Nat):Int)+((c.toNat - 48:Nat):Int))=(P2:Int):=by rw [wrap_i64 (by omega) (by omega)]; omega
  simp only [Ka,simprocAttr,Ys,Y0,Ke,Vq,t5,t6,t47,t48,t49,c1,c2,e1,jhA,hlt,hc,jpI,k4,k5,k6,k7,k8,Z5]
  exact ⟨s.length - (i+1),by omega,i+1,rfl,by omega,rfl,by rw [hP2]⟩
 ·have hi2:i=s.length:=by omega
  subst hi2
  have c1:¬ (s.length:Int)<(s.length:Int):=by omega
  rw [Ju] at t6
  simp only [Ka,simprocAttr,Ys,Y0,Ke,Vq,t5,t6,t47,t48,t49,c1]
  exact h2 _ t5 t6
theorem jsv (s:List UInt8)(hd:∀ i,i<s.length→IsDg (s.getD i 0))(hne:s ≠ [])(hl:s.length≤2 ^ 30)(σ:S):jas env (ev env) 184 [.str s] σ=some (intV (decV 0 s),σ):=by
 refine jav rfl rfl rfl jyM rfl (by simp [Tryz.f184]) (by simp [Tryz.f184]) (jar ?_) σ
 have hlen:0<s.length:=by
  rcases Xg s.length with h | h
  ·exact absurd (Qh h) hne
  ·exact h
 have g0:(0:Int)<(s.length:Int):=by omega
 have c0:(0:Int)≤0∧(0:Int)<(s.length:Int):=by omega
 have g1:((s.length:Int)<1)=False:=eq_false (by omega)
 obtain ⟨d1,d2⟩:=hd 0 hlen
 have k1:(((s.getD 0 0).toNat:Int)=43)=False:=eq_false (by omega)
 have k2:(((s.getD 0 0).toNat:Int)=45)=False:=eq_false (by omega)
 by_cases h18:s.length≤18
 ·have g2:(s.length:Int)<19:=by omega
  simp only [Tryz.f184,Ka,simprocAttr,Ys,Y0,Ke,Vq,jaq,jaK,g0,g1,g2,jaG,jaE u9,c0,k1,k2,jgK u5,jbY]
  refine jsu s hd h18 _ _ _ (fun T t5 t6 => ?_) _ rfl rfl rfl rfl rfl
  simp only [Ka,simprocAttr,Ys,Y0,Ke,Vq,t5,t6,jaG,jaE u9,c0,k1,k2]
  have hb:=dec_small s hd h18 s.length (Ky _)
  rw [Ju] at hb
  unfold intV
  rw [Km (by omega)]
  simp only [jaZ,jay,ja6,jaz,jaF,jaW,jbJ,jbU,Kk,Kw]
 ·have g2:((s.length:Int)<19)=False:=eq_false (by omega)
  have hP:=jlL s hd hne hl
  unfold intV at hP ⊢
  by_cases h1:decV 0 s<9223372036854775808
  ·rw [Km h1] at hP ⊢
   simp only [Tryz.f184,Ka,simprocAttr,Ys,Y0,Ke,Vq,jaq,jaK,g0,g2,hP]
   simp only [jaZ,jay,ja6,jaz,jaF,jaW,jbJ,jbU,Kk,Kw]
  ·rw [Kn h1] at hP ⊢
   simp only [Tryz.f184,Ka,simprocAttr,Ys,Y0,Ke,Vq,jaq,jaK,g0,g2,hP]
   simp only [jaZ,jay,ja6,jaz,jaF,jaW,jbJ,jbU,Kk,Kw]
def jv0 (n:Nat):V:=if n<9223372036854775808 then .tup [.int .i64 n,.nilif] else .tup [.int .i64 9223372036854775807,.iface 213 .any]
theorem jsw (h:List AObj)(d:Nat):jbm h (d+1) .any=some .any:=rfl
theorem jm0 (s:List UInt8)(hd:∀ i,i<s.length→IsDg (s.getD i 0))(hne:s ≠ [])(hl:s.length≤2 ^ 30)(σ:S):jas env (ev env) 157 [.str s] σ=some (jv0 (decV 0 s),σ):=by
 refine jav rfl rfl rfl jyQ rfl (by simp [Tryz.f157]) (by simp [Tryz.f157]) (jar ?_) σ
 have hP:=jsv s hd hne hl
 have hE:=fun a=>jqy a s hl
 obtain ⟨ms,u100⟩:=u100
 unfold intV at hP
 unfold jv0
 by_cases h1:decV 0 s<9223372036854775808
 ·rw [Km h1] at hP ⊢
  simp only [Tryz.f157,Ka,simprocAttr,Ys,Y0,Ke,Vq,jaq,hP,jco u100,jbz]
  simp only [jaZ,jay,ja6,jaz,jaF,jaW,jbJ,jbU,Kk,Kw]
 ·rw [Kn h1] at hP ⊢
  simp only [Tryz.f157,Ka,simprocAttr,Ys,Y0,Ke,Vq,jaq,hP,jfk u100,asciiV,hE,jbz]
  simp only [jaZ,jay,ja6,jaz,jaF,jaW,jbJ,jsw,Kk,Kw]
def aggT (t:Tok):V:=.agg [.int .i64 t.kind,.str t.text,.int .i64 t.n,.int .i64 t.pos]
def tokE (t:Tok)(e:Int):V:=.tup [aggT t,.int .i64 e]
def numV (s:List UInt8)(p:Int):V :=
 if 1<s.length∧(s.getD 0 0).toNat=48 then tokE ⟨0,[],0,0⟩ 11 else
 if 1000000000<decV 0 s then tokE ⟨0,[],0,0⟩ 2 else tokE ⟨3,s,decV 0 s,p⟩ 0
theorem jyT:env.P.funcs[123]? = some Tryz.f123:=by kernel_rfl
theorem zv52:jbE env 47=some (.agg [.int .i64 0,.str [],.int .i64 0,.int .i64 0]):=by kernel_rfl
theorem ld52 (a b c d:V):jbj env [.cells [a,b,c,d] 47] 47 (.ptr 0 0)=some (.agg [a,b,c,d]):=by kernel_rfl
theorem jjP:jb9 env 47 []=some (.agg [.int .i64 0,.str [],.int .i64 0,.int .i64 0]):=by kernel_rfl
theorem jpJ (s:List UInt8)(n p:Int):jb9 env 47 [(0,.int .i64 3),(1,.str s),(2,.int .i64 n),(3,.int .i64 p)]=some (.agg [.int .i64 3,.str s,.int .i64 n,.int .i64 p]):=by kernel_rfl
theorem jor (s:List UInt8)(p:Int)(hd:∀ i,i<s.length→IsDg (s.getD i 0))(hne:s ≠ [])(hl:s.length≤2 ^ 30)(σ:S):jas env (ev env) 123 [.str s,.int .i64 p] σ=some (numV s p,σ):=by
 refine jav rfl rfl rfl jyT rfl (by simp [Tryz.f123]) (by simp [Tryz.f123]) (jar ?_) σ
 have hlen:0<s.length:=by
  rcases Xg s.length with h | h
  ·exact absurd (Qh h) hne
  ·exact h
 have c0:(0:Int)≤0∧(0:Int)<(s.length:Int):=by omega
 have e0:Int.toNat 0=0:=rfl
 have hP:=jm0 s hd hne hl
 obtain ⟨ms,u100⟩:=u100
 unfold numV tokE aggT
 unfold jv0 at hP
 by_cases h1:(1:Int)<(s.length:Int)∧((s.getD 0 0).toNat:Int)=48
 ·obtain ⟨h1,h2⟩:=h1
  have h3:1<s.length∧(s.getD 0 0).toNat=48:=by omega
  rw [Km h3]
  simp only [Tryz.f123,Ka,simprocAttr,Ys,Y0,Ke,Vq,jaq,jaK,zv52,Va,jab,ja5,jbd,ld52,Yy,h1,h2,e0,jaG,jaE u9,c0,jjP]
  simp [jaZ,jay,ja6,jcv,jaz,jaF,jaW,jb8]
 have h3:¬ (1<s.length∧(s.getD 0 0).toNat=48):=by omega
 rw [Kn h3]
 by_cases h4:decV 0 s<9223372036854775808
 ·rw [Km h4] at hP
  by_cases h5:1000000000<decV 0 s
  ·rw [Km h5]
   have h6:(1000000000:Int)<(decV 0 s:Nat):=by omega
   by_cases h7:(1:Int)<(s.length:Int)
   ·have h8:(((s.getD 0 0).toNat:Int)=48)=False:=eq_false (by omega)
    simp only [Tryz.f123,Ka,simprocAttr,Ys,Y0,Ke,Vq,jaq,jaK,zv52,Va,jab,ja5,jbd,ld52,Yy,h7,h8,h6,e0,jaG,jaE u9,c0,jjP,hP,jco u100,jbz]
    simp [jaZ,jay,ja6,jcv,jaz,jaF,jaW,jb8]
   ·simp only [Tryz.f123,Ka,simprocAttr,Ys,Y0,Ke,Vq,jaq,jaK,zv52,Va,jab,ja5,jbd,ld52,Yy,h7,h6,e0,jaG,jaE u9,c0,jjP,hP,jco u100,jbz]
    simp [jaZ,jay,ja6,jcv,jaz,jaF,jaW,jb8]
  ·rw [Kn h5]
   have h6:¬ (1000000000:Int)<(decV 0 s:Nat):=by omega
   by_cases h7:(1:Int)<(s.length:Int)
   ·have h8:(((s.getD 0 0).toNat:Int)=48)=False:=eq_false (by omega)
    simp only [Tryz.f123,Ka,simprocAttr,Ys,Y0,Ke,Vq,jaq,jaK,zv52,Va,jab,ja5,jbd,ld52,Yy,h7,h8,h6,e0,jaG,jaE u9,c0,jpJ,hP,jco u100,jbz]
    simp [jaZ,jay,ja6,jcv,jaz,jaF,jaW,jb8]
   ·simp only [Tryz.f123,Ka,simprocAttr,Ys,Y0,Ke,Vq,jaq,jaK,zv52,Va,jab,ja5,jbd,ld52,Yy,h7,h6,e0,jaG,jaE u9,c0,jpJ,hP,jco u100,jbz]
    simp [jaZ,jay,ja6,jcv,jaz,jaF,jaW,jb8]
 ·rw [Kn h4] at hP
  rw [Km (by omega)]
  by_cases h7:(1:Int)<(s.length:Int)
  ·have h8:(((s.getD 0 0).toNat:Int)=48)=False:=eq_false (by omega)
   simp only [Tryz.f123,Ka,simprocAttr,Ys,Y0,Ke,Vq,jaq,jaK,zv52,Va,jab,ja5,jbd,ld52,Yy,h7,h8,e0,jaG,jaE u9,c0,jjP,hP,jfk u100,jbz]
   simp [jaZ,jay,ja6,jcv,jaz,jaF,jaW,jb8]
  ·simp only [Tryz.f123,Ka,simprocAttr,Ys,Y0,Ke,Vq,jaq,jaK,zv52,Va,jab,ja5,jbd,ld52,Yy,h7,e0,jaG,jaE u9,c0,jjP,hP,jfk u100,jbz]
   simp [jaZ,jay,ja6,jcv,jaz,jaF,jaW,jb8]
theorem jyU:env.P.funcs[155]? = some Tryz.f155:=by kernel_rfl
theorem jyV:env.P.funcs[121]? = some Tryz.f121:=by kernel_rfl
theorem u87:env.P.underlying 80=some (.int .i64):=by kernel_rfl
theorem u134:env.P.underlying 139=some (.slice 80):=by kernel_rfl
theorem s87:sz env 80=some 1:=by kernel_rfl
theorem jix (k:IntKind):∀ ws:List Int,V.closed.closedL (ws.map (V.int k))=true
 | []=>rfl
 | w::ws=>by simp only [Ji,V.closed.closedL,V.closed,Xz]; exact jix k ws
theorem jc5 (h:List AObj)(p:V):jbj env h 80 p=(jai h 1 p).bind (·[0]?):=jaX (by kernel_rfl)
def jfX (ws:List Int)(s:Int):Nat→Nat→Int
 | 0,_ => -1
 | m+1,i=>if s=ws.getD i 0 then i else jfX ws s m (i+1)
theorem jk4 (ws:List Int)(s:Int):∀ m i,0≤jfX ws s m i↔∃ j,i≤j∧j<i+m∧s=ws.getD j 0
  | 0, i => by simp only [jfX]; constructor
               · intro h; omega
               · rintro ⟨j,h1,h2,_⟩; omega
  | m+1,i=>by
    simp only [jfX]
    by_cases h:s=ws.getD i 0
    · rw [Km h]
      exact ⟨fun _=>⟨i,by omega,by omega,h⟩,fun _=>by omega⟩
    · rw [Kn h,jk4 ws s m (i+1)]
      constructor
      · rintro ⟨j,h1,h2,h3⟩; exact ⟨j,by omega,by omega,h3⟩
      · rintro ⟨j,h1,h2,h3⟩
        refine ⟨j,?_,by omega,h3⟩
        rcases Qf i j with h4 | h4
        · omega
        · have:j=i:=by omega
          subst this; exact absurd h3 h
theorem jqz (ws:List Int)(s:Int):0≤jfX ws s ws.length 0↔s∈ws:=by
 rw [jk4]
 constructor
 ·rintro ⟨j,_,h2,rfl⟩
  have h2:j<ws.length:=by omega
  simp [List.getD,h2]
 ·intro h
  obtain ⟨j,hj,rfl⟩:=Jp.1 h
  exact ⟨j,by omega,by omega,by simp [List.getD,hj]⟩
theorem jjQ (ws:List Int)(c:RCap)(hc:∀ k e s,c ≠ .tok k e s):(V.row (ws.map (V.int .i64)) ws.length c).closed=true:=by
 simp only [V.closed,jix,Bool.and_true]
theorem jjR (ws:List Int)(c:RCap)(hc:∀ k e s,c ≠ .tok k e s)(hl:ws.length≤1000)(s:Int)(σ:S):jas env (ev env) 155 [.row (ws.map (V.int .i64)) ws.length c,.int .i64 s] σ=some (.int .i64 (jfX ws s ws.length 0),σ):=by
 refine jav rfl rfl (by rw [Xc,jjQ ws c hc]; rfl) jyU rfl (by simp [Tryz.f155]) (by simp [Tryz.f155]) (jar ?_) σ
 simp only [Tryz.f155,Ka,simprocAttr,Ys,Y0,Ke,Vq,u134]
 refine jbu (fun m T D σ=>D=[]∧σ=S.empty∧T 0=.row (ws.map (V.int .i64)) ws.length c∧T 1=.int .i64 s∧T 7=.int .i64 ws.length∧∃ i:Nat,T 8=.int .i64 i∧i≤ws.length∧m=ws.length - i∧jfX ws s ws.length 0=jfX ws s (ws.length - i) i) ?_ _ _ _ _ ⟨rfl,rfl,rfl,rfl,rfl,0,rfl,by omega,rfl,rfl⟩
 rintro m T D σ ⟨rfl,rfl,t0,t1,t7,i,t8,hi,rfl,hf⟩
 refine jar ?_
 by_cases hlt:i<ws.length
 ·have c1:(i:Int)<(ws.length:Int):=by omega
  have e1:IntKind.i64.wrap ((i:Int)+1)=((i+1:Nat):Int):=by rw [wrap_i64 (by omega) (by omega)]; omega
  have c2:(0:Int)≤(i:Int)∧(i:Int)<(ws.length:Int):=by omega
  obtain ⟨q,hq⟩:∃ q,ws.length - i=q+1:=⟨ws.length - i - 1,by omega⟩
  have hq2:q=ws.length - (i+1):=by omega
  have hstep:jfX ws s (ws.length - i) i=if s=ws.getD i 0 then (i:Int) else jfX ws s q (i+1):=by rw [hq]; rfl
  rw [hstep] at hf
  by_cases hn:s=ws.getD i 0
  ·rw [Km hn] at hf
   simp only [Ka,simprocAttr,Ys,Y0,Ke,Vq,t0,t1,t7,t8,c1,c2,e1,jc5,u87,u134,s87,Y0,hlt,Yf,← hn]
   simp only [jaZ,jay,jaW,hf]
  ·rw [Kn hn,hq2] at hf
   simp only [Ka,simprocAttr,Ys,Y0,Ke,Vq,t0,t1,t7,t8,c1,c2,e1,jc5,u87,u134,s87,Y0,hlt,Yf,hn]
   exact ⟨ws.length - (i+1),by omega,i+1,rfl,by omega,rfl,hf⟩
 ·have hi2:i=ws.length:=by omega
  subst hi2
  have c1:¬ (ws.length:Int)<(ws.length:Int):=by omega
  rw [Vi] at hf
  simp only [Ka,simprocAttr,Ys,Y0,Ke,Vq,t0,t1,t7,t8,c1]
  simp only [jaZ,jay,jaW,hf]; rfl
theorem jgy (ws:List Int)(c:RCap)(hc:∀ k e s,c ≠ .tok k e s)(hl:ws.length≤1000)(s:Int)(σ:S):jas env (ev env) 121 [.row (ws.map (V.int .i64)) ws.length c,.int .i64 s] σ=some (.bool (decide (s∈ws)),σ):=by
 refine jav rfl rfl (by rw [Xc,jjQ ws c hc]; rfl) jyV rfl (by simp [Tryz.f121]) (by simp [Tryz.f121]) (jar ?_) σ
 have hk:=jqz ws s
 by_cases h:s∈ws
 ·have c0:=hk.2 h
  simp only [Tryz.f121,Ka,simprocAttr,Ys,Y0,Ke,Vq,jjR ws c hc hl,c0]
  simp only [jaZ,jay,jbl,h,decide_true]
 ·have c0:¬ 0≤jfX ws s ws.length 0:=fun q=>h (hk.1 q)
  simp only [Tryz.f121,Ka,simprocAttr,Ys,Y0,Ke,Vq,jjR ws c hc hl,c0]
  simp only [jaZ,jay,jbl,h,decide_false]
def clsN (c:Nat):Int:=if 97≤c∧c≤122 then 2 else if 48≤c∧c≤57 then 3 else if c=32 then 1 else if c=95 then 4 else if c=39 then 5 else 0
def clsL:List Int:=(List.range 256).map clsN
theorem jm1 (σ:S):jas env (ev env) 42 [] σ=some (.agg (clsL.map (V.int .i64)),σ):=jd8 rfl rfl rfl (k:=2000) (by rw [← jfQ]; kernel_rfl) σ
theorem jyW:env.P.funcs[141]? = some Tryz.f141:=by kernel_rfl
theorem jiE (s:List UInt8)(hd:∀ i,i<s.length→IsDg (s.getD i 0))(hne:s ≠ [])(hl:s.length≤2 ^ 30)(σ:S):jas env (ev env) 175 [.str s,.int .i64 10,.int .i64 64] σ=some (jke (decV 0 s),σ):=by
 refine jav rfl rfl rfl jxg rfl (by simp [Tryz.f175]) (by simp [Tryz.f175]) (jar ?_) σ
 have hne2:(s=[])=False:=eq_false hne
 simp only [Tryz.f175,Ka,simprocAttr,Ys,Y0,Ke,Vq,jaq,jac,hne2,u140,u151,u115,Z5,jgK u5,jhe,w64a,w64,w64m,jbY]
 refine jgx s hd hl _ (fun T hn t12 t13 => ?_) _ rfl rfl rfl rfl rfl rfl rfl rfl rfl rfl
 simp only [Ka,simprocAttr,Ys,Y0,Ke,Vq,t12,t13]
 unfold jke
 rw [Km hn]
 simp only [jaZ,jay,ja6,jaz,jaF,jaW,jbJ,jbU,Kk,Kw]
theorem jpK (s:List UInt8)(hd:∀ i,i<s.length→IsDg (s.getD i 0))(hne:s ≠ [])(hl:s.length≤2 ^ 30)(hv:decV 0 s<18446744073709551616)(σ:S):jas env (ev env) 141 [.str s,.int .i64 10,.int .i64 64] σ=some (.tup [.int .u64 (decV 0 s),.nilif],σ):=by
 have h:=jiE s hd hne hl
 unfold jke at h
 rw [Km hv] at h
 obtain ⟨ms,hms⟩:=u100
 refine jav rfl rfl rfl jyW rfl (by simp [Tryz.f141]) (by simp [Tryz.f141]) (jar ?_) σ
 simp only [Tryz.f141,Ka,simprocAttr,Ys,Y0,Ke,Vq,jaq,h,jco hms,jbz]
 simp only [jaZ,jay,ja6,jaz,jaF,jaW,jbJ,jbU,Kk,Kw]
end Go.Proofs.YtpclebdkhpapjaaGreatDoor.T
