/- Proved here: numbers and words of the scanner. Conditions: those of each theorem; no statement of the seat is proved in this text. -/
import Derived.Test.YtpclebdkhpapjaaGreatDoorPpA
import Derived.Test.YtpclebdkhpapjaaGreatDoorRows
set_option linter.unusedSimpArgs false
set_option linter.unusedVariables false
set_option linter.unusedSectionVars false
namespace Go.Proofs.YtpclebdkhpapjaaGreatDoor
open Go.Ab
set_option maxHeartbeats 8000000
set_option maxRecDepth 1000000
def asciiV(s:String):V:=.str (s.toList.map λc=>UInt8.ofNat c.toNat)
def joZ:List V:=["above","and","batch","between","bits","by","consistent","count","else","factor","from","histogram","identity","if","join","keep","late","limit","mode","none","not","of","on","or","peak","prefix","quantile","running","sum","then","total","tree","using","where","with"].map asciiV
def jkb:List V:=[1,10,100,1000,10000,100000,1000000,10000000,100000000,1000000000,10000000000,100000000000,1000000000000,10000000000000,100000000000000,1000000000000000,10000000000000000,100000000000000000,1000000000000000000,10000000000000000000].map λn=>V.int .u64 n
def glV(g:Nat):Option V :=
 match g with
 |0=>some (.rptr joZ)
 |1=>some (.rptr jkb)
 |2=>some (.rptr [.any])
 |3=>some (.rptr [.any])
 |_=>none
def memN(f:Nat):List Nat->Bool
 | []=>false
 |g::r=>match Nat.beq f g with
  |true=>true
  |false=>memN f r
theorem jqj {g:Nat}{v:V}(h:glV g=some v):(g=0/\v=.rptr joZ)\/(g=1/\v=.rptr jkb)\/(g=2/\v=.rptr [.any])\/(g=3/\v=.rptr [.any]):=by
 unfold glV at h
 split at h
 ·simp at h;exact .inl ⟨rfl,h.symm⟩
 ·simp at h;exact .inr (.inl ⟨rfl,h.symm⟩)
 ·simp at h;exact .inr (.inr (.inl ⟨rfl,h.symm⟩))
 ·simp at h;exact .inr (.inr (.inr ⟨rfl,h.symm⟩))
 ·simp at h
theorem jlt(g:Nat)(v:V)(h:glV g=some v):v.closed=true:=by
 rcases jqj h with⟨_,rfl⟩|⟨_,rfl⟩|⟨_,rfl⟩|⟨_,rfl⟩<;>kernel_rfl
theorem gl_ok {E:Env}(hE:E.gl=glV)(hP:E.P=Tryz.prog){W:World}{l:List (String × DataW Unit)}(h:laidMetH Tryz.prog l W)(hp:(l.all λx=>x.2.handleName?.isNone)=true)(m0:("privhouse/schema.reserved",Rows.laid_privhouse_schema_reserved)∈l)
  (m3:("internal/strconv.uint64pow10",Rows.laid_internal_strconv_uint64pow10)∈l) (m1:("strconv.ErrSyntax",Rows.laid_strconv_ErrSyntax)∈l) (m2:("strconv.ErrRange",Rows.laid_strconv_ErrRange)∈l):GOK E (Ctx.top W):=by
 obtain⟨P,p,m,gl⟩:=E
 simp only at hE hP
 subst hE hP
 intro g v hv
 rcases jqj hv with⟨rfl,rfl⟩|⟨rfl,rfl⟩|⟨rfl,rfl⟩|⟨rfl,rfl⟩
 ·exact jgx (k:=5) h hp m0 (g:=0) (t:=171) (by kernel_rfl) (by kernel_rfl) (by kernel_rfl)
 ·exact jgx (k:=5) h hp m3 (g:=1) (t:=197) (by kernel_rfl) (by kernel_rfl) (by kernel_rfl)
 ·exact jgx (k:=5) h hp m1 (g:=2) (t:=93) (by kernel_rfl) (by kernel_rfl) (by kernel_rfl)
 ·exact jgx (k:=5) h hp m2 (g:=3) (t:=93) (by kernel_rfl) (by kernel_rfl) (by kernel_rfl)
end Go.Proofs.YtpclebdkhpapjaaGreatDoor
namespace Go.Proofs.YtpclebdkhpapjaaGreatDoor.T
open Go.Ab
set_option maxHeartbeats 8000000
set_option maxRecDepth 100000
def jkc:List Nat:=[141,122,21,159,146,44,87,126,19,121,155,124,109,158,185,186,215,145,29,68,103,104,105,106,107,108,110,123,157,184,176,214,175,224,42,14,8]
def jyg(f:FuncId):Option (List V->Option V):=match Nat.beq f 127 with|true=>some jpG|false=>none
noncomputable def env:Env:={ P:=Tryz.prog,pure:=λf=>memN f jkc,mutb:=λf _=>f==45 ||f==46 ||f==224,gl:=glV,hook:=jyg,stab:=λf r=>(f==19 && r==9) ||(f==68 && r==28) }
theorem env_ok:env.Ok :=
  { mixed:=by kernel_rfl
    glc:=jlt
    hook:=λf g h=>by
      simp only[env,jyg]at h
      split at h
      · rename_i hf
        have e:=Qz hf
        subst e
        simp only[Kg]at h
        subst h
        exact jm5 (E:=env) (fn:=Tryz.f127) Tryz.func127 (by kernel_rfl) (by kernel_rfl) (by kernel_rfl) rfl
      · simp at h }
end Go.Proofs.YtpclebdkhpapjaaGreatDoor.T
namespace Go.Proofs.YtpclebdkhpapjaaGreatDoor.T.N
open Go.Ab
set_option maxHeartbeats 8000000
set_option maxRecDepth 100000
theorem u3:env.P.underlying 3=some (.int .i64):=by kernel_rfl
theorem u4:env.P.underlying 4=some .bool:=by kernel_rfl
theorem u5:env.P.underlying 5=some (.int .u8):=by kernel_rfl
theorem u9:env.P.underlying 9=some .string:=by kernel_rfl
theorem u24:env.P.underlying 107=some (.slice 9):=by kernel_rfl
theorem u72:env.P.underlying 171=some (.array 35 9):=by kernel_rfl
theorem u115:env.P.underlying 194=some (.int .u64):=by kernel_rfl
theorem s9:sz env 9=some 1:=by kernel_rfl
theorem s24:sz env 107=some 1:=by kernel_rfl
theorem s3:sz env 3=some 1:=by kernel_rfl
theorem g9:aggT env 9=some false:=by kernel_rfl
theorem g24:aggT env 107=some false:=by kernel_rfl
theorem g3:aggT env 3=some false:=by kernel_rfl
theorem tys:env.P.underlying 3=some (.int .i64)/\env.P.underlying 4=some .bool/\env.P.underlying 5=some (.int .u8)/\env.P.underlying 9=some .string/\env.P.underlying 107=some (.slice 9)/\env.P.underlying 194=some (.int .u64)/\sz env 9=some 1/\sz env 107=some 1/\sz env 3=some 1 /\
  (∀h p,jbi env h 9 p=(jai h 1 p).bind (·[0]?))/\(∀h p,jbi env h 107 p=(jai h 1 p).bind (·[0]?))/\(∀h p,jbi env h 3 p=(jai h 1 p).bind (·[0]?)) :=
 ⟨u3,u4,u5,u9,u24,u115,s9,s24,s3,λ_ _=>ja0 g9,λ_ _=>ja0 g24,λ_ _=>ja0 g3⟩
theorem mb(f:FuncId)(r:Nat)(h:(f==45 ||f==46 ||f==224)=false):env.mutb f r=false:=h
theorem stb(f:FuncId)(r:Nat)(h:(f==19 && r==9 ||f==68 && r==28)=false):env.stab f r=false:=h
theorem Ke:type_of% (Kf @mb (Kf @stb @tys)):=Kf @mb (Kf @stb @tys)
theorem jzP:env.P.funcs[215]? = some Tryz.f215:=by kernel_rfl
theorem jzQ:env.P.funcs[186]? = some Tryz.f186:=by kernel_rfl
theorem jzR:env.P.funcs[185]? = some Tryz.f185:=by kernel_rfl
theorem jzS:env.P.funcs[158]? = some Tryz.f158:=by kernel_rfl
theorem jzT:env.P.funcs[124]? = some Tryz.f124:=by kernel_rfl
theorem juz(s:List UInt8)(O:S):jar env (ev env) 215 [.str s] O=some (.bool false,O):=by
 refine jau rfl rfl rfl jzP rfl (by simp[Tryz.f215]) (by simp[Tryz.f215]) (jaq ?_) O
 simp only[Tryz.f215,Ka,Nat.reduceLT,Nat.reduceEqDiff,Ku,Kr,reduceIte,Uq,Int.reduceEq,Int.reduceLT,Int.reduceLE,Int.reduceNeg,mb,Nat.reduceBEq,tys,stb,Vq,jad]
 simp[jaX,jax,jbc]
theorem jkd(s:List UInt8)(O:S):jar env (ev env) 186 [.str s] O=some (.bool false,O):=by
 refine jau rfl rfl rfl jzQ rfl (by simp[Tryz.f186]) (by simp[Tryz.f186]) (jaq ?_) O
 simp only[Tryz.f186,Ka,Nat.reduceLT,Nat.reduceEqDiff,Ku,Kr,reduceIte,Uq,Int.reduceEq,Int.reduceLT,Int.reduceLE,Int.reduceNeg,mb,Nat.reduceBEq,tys,stb,Vq,jad]
 simp[jaX,jax,jbc]
theorem jnz(a b:List UInt8)(O:S):jar env (ev env) 185 [.str a,.str b] O=some (.bool (Op.bytesLess a b),O):=by
 refine jau rfl rfl rfl jzR rfl (by simp[Tryz.f185]) (by simp[Tryz.f185]) (jaq ?_) O
 cases h:Op.bytesLess a b<;>
 ·simp only[Tryz.f185,Ka,Nat.reduceLT,Nat.reduceEqDiff,Ku,Kr,reduceIte,Uq,Int.reduceEq,Int.reduceLT,Int.reduceLE,Int.reduceNeg,mb,Nat.reduceBEq,tys,stb,Vq,jm9,juz,h]
  simp[jaX,jax,jbc]
theorem jix:∀{a b c:List UInt8},Op.bytesLess a b=true->Op.bytesLess b c=true->Op.bytesLess a c=true
 |_,[],_,h,_=>by simp[Op.bytesLess]at h
 |_,_::_,[],_,h=>by simp[Op.bytesLess]at h
 | [],y::b,z::c,_,_=>rfl
 | x::a,y::b,z::c,h,k=>by
  simp only[Op.bytesLess,Q7,K6,Qw,beq_iff_eq]at h k ⊢
  rcases h with h|⟨rfl,h⟩
  ·rcases k with k|⟨rfl,k⟩
   ·exact .inl (UInt8.lt_trans h k)
   ·exact .inl h
  ·rcases k with k|⟨rfl,k⟩
   ·exact .inl k
   ·exact .inr ⟨rfl,jix h k⟩
def js7(ws:List (List UInt8)):Prop:=∀i j,i<j->j<ws.length->Op.bytesLess (ws.getD i []) (ws.getD j [])=true
theorem juA {ws:List (List UInt8)}{s:List UInt8}{lo:Nat}(hl:lo<=ws.length)(h1:∀i,i<lo->Op.bytesLess (ws.getD i []) s=true)(h2:∀i,lo<=i->i<ws.length->Op.bytesLess (ws.getD i []) s=false) :
  ws.countP (λw=>Op.bytesLess w s)=lo:=by
 have e:ws=ws.take lo++ws.drop lo:=(J6 lo ws).symm
 rw[e,List.countP_append]
 have a1:(ws.take lo).countP (λw=>Op.bytesLess w s)=(ws.take lo).length:=by
  rw[List.countP_eq_length]
  intro w hw
  obtain⟨i,hi,rfl⟩:=Jr.1 hw
  have:=h1 i (by simp at hi;omega)
  have hi2:i<ws.length:=by simp at hi;omega
  simpa[List.getD,hi2]using this
 have a2:(ws.drop lo).countP (λw=>Op.bytesLess w s)=0:=by
  rw[List.countP_eq_zero]
  intro w hw
  obtain⟨i,hi,rfl⟩:=Jr.1 hw
  have hi2:lo+i<ws.length:=by simp at hi;omega
  have:=h2 (lo+i) (by omega) hi2
  simpa[List.getD,hi2]using this
 rw[a1,a2]
 simp;omega
theorem jyh {ws:List (List UInt8)}{s:List UInt8}{lo:Nat}(hr:js7 ws)(h1:∀i,i<lo->Op.bytesLess (ws.getD i []) s=true)(h2:∀i,lo<=i->i<ws.length->Op.bytesLess (ws.getD i []) s=false) :
  (s∈ws)↔(lo<ws.length/\ws.getD lo []=s):=by
 constructor
 ·intro hm
  obtain⟨k,hk,rfl⟩:=Jr.1 hm
  have ek:ws.getD k []=ws[k]:=by simp[List.getD,hk]
  have hlo:lo<=k:=by
   rcases K9 k lo with h|h
   ·have:=h1 k h;rw[ek,jnb]at this;simp at this
   ·exact h
  rcases K9 lo k with h|h
  ·have:=hr lo k h hk
   rw[ek,h2 lo (Kx _) (by omega)]at this;simp at this
  ·have:lo=k:=by omega
   subst this
   exact⟨hk,ek⟩
 ·rintro⟨h,rfl⟩
  simp[List.getD,h]
theorem jo0(ws:List (List UInt8))(hw:ws.length<2^40)(hr:js7 ws)(s:List UInt8)(O:S) :
  jar env (ev env) 158 [.row (ws.map V.str) ws.length .full,.str s] O=some (.tup [.int .i64 (ws.countP (λw=>Op.bytesLess w s):Nat),.bool (decide (s∈ws))],O):=by
 refine jau rfl rfl (by simp[V.closed,jg9]) jzS rfl (by simp[Tryz.f158]) (by simp[Tryz.f158]) (jaq ?_) O
 simp only[Tryz.f158,Ka,Nat.reduceLT,Nat.reduceEqDiff,Ku,Kr,reduceIte,Uq,Int.reduceEq,Int.reduceLT,Int.reduceLE,Int.reduceNeg,mb,Nat.reduceBEq,tys,stb,Vq,jm9,jac]
 refine jbs (λm T D O=>D=[]/\O=S.empty/\T 0=.row (ws.map V.str) ws.length .full/\T 1=.str s/\T 6=.int .i64 ws.length/\∃lo hi:Nat,T 7=.int .i64 lo/\T 8=.int .i64 hi/\lo<=hi/\hi<=ws.length/\m=hi-lo /\
  (∀i,i<lo->Op.bytesLess (ws.getD i []) s=true)/\(∀i,hi<=i->i<ws.length->Op.bytesLess (ws.getD i []) s=false)) ?_ _ _ _ _ ⟨rfl,rfl,rfl,rfl,rfl,0,ws.length,rfl,rfl,by omega,by omega,rfl,λi h=>by omega,λi h1 h2=>by omega⟩
 rintro m T D O ⟨rfl,rfl,t0,t1,t6,lo,hi,t7,t8,h1,h2,rfl,i1,i2⟩
 refine jaq ?_
 by_cases hlt:lo<hi
 ·have c1:(lo:Int)<(hi:Int):=by omega
  have e1:IntKind.i64.wrap ((lo:Int)+(hi:Int))=((lo+hi:Nat):Int):=by rw[wrap_i64 (by omega) (by omega)];omega
  have e2:IntKind.u64.wrap (((lo+hi:Nat):Int))=((lo+hi:Nat):Int):=by rw[IntKind.wrap_u64];omega
  have e3:((lo+hi:Nat):Int).fdiv (2^min (Int.toNat 1) IntKind.u64.bits)=(((lo+hi)/2:Nat):Int):=by
   rw[show min (Int.toNat 1) IntKind.u64.bits=1 from by decide]
   rw[Vw _ (by omega)];omega
  have e4:IntKind.i64.wrap ((((lo+hi)/2:Nat):Int))=(((lo+hi)/2:Nat):Int):=by rw[wrap_i64 (by omega) (by omega)]
  have c2:(lo+hi)/2<ws.length:=by omega
  have e5:IntKind.i64.wrap ((((lo+hi)/2:Nat):Int)+1)=(((lo+hi)/2+1:Nat):Int):=by rw[wrap_i64 (by omega) (by omega)];omega
  have e6:¬((1:Int)<0):=by omega
  cases hb:Op.bytesLess (ws.getD ((lo+hi)/2) []) s with
  | true =>
   simp only[Ka,Nat.reduceLT,Nat.reduceEqDiff,Ku,Kr,reduceIte,Uq,Int.reduceEq,Int.reduceLT,Int.reduceLE,Int.reduceNeg,mb,Nat.reduceBEq,tys,stb,Vq,t0,t1,t6,t7,t8,c1,e1,e2,e3,e4,e5,e6,jei,c2,jnz,hb,jdz]
   refine⟨⟨by omega,by omega⟩,hi-((lo+hi)/2+1),by omega,(lo+hi)/2+1,hi,rfl,rfl,by omega,by omega,rfl,λi hi' => ?_,i2⟩
   rcases K9 i ((lo+hi)/2)with h|h
   ·exact jix (hr i _ h c2) hb
   ·have:i=(lo+hi)/2:=by omega
    subst this;exact hb
  | false =>
   simp only[Ka,Nat.reduceLT,Nat.reduceEqDiff,Ku,Kr,reduceIte,Uq,Int.reduceEq,Int.reduceLT,Int.reduceLE,Int.reduceNeg,mb,Nat.reduceBEq,tys,stb,Vq,t0,t1,t6,t7,t8,c1,e1,e2,e3,e4,e5,e6,jei,c2,jnz,hb,jdz]
   refine⟨⟨by omega,by omega⟩,(lo+hi)/2-lo,by omega,lo,(lo+hi)/2,rfl,rfl,by omega,by omega,rfl,i1,λi h3 h4 => ?_⟩
   rcases K9 ((lo+hi)/2) i with h|h
   ·cases hc:Op.bytesLess (ws.getD i []) s with
    |false=>rfl
    |true =>
     have:=jix (hr _ i h h4) hc
     rw[hb]at this;simp at this
   ·have:i=(lo+hi)/2:=by omega
    subst this;exact hb
 ·have he:hi=lo:=by omega
  obtain rfl:lo=hi:=he.symm
  have c1:¬(lo:Int)<(lo:Int):=by omega
  have hcnt:=juA h2 i1 i2
  have hmem:=jyh hr i1 i2
  by_cases c3:lo<ws.length
  ·have c4:(lo:Int)<(ws.length:Int):=by omega
   have c6:(0:Int)<=(lo:Int)/\(lo:Int)<(ws.length:Int):=by omega
   by_cases c5:ws.getD lo []=s
   ·have hm:s∈ws:=hmem.2 ⟨c3,c5⟩
    simp only[Ka,Nat.reduceLT,Nat.reduceEqDiff,Ku,Kr,reduceIte,Uq,Int.reduceEq,Int.reduceLT,Int.reduceLE,Int.reduceNeg,mb,Nat.reduceBEq,tys,stb,Vq,t0,t1,t6,t7,t8,c1,c4,c6,jei,c3,c5,jac,jkd]
    simp[jaX,jax,ja8,jaA,jaF,jaW,jbc,hcnt,hm]
   ·have hm:¬s∈ws:=λh=>c5 (hmem.1 h).2
    simp only[Ka,Nat.reduceLT,Nat.reduceEqDiff,Ku,Kr,reduceIte,Uq,Int.reduceEq,Int.reduceLT,Int.reduceLE,Int.reduceNeg,mb,Nat.reduceBEq,tys,stb,Vq,t0,t1,t6,t7,t8,c1,c4,c6,jei,c3,c5,jac,jkd]
    simp[jaX,jax,ja8,jaA,jaF,jaW,jbc,hcnt,hm]
  ·have c4:¬(lo:Int)<(ws.length:Int):=by omega
   have hm:¬s∈ws:=λh=>c3 (hmem.1 h).1
   simp only[Ka,Nat.reduceLT,Nat.reduceEqDiff,Ku,Kr,reduceIte,Uq,Int.reduceEq,Int.reduceLT,Int.reduceLE,Int.reduceNeg,mb,Nat.reduceBEq,tys,stb,Vq,t0,t1,t6,t7,t8,c1,c4,jei,c3,jac,jkd]
   simp[jaX,jax,ja8,jaA,jaF,jaW,jbc,hcnt,hm]
def okC(c:UInt8):Prop:=(97<=c.toNat/\c.toNat<=122)\/(48<=c.toNat/\c.toNat<=57)\/c.toNat=95
instance (c:UInt8):Decidable (okC c):=by unfold okC;infer_instance
def wordsW:List (List UInt8):=["above","and","batch","between","bits","by","consistent","count","else","factor","from","histogram","identity","if","join","keep","late","limit","mode","none","not","of","on","or","peak","prefix","quantile","running","sum","then","total","tree","using","where","with"].map λs=>s.toList.map λc=>UInt8.ofNat c.toNat
theorem resV_words:joZ=wordsW.map V.str:=by kernel_rfl
theorem words_len:wordsW.length=35:=by kernel_rfl
def js8(ws:List (List UInt8)):Bool:=(List.range ws.length).all λj=>(List.range j).all λi=>Op.bytesLess (ws.getD i []) (ws.getD j [])
theorem jnA:js7 wordsW:=by
 have h:js8 wordsW=true:=by kernel_rfl
 intro i j hij hj
 unfold js8 at h
 rw[K1]at h
 have h1:=h j (by simpa using hj)
 rw[K1]at h1
 exact h1 i (by simpa using hij)
def IsName(s:List UInt8):Prop:=1<=s.length/\s.length<=20/\97<=(s.getD 0 0).toNat/\(s.getD 0 0).toNat<=122/\(∀i,i<s.length->okC (s.getD i 0))/\s ∉ wordsW
instance (s:List UInt8):Decidable (IsName s):=by unfold IsName;infer_instance
theorem jwW:jbA env 171 (.rptr joZ) none none none=some (.row (wordsW.map V.str) wordsW.length .full):=by
 rw[resV_words,words_len]
 exact jst u72 s9 (by rw[J5,words_len])
theorem name_call(s:List UInt8)(hs:s.length<2^63)(O:S):jar env (ev env) 124 [.str s] O=some (.bool (decide (IsName s)),O):=by
 refine jau rfl rfl rfl jzT rfl (by simp[Tryz.f124]) (by simp[Tryz.f124]) (jaq ?_) O
 by_cases h1:(s.length:Int)<1
 ·have hn:¬IsName s:=λh=>by have:=h.1;omega
  simp only[Tryz.f124,Ka,simprocAttr,Uq,Ke,Vq,h1,jaN,jaG,jaE u9]
  simp[jaX,jax,jbc,hn]
 by_cases h2:(20:Int)<(s.length:Int)
 ·have hn:¬IsName s:=λh=>by have:=h.2.1;omega
  simp only[Tryz.f124,Ka,simprocAttr,Uq,Ke,Vq,h1,h2,jaN,jaG,jaE u9]
  simp[jaX,jax,jbc,hn]
 have hb:(0:Int)<=0/\(0:Int)<(s.length:Int):=by omega
 have e0:Int.toNat 0=0:=rfl
 by_cases h3:(((s.getD 0 0).toNat:Nat):Int)<97
 ·have hn:¬IsName s:=λh=>by have:=h.2.2.1;omega
  simp only[Tryz.f124,Ka,simprocAttr,Uq,Ke,Vq,h1,h2,h3,jaN,jaG,jaE u9,hb]
  simp[jaX,jax,jbc,hn]
 by_cases h4:(122:Int)<(((s.getD 0 0).toNat:Nat):Int)
 ·have hn:¬IsName s:=λh=>by have:=h.2.2.2.1;omega
  simp only[Tryz.f124,Ka,simprocAttr,Uq,Ke,Vq,h1,h2,h3,h4,jaN,jaG,jaE u9,hb]
  simp[jaX,jax,jbc,hn]
 simp only[Tryz.f124,Ka,simprocAttr,Uq,Ke,Vq,h1,h2,h3,h4,jaN,jaG,jaE u9,hb]
 refine jbs (λm T D O=>D=[]/\O=S.empty/\T 0=.str s/\T 26=.int .i64 s.length/\∃i:Nat,T 27=.int .i64 i/\i<=s.length/\m=s.length-i/\∀j,j<i->okC (s.getD j 0)) ?_ _ _ _ _ ⟨rfl,rfl,rfl,rfl,0,rfl,by omega,rfl,λj h=>by omega⟩
 rintro m T D O ⟨rfl,rfl,t0,t26,i,t27,hi,rfl,hok⟩
 refine jaq ?_
 by_cases hlt:i<s.length
 ·have c1:(i:Int)<(s.length:Int):=by omega
  have c2:(0:Int)<=(i:Int)/\(i:Int)<(s.length:Int):=by omega
  have e1:IntKind.i64.wrap ((i:Int)+1)=((i+1:Nat):Int):=by rw[wrap_i64 (by omega) (by omega)];omega
  have hstep:okC (s.getD i 0)->∀j,j<i+1->okC (s.getD j 0):=λh j hj=>by
   rcases K9 j i with h2|h2
   ·exact hok j h2
   ·have:j=i:=by omega
    subst this;exact h
  have hbad:¬okC (s.getD i 0)->¬IsName s:=λh hn=>h (hn.2.2.2.2.1 i hlt)
  have hun:okC (s.getD i 0)↔((97<=(s.getD i 0).toNat/\(s.getD i 0).toNat<=122)\/(48<=(s.getD i 0).toNat/\(s.getD i 0).toNat<=57)\/(s.getD i 0).toNat=95):=Iff.rfl
  simp only[Ka,simprocAttr,Uq,Ke,Vq,t0,t26,t27,c1,e1,jaN,jaG,jaE u9,c2,K3]
  generalize (s.getD i 0)=c at *
  have inv:okC c->∃m',m'<s.length-i/\∃i_1:Nat,V.int IntKind.i64 ((i+1:Nat):Int)=V.int IntKind.i64 (i_1:Nat)/\i_1<=s.length/\m'=s.length-i_1/\∀(j:Nat),j<i_1->okC (s.getD j 0) :=
   λh=>⟨s.length-(i+1),by omega,i+1,rfl,by omega,rfl,hstep h⟩
  have bad:¬okC c->jbo S.empty.heap jax (jaX [V.bool false])=some (V.bool (decide (IsName s))):=λh=>by
   simp[jaX,jax,jbc,hbad h]
  repeat' (first|apply Kf|intro _)
  all_goals first|exact inv (by unfold okC;omega)|exact bad (by unfold okC;omega)
 ·have hi2:i=s.length:=by omega
  have c1:¬(i:Int)<(s.length:Int):=by omega
  subst hi2
  have key:(s∈wordsW)=¬IsName s:=by
   apply propext
   constructor
   ·exact λh hn=>hn.2.2.2.2.2 h
   ·intro h
    apply V2
    intro hm
    exact h ⟨by omega,by omega,by omega,by omega,hok,hm⟩
  simp only[Ka,simprocAttr,Uq,Ke,Vq,t0,t26,t27,c1,jaN,ja9,jba,jwW,jo0 wordsW (by rw[words_len];decide) jnA,show env.gl 0=some (.rptr joZ)from rfl]
  by_cases hn:IsName s
  ·have hm:¬s∈wordsW:=hn.2.2.2.2.2
   simp[jaX,jax,jbc,hn,hm]
  ·have hm:s∈wordsW:=by rw[key];exact hn
   simp[jaX,jax,jbc,hn,hm]
end Go.Proofs.YtpclebdkhpapjaaGreatDoor.T.N
namespace Go.Proofs.YtpclebdkhpapjaaGreatDoor.T
open Go.Ab
set_option maxHeartbeats 8000000
set_option maxRecDepth 100000
theorem u3:env.P.underlying 3=some (.int .i64):=by kernel_rfl
theorem u5:env.P.underlying 5=some (.int .u8):=by kernel_rfl
theorem u9:env.P.underlying 9=some .string:=by kernel_rfl
theorem u24:env.P.underlying 107=some (.slice 9):=by kernel_rfl
theorem u45:env.P.underlying 43=some (.slice 47):=by kernel_rfl
theorem u97:env.P.underlying 77=some (.slice 5):=by kernel_rfl
theorem u108:env.P.underlying 88=some (.pointer 90):=by kernel_rfl
theorem u147:env.P.underlying 147=some .unsafePointer:=by kernel_rfl
theorem tys:env.P.underlying 3=some (.int .i64)/\env.P.underlying 4=some .bool/\env.P.underlying 5=some (.int .u8)/\env.P.underlying 9=some .string/\env.P.underlying 107=some (.slice 9)/\env.P.underlying 43=some (.slice 47)/\env.P.underlying 77=some (.slice 5) /\
  sz env 9=some 1/\sz env 107=some 1/\sz env 3=some 1/\sz env 5=some 1/\sz env 47=some 4/\sz env 77=some 1/\sz env 88=some 1/\sz env 90=some 2 /\
  ja7 env 47 0=some 0/\ja7 env 47 1=some 1/\ja7 env 90 0=some 0/\ja7 env 90 1=some 1 /\
  (∀h p,jbi env h 9 p=(jai h 1 p).bind (·[0]?))/\(∀h p,jbi env h 3 p=(jai h 1 p).bind (·[0]?))/\(∀h p,jbi env h 77 p=(jai h 1 p).bind (·[0]?))/\(∀h p,jbi env h 88 p=(jai h 1 p).bind (·[0]?)):=by
 have g9:aggT env 9=some false:=by kernel_rfl
 have g3:aggT env 3=some false:=by kernel_rfl
 have g97:aggT env 77=some false:=by kernel_rfl
 have g108:aggT env 88=some false:=by kernel_rfl
 exact⟨u3,by kernel_rfl,u5,u9,u24,u45,u97,by kernel_rfl,by kernel_rfl,by kernel_rfl,by kernel_rfl,by kernel_rfl,by kernel_rfl,by kernel_rfl,by kernel_rfl,by kernel_rfl,by kernel_rfl,by kernel_rfl,by kernel_rfl,
  λ_ _=>ja0 g9,λ_ _=>ja0 g3,λ_ _=>ja0 g97,λ_ _=>ja0 g108⟩
theorem jnB(h:List AObj)(p:V):jbi env h 47 p=(jai h 4 p).map .agg:=by
 unfold jbi
 rw[show aggT env 47=some true by kernel_rfl,show sz env 47=some 4 by kernel_rfl]
 rfl
theorem z52:jbG env 47=some (.agg [.int .i64 0,.str [],.int .i64 0,.int .i64 0]):=by kernel_rfl
theorem z110:jbG env 90=some (.agg [.nilptr,.nilsl]):=by kernel_rfl
theorem mb(f:FuncId)(r:Nat)(h:(f==45 ||f==46 ||f==224)=false):env.mutb f r=false:=h
theorem stb(f:FuncId)(r:Nat)(h:(f==19 && r==9 ||f==68 && r==28)=false):env.stab f r=false:=h
theorem Ke:type_of% (Kf @mb (Kf @stb @tys)):=Kf @mb (Kf @stb @tys)
theorem at88:env.P.funcs[88]? = some Tryz.f88:=by kernel_rfl
theorem at45:env.P.funcs[45]? = some Tryz.f45:=by kernel_rfl
theorem at46:env.P.funcs[46]? = some Tryz.f46:=by kernel_rfl
theorem at47:env.P.funcs[47]? = some Tryz.f47:=by kernel_rfl
theorem juB {O:S}{p:Nat}{o:AObj}(h:O.heap[p]? = some o):O.set p o=O:=by
 obtain⟨L,ts⟩:=O
 simp only[S.set,S.mk.injEq,and_true]
 apply Xt
 intro i
 rw[Qv]
 split
 ·rename_i e;subst e
  simp only at h
  rw[h]
  have:=(Kz.1 h).1
  simp[this]
 ·rfl
theorem jwX {O:S}{p:Nat}{a v:V}(h:O.heap[p]? = some (.cells [a,v] 90)):jjO env O 88 147 (some (.pointer 90)) (some .unsafePointer) (.ptr p 0)=some (.ptr p 0,O):=by
 simp[jjO,jqY,jqZ,jfW,h,tys]
theorem juC:env.P.cellsOf 90=2:=by kernel_rfl
theorem js9 {O:S}{p:Nat}{a v:V}(h:O.heap[p]? = some (.cells [a,v] 90)):jjO env O 147 88 (some .unsafePointer) (some (.pointer 90)) (.ptr p 0)=some (.ptr p 0,O):=by
 simp[jjO,jqY,jqZ,jfW,h,juC]
theorem juD(v:V)(O:S):jar env (ev env) 127 [v] O=some (v,O):=rfl
theorem jta(c:Bool):binO env 88 c .eql (some .nilptr) (some .nilptr)=some (.bool true):=by
 show jc8 env 88 c .eql .nilptr .nilptr=_
 rw[jfB (by rfl),u108];rfl
theorem jtb(c:Bool)(b o:Nat):binO env 88 c .eql (some (.ptr b o)) (some .nilptr)=some (.bool false):=by
 show jc8 env 88 c .eql (.ptr b o) .nilptr=_
 rw[jfB (by rfl),u108];rfl
theorem jwY(c:Bool)(b o:Nat):binO env 88 c .neq (some (.ptr b o)) (some (.ptr b o))=some (.bool false):=by
 show jc8 env 88 c .neq (.ptr b o) (.ptr b o)=_
 unfold jc8
 rw[u108]
 show jeZ env 88 .neq (.ptr b o) (.ptr b o)=_
 simp[jeZ,jjo,u108,tys]
theorem jke(b o:Nat):(V.ptr b o).cells=[.ptr b o]:=rfl
theorem jfh(b o:Nat):(V.ptr b o).isCell=true:=rfl
theorem jo1(L:List AObj)(ts:List Nat)(p:Nat)(v:V)(hp:L[p]? = some (.cells [.nilptr,v] 90)):jar env (ev env) 88 [.ptr p 0] ⟨L,ts⟩=some (.tup [],⟨L.set p (.cells [.ptr p 0,v] 90),ts⟩):=by
 refine jbk rfl rfl at88 rfl (by simp[Tryz.f88]) (by simp[Tryz.f88]) (jaq ?_)
 simp only[Tryz.f88,Ka,simprocAttr,Uq,Ke,Vq,jaa,jae,hp,jta,u108,u147,jwX (O:=⟨L,ts⟩) hp,js9 (O:=⟨L,ts⟩) hp,juD,jke,jfh,Va,jab,jaX]
theorem jo2(L:List AObj)(ts:List Nat)(p:Nat)(v:V)(hp:L[p]? = some (.cells [.ptr p 0,v] 90)):jar env (ev env) 88 [.ptr p 0] ⟨L,ts⟩=some (.tup [],⟨L,ts⟩):=by
 refine jbk rfl rfl at88 rfl (by simp[Tryz.f88]) (by simp[Tryz.f88]) (jaq ?_)
 simp only[Tryz.f88,Ka,simprocAttr,Uq,Ke,Vq,jaa,jae,hp,jtb,jwY,u108,u147,jke,jfh,Va,jab,jaX]
def Buf(h:List AObj)(p:Nat)(v:V)(s:List UInt8):Prop :=
 (v=.nilsl/\s=[])\/∃b,v=.hsl b 0 s.length s.length (.grow 1)/\h[b]? = some (.cells (jaz s) 5)/\b ≠ p/\s ≠ []
def Bld(O:S)(p:Nat)(s:List UInt8):Prop:=∃a v,O.heap[p]? = some (.cells [a,v] 90)/\((a=.nilptr/\s=[])\/a=.ptr p 0)/\Buf O.heap p v s
def Stay(o:AObj):Prop:=(∀cs,o ≠ .cells cs 90)/\∀cs,o ≠ .cells cs 5
theorem jyi(cs:List V):Stay (.cells cs 47):=by
 constructor<;>intro c h<;>injection h with _ h2<;>exact absurd h2 (by decide)
def jtc(O O':S):Prop:=∀(q:Nat) (o:AObj),Stay o->O.heap[q]? = some o->O'.heap[q]? = some o
theorem Buf.cells {h:List AObj}{p:Nat}{v:V}{s:List UInt8}(hb:Buf h p v s):v.cells=[v]/\v.isCell=true:=by
 rcases hb with⟨rfl,_⟩|⟨b,rfl,_⟩<;>exact⟨rfl,rfl⟩
theorem jme(a b:List UInt8):jaz (a++b)=jaz a++jaz b:=by simp[jaz]
theorem jb4(a:List UInt8):(jaz a).length=a.length:=by simp[jaz]
theorem jgU(a:List UInt8):(jaz a).all V.isCell=true:=by simp[jaz,V.isCell]
theorem e97:jfR env 77=some 5:=by kernel_rfl
theorem b5:bys env 5=some 1:=by kernel_rfl
theorem zn5:jkC env 5=some 1:=by kernel_rfl
theorem jqk(L:List AObj)(ts:List Nat)(p:Nat)(v:V)(s new:List UInt8)(hb:Buf L p v s)(hn:new ≠ [])(hl:s.length+new.length<=2^30)(hpl:p<L.length) :
  ∃L',jbT true 1 1 new.length 5 (jaz new) v ⟨L,ts⟩=some (.hsl L.length 0 (s++new).length (s++new).length (.grow 1),⟨L',ts⟩)/\L'[L.length]? = some (.cells (jaz (s++new)) 5)/\L'[p]? = L[p]? /\
   (∀(q:Nat) (o:AObj),Stay o->L[q]? = some o->L'[q]? = some o):=by
 have hlim:lim=2^40:=rfl
 have hn1:¬new.length=0:=λh=>hn (Qf h)
 rcases hb with⟨rfl,rfl⟩|⟨b,rfl,hbL,hbp,hs⟩
 ·refine⟨L++[.cells (jaz new) 5],?_,by simp,by rw[K0 hpl],λq o _ hq=>jbH hq _⟩
  have h1:new.length*1<=lim/\new.length<=lim:=by rw[hlim];omega
  simp only[jbT,hn1,Kr,h1,and_self,Ku,S.push,Jv]
 ·have hs1:s.length ≠ 0:=λh=>hs (Qf h)
  have hblt:=jaU hbL
  refine⟨(L.set b .dead)++[.cells (jaz (s++new)) 5],?_,by simp,?_,λq o ho hq => ?_⟩
  ·have h1:¬s.length+new.length<=s.length:=by omega
   have h2:(s.length+new.length)*1<=lim/\s.length+new.length<=lim:=by rw[hlim];omega
   have htk:List.take s.length (jaz s)=jaz s:=Qi (by rw[jb4];omega)
   simp[jbT,h1,h2,jgU,hbL,jb4,htk,S.push,S.set,jme]
  ·rw[K0 (by simpa using hpl),Ki hbp]
  ·have hne:b ≠ q:=by rintro rfl;rw[hbL]at hq;cases hq;exact ho.2 _ rfl
   rw[K0 (by simpa using jaU hq),Ki hne];exact hq
theorem jtd(L:List AObj)(ts:List Nat)(p:Nat)(v:V)(s:List UInt8)(c:UInt8)(b:Nat)(hb:Buf L p v s)(hl:s.length+1<=2^30)(hpl:p<L.length)(hc:L[b]? = some (.cells [.int .u8 c.toNat] 5)) :
  ∃L',appO env true ⟨L,ts⟩ 77 77 v (.hsl b 0 1 1 .exact)=some (.hsl L.length 0 (s++[c]).length (s++[c]).length (.grow 1),⟨L',ts⟩)/\L'[L.length]? = some (.cells (jaz (s++[c])) 5)/\L'[p]? = L[p]? /\
   (∀(q:Nat) (o:AObj),Stay o->L[q]? = some o->L'[q]? = some o):=by
 obtain⟨L',h1,h2⟩:=jqk L ts p v s [c] hb (by simp) (by simpa using hl) hpl
 refine⟨L',?_,h2⟩
 unfold appO
 simp only[e97,tys,b5,zn5,Kj,vLen,jby,hc,Ku]
 simpa[jaz]using h1
theorem jte(L:List AObj)(ts:List Nat)(p:Nat)(v:V)(s new:List UInt8)(hb:Buf L p v s)(hn:new ≠ [])(hl:s.length+new.length<=2^30)(hpl:p<L.length) :
  ∃L',appO env true ⟨L,ts⟩ 77 9 v (.str new)=some (.hsl L.length 0 (s++new).length (s++new).length (.grow 1),⟨L',ts⟩)/\L'[L.length]? = some (.cells (jaz (s++new)) 5)/\L'[p]? = L[p]? /\
   (∀(q:Nat) (o:AObj),Stay o->L[q]? = some o->L'[q]? = some o):=by
 obtain⟨L',h1,h2⟩:=jqk L ts p v s new hb hn hl hpl
 refine⟨L',?_,h2⟩
 have hv:jby L 1 new.length (.str new)=some (jaz new):=by simp[jby,jaz]
 unfold appO
 simp only[e97,tys,b5,zn5,Kj,vLen,hv,Ku]
 exact h1
theorem juE(L:List AObj)(ts:List Nat)(p:Nat)(v:V)(s:List UInt8)(hb:Buf L p v s):appO env true ⟨L,ts⟩ 77 9 v (.str [])=some (v,⟨L,ts⟩):=by
 have hv:jby L 1 0 (.str [])=some []:=by simp[jby]
 unfold appO
 simp only[e97,tys,b5,zn5,Kj,vLen,K5,hv,Ku]
 rcases hb with⟨rfl,rfl⟩|⟨b,rfl,hbL,hbp,hs⟩
 ·simp[jbT]
 ·simp[jbT]
theorem jwZ {T:Tm}(L:List AObj)(ts:List Nat)(x:Operand):opT env true T ⟨L,ts⟩ (.buildSlice 77 1 #[(0,x)])=(jaK env T x).bind λv=>if v.cells.length=1 then some (.hsl L.length 0 1 1 .exact,⟨L++[.cells v.cells 5],ts⟩)else none:=by
 obtain⟨z,hz,hl⟩:∃z,jbG env 5=some z/\z.cells.length=1:=⟨.int .u8 0,by kernel_rfl,rfl⟩
 unfold opT
 simp only[jbn,jbt,jbD,jds]
 cases jaK env T x with
 |none=>rfl
 | some v =>
  simp only[Kw,Kj,e97,tys,hz]
  by_cases hv:v.cells.length=1
  ·have:z.cells.tail=[]:=Qf (by simp[hl])
   simp[jgY,hl,hv,this,S.push,env]
  ·simp[jgY,hv]
theorem mb82(r:Nat):env.mutb 45 r=true:=rfl
theorem mb83(r:Nat):env.mutb 46 r=true:=rfl
theorem jgF(L:List AObj)(ts:List Nat)(p:Nat)(s:List UInt8)(h:Bld ⟨L,ts⟩ p s):∃L' v,jar env (ev env) 88 [.ptr p 0] ⟨L,ts⟩=some (.tup [],⟨L',ts⟩)/\L'[p]? = some (.cells [.ptr p 0,v] 90)/\Buf L' p v s/\L'.length=L.length/\jtc ⟨L,ts⟩ ⟨L',ts⟩:=by
 obtain⟨a,v,hp,ha,hb⟩:=h
 simp only at hp hb
 have hlt:=jaU hp
 rcases ha with⟨rfl,rfl⟩|rfl
 ·refine⟨L.set p (.cells [.ptr p 0,v] 90),v,jo1 L ts p v hp,by simp[hlt],?_,by simp,λq o ho hq => ?_⟩
  ·rcases hb with h|⟨b,_,_,_,h⟩
   ·exact .inl h
   ·exact absurd rfl h
  ·have hne:p ≠ q:=by rintro rfl;simp only at hq;rw[hp]at hq;cases hq;exact ho.1 _ rfl
   simp only at hq ⊢
   rw[Ki hne];exact hq
 ·exact⟨L,v,jo2 L ts p v hp,hp,hb,rfl,λq o ho hq=>hq⟩
theorem jrb(L:List AObj)(ts:List Nat)(p:Nat)(s:List UInt8)(c:UInt8)(h:Bld ⟨L,ts⟩ p s)(hl:s.length+1<=2^30) :
  ∃L',jar env (ev env) 45 [.ptr p 0,.int .u8 c.toNat] ⟨L,ts⟩=some (.nilif,⟨L',ts⟩)/\Bld ⟨L',ts⟩ p (s++[c])/\jtc ⟨L,ts⟩ ⟨L',ts⟩:=by
 obtain⟨L1,v,hc,hp,hb,hlen,hk⟩:=jgF L ts p s h
 have hplt:=jaU hp
 have hb2:Buf (L1++[.cells [.int .u8 c.toNat] 5]) p v s:=by
  rcases hb with h|⟨b,h1,h2,h3⟩
  ·exact .inl h
  ·exact .inr ⟨b,h1,jbH h2 _,h3⟩
 obtain⟨L2,ha,h1,h2,h3⟩:=jtd (L1++[.cells [.int .u8 c.toNat] 5]) ts p v s c L1.length hb2 hl (by simp;omega) (by simp)
 have hp2:L2[p]? = some (.cells [.ptr p 0,v] 90):=by rw[h2];exact jbH hp _
 have hp3:=jaU hp2
 have hlt2:=jaU h1
 have hne:(L1++[AObj.cells [V.int .u8 c.toNat] 5]).length ≠ p:=by simp;omega
 refine⟨L2.set p (.cells [.ptr p 0,.hsl (L1++[AObj.cells [V.int .u8 c.toNat] 5]).length 0 (s++[c]).length (s++[c]).length (.grow 1)] 90),?_,?_,?_⟩
 ·refine jbk rfl rfl at45 rfl (by simp[Tryz.f45]) (by simp[Tryz.f45]) (jaq ?_)
  simp only[Tryz.f45,Ka,simprocAttr,Uq,Ke,Vq,jaa,jae,hc,hp,mb82,jwZ,jbH hp,ha,hp2,Va,jab,Ks,jfh,jaX]
 ·refine⟨.ptr p 0,_,by simp[hp3],.inr rfl,.inr ⟨_,rfl,?_,hne,by simp⟩⟩
  simp only
  rw[Ki (λe=>hne e.symm)];exact h1
 ·intro q o ho hq
  have:=h3 q o ho (jbH (hk q o ho hq) _)
  have hne2:p ≠ q:=by rintro rfl;rw[hp2]at this;cases this;exact ho.1 _ rfl
  simp only
  rw[Ki hne2];exact this
theorem jfi(L:List AObj)(ts:List Nat)(p:Nat)(s new:List UInt8)(h:Bld ⟨L,ts⟩ p s)(hl:s.length+new.length<=2^30) :
  ∃L',jar env (ev env) 46 [.ptr p 0,.str new] ⟨L,ts⟩=some (.tup [.int .i64 new.length,.nilif],⟨L',ts⟩)/\Bld ⟨L',ts⟩ p (s++new)/\jtc ⟨L,ts⟩ ⟨L',ts⟩:=by
 obtain⟨L1,v,hc,hp,hb,hlen,hk⟩:=jgF L ts p s h
 have hplt:=jaU hp
 by_cases hn:new=[]
 ·subst hn
  refine⟨L1,?_,?_,hk⟩
  ·refine jbk rfl rfl at46 rfl (by simp[Tryz.f46]) (by simp[Tryz.f46]) (jaq ?_)
   have hs:L1.set p (.cells [.ptr p 0,v] 90)=L1:=by
    have:=juB (O:=⟨L1,ts⟩) hp
    simpa[S.set]using this
   simp only[Tryz.f46,Ka,simprocAttr,Uq,Ke,Vq,jaa,jae,hc,hp,mb83,juE L1 ts p v s hb,Va,jab,hb.cells,jfh,jaX,jaN,hs]
  ·rw[Jk];exact⟨_,v,hp,.inr rfl,hb⟩
 obtain⟨L2,ha,h1,h2,h3⟩:=jte L1 ts p v s new hb hn hl hplt
 have hp2:L2[p]? = some (.cells [.ptr p 0,v] 90):=by rw[h2];exact hp
 have hp3:=jaU hp2
 have hne:L1.length ≠ p:=by omega
 refine⟨L2.set p (.cells [.ptr p 0,.hsl L1.length 0 (s++new).length (s++new).length (.grow 1)] 90),?_,?_,?_⟩
 ·refine jbk rfl rfl at46 rfl (by simp[Tryz.f46]) (by simp[Tryz.f46]) (jaq ?_)
  simp only[Tryz.f46,Ka,simprocAttr,Uq,Ke,Vq,jaa,jae,hc,hp,mb83,ha,hp2,Va,jab,jfh,jaX,jaN]
 ·refine⟨.ptr p 0,_,by simp[hp3],.inr rfl,.inr ⟨_,rfl,?_,hne,by simp[hn]⟩⟩
  simp only
  rw[Ki (λe=>hne e.symm)];exact h1
 ·intro q o ho hq
  have:=h3 q o ho (hk q o ho hq)
  have hne2:p ≠ q:=by rintro rfl;rw[hp2]at this;cases this;exact ho.1 _ rfl
  simp only
  rw[Ki hne2];exact this
theorem jnC {m:Bool}{T:Tm}{O:S}(x:Operand)(t:TypeId):opT env m T O (.call ⟨.builtin .unsafeSliceData,#[x],#[t]⟩)=((jaK env T x).bind jdH).map λv=>(v,O):=by
 unfold opT
 simp only[jbn,jbt,jbD,jbv,Kw]
 cases jaK env T x with
 |none=>rfl
 |some v =>
  simp only[Kw,Kj]
  cases jdH v<;>rfl
noncomputable def ustr(O:S)(pt:TypeId)(p n:V):Option (V × S) :=
 match n with
 | .int .i64 n=>je0 env pt p n O
 |_=>none
theorem jmf {m:Bool}{T:Tm}{O:S}(x y:Operand)(t u:TypeId):opT env m T O (.call ⟨.builtin .unsafeString,#[x,y],#[t,u]⟩)=(jaK env T x).bind λp=>(jaK env T y).bind λn=>ustr O t p n:=by
 unfold opT ustr
 simp only[jbn,jbt,jbD,jbv,Kw]
 cases jaK env T x with
 |none=>rfl
 |some v =>
  cases jaK env T y with
  |none=>rfl
  |some w=>cases w<;>first|rfl|(rename_i k n;cases k<;>rfl)
def W(l:List String):List (List UInt8):=l.map λs=>s.toList.map λc=>UInt8.ofNat c.toNat
def jbS:List (List UInt8):=W ["(",")","[","]","+","-","*","/",",","=","!=","<","<=",">",">=",".."]
theorem jrc(O:S):jar env (ev env) 159 [] O=some (.row (jbS.map V.str) 16 .unk,O):=jeo rfl rfl rfl (k:=20) (by rw[<- jga];kernel_rfl) O
theorem jcy:∀s:List UInt8,jcv (jaz s)=some s
 | []=>rfl
 |b::s=>by
  have h:=jcy s
  unfold jaz at h ⊢
  simp only[Ja,jcv,h,Kw,Kg,Jw,and_true]
  simp
theorem jhX:∀s:List UInt8,jh7 (jaz s)=true
 | []=>rfl
 |b::s=>by
  have h:=jhX s
  unfold jaz at h ⊢
  have hb:=b.toNat_lt
  simp only[Ja,jh7,h]
  simp
  omega
theorem u132:env.P.underlying 113=some (.pointer 5):=by kernel_rfl
theorem jyj:env.P.cellsOf 5=1:=by kernel_rfl
theorem juF(O:S):ustr O 113 .nilptr (.int .i64 0)=some (.str [],O):=rfl
theorem jql(O:S)(b:Nat)(s:List UInt8)(hs:s ≠ [])(hl:s.length<=2^30)(hb:O.heap[b]? = some (.cells (jaz s) 5)):ustr O 113 (.ptr b 0) (.int .i64 s.length)=some (.str s,O.set b (.ro (jaz s) 5)):=by
 have h0:¬(s.length:Int)=0:=λh=>hs (Qf (by omega))
 have hlim:lim=2^40:=rfl
 have h1:s.length<=lim:=by rw[hlim];omega
 have htk:List.take s.length (jaz s)=jaz s:=Qi (by rw[jb4];omega)
 simp only[ustr,je0,h0,Kr,hb,u132]
 simp[jyj,jb4,htk,jhX,jcy,h1]
theorem jhe(L:List AObj)(ts:List Nat)(p:Nat)(s:List UInt8)(h:Bld ⟨L,ts⟩ p s)(hl:s.length<=2^30):∃O',jar env (ev env) 47 [.ptr p 0] ⟨L,ts⟩=some (.str s,O')/\jtc ⟨L,ts⟩ O':=by
 obtain⟨a,v,hp,ha,hb⟩:=h
 simp only at hp hb
 have hplt:=jaU hp
 rcases hb with⟨rfl,rfl⟩|⟨b,rfl,hbL,hbp,hs⟩
 ·refine⟨⟨L,ts⟩,jbk rfl rfl at47 rfl (by simp[Tryz.f47]) (by simp[Tryz.f47]) (jaq ?_),λq o _ hq=>hq⟩
  simp only[Tryz.f47,Ka,simprocAttr,Uq,Ke,Vq,jaa,jae,hp,jnC,jdH,jmf,juF,jaX]
  exact⟨by kernel_rfl,trivial⟩
 ·have hs1:0<s.length:=by
   rcases J8 s.length with h|h
   ·exact absurd (Qf h) hs
   ·exact h
  refine⟨S.set ⟨L,ts⟩ b (.ro (jaz s) 5),jbk rfl rfl at47 rfl (by simp[Tryz.f47]) (by simp[Tryz.f47]) (jaq ?_),λq o ho hq=>by
   have hne:b ≠ q:=by rintro rfl;simp only at hq;rw[hbL]at hq;cases hq;exact ho.2 _ rfl
   show(L.set b _)[q]? = _
   rw[Ki hne];exact hq⟩
  simp only[Tryz.f47,Ka,simprocAttr,Uq,Ke,Vq,jaa,jae,hp,jnC,jdH,hs1,jsl,jmf,jql ⟨L,ts⟩ b s hs hl hbL,jaX]
  exact⟨by kernel_rfl,trivial⟩
theorem jo3(L:List AObj)(ts:List Nat)(p:Nat)(s:List UInt8)(h:Bld ⟨L,ts⟩ p s)(hl:s.length<=2^30):∃O',jar env (ev env) 47 [.ptr p 0] ⟨L,ts⟩=some (.str s,O'):=by
 obtain⟨O',h,_⟩:=jhe L ts p s h hl
 exact⟨O',h⟩
theorem jzU:env.P.funcs[126]? = some Tryz.f126:=by kernel_rfl
theorem at87:env.P.funcs[87]? = some Tryz.f87:=by kernel_rfl
theorem at44:env.P.funcs[44]? = some Tryz.f44:=by kernel_rfl
theorem jo4(h:List AObj)(v:V)(r:List V):(jai h 1 (.rptr (v::r))).bind (·[0]?)=some v:=by
 have:=Yz h (v::r) 0
 simpa using this
def jgh(ws:List (List UInt8))(s:List UInt8):Nat->Nat->Int
 |0,_ => -1
 |m+1,i=>if s=ws.getD i []then i else jgh ws s m (i+1)
theorem jlu (ws:List (List UInt8))(s:List UInt8):∀m i,0<=jgh ws s m i↔∃j,i<=j/\j<i+m/\s=ws.getD j []
  | 0, i => by simp only[jgh];constructor
               · intro h;omega
               · rintro⟨j,h1,h2,_⟩;omega
  | m+1,i=>by
    simp only[jgh]
    by_cases h:s=ws.getD i []
    · rw[Kk h]
      exact⟨λ_=>⟨i,by omega,by omega,h⟩,λ_=>by omega⟩
    · rw [Km h,jlu ws s m (i+1)]
      constructor
      · rintro⟨j,h1,h2,h3⟩;exact⟨j,by omega,by omega,h3⟩
      · rintro⟨j,h1,h2,h3⟩
        refine⟨j,?_,by omega,h3⟩
        rcases K9 i j with h4|h4
        · omega
        · have:j=i:=by omega
          subst this;exact absurd h3 h
theorem jtf(ws:List (List UInt8))(s:List UInt8):0<=jgh ws s ws.length 0↔s∈ws:=by
 rw[jlu]
 constructor
 ·rintro⟨j,_,h2,rfl⟩
  have h2:j<ws.length:=by omega
  simp[List.getD,h2]
 ·intro h
  obtain⟨j,hj,rfl⟩:=Jr.1 h
  exact⟨j,by omega,by omega,by simp[List.getD,hj]⟩
theorem jiy(ws:List (List UInt8))(c:RCap)(hc:∀k e s,c ≠ .tok k e s):(V.row (ws.map V.str) ws.length c).closed=true:=by
 simp only[V.closed,jg9,Bool.and_true]
theorem jlv(ws:List (List UInt8))(c:RCap)(hc:∀k e s,c ≠ .tok k e s)(hl:ws.length<=1000)(s:List UInt8)(O:S):jar env (ev env) 126 [.row (ws.map V.str) ws.length c,.str s] O=some (.int .i64 (jgh ws s ws.length 0),O):=by
 refine jau rfl rfl (by rw[Q0,jiy ws c hc];rfl) jzU rfl (by simp[Tryz.f126]) (by simp[Tryz.f126]) (jaq ?_) O
 simp only[Tryz.f126,Ka,simprocAttr,Uq,Ke,Vq]
 refine jbs (λm T D O=>D=[]/\O=S.empty/\T 0=.row (ws.map V.str) ws.length c/\T 1=.str s/\T 7=.int .i64 ws.length/\∃i:Nat,T 8=.int .i64 i/\i<=ws.length/\m=ws.length-i/\jgh ws s ws.length 0=jgh ws s (ws.length-i) i) ?_ _ _ _ _ ⟨rfl,rfl,rfl,rfl,rfl,0,rfl,by omega,rfl,rfl⟩
 rintro m T D O ⟨rfl,rfl,t0,t1,t7,i,t8,hi,rfl,hf⟩
 refine jaq ?_
 by_cases hlt:i<ws.length
 ·have c1:(i:Int)<(ws.length:Int):=by omega
  have e1:IntKind.i64.wrap ((i:Int)+1)=((i+1:Nat):Int):=by rw[wrap_i64 (by omega) (by omega)];omega
  have c2:(0:Int)<=(i:Int)/\(i:Int)<(ws.length:Int):=by omega
  obtain⟨q,hq⟩:∃q,ws.length-i=q+1:=⟨ws.length-i-1,by omega⟩
  have hq2:q=ws.length-(i+1):=by omega
  have hstep:jgh ws s (ws.length-i) i=if s=ws.getD i []then(i:Int)else jgh ws s q (i+1):=by rw[hq];rfl
  rw[hstep]at hf
  by_cases hn:s=ws.getD i []
  ·rw[Kk hn]at hf
   simp only[Ka,simprocAttr,Uq,Ke,Vq,t0,t1,t7,t8,c1,c2,e1,jei,hlt,jac,<- hn]
   simp only[jaX,jax,jaW,hf]
  ·rw[Km hn,hq2]at hf
   simp only[Ka,simprocAttr,Uq,Ke,Vq,t0,t1,t7,t8,c1,c2,e1,jei,hlt,jac,hn]
   exact⟨ws.length-(i+1),by omega,i+1,rfl,by omega,rfl,hf⟩
 ·have hi2:i=ws.length:=by omega
  subst hi2
  have c1:¬(ws.length:Int)<(ws.length:Int):=by omega
  rw[X7]at hf
  simp only[Ka,simprocAttr,Uq,Ke,Vq,t0,t1,t7,t8,c1]
  simp only[jaX,jax,jaW,hf];rfl
theorem jcW(ws:List (List UInt8))(c:RCap)(hc:∀k e s,c ≠ .tok k e s)(hl:ws.length<=1000)(s:List UInt8)(O:S):jar env (ev env) 87 [.row (ws.map V.str) ws.length c,.str s] O=some (.bool (decide (s∈ws)),O):=by
 refine jau rfl rfl (by rw[Q0,jiy ws c hc];rfl) at87 rfl (by simp[Tryz.f87]) (by simp[Tryz.f87]) (jaq ?_) O
 have hk:=jtf ws s
 by_cases h:s∈ws
 ·have c0:=hk.2 h
  simp only[Tryz.f87,Ka,simprocAttr,Uq,Ke,Vq,jlv ws c hc hl,c0]
  simp only[jaX,jax,jbc,h,decide_true]
 ·have c0:¬0<=jgh ws s ws.length 0:=λq=>h (hk.1 q)
  simp only[Tryz.f87,Ka,simprocAttr,Uq,Ke,Vq,jlv ws c hc hl,c0]
  simp only[jaX,jax,jbc,h,decide_false]
structure Tok where
 kind:Int
 text:List UInt8
 n:Int
 pos:Int
def Tok.cells(t:Tok):List V:=[.int .i64 t.kind,.str t.text,.int .i64 t.n,.int .i64 t.pos]
theorem jnD(t:Tok)(ws:List (List UInt8))(c:RCap)(hc:∀k e s,c ≠ .tok k e s)(hl:ws.length<=1000)(O:S):jar env (ev env) 44 [.agg [.int .i64 t.kind,.str t.text,.int .i64 t.n,.int .i64 t.pos],.row (ws.map V.str) ws.length c] O=some (.bool (decide (t.kind=5/\t.text∈ws)),O):=by
 refine jau rfl rfl (by rw[Q0,Q0,jiy ws c hc];rfl) at44 rfl (by simp[Tryz.f44]) (by simp[Tryz.f44]) (jaq ?_) O
 by_cases h:t.kind=5
 ·by_cases h2:t.text∈ws<;>
  ·simp only[Tryz.f44,Ka,simprocAttr,Uq,Ke,Uu,YW,jcW ws c hc hl,h,h2]
   simp[jaX,jax,jbc]
 ·simp only[Tryz.f44,Ka,simprocAttr,Uq,Ke,Uu,YW,jcW ws c hc hl,h]
  simp[jaX,jax,jbc]
def L1:List (List UInt8):=W ["(","[","/",".."]
def L2:List (List UInt8):=W [")","]",",","/",".."]
def Lft(a:Tok):Prop:=a.kind=5/\a.text∈L1
def Rgt(b:Tok):Prop:=b.kind=5/\b.text∈L2
instance (a:Tok):Decidable (Lft a):=by unfold Lft;infer_instance
instance (a:Tok):Decidable (Rgt a):=by unfold Rgt;infer_instance
def jmg(a b:Tok):Prop:=Lft a\/Rgt b
instance (a b:Tok):Decidable (jmg a b):=by unfold jmg;infer_instance
def Tok.none:Tok:=⟨0,[],0,0⟩
def jdE(t:Tok):List UInt8:=if t.kind=4 then 39::(t.text++[39])else t.text
def joinT(l:List Tok):Nat->List UInt8
 |0=>[]
 |i+1=>joinT l i++(if 0<i/\¬jmg (l.getD (i-1) Tok.none) (l.getD i Tok.none)then [32]else [])++jdE (l.getD i Tok.none)
theorem jkf(l:List Tok)(h:∀i,i<l.length->(l.getD i Tok.none).text.length<=1000):∀i,i<=l.length->(joinT l i).length<=1003*i
 |0,_=>by simp[joinT]
 | i+1,hi=>by
  have ih:=jkf l h i (by omega)
  have h1:=h i (by omega)
  have h2:(jdE (l.getD i Tok.none)).length<=1002:=by
   unfold jdE;split<;>(try simp only[Ks,K2,K5])<;>omega
  have h3:(if 0<i/\¬jmg (l.getD (i-1) Tok.none) (l.getD i Tok.none)then([32]:List UInt8)else []).length<=1:=by split<;>simp
  simp only[joinT,Ks]
  omega
def flatT(l:List Tok):List V:=(l.map Tok.cells).flatten
def IsT(v:V)(l:List Tok):Prop:=(v=.nilsl/\l=[])\/v=.row (flatT l) l.length .unk
theorem jfj(c:Tok)(cs:List Tok):flatT (c::cs)=.int .i64 c.kind::.str c.text::.int .i64 c.n::.int .i64 c.pos::flatT cs:=rfl
theorem jlw:∀(cs:List Tok) (i:Nat),(flatT cs).drop (i*4)=flatT (cs.drop i)
 |cs,0=>by simp
 | [],i+1=>by simp[flatT]
 |c::cs,i+1=>by
  rw[jfj,show(i+1)*4=i*4+1+1+1+1 by omega]
  simp only[Q6]
  exact jlw cs i
theorem juG {cs:List Tok}{i:Nat}(hi:i<cs.length):flatT (cs.drop i)=.int .i64 (cs.getD i Tok.none).kind::.str (cs.getD i Tok.none).text::.int .i64 (cs.getD i Tok.none).n::.int .i64 (cs.getD i Tok.none).pos::flatT (cs.drop (i+1)):=by
 have e:cs.drop i=cs.getD i Tok.none::cs.drop (i+1):=by
  rw[Qs hi]
  simp[List.getD,hi]
 rw[e,jfj]
theorem jzV {v:V}{cs:List Tok}(h:IsT v cs):jd5 (some (.slice 47)) v=some (.int .i64 cs.length):=by
 rcases h with⟨rfl,rfl⟩|rfl<;>rfl
theorem idx_T {v:V}{cs:List Tok}(h:IsT v cs){i:Nat}(hi:i<cs.length):jaJ 4 v (.int .i64 (i:Int))=some (.rptr (.int .i64 (cs.getD i Tok.none).kind::.str (cs.getD i Tok.none).text::.int .i64 (cs.getD i Tok.none).n::.int .i64 (cs.getD i Tok.none).pos::flatT (cs.drop (i+1)))):=by
 rcases h with⟨rfl,rfl⟩|rfl
 ·simp at hi
 ·rw[Ys,Kk (by omega),K3,jlw,juG hi]
theorem jiU:∀l:List Tok,V.closed.closedL (flatT l)=true
 | []=>rfl
 |c::cs=>by
  rw[jfj]
  simp only[V.closed.closedL,V.closed,jiU cs,Bool.and_self]
theorem juH {v:V}{l:List Tok}(h:IsT v l):v.closed=true:=by
 rcases h with⟨rfl,rfl⟩|rfl
 ·rfl
 ·simp only[V.closed,jiU,Bool.and_self]
theorem jdo(h:List AObj)(a b c d:V)(r:List V):jai h 4 (.rptr (a::b::c::d::r))=some [a,b,c,d]:=by simp[jai]
theorem jc4 {h:List AObj}{n:Nat}{a b c d:V}{t:TypeId}(hh:h[n]? = some (.cells [a,b,c,d] t)):jai h 4 (.ptr n 0)=some [a,b,c,d]:=by simp[jai,hh]
theorem ja2(L:List AObj)(o:AObj):(L++[o])[L.length]? = some o:=by simp
theorem jbZ(L:List AObj)(o o':AObj):(L++[o]).set L.length o'=L++[o']:=by simp
theorem Bld.app {L:List AObj}{ts:List Nat}{p:Nat}{s:List UInt8}(h:Bld ⟨L,ts⟩ p s)(o:AObj):Bld ⟨L++[o],ts⟩ p s:=by
 obtain⟨a,v,h1,h2,h3⟩:=h
 refine⟨a,v,jbH h1 _,h2,?_⟩
 rcases h3 with h|⟨b,h4,h5,h6⟩
 ·exact .inl h
 ·exact .inr ⟨b,h4,jbH h5 _,h6⟩
theorem at21:env.P.funcs[21]? = some Tryz.f21:=by kernel_rfl
theorem jaY(s:List UInt8):(V.str s).isCell=true:=rfl
theorem l1(a:Tok):Lft a↔(a.kind=5/\(a.text=[40]\/a.text=[91]\/a.text=[47]\/a.text=[46,46])):=by
 have e:L1=[[40],[91],[47],[46,46]]:=by kernel_rfl
 unfold Lft;rw[e];simp
theorem l2(b:Tok):Rgt b↔(b.kind=5/\(b.text=[41]\/b.text=[93]\/b.text=[44]\/b.text=[47]\/b.text=[46,46])):=by
 have e:L2=[[41],[93],[44],[47],[46,46]]:=by kernel_rfl
 unfold Rgt;rw[e];simp
def IsDg(c:UInt8):Prop:=48<=c.toNat/\c.toNat<=57
def decV:Nat->List UInt8->Nat
 |a,[]=>a
 |a,c::r=>decV (a*10+(c.toNat-48)) r
theorem decV_app(l r:List UInt8):∀a:Nat,decV a (l++r)=decV (decV a l) r:=by
 induction l with
 |nil=>exact λa=>rfl
 |cons c l ih=>exact λa=>ih _
theorem jo5(l:List UInt8):∀a:Nat,a<=decV a l:=by
 induction l with
 |nil=>exact λa=>Kx _
 |cons c l ih =>
  intro a
  show a<=decV (a*10+(c.toNat-48)) l
  generalize c.toNat-48=x
  have h1:a<=a*10+x:=by omega
  exact Qu h1 (ih (a*10+x))
theorem jkg {s:List UInt8}{i:Nat}(h:i<s.length):s.take (i+1)=s.take i++[s.getD i 0]:=by
 rw[Vk]
 simp[List.getD,h]
theorem jhY {s:List UInt8}{i:Nat}(h:i<s.length):decV 0 (s.take (i+1))=decV 0 (s.take i)*10+((s.getD i 0).toNat-48):=by
 rw[jkg h,decV_app];rfl
theorem jnE(s:List UInt8)(i:Nat):decV 0 (s.take i)<=decV 0 s:=by
 conv=>rhs;rw[<- J6 i s,decV_app]
 exact jo5 _ _
theorem jyk:env.P.funcs[175]? = some Tryz.f175:=by kernel_rfl
theorem jzW:env.P.funcs[214]? = some Tryz.f214:=by kernel_rfl
theorem jzX:env.P.funcs[184]? = some Tryz.f184:=by kernel_rfl
theorem u140:env.P.underlying 211=some (.int .i64):=by kernel_rfl
theorem u151:env.P.underlying 159=some (.int .u64):=by kernel_rfl
theorem u115:env.P.underlying 194=some (.int .u64):=by kernel_rfl
theorem u2:env.P.underlying 2=some (.int .i64):=by kernel_rfl
theorem jhZ(s:List UInt8)(i:Nat):(jaz s)[i]? = if i<s.length then some (V.int .u8 (s.getD i 0).toNat)else none:=by
 unfold jaz
 rw[Xe]
 by_cases h:i<s.length
 ·simp[h]
 ·simp[h]
theorem jqm(h:List AObj)(p:V):jbi env h 5 p=(jai h 1 p).bind (·[0]?):=ja0 (by kernel_rfl)
def jkI(n:Nat):V:=if n<18446744073709551616 then .tup [.int .u64 n,.nilif]else .tup [.int .u64 18446744073709551615,.iface 211 (.int .i64 1)]
theorem jbM(h:List AObj)(d:Nat)(t:TypeId)(v:V):jbo h (d+1) (.iface t v)=(jbo h d v).map (.iface t):=rfl
theorem jb0(h:List AObj)(d:Nat):jbo h (d+1) .nilif=some .nilif:=rfl
theorem w64a:IntKind.u64.wrap 64=64:=by decide
theorem w64:IntKind.u64.wrap (1*2^min (Int.toNat 64) IntKind.u64.bits)=0:=by decide
theorem w64m:IntKind.u64.wrap (0-1)=18446744073709551615:=by decide
theorem w10:IntKind.u8.wrap 10=10:=by decide
theorem w10b:IntKind.u64.wrap 10=10:=by decide
theorem jtg(s:List UInt8):decV 0 (s.take 0)<18446744073709551616:=by
 rw[Q4]
 show 0<18446744073709551616
 omega
abbrev Q135(s:List UInt8):Post:=⟨wpR env [.tmp 6,.tmp 7] λv' O'=>jbo O'.heap jax v'=some (jkI (decV 0 s)),λ_ _ _ _=>False,wpR env [.tmp 6,.tmp 7] λv' O'=>jbo O'.heap jax v'=some (jkI (decV 0 s))⟩
theorem jgV(s:List UInt8)(hd:∀i,i<s.length->IsDg (s.getD i 0))(hl:s.length<=2^30)(c2:Code)(h2:∀T,decV 0 s<18446744073709551616->T 12=.bool false->T 13=.int .u64 (decV 0 s)->G env 175 none 172 (Q135 s) [] c2 T [] ⟨[],[]⟩)(T:Tm)
  (a1:T 1=.int .i64 10) (a8:T 8=.bool false) (a9:T 9=.str s) (a10:T 10=.int .u64 1844674407370955162) (a11:T 11=.int .u64 18446744073709551615) (a12:T 12=.bool false) (a99:T 99=.row (jaz s) s.length .unk) (a100:T 100=.int .i64 s.length) (a101:T 101=.int .i64 (0:Nat)) (a13:T 13=.int .u64 (decV 0 (s.take 0))) :
  jiJ env 175 none 172 (jfT 3 (jay Tryz.f175)) T [] ⟨[],[]⟩ (Kt.post env 175 none 172 (Q135 s) [.blk 3,.code c2]):=by
 simp only[jay,Tryz.f175,Kv,jfT,blkC,Option.or,Nat.reduceEqDiff,Kr,Ku,reduceIte]
 refine jbs (λm T D O=>D=[]/\O=⟨[],[]⟩/\T 1=.int .i64 10/\T 8=.bool false/\T 9=.str s/\T 10=.int .u64 1844674407370955162/\T 11=.int .u64 18446744073709551615/\T 12=.bool false/\T 99=.row (jaz s) s.length .unk/\T 100=.int .i64 s.length /\
  ∃i:Nat,T 101=.int .i64 i/\i<=s.length/\m=s.length-i/\T 13=.int .u64 (decV 0 (s.take i))/\decV 0 (s.take i)<18446744073709551616) ?_ _ _ _ _ ⟨rfl,rfl,a1,a8,a9,a10,a11,a12,a99,a100,0,a101,Qm _,rfl,a13,jtg s⟩
 clear a1 a8 a9 a10 a11 a12 a99 a100 a101 a13 T
 rintro m T D O ⟨rfl,rfl,t1,t8,t9,t10,t11,t12,t99,t100,i,t101,hi,rfl,t13,hn⟩
 refine jaq ?_
 by_cases hlt:i<s.length
 ·have c1:(i:Int)<(s.length:Int):=by omega
  have c2:(0:Int)<=(i:Int)/\(i:Int)<(s.length:Int):=by omega
  have e1:IntKind.i64.wrap ((i:Int)+1)=((i+1:Nat):Int):=by rw[wrap_i64 (by omega) (by omega)];omega
  obtain⟨d1,d2⟩:=hd i hlt
  have hst:=jhY hlt
  have hle:=jnE s (i+1)
  have hov:¬decV 0 (s.take (i+1))<18446744073709551616->jkI (decV 0 s)=.tup [.int .u64 18446744073709551615,.iface 211 (.int .i64 1)]:=λh=>by
   unfold jkI;rw[Km (by omega)]
  generalize hc:s.getD i 0=c at *
  generalize hP:decV 0 (s.take i)=P at *
  generalize hP2:decV 0 (s.take (i+1))=P2 at *
  have k1:(48:Int)<=(c.toNat:Int):=by omega
  have k2:(c.toNat:Int)<=57:=by omega
  have k3:((c.toNat:Int)=95)=False:=eq_false (by omega)
  have k4:IntKind.u8.wrap ((c.toNat:Int)-48)=((c.toNat-48:Nat):Int):=by rw[jha (by omega) (by omega)];omega
  have k5:¬(10:Int)<=((c.toNat-48:Nat):Int):=by omega
  by_cases h1:(1844674407370955162:Int)<=(P:Int)
  ·have hv:=hov (by omega)
   simp only[Ka,Nat.reduceLT,Nat.reduceEqDiff,Ku,Kr,reduceIte,Uq,Int.reduceEq,Int.reduceLT,Int.reduceLE,Int.reduceNeg,mb,Nat.reduceBEq,tys,stb,Vq,t1,t8,t9,t10,t11,t12,t13,t99,t100,t101,c1,c2,e1,jhZ,hlt,hc,jqm,u140,u151,u115,k1,k2,k3,k4,k5,w10,Z5,h1,jeP,jfC u140]
   rw[hv]
   simp only[jaX,jax,ja8,jaA,jaF,jaW,jbM,jb0,Kj,Kw]
  have k6:IntKind.u64.wrap ((P:Int)*10)=((P*10:Nat):Int):=by rw[wrap_u64 (by omega) (by omega)];omega
  have k7:IntKind.u64.wrap ((c.toNat-48:Nat):Int)=((c.toNat-48:Nat):Int):=wrap_u64 (by omega) (by omega)
  by_cases h2:P2<18446744073709551616
  ·have k8:IntKind.u64.wrap (((P*10:Nat):Int)+((c.toNat-48:Nat):Int))=(P2:Int):=by rw[wrap_u64 (by omega) (by omega)];omega
   have k9:¬(P2:Int)<((P*10:Nat):Int):=by omega
   have k10:¬(18446744073709551615:Int)<(P2:Int):=by omega
   simp only[Ka,Nat.reduceLT,Nat.reduceEqDiff,Ku,Kr,reduceIte,Uq,Int.reduceEq,Int.reduceLT,Int.reduceLE,Int.reduceNeg,mb,Nat.reduceBEq,tys,stb,Vq,t1,t8,t9,t10,t11,t12,t13,t99,t100,t101,c1,c2,e1,jhZ,hlt,hc,jqm,u140,u151,u115,k1,k2,k3,k4,k5,k6,k7,k8,k9,k10,w10,w10b,Z5,h1,jeP,jfC u140]
   exact⟨s.length-(i+1),by omega,i+1,rfl,by omega,rfl,by rw[hP2],by rw[hP2];exact h2⟩
  ·have hv:=hov h2
   have k8:IntKind.u64.wrap (((P*10:Nat):Int)+((c.toNat-48:Nat):Int))=((P2-18446744073709551616:Nat):Int):=by rw[jl5 (by omega) (by omega)];omega
   have k9:((P2-18446744073709551616:Nat):Int)<((P*10:Nat):Int):=by omega
   simp only[Ka,Nat.reduceLT,Nat.reduceEqDiff,Ku,Kr,reduceIte,Uq,Int.reduceEq,Int.reduceLT,Int.reduceLE,Int.reduceNeg,mb,Nat.reduceBEq,tys,stb,Vq,t1,t8,t9,t10,t11,t12,t13,t99,t100,t101,c1,c2,e1,jhZ,hlt,hc,jqm,u140,u151,u115,k1,k2,k3,k4,k5,k6,k7,k8,k9,w10,w10b,Z5,h1,jeP,jfC u140]
   rw[hv]
   simp only[jaX,jax,ja8,jaA,jaF,jaW,jbM,jb0,Kj,Kw]
 ·have hi2:i=s.length:=by omega
  subst hi2
  have c1:¬(s.length:Int)<(s.length:Int):=by omega
  rw[Jx]at t13 hn
  simp only[Ka,Nat.reduceLT,Nat.reduceEqDiff,Ku,Kr,reduceIte,Uq,Int.reduceEq,Int.reduceLT,Int.reduceLE,Int.reduceNeg,mb,Nat.reduceBEq,tys,stb,Vq,t1,t8,t9,t10,t11,t12,t13,t99,t100,t101,c1]
  exact h2 _ hn t12 t13
theorem jkJ(s:List UInt8)(hd:∀i,i<s.length->IsDg (s.getD i 0))(hne:s ≠ [])(hl:s.length<=2^30)(O:S):jar env (ev env) 175 [.str s,.int .i64 10,.int .i64 0] O=some (jkI (decV 0 s),O):=by
 refine jau rfl rfl rfl jyk rfl (by simp[Tryz.f175]) (by simp[Tryz.f175]) (jaq ?_) O
 have hne2:(s=[])=False:=eq_false hne
 simp only[Tryz.f175,Ka,Nat.reduceLT,Nat.reduceEqDiff,Ku,Kr,reduceIte,Uq,Int.reduceEq,Int.reduceLT,Int.reduceLE,Int.reduceNeg,mb,Nat.reduceBEq,tys,stb,Uu,jac,hne2,u140,u151,u115,Z5,jg8 u5,jhE,w64a,w64,w64m,jb4]
 refine jgV s hd hl _ (λT hn t12 t13 => ?_) _ rfl rfl rfl rfl rfl rfl rfl rfl rfl rfl
 simp only[Ka,Nat.reduceLT,Nat.reduceEqDiff,Ku,Kr,reduceIte,Uq,Int.reduceEq,Int.reduceLT,Int.reduceLE,Int.reduceNeg,mb,Nat.reduceBEq,tys,stb,Vq,t12,t13]
 unfold jkI
 rw[Kk hn]
 simp only[jaX,jax,ja8,jaA,jaF,jaW,jbM,jb0,Kj,Kw]
def intV(n:Nat):V:=if n<9223372036854775808 then .tup [.int .i64 n,.nilif]else .tup [.int .i64 9223372036854775807,.iface 211 (.int .i64 1)]
theorem jyl:jfo env 93 211=true:=by kernel_rfl
def isIf:Option TypeDesc->Bool
 |some (.interface _)=>true
 |_=>false
theorem u100:∃ms,env.P.underlying 93=some (.interface ms):=by
 have h:isIf (env.P.underlying 93)=true:=by kernel_rfl
 unfold isIf at h
 split at h
 ·exact⟨_,‹_›⟩
 ·simp at h
theorem w63:IntKind.u64.wrap (1*2^min (Int.toNat 63) IntKind.u64.bits)=9223372036854775808:=by decide
theorem w63a:IntKind.u64.wrap 63=63:=by decide
theorem w63b:IntKind.i64.wrap (64-1)=63:=by decide
theorem w63c:IntKind.u64.wrap (9223372036854775808-1)=9223372036854775807:=by decide
theorem w63d:IntKind.i64.wrap 9223372036854775807=9223372036854775807:=by decide
theorem jmh(s:List UInt8)(hd:∀i,i<s.length->IsDg (s.getD i 0))(hne:s ≠ [])(hl:s.length<=2^30)(O:S):jar env (ev env) 214 [.str s,.int .i64 10,.int .i64 0] O=some (intV (decV 0 s),O):=by
 refine jau rfl rfl rfl jzW rfl (by simp[Tryz.f214]) (by simp[Tryz.f214]) (jaq ?_) O
 have hne2:(s=[])=False:=eq_false hne
 have hlen:0<s.length:=by
  rcases J8 s.length with h|h
  ·exact absurd (Qf h) hne
  ·exact h
 have c0:(0:Int)<=0/\(0:Int)<(s.length:Int):=by omega
 obtain⟨d1,d2⟩:=hd 0 hlen
 obtain⟨ms,u100⟩:=u100
 have hP:=jkJ s hd hne hl
 unfold jkI at hP
 unfold intV
 generalize hc:s.getD 0 0=c at *
 generalize decV 0 s=n at *
 have k1:((c.toNat:Int)=43)=False:=eq_false (by omega)
 have k2:((c.toNat:Int)=45)=False:=eq_false (by omega)
 by_cases h1:n<18446744073709551616
 ·rw[Kk h1]at hP
  by_cases h2:n<9223372036854775808
  ·rw[Kk h2]
   have k3:¬(9223372036854775808:Int)<=(n:Int):=by omega
   have k4:IntKind.i64.wrap (n:Int)=n:=wrap_i64 (by omega) (by omega)
   simp only[Tryz.f214,Ka,Nat.reduceLT,Nat.reduceEqDiff,Ku,Kr,reduceIte,Uq,Int.reduceEq,Int.reduceLT,Int.reduceLE,Int.reduceNeg,mb,Nat.reduceBEq,tys,stb,Uu,jac,hne2,u140,u151,u115,u2,jaG,jaE u9,c0,hc,k1,k2,k3,k4,hP,jcw u100,Z5,jhE,w63,w63a,w63b,w63c,w63d,jeP,jfC u140,jbB]
   simp only[jaX,jax,ja8,jaA,jaF,jaW,jbM,jb0,Kj,Kw]
  ·rw[Km h2]
   have k3:(9223372036854775808:Int)<=(n:Int):=by omega
   simp only[Tryz.f214,Ka,Nat.reduceLT,Nat.reduceEqDiff,Ku,Kr,reduceIte,Uq,Int.reduceEq,Int.reduceLT,Int.reduceLE,Int.reduceNeg,mb,Nat.reduceBEq,tys,stb,Uu,jac,hne2,u140,u151,u115,u2,jaG,jaE u9,c0,hc,k1,k2,k3,hP,jcw u100,Z5,jhE,w63,w63a,w63b,w63c,w63d,jeP,jfC u140,jbB]
   simp only[jaX,jax,ja8,jaA,jaF,jaW,jbM,jb0,Kj,Kw]
 ·rw[Km h1]at hP
  rw[Km (by omega)]
  simp only[Tryz.f214,Ka,Nat.reduceLT,Nat.reduceEqDiff,Ku,Kr,reduceIte,Uq,Int.reduceEq,Int.reduceLT,Int.reduceLE,Int.reduceNeg,mb,Nat.reduceBEq,tys,stb,Uu,jac,hne2,u140,u151,u115,u2,jaG,jaE u9,c0,hc,k1,k2,hP,jfD u100,jq6 jyl ⟨ms,u100⟩,Z5,jhE,w63,w63a,w63b,w63c,w63d,jeP,jfC u140,jbB]
  simp only[jaX,jax,ja8,jaA,jaF,jaW,jbM,jb0,Kj,Kw]
theorem jzY:env.P.funcs[224]? = some Tryz.f224:=by kernel_rfl
theorem jzZ:env.P.funcs[208]? = some Tryz.f208:=by kernel_rfl
theorem jz0:env.P.funcs[176]? = some Tryz.f176:=by kernel_rfl
theorem jz1:env.P.funcs[157]? = some Tryz.f157:=by kernel_rfl
theorem jz2(r:Nat):env.mutb 224 r=true:=rfl
theorem s5:sz env 5=some 1:=by kernel_rfl
theorem z5:jbG env 5=some (.int .u8 0):=by kernel_rfl
theorem rep_flat(n:Nat)(v:V):(List.replicate n [v]).flatten=List.replicate n v:=by
 induction n with
 |zero=>rfl
 |succ n ih=>simp[List.replicate_succ,ih]
theorem jym {O:S}(n:Nat)(hn:n ≠ 0)(hl:n<=2^30):jq2 env true O 77 (.int .i64 n) (.int .i64 n)=some (.hsl O.heap.length 0 n n .exact,O.push (.cells (List.replicate n (.int .u8 0)) 5)):=by
 have hlim:(lim:Nat)=2^40:=rfl
 have h1:0<=(n:Int)/\(n:Int)<=n/\(n:Int)<=(lim:Nat)/\(n:Int)*((1:Nat):Int)<=(lim:Nat):=by rw[hlim];omega
 have h2:¬n*1=0:=by omega
 simp only[jq2,e97,s5,b5,z5,Kj,h1,and_self,Ku,K3,h2,Kr,Y6,K2,K5,K7,true_or,rep_flat]
theorem jyn(L:List AObj)(ts:List Nat)(b:Nat)(s:List UInt8)(hs:s ≠ [])(hb:L[b]? = some (.cells (List.replicate s.length (.int .u8 0)) 5))(c:HCap)(hc:HCap.room 1 c=false) :
  jun env ⟨L,ts⟩ 77 (.hsl b 0 s.length s.length c) (.str s)=some (.int .i64 s.length,⟨L.set b (.cells (jaz s) 5),ts⟩):=by
 have h1:¬s.length=0:=λh=>hs (Qf h)
 have hv:jby L 1 s.length (.str s)=some (jaz s):=by simp[jby,jaz]
 have h2:0+(jaz s).length<=(List.replicate s.length (V.int .u8 0)).length:=by rw[jb4,List.length_replicate];omega
 have h3:jab (List.replicate s.length (V.int .u8 0)) 0 (jaz s)=jaz s:=by simp[jab,jb4]
 simp only[jun,e97,s5,Kj,vLen,Nat.min_self,hv,h1,Kr,hc,Kn,jbw,hb,h2,jgU,and_self,Ku,h3,S.set,Kw]
theorem jz3(b n:Nat)(c:HCap)(hn:0<n):jaJ 1 (.hsl b 0 n n c) (.int .i64 0)=some (.ptr b 0):=by
 simp[jaJ,hn]
theorem jo6(s:List UInt8)(hl:s.length<=2^30)(O:S):jar env (ev env) 224 [.str s] O=some (.str s,O):=by
 refine jau rfl rfl rfl jzY rfl (by simp[Tryz.f224]) (by simp[Tryz.f224]) (jaq ?_) O
 by_cases hs:s=[]
 ·subst hs
  simp only[Tryz.f224,Ka,simprocAttr,Uq,Ke,Vq,jaN,K5]
  simp[jaX,jax,jb8]
 ·have h1:¬s.length=0:=λh=>hs (Qf h)
  have h2:((s.length:Int)=0)=False:=eq_false (by omega)
  have h3:0<s.length:=by omega
  simp only[Tryz.f224,Ka,simprocAttr,Uq,Ke,Vq,jaN,h2,jhG,jz2,jym s.length h1 hl,juo,jyn [.cells (List.replicate s.length (.int .u8 0)) 5] [] 0 s hs rfl .exact rfl,jz3 _ _ _ h3,jsl,jmf,jql ⟨[.cells (jaz s) 5],[]⟩ 0 s hs hl rfl,S.push,jas,V6]
  simp[jaX,jax,jb8]
theorem gl2:env.gl 3=some (.rptr [.any]):=rfl
theorem u143:∃t,env.P.underlying 213=some (.pointer t):=by
 have h:(match env.P.underlying 213 with|some (.pointer t)=>true|_=>false)=true:=by kernel_rfl
 split at h
 ·exact⟨_,‹_›⟩
 ·simp at h
theorem juI(h:List AObj):jbi env h 93 (.rptr [.any])=some .any:=by rw[ja0 (by kernel_rfl)];simp[jai]
theorem jth:V.any.cells=[.any]:=rfl
theorem jrd:V.any.isCell=true:=rfl
theorem juJ(a s:List UInt8):jcd env 227 [(0,.str a),(1,.str s),(2,.any)]=some (.agg [.str a,.str s,.any]):=by kernel_rfl
theorem jre(a s:List UInt8)(hl:s.length<=2^30)(L:List AObj)(ts:List Nat):jar env (ev env) 208 [.str a,.str s] ⟨L,ts⟩=some (.ptr L.length 0,⟨L++[.cells [.str a,.str s,.any] 227],ts⟩):=by
 refine jbk rfl rfl jzZ rfl (by simp[Tryz.f208]) (by simp[Tryz.f208]) (jaq ?_)
 simp only[Tryz.f208,Ka,simprocAttr,Uq,Ke,Vq,jo6 s hl,gl2,jaX,juI,jth,jrd,juJ]
 exact⟨by kernel_rfl,trivial⟩
theorem juK(h:List AObj)(d b o:Nat):jbo h (d+1) (.ptr b o)=some .any:=rfl
theorem jrf(a s:List UInt8)(hl:s.length<=2^30)(O:S):jar env (ev env) 176 [.str a,.str s,.int .i64 0,.int .i64 0,.iface 211 (.int .i64 1)] O=some (.iface 213 .any,O):=by
 refine jau rfl rfl rfl jz0 rfl (by simp[Tryz.f176]) (by simp[Tryz.f176]) (jaq ?_) O
 have n12:((1:Int)=2)=False:=eq_false (by omega)
 obtain⟨t,u143⟩:=u143
 simp only[Tryz.f176,Ka,simprocAttr,Uq,Ke,Vq,u140,jeP,jfC u140,jup u143,jq5 jyl u100,n12,jre a s hl,jas]
 simp only[jaX,jax,jbM,juK,Kw]
theorem dec_bound(s:List UInt8)(hd:∀i,i<s.length->IsDg (s.getD i 0)):∀i,i<=s.length->decV 0 (s.take i)<10^i
 |0,_=>by rw[Q4];exact Nat.zero_lt_one
 |i+1,hi=>by
  have h:=dec_bound s hd i (by omega)
  have hst:=jhY (s:=s) (i:=i) (by omega)
  have h2:=hd i (by omega)
  have h3:10^(i+1)=10*10^i:=by rw[V4];omega
  unfold IsDg at h2
  omega
theorem dec_small(s:List UInt8)(hd:∀i,i<s.length->IsDg (s.getD i 0))(hl:s.length<=18)(i:Nat)(hi:i<=s.length):decV 0 (s.take i)<1000000000000000000:=by
 have h1:=dec_bound s hd i hi
 have h2:10^i<=10^18:=Xc (by omega) (by omega)
 have h3:(10:Nat)^18=1000000000000000000:=by decide
 omega
theorem jti(s:List UInt8)(hd:∀i,i<s.length->IsDg (s.getD i 0))(hl:s.length<=18)(Q:Post)(ks:List Kt)(c2:Code)(h2:∀T,T 5=.str s->T 6=.int .i64 (decV 0 s)->G env 184 none 77 Q ks c2 T [] ⟨[],[]⟩)(T:Tm)
  (a5:T 5=.str s) (a6:T 6=.int .i64 (0:Nat)) (a47:T 47=.row (jaz s) s.length .unk) (a48:T 48=.int .i64 s.length) (a49:T 49=.int .i64 (0:Nat)) :
  jiJ env 184 none 77 (jfT 0 (jay Tryz.f184)) T [] ⟨[],[]⟩ (Kt.post env 184 none 77 Q (.blk 0::.code c2::ks)):=by
 simp only[jay,Tryz.f184,Kv,jfT,blkC,Option.or,Nat.reduceEqDiff,Kr,Ku,reduceIte]
 refine jbs (λm T D O=>D=[]/\O=⟨[],[]⟩/\T 5=.str s/\T 47=.row (jaz s) s.length .unk/\T 48=.int .i64 s.length/\∃i:Nat,T 49=.int .i64 i/\i<=s.length/\m=s.length-i/\T 6=.int .i64 (decV 0 (s.take i))) ?_ _ _ _ _ ⟨rfl,rfl,a5,a47,a48,0,a49,Qm _,rfl,by rw[a6,Q4];rfl⟩
 clear a5 a6 a47 a48 a49 T
 rintro m T D O ⟨rfl,rfl,t5,t47,t48,i,t49,hi,rfl,t6⟩
 refine jaq ?_
 by_cases hlt:i<s.length
 ·have c1:(i:Int)<(s.length:Int):=by omega
  have c2:(0:Int)<=(i:Int)/\(i:Int)<(s.length:Int):=by omega
  have e1:IntKind.i64.wrap ((i:Int)+1)=((i+1:Nat):Int):=by rw[wrap_i64 (by omega) (by omega)];omega
  obtain⟨d1,d2⟩:=hd i hlt
  have hst:=jhY hlt
  have b1:=dec_small s hd hl i hi
  have b2:=dec_small s hd hl (i+1) hlt
  generalize hc:s.getD i 0=c at *
  generalize hP:decV 0 (s.take i)=P at *
  generalize hP2:decV 0 (s.take (i+1))=P2 at *
  have k4:IntKind.u8.wrap ((c.toNat:Int)-48)=((c.toNat-48:Nat):Int):=by rw[jha (by omega) (by omega)];omega
  have k5:¬(9:Int)<((c.toNat-48:Nat):Int):=by omega
  have k6:IntKind.i64.wrap ((P:Int)*10)=((P*10:Nat):Int):=by rw[wrap_i64 (by omega) (by omega)];omega
  have k7:IntKind.i64.wrap ((c.toNat-48:Nat):Int)=((c.toNat-48:Nat):Int):=wrap_i64 (by omega) (by omega)
  have k8:IntKind.i64.wrap (((P*10:Nat):Int)+((c.toNat-48:Nat):Int))=(P2:Int):=by rw[wrap_i64 (by omega) (by omega)];omega
  simp only[Ka,simprocAttr,Uq,Ke,Vq,t5,t6,t47,t48,t49,c1,c2,e1,jhZ,hlt,hc,jqm,k4,k5,k6,k7,k8,Z5]
  exact⟨s.length-(i+1),by omega,i+1,rfl,by omega,rfl,by rw[hP2]⟩
 ·have hi2:i=s.length:=by omega
  subst hi2
  have c1:¬(s.length:Int)<(s.length:Int):=by omega
  rw[Jx]at t6
  simp only[Ka,simprocAttr,Uq,Ke,Vq,t5,t6,t47,t48,t49,c1]
  exact h2 _ t5 t6
theorem jtj(s:List UInt8)(hd:∀i,i<s.length->IsDg (s.getD i 0))(hne:s ≠ [])(hl:s.length<=2^30)(O:S):jar env (ev env) 184 [.str s] O=some (intV (decV 0 s),O):=by
 refine jau rfl rfl rfl jzX rfl (by simp[Tryz.f184]) (by simp[Tryz.f184]) (jaq ?_) O
 have hlen:0<s.length:=by
  rcases J8 s.length with h|h
  ·exact absurd (Qf h) hne
  ·exact h
 have g0:(0:Int)<(s.length:Int):=by omega
 have c0:(0:Int)<=0/\(0:Int)<(s.length:Int):=by omega
 have g1:((s.length:Int)<1)=False:=eq_false (by omega)
 obtain⟨d1,d2⟩:=hd 0 hlen
 have k1:(((s.getD 0 0).toNat:Int)=43)=False:=eq_false (by omega)
 have k2:(((s.getD 0 0).toNat:Int)=45)=False:=eq_false (by omega)
 by_cases h18:s.length<=18
 ·have g2:(s.length:Int)<19:=by omega
  simp only[Tryz.f184,Ka,simprocAttr,Uq,Ke,Uu,jaN,g0,g1,g2,jaG,jaE u9,c0,k1,k2,jg8 u5,jb4]
  refine jti s hd h18 _ _ _ (λT t5 t6 => ?_) _ rfl rfl rfl rfl rfl
  simp only[Ka,simprocAttr,Uq,Ke,Vq,t5,t6,jaG,jaE u9,c0,k1,k2]
  have hb:=dec_small s hd h18 s.length (Kx _)
  rw[Jx]at hb
  unfold intV
  rw[Kk (by omega)]
  simp only[jaX,jax,ja8,jaA,jaF,jaW,jbM,jb0,Kj,Kw]
 ·have g2:((s.length:Int)<19)=False:=eq_false (by omega)
  have hP:=jmh s hd hne hl
  unfold intV at hP ⊢
  by_cases h1:decV 0 s<9223372036854775808
  ·rw[Kk h1]at hP ⊢
   simp only[Tryz.f184,Ka,simprocAttr,Uq,Ke,Uu,jaN,g0,g2,hP]
   simp only[jaX,jax,ja8,jaA,jaF,jaW,jbM,jb0,Kj,Kw]
  ·rw[Km h1]at hP ⊢
   simp only[Tryz.f184,Ka,simprocAttr,Uq,Ke,Uu,jaN,g0,g2,hP]
   simp only[jaX,jax,ja8,jaA,jaF,jaW,jbM,jb0,Kj,Kw]
def jw0(n:Nat):V:=if n<9223372036854775808 then .tup [.int .i64 n,.nilif]else .tup [.int .i64 9223372036854775807,.iface 213 .any]
theorem jtk(h:List AObj)(d:Nat):jbo h (d+1) .any=some .any:=rfl
theorem jnF(s:List UInt8)(hd:∀i,i<s.length->IsDg (s.getD i 0))(hne:s ≠ [])(hl:s.length<=2^30)(O:S):jar env (ev env) 157 [.str s] O=some (jw0 (decV 0 s),O):=by
 refine jau rfl rfl rfl jz1 rfl (by simp[Tryz.f157]) (by simp[Tryz.f157]) (jaq ?_) O
 have hP:=jtj s hd hne hl
 have hE:=λa=>jrf a s hl
 obtain⟨ms,u100⟩:=u100
 unfold intV at hP
 unfold jw0
 by_cases h1:decV 0 s<9223372036854775808
 ·rw[Kk h1]at hP ⊢
  simp only[Tryz.f157,Ka,simprocAttr,Uq,Ke,Uu,hP,jcw u100,jbB]
  simp only[jaX,jax,ja8,jaA,jaF,jaW,jbM,jb0,Kj,Kw]
 ·rw[Km h1]at hP ⊢
  simp only[Tryz.f157,Ka,simprocAttr,Uq,Ke,Uu,hP,jfD u100,asciiV,hE,jbB]
  simp only[jaX,jax,ja8,jaA,jaF,jaW,jbM,jtk,Kj,Kw]
def aggT(t:Tok):V:=.agg [.int .i64 t.kind,.str t.text,.int .i64 t.n,.int .i64 t.pos]
def tokE(t:Tok)(e:Int):V:=.tup [aggT t,.int .i64 e]
def numV(s:List UInt8)(p:Int):V :=
 if 1<s.length/\(s.getD 0 0).toNat=48 then tokE ⟨0,[],0,0⟩ 11 else
 if 1000000000<decV 0 s then tokE ⟨0,[],0,0⟩ 2 else tokE ⟨3,s,decV 0 s,p⟩ 0
theorem jz4:env.P.funcs[123]? = some Tryz.f123:=by kernel_rfl
theorem zv52:jbG env 47=some (.agg [.int .i64 0,.str [],.int .i64 0,.int .i64 0]):=by kernel_rfl
theorem ld52(a b c d:V):jbi env [.cells [a,b,c,d] 47] 47 (.ptr 0 0)=some (.agg [a,b,c,d]):=by kernel_rfl
theorem jkh:jcd env 47 []=some (.agg [.int .i64 0,.str [],.int .i64 0,.int .i64 0]):=by kernel_rfl
theorem jqn(s:List UInt8)(n p:Int):jcd env 47 [(0,.int .i64 3),(1,.str s),(2,.int .i64 n),(3,.int .i64 p)]=some (.agg [.int .i64 3,.str s,.int .i64 n,.int .i64 p]):=by kernel_rfl
theorem jo7(s:List UInt8)(p:Int)(hd:∀i,i<s.length->IsDg (s.getD i 0))(hne:s ≠ [])(hl:s.length<=2^30)(O:S):jar env (ev env) 123 [.str s,.int .i64 p] O=some (numV s p,O):=by
 refine jau rfl rfl rfl jz4 rfl (by simp[Tryz.f123]) (by simp[Tryz.f123]) (jaq ?_) O
 have hlen:0<s.length:=by
  rcases J8 s.length with h|h
  ·exact absurd (Qf h) hne
  ·exact h
 have c0:(0:Int)<=0/\(0:Int)<(s.length:Int):=by omega
 have e0:Int.toNat 0=0:=rfl
 have hP:=jnF s hd hne hl
 obtain⟨ms,u100⟩:=u100
 unfold numV tokE aggT
 unfold jw0 at hP
 by_cases h1:(1:Int)<(s.length:Int)/\((s.getD 0 0).toNat:Int)=48
 ·obtain⟨h1,h2⟩:=h1
  have h3:1<s.length/\(s.getD 0 0).toNat=48:=by omega
  rw[Kk h3]
  simp only[Tryz.f123,Ka,simprocAttr,Uq,Ke,Uu,jaN,zv52,Va,jab,jaT,jaY,ld52,Yy,h1,h2,e0,jaG,jaE u9,c0,jkh]
  simp[jaX,jax,ja8,jcD,jaA,jaF,jaW,jb8]
 have h3:¬(1<s.length/\(s.getD 0 0).toNat=48):=by omega
 rw[Km h3]
 by_cases h4:decV 0 s<9223372036854775808
 ·rw[Kk h4]at hP
  by_cases h5:1000000000<decV 0 s
  ·rw[Kk h5]
   have h6:(1000000000:Int)<(decV 0 s:Nat):=by omega
   by_cases h7:(1:Int)<(s.length:Int)
   ·have h8:(((s.getD 0 0).toNat:Int)=48)=False:=eq_false (by omega)
    simp only[Tryz.f123,Ka,simprocAttr,Uq,Ke,Uu,jaN,zv52,Va,jab,jaT,jaY,ld52,Yy,h7,h8,h6,e0,jaG,jaE u9,c0,jkh,hP,jcw u100,jbB]
    simp[jaX,jax,ja8,jcD,jaA,jaF,jaW,jb8]
   ·simp only[Tryz.f123,Ka,simprocAttr,Uq,Ke,Uu,jaN,zv52,Va,jab,jaT,jaY,ld52,Yy,h7,h6,e0,jaG,jaE u9,c0,jkh,hP,jcw u100,jbB]
    simp[jaX,jax,ja8,jcD,jaA,jaF,jaW,jb8]
  ·rw[Km h5]
   have h6:¬(1000000000:Int)<(decV 0 s:Nat):=by omega
   by_cases h7:(1:Int)<(s.length:Int)
   ·have h8:(((s.getD 0 0).toNat:Int)=48)=False:=eq_false (by omega)
    simp only[Tryz.f123,Ka,simprocAttr,Uq,Ke,Uu,jaN,zv52,Va,jab,jaT,jaY,ld52,Yy,h7,h8,h6,e0,jaG,jaE u9,c0,jqn,hP,jcw u100,jbB]
    simp[jaX,jax,ja8,jcD,jaA,jaF,jaW,jb8]
   ·simp only[Tryz.f123,Ka,simprocAttr,Uq,Ke,Uu,jaN,zv52,Va,jab,jaT,jaY,ld52,Yy,h7,h6,e0,jaG,jaE u9,c0,jqn,hP,jcw u100,jbB]
    simp[jaX,jax,ja8,jcD,jaA,jaF,jaW,jb8]
 ·rw[Km h4]at hP
  rw[Kk (by omega)]
  by_cases h7:(1:Int)<(s.length:Int)
  ·have h8:(((s.getD 0 0).toNat:Int)=48)=False:=eq_false (by omega)
   simp only[Tryz.f123,Ka,simprocAttr,Uq,Ke,Uu,jaN,zv52,Va,jab,jaT,jaY,ld52,Yy,h7,h8,e0,jaG,jaE u9,c0,jkh,hP,jfD u100,jbB]
   simp[jaX,jax,ja8,jcD,jaA,jaF,jaW,jb8]
  ·simp only[Tryz.f123,Ka,simprocAttr,Uq,Ke,Uu,jaN,zv52,Va,jab,jaT,jaY,ld52,Yy,h7,e0,jaG,jaE u9,c0,jkh,hP,jfD u100,jbB]
   simp[jaX,jax,ja8,jcD,jaA,jaF,jaW,jb8]
theorem jz5:env.P.funcs[155]? = some Tryz.f155:=by kernel_rfl
theorem jz6:env.P.funcs[121]? = some Tryz.f121:=by kernel_rfl
theorem u87:env.P.underlying 80=some (.int .i64):=by kernel_rfl
theorem u134:env.P.underlying 139=some (.slice 80):=by kernel_rfl
theorem s87:sz env 80=some 1:=by kernel_rfl
theorem jiV(k:IntKind):∀ws:List Int,V.closed.closedL (ws.map (V.int k))=true
 | []=>rfl
 |w::ws=>by simp only[Ja,V.closed.closedL,V.closed,X0];exact jiV k ws
theorem jde(h:List AObj)(p:V):jbi env h 80 p=(jai h 1 p).bind (·[0]?):=ja0 (by kernel_rfl)
def jgi(ws:List Int)(s:Int):Nat->Nat->Int
 |0,_ => -1
 |m+1,i=>if s=ws.getD i 0 then i else jgi ws s m (i+1)
theorem jlx (ws:List Int)(s:Int):∀m i,0<=jgi ws s m i↔∃j,i<=j/\j<i+m/\s=ws.getD j 0
  | 0, i => by simp only[jgi];constructor
               · intro h;omega
               · rintro⟨j,h1,h2,_⟩;omega
  | m+1,i=>by
    simp only[jgi]
    by_cases h:s=ws.getD i 0
    · rw[Kk h]
      exact⟨λ_=>⟨i,by omega,by omega,h⟩,λ_=>by omega⟩
    · rw [Km h,jlx ws s m (i+1)]
      constructor
      · rintro⟨j,h1,h2,h3⟩;exact⟨j,by omega,by omega,h3⟩
      · rintro⟨j,h1,h2,h3⟩
        refine⟨j,?_,by omega,h3⟩
        rcases K9 i j with h4|h4
        · omega
        · have:j=i:=by omega
          subst this;exact absurd h3 h
theorem jrg(ws:List Int)(s:Int):0<=jgi ws s ws.length 0↔s∈ws:=by
 rw[jlx]
 constructor
 ·rintro⟨j,_,h2,rfl⟩
  have h2:j<ws.length:=by omega
  simp[List.getD,h2]
 ·intro h
  obtain⟨j,hj,rfl⟩:=Jr.1 h
  exact⟨j,by omega,by omega,by simp[List.getD,hj]⟩
theorem jki(ws:List Int)(c:RCap)(hc:∀k e s,c ≠ .tok k e s):(V.row (ws.map (V.int .i64)) ws.length c).closed=true:=by
 simp only[V.closed,jiV,Bool.and_true]
theorem jkj(ws:List Int)(c:RCap)(hc:∀k e s,c ≠ .tok k e s)(hl:ws.length<=1000)(s:Int)(O:S):jar env (ev env) 155 [.row (ws.map (V.int .i64)) ws.length c,.int .i64 s] O=some (.int .i64 (jgi ws s ws.length 0),O):=by
 refine jau rfl rfl (by rw[Q0,jki ws c hc];rfl) jz5 rfl (by simp[Tryz.f155]) (by simp[Tryz.f155]) (jaq ?_) O
 simp only[Tryz.f155,Ka,simprocAttr,Uq,Ke,Vq,u134]
 refine jbs (λm T D O=>D=[]/\O=S.empty/\T 0=.row (ws.map (V.int .i64)) ws.length c/\T 1=.int .i64 s/\T 7=.int .i64 ws.length/\∃i:Nat,T 8=.int .i64 i/\i<=ws.length/\m=ws.length-i/\jgi ws s ws.length 0=jgi ws s (ws.length-i) i) ?_ _ _ _ _ ⟨rfl,rfl,rfl,rfl,rfl,0,rfl,by omega,rfl,rfl⟩
 rintro m T D O ⟨rfl,rfl,t0,t1,t7,i,t8,hi,rfl,hf⟩
 refine jaq ?_
 by_cases hlt:i<ws.length
 ·have c1:(i:Int)<(ws.length:Int):=by omega
  have e1:IntKind.i64.wrap ((i:Int)+1)=((i+1:Nat):Int):=by rw[wrap_i64 (by omega) (by omega)];omega
  have c2:(0:Int)<=(i:Int)/\(i:Int)<(ws.length:Int):=by omega
  obtain⟨q,hq⟩:∃q,ws.length-i=q+1:=⟨ws.length-i-1,by omega⟩
  have hq2:q=ws.length-(i+1):=by omega
  have hstep:jgi ws s (ws.length-i) i=if s=ws.getD i 0 then(i:Int)else jgi ws s q (i+1):=by rw[hq];rfl
  rw[hstep]at hf
  by_cases hn:s=ws.getD i 0
  ·rw[Kk hn]at hf
   simp only[Ka,simprocAttr,Uq,Ke,Vq,t0,t1,t7,t8,c1,c2,e1,jde,u87,u134,s87,Y0,hlt,Yf,<- hn]
   simp only[jaX,jax,jaW,hf]
  ·rw[Km hn,hq2]at hf
   simp only[Ka,simprocAttr,Uq,Ke,Vq,t0,t1,t7,t8,c1,c2,e1,jde,u87,u134,s87,Y0,hlt,Yf,hn]
   exact⟨ws.length-(i+1),by omega,i+1,rfl,by omega,rfl,hf⟩
 ·have hi2:i=ws.length:=by omega
  subst hi2
  have c1:¬(ws.length:Int)<(ws.length:Int):=by omega
  rw[X7]at hf
  simp only[Ka,simprocAttr,Uq,Ke,Vq,t0,t1,t7,t8,c1]
  simp only[jaX,jax,jaW,hf];rfl
theorem jgW(ws:List Int)(c:RCap)(hc:∀k e s,c ≠ .tok k e s)(hl:ws.length<=1000)(s:Int)(O:S):jar env (ev env) 121 [.row (ws.map (V.int .i64)) ws.length c,.int .i64 s] O=some (.bool (decide (s∈ws)),O):=by
 refine jau rfl rfl (by rw[Q0,jki ws c hc];rfl) jz6 rfl (by simp[Tryz.f121]) (by simp[Tryz.f121]) (jaq ?_) O
 have hk:=jrg ws s
 by_cases h:s∈ws
 ·have c0:=hk.2 h
  simp only[Tryz.f121,Ka,simprocAttr,Uq,Ke,Vq,jkj ws c hc hl,c0]
  simp only[jaX,jax,jbc,h,decide_true]
 ·have c0:¬0<=jgi ws s ws.length 0:=λq=>h (hk.1 q)
  simp only[Tryz.f121,Ka,simprocAttr,Uq,Ke,Vq,jkj ws c hc hl,c0]
  simp only[jaX,jax,jbc,h,decide_false]
def clsN(c:Nat):Int:=if 97<=c/\c<=122 then 2 else if 48<=c/\c<=57 then 3 else if c=32 then 1 else if c=95 then 4 else if c=39 then 5 else 0
def clsL:List Int:=(List.range 256).map clsN
theorem jnG(O:S):jar env (ev env) 42 [] O=some (.agg (clsL.map (V.int .i64)),O):=jeo rfl rfl rfl (k:=2000) (by rw[<- jga];kernel_rfl) O
theorem jz7:env.P.funcs[141]? = some Tryz.f141:=by kernel_rfl
theorem ji2(s:List UInt8)(hd:∀i,i<s.length->IsDg (s.getD i 0))(hne:s ≠ [])(hl:s.length<=2^30)(O:S):jar env (ev env) 175 [.str s,.int .i64 10,.int .i64 64] O=some (jkI (decV 0 s),O):=by
 refine jau rfl rfl rfl jyk rfl (by simp[Tryz.f175]) (by simp[Tryz.f175]) (jaq ?_) O
 have hne2:(s=[])=False:=eq_false hne
 simp only[Tryz.f175,Ka,simprocAttr,Uq,Ke,Uu,jac,hne2,u140,u151,u115,Z5,jg8 u5,jhE,w64a,w64,w64m,jb4]
 refine jgV s hd hl _ (λT hn t12 t13 => ?_) _ rfl rfl rfl rfl rfl rfl rfl rfl rfl rfl
 simp only[Ka,simprocAttr,Uq,Ke,Vq,t12,t13]
 unfold jkI
 rw[Kk hn]
 simp only[jaX,jax,ja8,jaA,jaF,jaW,jbM,jb0,Kj,Kw]
theorem jqo(s:List UInt8)(hd:∀i,i<s.length->IsDg (s.getD i 0))(hne:s ≠ [])(hl:s.length<=2^30)(hv:decV 0 s<18446744073709551616)(O:S):jar env (ev env) 141 [.str s,.int .i64 10,.int .i64 64] O=some (.tup [.int .u64 (decV 0 s),.nilif],O):=by
 have h:=ji2 s hd hne hl
 unfold jkI at h
 rw[Kk hv]at h
 obtain⟨ms,hms⟩:=u100
 refine jau rfl rfl rfl jz7 rfl (by simp[Tryz.f141]) (by simp[Tryz.f141]) (jaq ?_) O
 simp only[Tryz.f141,Ka,simprocAttr,Uq,Ke,Uu,h,jcw hms,jbB]
 simp only[jaX,jax,ja8,jaA,jaF,jaW,jbM,jb0,Kj,Kw]
end Go.Proofs.YtpclebdkhpapjaaGreatDoor.T
