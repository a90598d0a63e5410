/- Proved here: numbers and words of the scanner. Conditions: those of each theorem; no statement of the seat is proved in this text. -/
import Derived.Test.YtpclebdkhpapjaaGreatDoorPpA
import Derived.Test.YtpclebdkhpapjaaGreatDoorRows
set_option linter.unusedSimpArgs false
set_option linter.unusedVariables false
set_option linter.unusedSectionVars false
namespace Go.Proofs.YtpclebdkhpapjaaGreatDoor
open Go.Ab
set_option maxHeartbeats 8000000
set_option maxRecDepth 1000000
def asciiV(s:String):V:=.str (s.toList.map λc=>UInt8.ofNat c.toNat)
def jo9:List V:=["above","and","batch","between","bits","by","consistent","count","else","factor","from","histogram","identity","if","join","keep","late","limit","mode","none","not","of","on","or","peak","prefix","quantile","running","sum","then","total","tree","using","where","with"].map asciiV
def jkl:List V:=[1,10,100,1000,10000,100000,1000000,10000000,100000000,1000000000,10000000000,100000000000,1000000000000,10000000000000,100000000000000,1000000000000000,10000000000000000,100000000000000000,1000000000000000000,10000000000000000000].map λn=>V.int .u64 n
def glV(g:Nat):Option V :=
 match g with
 |0=>some (.rptr jo9)
 |1=>some (.rptr jkl)
 |2=>some (.rptr [.any])
 |3=>some (.rptr [.any])
 |_=>none
def memN(f:Nat):List Nat->Bool
 | []=>false
 |g::r=>match Nat.beq f g with
  |true=>true
  |false=>memN f r
theorem jqx {g:Nat}{v:V}(h:glV g=some v):(g=0/\v=.rptr jo9)\/(g=1/\v=.rptr jkl)\/(g=2/\v=.rptr [.any])\/(g=3/\v=.rptr [.any]):=by
 unfold glV at h;split at h
 ·simp at h;exact .inl ⟨rfl,h.symm⟩
 ·simp at h;exact .inr (.inl ⟨rfl,h.symm⟩)
 ·simp at h;exact .inr (.inr (.inl ⟨rfl,h.symm⟩))
 ·simp at h;exact .inr (.inr (.inr ⟨rfl,h.symm⟩))
 ·simp at h
theorem jlD(g:Nat)(v:V)(h:glV g=some v):v.closed=true:=by
 rcases jqx h with⟨_,rfl⟩|⟨_,rfl⟩|⟨_,rfl⟩|⟨_,rfl⟩<;>kernel_rfl
theorem gl_ok {E:Env}(hE:E.gl=glV)(hP:E.P=Tryz.prog){W:World}{l:List (String × DataW Unit)}(h:laidMetH Tryz.prog l W)(hp:(l.all λx=>x.2.handleName?.isNone)=true)(m0:("privhouse/schema.reserved",Rows.laid_privhouse_schema_reserved)∈l)
  (m3:("internal/strconv.uint64pow10",Rows.laid_internal_strconv_uint64pow10)∈l) (m1:("strconv.ErrSyntax",Rows.laid_strconv_ErrSyntax)∈l) (m2:("strconv.ErrRange",Rows.laid_strconv_ErrRange)∈l):GOK E (Ctx.top W):=by
 obtain⟨P,p,m,gl⟩:=E;simp only at hE hP;subst hE hP;intro g v hv
 rcases jqx hv with⟨rfl,rfl⟩|⟨rfl,rfl⟩|⟨rfl,rfl⟩|⟨rfl,rfl⟩
 ·exact jgE (k:=5) h hp m0 (g:=0) (t:=171) (by kernel_rfl) (by kernel_rfl) (by kernel_rfl)
 ·exact jgE (k:=5) h hp m3 (g:=1) (t:=197) (by kernel_rfl) (by kernel_rfl) (by kernel_rfl)
 ·exact jgE (k:=5) h hp m1 (g:=2) (t:=93) (by kernel_rfl) (by kernel_rfl) (by kernel_rfl)
 ·exact jgE (k:=5) h hp m2 (g:=3) (t:=93) (by kernel_rfl) (by kernel_rfl) (by kernel_rfl)
end Go.Proofs.YtpclebdkhpapjaaGreatDoor
namespace Go.Proofs.YtpclebdkhpapjaaGreatDoor.T
open Go.Ab
set_option maxHeartbeats 8000000
set_option maxRecDepth 100000
def jkm:List Nat:=[141,122,21,159,146,44,87,126,19,121,155,124,109,158,185,186,215,145,29,68,103,104,105,106,107,108,110,123,157,184,176,214,175,224,42,14,8]
def jyl(f:FuncId):Option (List V->Option V):=match Nat.beq f 127 with|true=>some jpT|false=>none
noncomputable def env:Env:={ P:=Tryz.prog,pure:=λf=>memN f jkm,mutb:=λf _=>f==45 ||f==46 ||f==224,gl:=glV,hook:=jyl,stab:=λf r=>(f==19 && r==9) ||(f==68 && r==28) }
theorem env_ok:env.Ok :=
  { mixed:=by kernel_rfl
    glc:=jlD
    hook:=λf g h=>by
      simp only[env,jyl]at h;split at h
      · rename_i hf
        have e:=Qw hf;subst e;simp only[Kg]at h;subst h;exact jng (E:=env) (fn:=Tryz.f127) Tryz.func127 (by kernel_rfl) (by kernel_rfl) (by kernel_rfl) rfl
      · simp at h }
end Go.Proofs.YtpclebdkhpapjaaGreatDoor.T
namespace Go.Proofs.YtpclebdkhpapjaaGreatDoor.T.N
open Go.Ab
set_option maxHeartbeats 8000000
set_option maxRecDepth 100000
theorem u3:env.P.underlying 3=some (.int .i64):=by kernel_rfl
theorem u4:env.P.underlying 4=some .bool:=by kernel_rfl
theorem u5:env.P.underlying 5=some (.int .u8):=by kernel_rfl
theorem u9:env.P.underlying 9=some .string:=by kernel_rfl
theorem u24:env.P.underlying 107=some (.slice 9):=by kernel_rfl
theorem u72:env.P.underlying 171=some (.array 35 9):=by kernel_rfl
theorem u115:env.P.underlying 194=some (.int .u64):=by kernel_rfl
theorem s9:sz env 9=some 1:=by kernel_rfl
theorem s24:sz env 107=some 1:=by kernel_rfl
theorem s3:sz env 3=some 1:=by kernel_rfl
theorem g9:aggT env 9=some false:=by kernel_rfl
theorem g24:aggT env 107=some false:=by kernel_rfl
theorem g3:aggT env 3=some false:=by kernel_rfl
theorem tys:env.P.underlying 3=some (.int .i64)/\env.P.underlying 4=some .bool/\env.P.underlying 5=some (.int .u8)/\env.P.underlying 9=some .string/\env.P.underlying 107=some (.slice 9)/\env.P.underlying 194=some (.int .u64)/\sz env 9=some 1/\sz env 107=some 1/\sz env 3=some 1 /\
  (∀h p,jbi env h 9 p=(jai h 1 p).bind (·[0]?))/\(∀h p,jbi env h 107 p=(jai h 1 p).bind (·[0]?))/\(∀h p,jbi env h 3 p=(jai h 1 p).bind (·[0]?)) :=
 ⟨u3,u4,u5,u9,u24,u115,s9,s24,s3,λ_ _=>jaY g9,λ_ _=>jaY g24,λ_ _=>jaY g3⟩
theorem mb(f:FuncId)(r:Nat)(h:(f==45 ||f==46 ||f==224)=false):env.mutb f r=false:=h
theorem stb(f:FuncId)(r:Nat)(h:(f==19 && r==9 ||f==68 && r==28)=false):env.stab f r=false:=h
theorem Ke:type_of% (Kf @mb (Kf @stb @tys)):=Kf @mb (Kf @stb @tys)
theorem jzX:env.P.funcs[215]? = some Tryz.f215:=by kernel_rfl
theorem jzY:env.P.funcs[186]? = some Tryz.f186:=by kernel_rfl
theorem jzZ:env.P.funcs[185]? = some Tryz.f185:=by kernel_rfl
theorem jz0:env.P.funcs[158]? = some Tryz.f158:=by kernel_rfl
theorem jz1:env.P.funcs[124]? = some Tryz.f124:=by kernel_rfl
theorem juL(s:List UInt8)(O:S):jas env (ev env) 215 [.str s] O=some (.bool false,O):=by
 refine jau rfl rfl rfl jzX rfl (by simp[Tryz.f215]) (U4 rfl) (jar ?_) O;simp only[Tryz.f215,Ka,Nat.reduceLT,Nat.reduceEqDiff,Ku,Ks,reduceIte,Uy,Int.reduceEq,Int.reduceLT,Int.reduceLE,Int.reduceNeg,mb,Nat.reduceBEq,tys,stb,Vq,jad];simp[jaW,jay,jbj]
theorem jkn(s:List UInt8)(O:S):jas env (ev env) 186 [.str s] O=some (.bool false,O):=by
 refine jau rfl rfl rfl jzY rfl (by simp[Tryz.f186]) (U4 rfl) (jar ?_) O;simp only[Tryz.f186,Ka,Nat.reduceLT,Nat.reduceEqDiff,Ku,Ks,reduceIte,Uy,Int.reduceEq,Int.reduceLT,Int.reduceLE,Int.reduceNeg,mb,Nat.reduceBEq,tys,stb,Vq,jad];simp[jaW,jay,jbj]
theorem jnI(a b:List UInt8)(O:S):jas env (ev env) 185 [.str a,.str b] O=some (.bool (Op.bytesLess a b),O):=by
 refine jau rfl rfl rfl jzZ rfl (by simp[Tryz.f185]) (U4 rfl) (jar ?_) O;cases h:Op.bytesLess a b<;>
 ·simp only[Tryz.f185,Ka,Nat.reduceLT,Nat.reduceEqDiff,Ku,Ks,reduceIte,Uy,Int.reduceEq,Int.reduceLT,Int.reduceLE,Int.reduceNeg,mb,Nat.reduceBEq,tys,stb,Vq,jnk,juL,h];simp[jaW,jay,jbj]
theorem jiL:∀{a b c:List UInt8},Op.bytesLess a b=true->Op.bytesLess b c=true->Op.bytesLess a c=true
 |_,[],_,h,_=>by simp[Op.bytesLess]at h
 |_,_::_,[],_,h=>by simp[Op.bytesLess]at h
 | [],y::b,z::c,_,_=>rfl
 | x::a,y::b,z::c,h,k=>by
  simp only[Op.bytesLess,Q0,K8,Qn,beq_iff_eq]at h k ⊢
  rcases h with h|⟨rfl,h⟩
  ·rcases k with k|⟨rfl,k⟩
   ·exact .inl (UInt8.lt_trans h k)
   ·exact .inl h
  ·rcases k with k|⟨rfl,k⟩
   ·exact .inl k
   ·exact .inr ⟨rfl,jiL h k⟩
def jti(ws:List (List UInt8)):Prop:=∀i j,i<j->j<ws.length->Op.bytesLess (ws.getD i []) (ws.getD j [])=true
theorem juM {ws:List (List UInt8)}{s:List UInt8}{lo:Nat}(hl:lo<=ws.length)(h1:∀i,i<lo->Op.bytesLess (ws.getD i []) s=true)(h2:∀i,lo<=i->i<ws.length->Op.bytesLess (ws.getD i []) s=false) :
  ws.countP (λw=>Op.bytesLess w s)=lo:=by
 have e:ws=ws.take lo++ws.drop lo:=(J9 lo ws).symm;rw[e,List.countP_append]
 have a1:(ws.take lo).countP (λw=>Op.bytesLess w s)=(ws.take lo).length:=by
  rw[List.countP_eq_length];intro w hw;obtain⟨i,hi,rfl⟩:=Jw.1 hw;have:=h1 i (by simp at hi;omega);have hi2:i<ws.length:=by simp at hi;omega
  simpa[List.getD,hi2]using this
 have a2:(ws.drop lo).countP (λw=>Op.bytesLess w s)=0:=by
  rw[List.countP_eq_zero];intro w hw;obtain⟨i,hi,rfl⟩:=Jw.1 hw;have hi2:lo+i<ws.length:=by simp at hi;omega
  have:=h2 (lo+i) (by omega) hi2;simpa[List.getD,hi2]using this
 rw[a1,a2];simp;omega
theorem jym {ws:List (List UInt8)}{s:List UInt8}{lo:Nat}(hr:jti ws)(h1:∀i,i<lo->Op.bytesLess (ws.getD i []) s=true)(h2:∀i,lo<=i->i<ws.length->Op.bytesLess (ws.getD i []) s=false) :
  (s∈ws)↔(lo<ws.length/\ws.getD lo []=s):=by
 constructor
 ·intro hm;obtain⟨k,hk,rfl⟩:=Jw.1 hm;have ek:ws.getD k []=ws[k]:=by simp[List.getD,hk]
  have hlo:lo<=k:=by
   rcases K4 k lo with h|h
   ·have:=h1 k h;rw[ek,jnm]at this;simp at this
   ·exact h
  rcases K4 lo k with h|h
  ·have:=hr lo k h hk;rw[ek,h2 lo (Kw _) (by omega)]at this;simp at this
  ·have:lo=k:=by omega
   subst this;exact⟨hk,ek⟩
 ·rintro⟨h,rfl⟩;simp[List.getD,h]
theorem jpa(ws:List (List UInt8))(hw:ws.length<2^40)(hr:jti ws)(s:List UInt8)(O:S) :
  jas env (ev env) 158 [.row (ws.map V.str) ws.length .full,.str s] O=some (.tup [.int .i64 (ws.countP (λw=>Op.bytesLess w s):Nat),.bool (decide (s∈ws))],O):=by
 refine jau rfl rfl (by simp[V.closed,jhc]) jz0 rfl (by simp[Tryz.f158]) (U4 rfl) (jar ?_) O;simp only[Tryz.f158,Ka,Nat.reduceLT,Nat.reduceEqDiff,Ku,Ks,reduceIte,Uy,Int.reduceEq,Int.reduceLT,Int.reduceLE,Int.reduceNeg,mb,Nat.reduceBEq,tys,stb,Vq,jnk,jac]
 refine jbo (λm T D O=>D=[]/\O=S.empty/\T 0=.row (ws.map V.str) ws.length .full/\T 1=.str s/\T 6=.int .i64 ws.length/\∃lo hi:Nat,T 7=.int .i64 lo/\T 8=.int .i64 hi/\lo<=hi/\hi<=ws.length/\m=hi-lo /\
  (∀i,i<lo->Op.bytesLess (ws.getD i []) s=true)/\(∀i,hi<=i->i<ws.length->Op.bytesLess (ws.getD i []) s=false)) ?_ _ _ _ _ ⟨rfl,rfl,rfl,rfl,rfl,0,ws.length,rfl,rfl,by omega,by omega,rfl,λi h=>by omega,λi h1 h2=>by omega⟩
 rintro m T D O ⟨rfl,rfl,t0,t1,t6,lo,hi,t7,t8,h1,h2,rfl,i1,i2⟩;refine jar ?_;by_cases hlt:lo<hi
 ·have c1:(lo:Int)<(hi:Int):=by omega
  have e1:IntKind.i64.wrap ((lo:Int)+(hi:Int))=((lo+hi:Nat):Int):=by rw[wrap_i64 (by omega) (by omega)];omega
  have e2:IntKind.u64.wrap (((lo+hi:Nat):Int))=((lo+hi:Nat):Int):=by rw[IntKind.wrap_u64];omega
  have e3:((lo+hi:Nat):Int).fdiv (2^min (Int.toNat 1) IntKind.u64.bits)=(((lo+hi)/2:Nat):Int):=by
   rw[show min (Int.toNat 1) IntKind.u64.bits=1 from by decide];rw[V4 _ (by omega)];omega
  have e4:IntKind.i64.wrap ((((lo+hi)/2:Nat):Int))=(((lo+hi)/2:Nat):Int):=by rw[wrap_i64 (by omega) (by omega)]
  have c2:(lo+hi)/2<ws.length:=by omega
  have e5:IntKind.i64.wrap ((((lo+hi)/2:Nat):Int)+1)=(((lo+hi)/2+1:Nat):Int):=by rw[wrap_i64 (by omega) (by omega)];omega
  have e6:¬((1:Int)<0):=by omega
  cases hb:Op.bytesLess (ws.getD ((lo+hi)/2) []) s with
  | true =>
   simp only[Ka,Nat.reduceLT,Nat.reduceEqDiff,Ku,Ks,reduceIte,Uy,Int.reduceEq,Int.reduceLT,Int.reduceLE,Int.reduceNeg,mb,Nat.reduceBEq,tys,stb,Vq,t0,t1,t6,t7,t8,c1,e1,e2,e3,e4,e5,e6,jeh,c2,jnI,hb,jdC];refine⟨⟨by omega,by omega⟩,hi-((lo+hi)/2+1),by omega,(lo+hi)/2+1,hi,rfl,rfl,by omega,by omega,rfl,λi hi' => ?_,i2⟩
   rcases K4 i ((lo+hi)/2)with h|h
   ·exact jiL (hr i _ h c2) hb
   ·have:i=(lo+hi)/2:=by omega
    subst this;exact hb
  | false =>
   simp only[Ka,Nat.reduceLT,Nat.reduceEqDiff,Ku,Ks,reduceIte,Uy,Int.reduceEq,Int.reduceLT,Int.reduceLE,Int.reduceNeg,mb,Nat.reduceBEq,tys,stb,Vq,t0,t1,t6,t7,t8,c1,e1,e2,e3,e4,e5,e6,jeh,c2,jnI,hb,jdC];refine⟨⟨by omega,by omega⟩,(lo+hi)/2-lo,by omega,lo,(lo+hi)/2,rfl,rfl,by omega,by omega,rfl,i1,λi h3 h4 => ?_⟩
   rcases K4 ((lo+hi)/2) i with h|h
   ·cases hc:Op.bytesLess (ws.getD i []) s with
    |false=>rfl
    |true =>
     have:=jiL (hr _ i h h4) hc;rw[hb]at this;simp at this
   ·have:i=(lo+hi)/2:=by omega
    subst this;exact hb
 ·have he:hi=lo:=by omega
  obtain rfl:lo=hi:=he.symm;have c1:¬(lo:Int)<(lo:Int):=by omega
  have hcnt:=juM h2 i1 i2;have hmem:=jym hr i1 i2;by_cases c3:lo<ws.length
  ·have c4:(lo:Int)<(ws.length:Int):=by omega
   have c6:(0:Int)<=(lo:Int)/\(lo:Int)<(ws.length:Int):=by omega
   by_cases c5:ws.getD lo []=s
   ·have hm:s∈ws:=hmem.2 ⟨c3,c5⟩;simp only[Ka,Nat.reduceLT,Nat.reduceEqDiff,Ku,Ks,reduceIte,Uy,Int.reduceEq,Int.reduceLT,Int.reduceLE,Int.reduceNeg,mb,Nat.reduceBEq,tys,stb,Vq,t0,t1,t6,t7,t8,c1,c4,c6,jeh,c3,c5,jac,jkn];simp[jaW,jay,ja7,jaA,jaF,jaV,jbj,hcnt,hm]
   ·have hm:¬s∈ws:=λh=>c5 (hmem.1 h).2
    simp only[Ka,Nat.reduceLT,Nat.reduceEqDiff,Ku,Ks,reduceIte,Uy,Int.reduceEq,Int.reduceLT,Int.reduceLE,Int.reduceNeg,mb,Nat.reduceBEq,tys,stb,Vq,t0,t1,t6,t7,t8,c1,c4,c6,jeh,c3,c5,jac,jkn];simp[jaW,jay,ja7,jaA,jaF,jaV,jbj,hcnt,hm]
  ·have c4:¬(lo:Int)<(ws.length:Int):=by omega
   have hm:¬s∈ws:=λh=>c3 (hmem.1 h).1
   simp only[Ka,Nat.reduceLT,Nat.reduceEqDiff,Ku,Ks,reduceIte,Uy,Int.reduceEq,Int.reduceLT,Int.reduceLE,Int.reduceNeg,mb,Nat.reduceBEq,tys,stb,Vq,t0,t1,t6,t7,t8,c1,c4,jeh,c3,jac,jkn];simp[jaW,jay,ja7,jaA,jaF,jaV,jbj,hcnt,hm]
def okC(c:UInt8):Prop:=(97<=c.toNat/\c.toNat<=122)\/(48<=c.toNat/\c.toNat<=57)\/c.toNat=95
instance (c:UInt8):Decidable (okC c):=by unfold okC;infer_instance
def wordsW:List (List UInt8):=["above","and","batch","between","bits","by","consistent","count","else","factor","from","histogram","identity","if","join","keep","late","limit","mode","none","not","of","on","or","peak","prefix","quantile","running","sum","then","total","tree","using","where","with"].map λs=>s.toList.map λc=>UInt8.ofNat c.toNat
theorem resV_words:jo9=wordsW.map V.str:=by kernel_rfl
theorem words_len:wordsW.length=35:=by kernel_rfl
def jtj(ws:List (List UInt8)):Bool:=(List.range ws.length).all λj=>(List.range j).all λi=>Op.bytesLess (ws.getD i []) (ws.getD j [])
theorem jnJ:jti wordsW:=by
 have h:jtj wordsW=true:=by kernel_rfl
 intro i j hij hj;unfold jtj at h;rw[K1]at h;have h1:=h j (by simpa using hj);rw[K1]at h1;exact h1 i (by simpa using hij)
def IsName(s:List UInt8):Prop:=1<=s.length/\s.length<=20/\97<=(s.getD 0 0).toNat/\(s.getD 0 0).toNat<=122/\(∀i,i<s.length->okC (s.getD i 0))/\s ∉ wordsW
instance (s:List UInt8):Decidable (IsName s):=by unfold IsName;infer_instance
theorem jw0:jb0 env 171 (.rptr jo9) none none none=some (.row (wordsW.map V.str) wordsW.length .full):=by
 rw[resV_words,words_len];exact jsD u72 s9 (by rw[Ju,words_len])
theorem name_call(s:List UInt8)(hs:s.length<2^63)(O:S):jas env (ev env) 124 [.str s] O=some (.bool (decide (IsName s)),O):=by
 refine jau rfl rfl rfl jz1 rfl (by simp[Tryz.f124]) (U4 rfl) (jar ?_) O;by_cases h1:(s.length:Int)<1
 ·have hn:¬IsName s:=λh=>by have:=h.1;omega
  simp only[Tryz.f124,Ka,simprocAttr,Uy,Ke,Vq,h1,jaL,jaG,jaE u9];simp[jaW,jay,jbj,hn]
 by_cases h2:(20:Int)<(s.length:Int)
 ·have hn:¬IsName s:=λh=>by have:=h.2.1;omega
  simp only[Tryz.f124,Ka,simprocAttr,Uy,Ke,Vq,h1,h2,jaL,jaG,jaE u9];simp[jaW,jay,jbj,hn]
 have hb:(0:Int)<=0/\(0:Int)<(s.length:Int):=by omega
 have e0:Int.toNat 0=0:=rfl;by_cases h3:(((s.getD 0 0).toNat:Nat):Int)<97
 ·have hn:¬IsName s:=λh=>by have:=h.2.2.1;omega
  simp only[Tryz.f124,Ka,simprocAttr,Uy,Ke,Vq,h1,h2,h3,jaL,jaG,jaE u9,hb];simp[jaW,jay,jbj,hn]
 by_cases h4:(122:Int)<(((s.getD 0 0).toNat:Nat):Int)
 ·have hn:¬IsName s:=λh=>by have:=h.2.2.2.1;omega
  simp only[Tryz.f124,Ka,simprocAttr,Uy,Ke,Vq,h1,h2,h3,h4,jaL,jaG,jaE u9,hb];simp[jaW,jay,jbj,hn]
 simp only[Tryz.f124,Ka,simprocAttr,Uy,Ke,Vq,h1,h2,h3,h4,jaL,jaG,jaE u9,hb];refine jbo (λm T D O=>D=[]/\O=S.empty/\T 0=.str s/\T 26=.int .i64 s.length/\∃i:Nat,T 27=.int .i64 i/\i<=s.length/\m=s.length-i/\∀j,j<i->okC (s.getD j 0)) ?_ _ _ _ _ ⟨rfl,rfl,rfl,rfl,0,rfl,by omega,rfl,λj h=>by omega⟩;rintro m T D O ⟨rfl,rfl,t0,t26,i,t27,hi,rfl,hok⟩;refine jar ?_;by_cases hlt:i<s.length
 ·have c1:(i:Int)<(s.length:Int):=by omega
  have c2:(0:Int)<=(i:Int)/\(i:Int)<(s.length:Int):=by omega
  have e1:IntKind.i64.wrap ((i:Int)+1)=((i+1:Nat):Int):=by rw[wrap_i64 (by omega) (by omega)];omega
  have hstep:okC (s.getD i 0)->∀j,j<i+1->okC (s.getD j 0):=λh j hj=>by
   rcases K4 j i with h2|h2
   ·exact hok j h2
   ·have:j=i:=by omega
    subst this;exact h
  have hbad:¬okC (s.getD i 0)->¬IsName s:=λh hn=>h (hn.2.2.2.2.1 i hlt)
  have hun:okC (s.getD i 0)↔((97<=(s.getD i 0).toNat/\(s.getD i 0).toNat<=122)\/(48<=(s.getD i 0).toNat/\(s.getD i 0).toNat<=57)\/(s.getD i 0).toNat=95):=Iff.rfl;simp only[Ka,simprocAttr,Uy,Ke,Vq,t0,t26,t27,c1,e1,jaL,jaG,jaE u9,c2,K3];generalize (s.getD i 0)=c at *
  have inv:okC c->∃m',m'<s.length-i/\∃i_1:Nat,V.int IntKind.i64 ((i+1:Nat):Int)=V.int IntKind.i64 (i_1:Nat)/\i_1<=s.length/\m'=s.length-i_1/\∀(j:Nat),j<i_1->okC (s.getD j 0) :=
   λh=>⟨s.length-(i+1),by omega,i+1,rfl,by omega,rfl,hstep h⟩
  have bad:¬okC c->jbn S.empty.heap jay (jaW [V.bool false])=some (V.bool (decide (IsName s))):=λh=>by
   simp[jaW,jay,jbj,hbad h]
  repeat' (first|apply Kf|intro _)
  all_goals first|exact inv (by unfold okC;omega)|exact bad (by unfold okC;omega)
 ·have hi2:i=s.length:=by omega
  have c1:¬(i:Int)<(s.length:Int):=by omega
  subst hi2
  have key:(s∈wordsW)=¬IsName s:=by
   apply propext;constructor
   ·exact λh hn=>hn.2.2.2.2.2 h
   ·intro h;apply V9;intro hm;exact h ⟨by omega,by omega,by omega,by omega,hok,hm⟩
  simp only[Ka,simprocAttr,Uy,Ke,Vq,t0,t26,t27,c1,jaL,jbb,jbc,jw0,jpa wordsW (by rw[words_len];decide) jnJ,show env.gl 0=some (.rptr jo9)from rfl];by_cases hn:IsName s
  ·have hm:¬s∈wordsW:=hn.2.2.2.2.2;simp[jaW,jay,jbj,hn,hm]
  ·have hm:s∈wordsW:=by rw[key];exact hn
   simp[jaW,jay,jbj,hn,hm]
end Go.Proofs.YtpclebdkhpapjaaGreatDoor.T.N
namespace Go.Proofs.YtpclebdkhpapjaaGreatDoor.T
open Go.Ab
set_option maxHeartbeats 8000000
set_option maxRecDepth 100000
theorem u3:env.P.underlying 3=some (.int .i64):=by kernel_rfl
theorem u5:env.P.underlying 5=some (.int .u8):=by kernel_rfl
theorem u9:env.P.underlying 9=some .string:=by kernel_rfl
theorem u24:env.P.underlying 107=some (.slice 9):=by kernel_rfl
theorem u45:env.P.underlying 43=some (.slice 47):=by kernel_rfl
theorem u97:env.P.underlying 77=some (.slice 5):=by kernel_rfl
theorem u108:env.P.underlying 88=some (.pointer 90):=by kernel_rfl
theorem u147:env.P.underlying 147=some .unsafePointer:=by kernel_rfl
theorem tys:env.P.underlying 3=some (.int .i64)/\env.P.underlying 4=some .bool/\env.P.underlying 5=some (.int .u8)/\env.P.underlying 9=some .string/\env.P.underlying 107=some (.slice 9)/\env.P.underlying 43=some (.slice 47)/\env.P.underlying 77=some (.slice 5) /\
  sz env 9=some 1/\sz env 107=some 1/\sz env 3=some 1/\sz env 5=some 1/\sz env 47=some 4/\sz env 77=some 1/\sz env 88=some 1/\sz env 90=some 2 /\
  ja5 env 47 0=some 0/\ja5 env 47 1=some 1/\ja5 env 90 0=some 0/\ja5 env 90 1=some 1 /\
  (∀h p,jbi env h 9 p=(jai h 1 p).bind (·[0]?))/\(∀h p,jbi env h 3 p=(jai h 1 p).bind (·[0]?))/\(∀h p,jbi env h 77 p=(jai h 1 p).bind (·[0]?))/\(∀h p,jbi env h 88 p=(jai h 1 p).bind (·[0]?)):=by
 have g9:aggT env 9=some false:=by kernel_rfl
 have g3:aggT env 3=some false:=by kernel_rfl
 have g97:aggT env 77=some false:=by kernel_rfl
 have g108:aggT env 88=some false:=by kernel_rfl
 exact⟨u3,by kernel_rfl,u5,u9,u24,u45,u97,by kernel_rfl,by kernel_rfl,by kernel_rfl,by kernel_rfl,by kernel_rfl,by kernel_rfl,by kernel_rfl,by kernel_rfl,by kernel_rfl,by kernel_rfl,by kernel_rfl,by kernel_rfl,
  λ_ _=>jaY g9,λ_ _=>jaY g3,λ_ _=>jaY g97,λ_ _=>jaY g108⟩
theorem z110:jbG env 90=some (.agg [.nilptr,.nilsl]):=by kernel_rfl
theorem mb(f:FuncId)(r:Nat)(h:(f==45 ||f==46 ||f==224)=false):env.mutb f r=false:=h
theorem stb(f:FuncId)(r:Nat)(h:(f==19 && r==9 ||f==68 && r==28)=false):env.stab f r=false:=h
theorem Ke:type_of% (Kf @mb (Kf @stb @tys)):=Kf @mb (Kf @stb @tys)
theorem at88:env.P.funcs[88]? = some Tryz.f88:=by kernel_rfl
theorem at46:env.P.funcs[46]? = some Tryz.f46:=by kernel_rfl
theorem at47:env.P.funcs[47]? = some Tryz.f47:=by kernel_rfl
theorem juN {O:S}{p:Nat}{o:AObj}(h:O.heap[p]? = some o):O.set p o=O:=by
 obtain⟨L,ts⟩:=O;simp only[S.set,S.mk.injEq,and_true];apply Xw;intro i;rw[Qu];split
 ·rename_i e;subst e;simp only at h;rw[h];have:=(Kz.1 h).1;simp[this]
 ·rfl
theorem jw1 {O:S}{p:Nat}{a v:V}(h:O.heap[p]? = some (.cells [a,v] 90)):jiA env O 88 147 (some (.pointer 90)) (some .unsafePointer) (.ptr p 0)=some (.ptr p 0,O):=by
 simp[jiA,joY,joZ,jf4,h,tys]
theorem juO:env.P.cellsOf 90=2:=by kernel_rfl
theorem jtk {O:S}{p:Nat}{a v:V}(h:O.heap[p]? = some (.cells [a,v] 90)):jiA env O 147 88 (some .unsafePointer) (some (.pointer 90)) (.ptr p 0)=some (.ptr p 0,O):=by
 simp[jiA,joY,joZ,jf4,h,juO]
theorem juP(v:V)(O:S):jas env (ev env) 127 [v] O=some (v,O):=rfl
theorem jtl(c:Bool):binO env 88 c .eql (some .nilptr) (some .nilptr)=some (.bool true):=by
 show jdd env 88 c .eql .nilptr .nilptr=_;rw[jfE (by rfl),u108];rfl
theorem jtm(c:Bool)(b o:Nat):binO env 88 c .eql (some (.ptr b o)) (some .nilptr)=some (.bool false):=by
 show jdd env 88 c .eql (.ptr b o) .nilptr=_;rw[jfE (by rfl),u108];rfl
theorem jw2(c:Bool)(b o:Nat):binO env 88 c .neq (some (.ptr b o)) (some (.ptr b o))=some (.bool false):=by
 show jdd env 88 c .neq (.ptr b o) (.ptr b o)=_;unfold jdd;rw[u108];show je7 env 88 .neq (.ptr b o) (.ptr b o)=_;simp[je7,jjC,u108,tys]
theorem jko(b o:Nat):(V.ptr b o).cells=[.ptr b o]:=rfl
theorem jgM(b o:Nat):(V.ptr b o).isCell=true:=rfl
theorem jpb(L:List AObj)(ts:List Nat)(p:Nat)(v:V)(hp:L[p]? = some (.cells [.nilptr,v] 90)):jas env (ev env) 88 [.ptr p 0] ⟨L,ts⟩=some (.tup [],⟨L.set p (.cells [.ptr p 0,v] 90),ts⟩):=by
 refine jbk rfl rfl at88 rfl (by simp[Tryz.f88]) (U4 rfl) (jar ?_);simp only[Tryz.f88,Ka,simprocAttr,Uy,Ke,Vq,jaa,jae,hp,jtl,u108,u147,jw1 (O:=⟨L,ts⟩) hp,jtk (O:=⟨L,ts⟩) hp,juP,jko,jgM,Va,jab,jaW]
theorem jpc(L:List AObj)(ts:List Nat)(p:Nat)(v:V)(hp:L[p]? = some (.cells [.ptr p 0,v] 90)):jas env (ev env) 88 [.ptr p 0] ⟨L,ts⟩=some (.tup [],⟨L,ts⟩):=by
 refine jbk rfl rfl at88 rfl (by simp[Tryz.f88]) (U4 rfl) (jar ?_);simp only[Tryz.f88,Ka,simprocAttr,Uy,Ke,Vq,jaa,jae,hp,jtm,jw2,u108,u147,jko,jgM,Va,jab,jaW]
def Buf(h:List AObj)(p:Nat)(v:V)(s:List UInt8):Prop :=
 (v=.nilsl/\s=[])\/∃b,v=.hsl b 0 s.length s.length (.grow 1)/\h[b]? = some (.cells (jaw s) 5)/\b ≠ p/\s ≠ []
def Bld(O:S)(p:Nat)(s:List UInt8):Prop:=∃a v,O.heap[p]? = some (.cells [a,v] 90)/\((a=.nilptr/\s=[])\/a=.ptr p 0)/\Buf O.heap p v s
def Stay(o:AObj):Prop:=(∀cs,o ≠ .cells cs 90)/\∀cs,o ≠ .cells cs 5
def juQ(O O':S):Prop:=∀(q:Nat) (o:AObj),Stay o->O.heap[q]? = some o->O'.heap[q]? = some o
theorem Buf.cells {h:List AObj}{p:Nat}{v:V}{s:List UInt8}(hb:Buf h p v s):v.cells=[v]/\v.isCell=true:=by
 rcases hb with⟨rfl,_⟩|⟨b,rfl,_⟩<;>exact⟨rfl,rfl⟩
theorem jmt(a b:List UInt8):jaw (a++b)=jaw a++jaw b:=by simp[jaw]
theorem jb6(a:List UInt8):(jaw a).length=a.length:=by simp[jaw]
theorem jgZ(a:List UInt8):(jaw a).all V.isCell=true:=by simp[jaw,V.isCell]
theorem e97:jf0 env 77=some 5:=by kernel_rfl
theorem b5:bys env 5=some 1:=by kernel_rfl
theorem zn5:jkK env 5=some 1:=by kernel_rfl
theorem juR(L:List AObj)(ts:List Nat)(p:Nat)(v:V)(s new:List UInt8)(hb:Buf L p v s)(hn:new ≠ [])(hl:s.length+new.length<=2^30)(hpl:p<L.length) :
  ∃L',jbT true 1 1 new.length 5 (jaw new) v ⟨L,ts⟩=some (.hsl L.length 0 (s++new).length (s++new).length (.grow 1),⟨L',ts⟩)/\L'[L.length]? = some (.cells (jaw (s++new)) 5)/\L'[p]? = L[p]? /\
   (∀(q:Nat) (o:AObj),Stay o->L[q]? = some o->L'[q]? = some o):=by
 have hlim:lim=2^40:=rfl;have hn1:¬new.length=0:=λh=>hn (Qh h)
 rcases hb with⟨rfl,rfl⟩|⟨b,rfl,hbL,hbp,hs⟩
 ·refine⟨L++[.cells (jaw new) 5],?_,by simp,by rw[K2 hpl],λq o _ hq=>jbX hq _⟩;have h1:new.length*1<=lim/\new.length<=lim:=by rw[hlim];omega
  simp only[jbT,hn1,Ks,h1,and_self,Ku,S.push,Jt]
 ·have hs1:s.length ≠ 0:=λh=>hs (Qh h)
  have hblt:=jaT hbL;refine⟨(L.set b .dead)++[.cells (jaw (s++new)) 5],?_,by simp,?_,λq o ho hq => ?_⟩
  ·have h1:¬s.length+new.length<=s.length:=by omega
   have h2:(s.length+new.length)*1<=lim/\s.length+new.length<=lim:=by rw[hlim];omega
   have htk:List.take s.length (jaw s)=jaw s:=Qi (by rw[jb6];omega);simp[jbT,h1,h2,jgZ,hbL,jb6,htk,S.push,S.set,jmt]
  ·rw[K2 (by simpa using hpl),Kk hbp]
  ·have hne:b ≠ q:=by rintro rfl;rw[hbL]at hq;cases hq;exact ho.2 _ rfl
   rw[K2 (by simpa using jaT hq),Kk hne];exact hq
theorem jpd(L:List AObj)(ts:List Nat)(p:Nat)(v:V)(s new:List UInt8)(hb:Buf L p v s)(hn:new ≠ [])(hl:s.length+new.length<=2^30)(hpl:p<L.length) :
  ∃L',appO env true ⟨L,ts⟩ 77 9 v (.str new)=some (.hsl L.length 0 (s++new).length (s++new).length (.grow 1),⟨L',ts⟩)/\L'[L.length]? = some (.cells (jaw (s++new)) 5)/\L'[p]? = L[p]? /\
   (∀(q:Nat) (o:AObj),Stay o->L[q]? = some o->L'[q]? = some o):=by
 obtain⟨L',h1,h2⟩:=juR L ts p v s new hb hn hl hpl;refine⟨L',?_,h2⟩;have hv:jbv L 1 new.length (.str new)=some (jaw new):=by simp[jbv,jaw]
 unfold appO;simp only[e97,tys,b5,zn5,Kn,vLen,hv,Ku];exact h1
theorem juS(L:List AObj)(ts:List Nat)(p:Nat)(v:V)(s:List UInt8)(hb:Buf L p v s):appO env true ⟨L,ts⟩ 77 9 v (.str [])=some (v,⟨L,ts⟩):=by
 have hv:jbv L 1 0 (.str [])=some []:=by simp[jbv]
 unfold appO;simp only[e97,tys,b5,zn5,Kn,vLen,K6,hv,Ku]
 rcases hb with⟨rfl,rfl⟩|⟨b,rfl,hbL,hbp,hs⟩
 ·simp[jbT]
 ·simp[jbT]
theorem mb83(r:Nat):env.mutb 46 r=true:=rfl
theorem jiM(L:List AObj)(ts:List Nat)(p:Nat)(s:List UInt8)(h:Bld ⟨L,ts⟩ p s):∃L' v,jas env (ev env) 88 [.ptr p 0] ⟨L,ts⟩=some (.tup [],⟨L',ts⟩)/\L'[p]? = some (.cells [.ptr p 0,v] 90)/\Buf L' p v s/\L'.length=L.length/\juQ ⟨L,ts⟩ ⟨L',ts⟩:=by
 obtain⟨a,v,hp,ha,hb⟩:=h;simp only at hp hb;have hlt:=jaT hp
 rcases ha with⟨rfl,rfl⟩|rfl
 ·refine⟨L.set p (.cells [.ptr p 0,v] 90),v,jpb L ts p v hp,by simp[hlt],?_,by simp,λq o ho hq => ?_⟩
  ·rcases hb with h|⟨b,_,_,_,h⟩
   ·exact .inl h
   ·exact absurd rfl h
  ·have hne:p ≠ q:=by rintro rfl;simp only at hq;rw[hp]at hq;cases hq;exact ho.1 _ rfl
   simp only at hq ⊢;rw[Kk hne];exact hq
 ·exact⟨L,v,jpc L ts p v hp,hp,hb,rfl,λq o ho hq=>hq⟩
theorem jh0(L:List AObj)(ts:List Nat)(p:Nat)(s new:List UInt8)(h:Bld ⟨L,ts⟩ p s)(hl:s.length+new.length<=2^30) :
  ∃L',jas env (ev env) 46 [.ptr p 0,.str new] ⟨L,ts⟩=some (.tup [.int .i64 new.length,.nilif],⟨L',ts⟩)/\Bld ⟨L',ts⟩ p (s++new)/\juQ ⟨L,ts⟩ ⟨L',ts⟩:=by
 obtain⟨L1,v,hc,hp,hb,hlen,hk⟩:=jiM L ts p s h;have hplt:=jaT hp;by_cases hn:new=[]
 ·subst hn;refine⟨L1,?_,?_,hk⟩
  ·refine jbk rfl rfl at46 rfl (by simp[Tryz.f46]) (U4 rfl) (jar ?_)
   have hs:L1.set p (.cells [.ptr p 0,v] 90)=L1:=by
    have:=juN (O:=⟨L1,ts⟩) hp;simpa[S.set]using this
   simp only[Tryz.f46,Ka,simprocAttr,Uy,Ke,Vq,jaa,jae,hc,hp,mb83,juS L1 ts p v s hb,Va,jab,hb.cells,jgM,jaW,jaL,hs]
  ·rw[Qx];exact⟨_,v,hp,.inr rfl,hb⟩
 obtain⟨L2,ha,h1,h2,h3⟩:=jpd L1 ts p v s new hb hn hl hplt;have hp2:L2[p]? = some (.cells [.ptr p 0,v] 90):=by rw[h2];exact hp
 have hp3:=jaT hp2;have hne:L1.length ≠ p:=by omega
 refine⟨L2.set p (.cells [.ptr p 0,.hsl L1.length 0 (s++new).length (s++new).length (.grow 1)] 90),?_,?_,?_⟩
 ·refine jbk rfl rfl at46 rfl (by simp[Tryz.f46]) (U4 rfl) (jar ?_);simp only[Tryz.f46,Ka,simprocAttr,Uy,Ke,Vq,jaa,jae,hc,hp,mb83,ha,hp2,Va,jab,jgM,jaW,jaL]
 ·refine⟨.ptr p 0,_,by simp[hp3],.inr rfl,.inr ⟨_,rfl,?_,hne,by simp[hn]⟩⟩;simp only;rw[Kk (λe=>hne e.symm)];exact h1
 ·intro q o ho hq;have:=h3 q o ho (hk q o ho hq);have hne2:p ≠ q:=by rintro rfl;rw[hp2]at this;cases this;exact ho.1 _ rfl
  simp only;rw[Kk hne2];exact this
theorem jnK {m:Bool}{T:Tm}{O:S}(x:Operand)(t:TypeId):opT env m T O (.call ⟨.builtin .unsafeSliceData,#[x],#[t]⟩)=((jaK env T x).bind jdM).map λv=>(v,O):=by
 unfold opT;simp only[jbp,jbu,jbz,jbw,Kx];cases jaK env T x with
 |none=>rfl
 |some v =>
  simp only[Kx,Kn];cases jdM v<;>rfl
noncomputable def ustr(O:S)(pt:TypeId)(p n:V):Option (V × S) :=
 match n with
 | .int .i64 n=>je8 env pt p n O
 |_=>none
theorem jmu {m:Bool}{T:Tm}{O:S}(x y:Operand)(t u:TypeId):opT env m T O (.call ⟨.builtin .unsafeString,#[x,y],#[t,u]⟩)=(jaK env T x).bind λp=>(jaK env T y).bind λn=>ustr O t p n:=by
 unfold opT ustr;simp only[jbp,jbu,jbz,jbw,Kx];cases jaK env T x with
 |none=>rfl
 |some v =>
  cases jaK env T y with
  |none=>rfl
  |some w=>cases w<;>first|rfl|(rename_i k n;cases k<;>rfl)
def W(l:List String):List (List UInt8):=l.map λs=>s.toList.map λc=>UInt8.ofNat c.toNat
def jbQ:List (List UInt8):=W ["(",")","[","]","+","-","*","/",",","=","!=","<","<=",">",">=",".."]
theorem jrm(O:S):jas env (ev env) 159 [] O=some (.row (jbQ.map V.str) 16 .unk,O):=jeo rfl rfl rfl (k:=20) (by rw[<- jgi];kernel_rfl) O
theorem jcm:∀s:List UInt8,jcA (jaw s)=some s
 | []=>rfl
 |b::s=>by
  have h:=jcm s;unfold jaw at h ⊢;simp only[Jf,jcA,h,Kx,Kg,J2,and_true];simp
theorem jh1:∀s:List UInt8,jif (jaw s)=true
 | []=>rfl
 |b::s=>by
  have h:=jh1 s;unfold jaw at h ⊢;have hb:=b.toNat_lt;simp only[Jf,jif,h];simp;omega
theorem u132:env.P.underlying 113=some (.pointer 5):=by kernel_rfl
theorem jyn:env.P.cellsOf 5=1:=by kernel_rfl
theorem juT(O:S):ustr O 113 .nilptr (.int .i64 0)=some (.str [],O):=rfl
theorem jqy(O:S)(b:Nat)(s:List UInt8)(hs:s ≠ [])(hl:s.length<=2^30)(hb:O.heap[b]? = some (.cells (jaw s) 5)):ustr O 113 (.ptr b 0) (.int .i64 s.length)=some (.str s,O.set b (.ro (jaw s) 5)):=by
 have h0:¬(s.length:Int)=0:=λh=>hs (Qh (by omega))
 have hlim:lim=2^40:=rfl;have h1:s.length<=lim:=by rw[hlim];omega
 have htk:List.take s.length (jaw s)=jaw s:=Qi (by rw[jb6];omega);simp only[ustr,je8,h0,Ks,hb,u132];simp[jyn,jb6,htk,jh1,jcm,h1]
theorem jkp(L:List AObj)(ts:List Nat)(p:Nat)(s:List UInt8)(h:Bld ⟨L,ts⟩ p s)(hl:s.length<=2^30):∃O',jas env (ev env) 47 [.ptr p 0] ⟨L,ts⟩=some (.str s,O')/\juQ ⟨L,ts⟩ O':=by
 obtain⟨a,v,hp,ha,hb⟩:=h;simp only at hp hb;have hplt:=jaT hp
 rcases hb with⟨rfl,rfl⟩|⟨b,rfl,hbL,hbp,hs⟩
 ·refine⟨⟨L,ts⟩,jbk rfl rfl at47 rfl (by simp[Tryz.f47]) (U4 rfl) (jar ?_),λq o _ hq=>hq⟩;simp only[Tryz.f47,Ka,simprocAttr,Uy,Ke,Vq,jaa,jae,hp,jnK,jdM,jmu,juT,jaW];exact⟨by kernel_rfl,trivial⟩
 ·have hs1:0<s.length:=by
   rcases Jr s.length with h|h
   ·exact absurd (Qh h) hs
   ·exact h
  refine⟨S.set ⟨L,ts⟩ b (.ro (jaw s) 5),jbk rfl rfl at47 rfl (by simp[Tryz.f47]) (U4 rfl) (jar ?_),λq o ho hq=>by
   have hne:b ≠ q:=by rintro rfl;simp only at hq;rw[hbL]at hq;cases hq;exact ho.2 _ rfl
   show(L.set b _)[q]? = _;rw[Kk hne];exact hq⟩
  simp only[Tryz.f47,Ka,simprocAttr,Uy,Ke,Vq,jaa,jae,hp,jnK,jdM,hs1,jsv,jmu,jqy ⟨L,ts⟩ b s hs hl hbL,jaW];exact⟨by kernel_rfl,trivial⟩
theorem jz2:env.P.funcs[126]? = some Tryz.f126:=by kernel_rfl
theorem at87:env.P.funcs[87]? = some Tryz.f87:=by kernel_rfl
theorem jpe(h:List AObj)(v:V)(r:List V):(jai h 1 (.rptr (v::r))).bind (·[0]?)=some v:=by
 have:=Yz h (v::r) 0;simpa using this
def jgq(ws:List (List UInt8))(s:List UInt8):Nat->Nat->Int
 |0,_ => -1
 |m+1,i=>if s=ws.getD i []then i else jgq ws s m (i+1)
theorem jlE (ws:List (List UInt8))(s:List UInt8):∀m i,0<=jgq ws s m i↔∃j,i<=j/\j<i+m/\s=ws.getD j []
  | 0, i => by simp only[jgq];constructor
               · intro h;omega
               · rintro⟨j,h1,h2,_⟩;omega
  | m+1,i=>by
    simp only[jgq];by_cases h:s=ws.getD i []
    · rw[Ki h]
      exact⟨λ_=>⟨i,by omega,by omega,h⟩,λ_=>by omega⟩
    · rw [Kj h,jlE ws s m (i+1)]
      constructor
      · rintro⟨j,h1,h2,h3⟩;exact⟨j,by omega,by omega,h3⟩
      · rintro⟨j,h1,h2,h3⟩
        refine⟨j,?_,by omega,h3⟩
        rcases K4 i j with h4|h4
        · omega
        · have:j=i:=by omega
          subst this;exact absurd h3 h
theorem jtn(ws:List (List UInt8))(s:List UInt8):0<=jgq ws s ws.length 0↔s∈ws:=by
 rw[jlE];constructor
 ·rintro⟨j,_,h2,rfl⟩;have h2:j<ws.length:=by omega
  simp[List.getD,h2]
 ·intro h;obtain⟨j,hj,rfl⟩:=Jw.1 h;exact⟨j,by omega,by omega,by simp[List.getD,hj]⟩
theorem jlF(ws:List (List UInt8))(c:RCap)(hc:∀k e s,c ≠ .tok k e s):(V.row (ws.map V.str) ws.length c).closed=true:=by
 simp only[V.closed,jhc,Bool.and_true]
theorem jlG(ws:List (List UInt8))(c:RCap)(hc:∀k e s,c ≠ .tok k e s)(hl:ws.length<=1000)(s:List UInt8)(O:S):jas env (ev env) 126 [.row (ws.map V.str) ws.length c,.str s] O=some (.int .i64 (jgq ws s ws.length 0),O):=by
 refine jau rfl rfl (by rw[Jz,jlF ws c hc];rfl) jz2 rfl (by simp[Tryz.f126]) (U4 rfl) (jar ?_) O;simp only[Tryz.f126,Ka,simprocAttr,Uy,Ke,Vq];refine jbo (λm T D O=>D=[]/\O=S.empty/\T 0=.row (ws.map V.str) ws.length c/\T 1=.str s/\T 7=.int .i64 ws.length/\∃i:Nat,T 8=.int .i64 i/\i<=ws.length/\m=ws.length-i/\jgq ws s ws.length 0=jgq ws s (ws.length-i) i) ?_ _ _ _ _ ⟨rfl,rfl,rfl,rfl,rfl,0,rfl,by omega,rfl,rfl⟩;rintro m T D O ⟨rfl,rfl,t0,t1,t7,i,t8,hi,rfl,hf⟩;refine jar ?_;by_cases hlt:i<ws.length
 ·have c1:(i:Int)<(ws.length:Int):=by omega
  have e1:IntKind.i64.wrap ((i:Int)+1)=((i+1:Nat):Int):=by rw[wrap_i64 (by omega) (by omega)];omega
  have c2:(0:Int)<=(i:Int)/\(i:Int)<(ws.length:Int):=by omega
  obtain⟨q,hq⟩:∃q,ws.length-i=q+1:=⟨ws.length-i-1,by omega⟩;have hq2:q=ws.length-(i+1):=by omega
  have hstep:jgq ws s (ws.length-i) i=if s=ws.getD i []then(i:Int)else jgq ws s q (i+1):=by rw[hq];rfl
  rw[hstep]at hf;by_cases hn:s=ws.getD i []
  ·rw[Ki hn]at hf;simp only[Ka,simprocAttr,Uy,Ke,Vq,t0,t1,t7,t8,c1,c2,e1,jeh,hlt,jac,<- hn];simp only[jaW,jay,jaV,hf]
  ·rw[Kj hn,hq2]at hf;simp only[Ka,simprocAttr,Uy,Ke,Vq,t0,t1,t7,t8,c1,c2,e1,jeh,hlt,jac,hn];exact⟨ws.length-(i+1),by omega,i+1,rfl,by omega,rfl,hf⟩
 ·have hi2:i=ws.length:=by omega
  subst hi2;have c1:¬(ws.length:Int)<(ws.length:Int):=by omega
  rw[X6]at hf;simp only[Ka,simprocAttr,Uy,Ke,Vq,t0,t1,t7,t8,c1];simp only[jaW,jay,jaV,hf];rfl
theorem jej(ws:List (List UInt8))(c:RCap)(hc:∀k e s,c ≠ .tok k e s)(hl:ws.length<=1000)(s:List UInt8)(O:S):jas env (ev env) 87 [.row (ws.map V.str) ws.length c,.str s] O=some (.bool (decide (s∈ws)),O):=by
 refine jau rfl rfl (by rw[Jz,jlF ws c hc];rfl) at87 rfl (by simp[Tryz.f87]) (U4 rfl) (jar ?_) O;have hk:=jtn ws s;by_cases h:s∈ws
 ·have c0:=hk.2 h;simp only[Tryz.f87,Ka,simprocAttr,Uy,Ke,Vq,jlG ws c hc hl,c0];simp only[jaW,jay,jbj,h,decide_true]
 ·have c0:¬0<=jgq ws s ws.length 0:=λq=>h (hk.1 q)
  simp only[Tryz.f87,Ka,simprocAttr,Uy,Ke,Vq,jlG ws c hc hl,c0];simp only[jaW,jay,jbj,h,decide_false]
structure Tok where
 kind:Int
 text:List UInt8
 n:Int
 pos:Int
def Tok.cells(t:Tok):List V:=[.int .i64 t.kind,.str t.text,.int .i64 t.n,.int .i64 t.pos]
def L1:List (List UInt8):=W ["(","[","/",".."]
def L2:List (List UInt8):=W [")","]",",","/",".."]
def Lft(a:Tok):Prop:=a.kind=5/\a.text∈L1
def Rgt(b:Tok):Prop:=b.kind=5/\b.text∈L2
instance (a:Tok):Decidable (Lft a):=by unfold Lft;infer_instance
instance (a:Tok):Decidable (Rgt a):=by unfold Rgt;infer_instance
def jyo(a b:Tok):Prop:=Lft a\/Rgt b
instance (a b:Tok):Decidable (jyo a b):=by unfold jyo;infer_instance
def Tok.none:Tok:=⟨0,[],0,0⟩
def jnL(t:Tok):List UInt8:=if t.kind=4 then 39::(t.text++[39])else t.text
def flatT(l:List Tok):List V:=(l.map Tok.cells).flatten
theorem jlH(c:Tok)(cs:List Tok):flatT (c::cs)=.int .i64 c.kind::.str c.text::.int .i64 c.n::.int .i64 c.pos::flatT cs:=rfl
theorem jnM {h:List AObj}{n:Nat}{a b c d:V}{t:TypeId}(hh:h[n]? = some (.cells [a,b,c,d] t)):jai h 4 (.ptr n 0)=some [a,b,c,d]:=by simp[jai,hh]
theorem jbL(L:List AObj)(o:AObj):(L++[o])[L.length]? = some o:=by simp
theorem jcY(L:List AObj)(o o':AObj):(L++[o]).set L.length o'=L++[o']:=by simp
theorem Bld.app {L:List AObj}{ts:List Nat}{p:Nat}{s:List UInt8}(h:Bld ⟨L,ts⟩ p s)(o:AObj):Bld ⟨L++[o],ts⟩ p s:=by
 obtain⟨a,v,h1,h2,h3⟩:=h;refine⟨a,v,jbX h1 _,h2,?_⟩
 rcases h3 with h|⟨b,h4,h5,h6⟩
 ·exact .inl h
 ·exact .inr ⟨b,h4,jbX h5 _,h6⟩
theorem jbe(s:List UInt8):(V.str s).isCell=true:=rfl
theorem l1(a:Tok):Lft a↔(a.kind=5/\(a.text=[40]\/a.text=[91]\/a.text=[47]\/a.text=[46,46])):=by
 have e:L1=[[40],[91],[47],[46,46]]:=by kernel_rfl
 unfold Lft;rw[e];simp
theorem l2(b:Tok):Rgt b↔(b.kind=5/\(b.text=[41]\/b.text=[93]\/b.text=[44]\/b.text=[47]\/b.text=[46,46])):=by
 have e:L2=[[41],[93],[44],[47],[46,46]]:=by kernel_rfl
 unfold Rgt;rw[e];simp
def IsDg(c:UInt8):Prop:=48<=c.toNat/\c.toNat<=57
def decV:Nat->List UInt8->Nat
 |a,[]=>a
 |a,c::r=>decV (a*10+(c.toNat-48)) r
theorem decV_app(l r:List UInt8):∀a:Nat,decV a (l++r)=decV (decV a l) r:=by
 induction l with
 |nil=>exact λa=>rfl
 |cons c l ih=>exact λa=>ih _
theorem jpf(l:List UInt8):∀a:Nat,a<=decV a l:=by
 induction l with
 |nil=>exact λa=>Kw _
 |cons c l ih =>
  intro a;show a<=decV (a*10+(c.toNat-48)) l;generalize c.toNat-48=x;have h1:a<=a*10+x:=by omega
  exact Qs h1 (ih (a*10+x))
theorem jkq {s:List UInt8}{i:Nat}(h:i<s.length):s.take (i+1)=s.take i++[s.getD i 0]:=by
 rw[Vv];simp[List.getD,h]
theorem jh2 {s:List UInt8}{i:Nat}(h:i<s.length):decV 0 (s.take (i+1))=decV 0 (s.take i)*10+((s.getD i 0).toNat-48):=by
 rw[jkq h,decV_app];rfl
theorem jnN(s:List UInt8)(i:Nat):decV 0 (s.take i)<=decV 0 s:=by
 conv=>rhs;rw[<- J9 i s,decV_app]
 exact jpf _ _
theorem jyp:env.P.funcs[175]? = some Tryz.f175:=by kernel_rfl
theorem jz3:env.P.funcs[214]? = some Tryz.f214:=by kernel_rfl
theorem jz4:env.P.funcs[184]? = some Tryz.f184:=by kernel_rfl
theorem u140:env.P.underlying 211=some (.int .i64):=by kernel_rfl
theorem u151:env.P.underlying 159=some (.int .u64):=by kernel_rfl
theorem u115:env.P.underlying 194=some (.int .u64):=by kernel_rfl
theorem u2:env.P.underlying 2=some (.int .i64):=by kernel_rfl
theorem jh3(s:List UInt8)(i:Nat):(jaw s)[i]? = if i<s.length then some (V.int .u8 (s.getD i 0).toNat)else none:=by
 unfold jaw;rw[Jy];by_cases h:i<s.length
 ·simp[h]
 ·simp[h]
theorem jqz(h:List AObj)(p:V):jbi env h 5 p=(jai h 1 p).bind (·[0]?):=jaY (by kernel_rfl)
def jkQ(n:Nat):V:=if n<18446744073709551616 then .tup [.int .u64 n,.nilif]else .tup [.int .u64 18446744073709551615,.iface 211 (.int .i64 1)]
theorem jbM(h:List AObj)(d:Nat)(t:TypeId)(v:V):jbn h (d+1) (.iface t v)=(jbn h d v).map (.iface t):=rfl
theorem jb1(h:List AObj)(d:Nat):jbn h (d+1) .nilif=some .nilif:=rfl
theorem w64a:IntKind.u64.wrap 64=64:=by decide
theorem w64:IntKind.u64.wrap (1*2^min (Int.toNat 64) IntKind.u64.bits)=0:=by decide
theorem w64m:IntKind.u64.wrap (0-1)=18446744073709551615:=by decide
theorem w10:IntKind.u8.wrap 10=10:=by decide
theorem w10b:IntKind.u64.wrap 10=10:=by decide
theorem jto(s:List UInt8):decV 0 (s.take 0)<18446744073709551616:=by
 rw[Jl];show 0<18446744073709551616;omega
abbrev Q135(s:List UInt8):Post:=⟨wpR env [.tmp 6,.tmp 7] λv' O'=>jbn O'.heap jay v'=some (jkQ (decV 0 s)),λ_ _ _ _=>False,wpR env [.tmp 6,.tmp 7] λv' O'=>jbn O'.heap jay v'=some (jkQ (decV 0 s))⟩
theorem jg0(s:List UInt8)(hd:∀i,i<s.length->IsDg (s.getD i 0))(hl:s.length<=2^30)(c2:Code)(h2:∀T,decV 0 s<18446744073709551616->T 12=.bool false->T 13=.int .u64 (decV 0 s)->G env 175 none 172 (Q135 s) [] c2 T [] ⟨[],[]⟩)(T:Tm)
  (a1:T 1=.int .i64 10) (a8:T 8=.bool false) (a9:T 9=.str s) (a10:T 10=.int .u64 1844674407370955162) (a11:T 11=.int .u64 18446744073709551615) (a12:T 12=.bool false) (a99:T 99=.row (jaw s) s.length .unk) (a100:T 100=.int .i64 s.length) (a101:T 101=.int .i64 (0:Nat)) (a13:T 13=.int .u64 (decV 0 (s.take 0))) :
  jiY env 175 none 172 (jf2 3 (jaz Tryz.f175)) T [] ⟨[],[]⟩ (Kt.post env 175 none 172 (Q135 s) [.blk 3,.code c2]):=by
 simp only[jaz,Tryz.f175,Kv,jf2,blkC,Option.or,Nat.reduceEqDiff,Ks,Ku,reduceIte]
 refine jbo (λm T D O=>D=[]/\O=⟨[],[]⟩/\T 1=.int .i64 10/\T 8=.bool false/\T 9=.str s/\T 10=.int .u64 1844674407370955162/\T 11=.int .u64 18446744073709551615/\T 12=.bool false/\T 99=.row (jaw s) s.length .unk/\T 100=.int .i64 s.length /\
  ∃i:Nat,T 101=.int .i64 i/\i<=s.length/\m=s.length-i/\T 13=.int .u64 (decV 0 (s.take i))/\decV 0 (s.take i)<18446744073709551616) ?_ _ _ _ _ ⟨rfl,rfl,a1,a8,a9,a10,a11,a12,a99,a100,0,a101,Qk _,rfl,a13,jto s⟩
 clear a1 a8 a9 a10 a11 a12 a99 a100 a101 a13 T;rintro m T D O ⟨rfl,rfl,t1,t8,t9,t10,t11,t12,t99,t100,i,t101,hi,rfl,t13,hn⟩;refine jar ?_;by_cases hlt:i<s.length
 ·have c1:(i:Int)<(s.length:Int):=by omega
  have c2:(0:Int)<=(i:Int)/\(i:Int)<(s.length:Int):=by omega
  have e1:IntKind.i64.wrap ((i:Int)+1)=((i+1:Nat):Int):=by rw[wrap_i64 (by omega) (by omega)];omega
  obtain⟨d1,d2⟩:=hd i hlt;have hst:=jh2 hlt;have hle:=jnN s (i+1)
  have hov:¬decV 0 (s.take (i+1))<18446744073709551616->jkQ (decV 0 s)=.tup [.int .u64 18446744073709551615,.iface 211 (.int .i64 1)]:=λh=>by
   unfold jkQ;rw[Kj (by omega)]
  generalize hc:s.getD i 0=c at *;generalize hP:decV 0 (s.take i)=P at *;generalize hP2:decV 0 (s.take (i+1))=P2 at *;have k1:(48:Int)<=(c.toNat:Int):=by omega
  have k2:(c.toNat:Int)<=57:=by omega
  have k3:((c.toNat:Int)=95)=False:=eq_false (by omega);have k4:IntKind.u8.wrap ((c.toNat:Int)-48)=((c.toNat-48:Nat):Int):=by rw[jhd (by omega) (by omega)];omega
  have k5:¬(10:Int)<=((c.toNat-48:Nat):Int):=by omega
  by_cases h1:(1844674407370955162:Int)<=(P:Int)
  ·have hv:=hov (by omega);simp only[Ka,Nat.reduceLT,Nat.reduceEqDiff,Ku,Ks,reduceIte,Uy,Int.reduceEq,Int.reduceLT,Int.reduceLE,Int.reduceNeg,mb,Nat.reduceBEq,tys,stb,Vq,t1,t8,t9,t10,t11,t12,t13,t99,t100,t101,c1,c2,e1,jh3,hlt,hc,jqz,u140,u151,u115,k1,k2,k3,k4,k5,w10,Z5,h1,jeV,jfG u140];rw[hv];simp only[jaW,jay,ja7,jaA,jaF,jaV,jbM,jb1,Kn,Kx]
  have k6:IntKind.u64.wrap ((P:Int)*10)=((P*10:Nat):Int):=by rw[wrap_u64 (by omega) (by omega)];omega
  have k7:IntKind.u64.wrap ((c.toNat-48:Nat):Int)=((c.toNat-48:Nat):Int):=wrap_u64 (by omega) (by omega);by_cases h2:P2<18446744073709551616
  ·have k8:IntKind.u64.wrap (((P*10:Nat):Int)+((c.toNat-48:Nat):Int))=(P2:Int):=by rw[wrap_u64 (by omega) (by omega)];omega
   have k9:¬(P2:Int)<((P*10:Nat):Int):=by omega
   have k10:¬(18446744073709551615:Int)<(P2:Int):=by omega
   simp only[Ka,Nat.reduceLT,Nat.reduceEqDiff,Ku,Ks,reduceIte,Uy,Int.reduceEq,Int.reduceLT,Int.reduceLE,Int.reduceNeg,mb,Nat.reduceBEq,tys,stb,Vq,t1,t8,t9,t10,t11,t12,t13,t99,t100,t101,c1,c2,e1,jh3,hlt,hc,jqz,u140,u151,u115,k1,k2,k3,k4,k5,k6,k7,k8,k9,k10,w10,w10b,Z5,h1,jeV,jfG u140];exact⟨s.length-(i+1),by omega,i+1,rfl,by omega,rfl,by rw[hP2],by rw[hP2];exact h2⟩
  ·have hv:=hov h2;have k8:IntKind.u64.wrap (((P*10:Nat):Int)+((c.toNat-48:Nat):Int))=((P2-18446744073709551616:Nat):Int):=by rw[jmh (by omega) (by omega)];omega
   have k9:((P2-18446744073709551616:Nat):Int)<((P*10:Nat):Int):=by omega
   simp only[Ka,Nat.reduceLT,Nat.reduceEqDiff,Ku,Ks,reduceIte,Uy,Int.reduceEq,Int.reduceLT,Int.reduceLE,Int.reduceNeg,mb,Nat.reduceBEq,tys,stb,Vq,t1,t8,t9,t10,t11,t12,t13,t99,t100,t101,c1,c2,e1,jh3,hlt,hc,jqz,u140,u151,u115,k1,k2,k3,k4,k5,k6,k7,k8,k9,w10,w10b,Z5,h1,jeV,jfG u140];rw[hv];simp only[jaW,jay,ja7,jaA,jaF,jaV,jbM,jb1,Kn,Kx]
 ·have hi2:i=s.length:=by omega
  subst hi2;have c1:¬(s.length:Int)<(s.length:Int):=by omega
  rw[J4]at t13 hn;simp only[Ka,Nat.reduceLT,Nat.reduceEqDiff,Ku,Ks,reduceIte,Uy,Int.reduceEq,Int.reduceLT,Int.reduceLE,Int.reduceNeg,mb,Nat.reduceBEq,tys,stb,Vq,t1,t8,t9,t10,t11,t12,t13,t99,t100,t101,c1];exact h2 _ hn t12 t13
theorem jkR(s:List UInt8)(hd:∀i,i<s.length->IsDg (s.getD i 0))(hne:s ≠ [])(hl:s.length<=2^30)(O:S):jas env (ev env) 175 [.str s,.int .i64 10,.int .i64 0] O=some (jkQ (decV 0 s),O):=by
 refine jau rfl rfl rfl jyp rfl (by simp[Tryz.f175]) (U4 rfl) (jar ?_) O;have hne2:(s=[])=False:=eq_false hne;simp only[Tryz.f175,Ka,Nat.reduceLT,Nat.reduceEqDiff,Ku,Ks,reduceIte,Uy,Int.reduceEq,Int.reduceLT,Int.reduceLE,Int.reduceNeg,mb,Nat.reduceBEq,tys,stb,U2,jac,hne2,u140,u151,u115,Z5,jhb u5,jhH,w64a,w64,w64m,jb6];refine jg0 s hd hl _ (λT hn t12 t13 => ?_) _ rfl rfl rfl rfl rfl rfl rfl rfl rfl rfl;simp only[Ka,Nat.reduceLT,Nat.reduceEqDiff,Ku,Ks,reduceIte,Uy,Int.reduceEq,Int.reduceLT,Int.reduceLE,Int.reduceNeg,mb,Nat.reduceBEq,tys,stb,Vq,t12,t13];unfold jkQ;rw[Ki hn];simp only[jaW,jay,ja7,jaA,jaF,jaV,jbM,jb1,Kn,Kx]
def intV(n:Nat):V:=if n<9223372036854775808 then .tup [.int .i64 n,.nilif]else .tup [.int .i64 9223372036854775807,.iface 211 (.int .i64 1)]
theorem jyq:jfr env 93 211=true:=by kernel_rfl
def isIf:Option TypeDesc->Bool
 |some (.interface _)=>true
 |_=>false
theorem u100:∃ms,env.P.underlying 93=some (.interface ms):=by
 have h:isIf (env.P.underlying 93)=true:=by kernel_rfl
 unfold isIf at h;split at h
 ·exact⟨_,‹_›⟩
 ·simp at h
theorem w63:IntKind.u64.wrap (1*2^min (Int.toNat 63) IntKind.u64.bits)=9223372036854775808:=by decide
theorem w63a:IntKind.u64.wrap 63=63:=by decide
theorem w63b:IntKind.i64.wrap (64-1)=63:=by decide
theorem w63c:IntKind.u64.wrap (9223372036854775808-1)=9223372036854775807:=by decide
theorem w63d:IntKind.i64.wrap 9223372036854775807=9223372036854775807:=by decide
theorem jmv(s:List UInt8)(hd:∀i,i<s.length->IsDg (s.getD i 0))(hne:s ≠ [])(hl:s.length<=2^30)(O:S):jas env (ev env) 214 [.str s,.int .i64 10,.int .i64 0] O=some (intV (decV 0 s),O):=by
 refine jau rfl rfl rfl jz3 rfl (by simp[Tryz.f214]) (U4 rfl) (jar ?_) O;have hne2:(s=[])=False:=eq_false hne
 have hlen:0<s.length:=by
  rcases Jr s.length with h|h
  ·exact absurd (Qh h) hne
  ·exact h
 have c0:(0:Int)<=0/\(0:Int)<(s.length:Int):=by omega
 obtain⟨d1,d2⟩:=hd 0 hlen;obtain⟨ms,u100⟩:=u100;have hP:=jkR s hd hne hl;unfold jkQ at hP;unfold intV;generalize hc:s.getD 0 0=c at *;generalize decV 0 s=n at *;have k1:((c.toNat:Int)=43)=False:=eq_false (by omega);have k2:((c.toNat:Int)=45)=False:=eq_false (by omega);by_cases h1:n<18446744073709551616
 ·rw[Ki h1]at hP;by_cases h2:n<9223372036854775808
  ·rw[Ki h2];have k3:¬(9223372036854775808:Int)<=(n:Int):=by omega
   have k4:IntKind.i64.wrap (n:Int)=n:=wrap_i64 (by omega) (by omega);simp only[Tryz.f214,Ka,Nat.reduceLT,Nat.reduceEqDiff,Ku,Ks,reduceIte,Uy,Int.reduceEq,Int.reduceLT,Int.reduceLE,Int.reduceNeg,mb,Nat.reduceBEq,tys,stb,U2,jac,hne2,u140,u151,u115,u2,jaG,jaE u9,c0,hc,k1,k2,k3,k4,hP,jcB u100,Z5,jhH,w63,w63a,w63b,w63c,w63d,jeV,jfG u140,jbC];simp only[jaW,jay,ja7,jaA,jaF,jaV,jbM,jb1,Kn,Kx]
  ·rw[Kj h2];have k3:(9223372036854775808:Int)<=(n:Int):=by omega
   simp only[Tryz.f214,Ka,Nat.reduceLT,Nat.reduceEqDiff,Ku,Ks,reduceIte,Uy,Int.reduceEq,Int.reduceLT,Int.reduceLE,Int.reduceNeg,mb,Nat.reduceBEq,tys,stb,U2,jac,hne2,u140,u151,u115,u2,jaG,jaE u9,c0,hc,k1,k2,k3,hP,jcB u100,Z5,jhH,w63,w63a,w63b,w63c,w63d,jeV,jfG u140,jbC];simp only[jaW,jay,ja7,jaA,jaF,jaV,jbM,jb1,Kn,Kx]
 ·rw[Kj h1]at hP;rw[Kj (by omega)];simp only[Tryz.f214,Ka,Nat.reduceLT,Nat.reduceEqDiff,Ku,Ks,reduceIte,Uy,Int.reduceEq,Int.reduceLT,Int.reduceLE,Int.reduceNeg,mb,Nat.reduceBEq,tys,stb,U2,jac,hne2,u140,u151,u115,u2,jaG,jaE u9,c0,hc,k1,k2,hP,jfH u100,jri jyq ⟨ms,u100⟩,Z5,jhH,w63,w63a,w63b,w63c,w63d,jeV,jfG u140,jbC];simp only[jaW,jay,ja7,jaA,jaF,jaV,jbM,jb1,Kn,Kx]
theorem jz5:env.P.funcs[224]? = some Tryz.f224:=by kernel_rfl
theorem jz6:env.P.funcs[208]? = some Tryz.f208:=by kernel_rfl
theorem jz7:env.P.funcs[176]? = some Tryz.f176:=by kernel_rfl
theorem jz8:env.P.funcs[157]? = some Tryz.f157:=by kernel_rfl
theorem jz9(r:Nat):env.mutb 224 r=true:=rfl
theorem s5:sz env 5=some 1:=by kernel_rfl
theorem z5:jbG env 5=some (.int .u8 0):=by kernel_rfl
theorem rep_flat(n:Nat)(v:V):(List.replicate n [v]).flatten=List.replicate n v:=by
 induction n with
 |zero=>rfl
 |succ n ih=>simp[V6,ih]
theorem jyr {O:S}(n:Nat)(hn:n ≠ 0)(hl:n<=2^30):jre env true O 77 (.int .i64 n) (.int .i64 n)=some (.hsl O.heap.length 0 n n .exact,O.push (.cells (List.replicate n (.int .u8 0)) 5)):=by
 have hlim:(lim:Nat)=2^40:=rfl;have h1:0<=(n:Int)/\(n:Int)<=n/\(n:Int)<=(lim:Nat)/\(n:Int)*((1:Nat):Int)<=(lim:Nat):=by rw[hlim];omega
 have h2:¬n*1=0:=by omega
 simp only[jre,e97,s5,b5,z5,Kn,h1,and_self,Ku,K3,h2,Ks,Y6,K0,K6,K7,true_or,rep_flat]
theorem jys(L:List AObj)(ts:List Nat)(b:Nat)(s:List UInt8)(hs:s ≠ [])(hb:L[b]? = some (.cells (List.replicate s.length (.int .u8 0)) 5))(c:HCap)(hc:HCap.room 1 c=false) :
  jux env ⟨L,ts⟩ 77 (.hsl b 0 s.length s.length c) (.str s)=some (.int .i64 s.length,⟨L.set b (.cells (jaw s) 5),ts⟩):=by
 have h1:¬s.length=0:=λh=>hs (Qh h)
 have hv:jbv L 1 s.length (.str s)=some (jaw s):=by simp[jbv,jaw]
 have h2:0+(jaw s).length<=(List.replicate s.length (V.int .u8 0)).length:=by rw[jb6,Xa];omega
 have h3:jab (List.replicate s.length (V.int .u8 0)) 0 (jaw s)=jaw s:=by simp[jab,jb6]
 simp only[jux,e97,s5,Kn,vLen,Nat.min_self,hv,h1,Ks,hc,Km,jbx,hb,h2,jgZ,and_self,Ku,h3,S.set,Kx]
theorem jAa(b n:Nat)(c:HCap)(hn:0<n):jaJ 1 (.hsl b 0 n n c) (.int .i64 0)=some (.ptr b 0):=by
 simp[jaJ,hn]
theorem jpg(s:List UInt8)(hl:s.length<=2^30)(O:S):jas env (ev env) 224 [.str s] O=some (.str s,O):=by
 refine jau rfl rfl rfl jz5 rfl (by simp[Tryz.f224]) (U4 rfl) (jar ?_) O;by_cases hs:s=[]
 ·subst hs;simp only[Tryz.f224,Ka,simprocAttr,Uy,Ke,Vq,jaL,K6];simp[jaW,jay,jch]
 ·have h1:¬s.length=0:=λh=>hs (Qh h)
  have h2:((s.length:Int)=0)=False:=eq_false (by omega);have h3:0<s.length:=by omega
  simp only[Tryz.f224,Ka,simprocAttr,Uy,Ke,Vq,jaL,h2,jhJ,jz9,jyr s.length h1 hl,juy,jys [.cells (List.replicate s.length (.int .u8 0)) 5] [] 0 s hs rfl .exact rfl,jAa _ _ _ h3,jsv,jmu,jqy ⟨[.cells (jaw s) 5],[]⟩ 0 s hs hl rfl,S.push,jap,Ue];simp[jaW,jay,jch]
theorem gl2:env.gl 3=some (.rptr [.any]):=rfl
theorem u143:∃t,env.P.underlying 213=some (.pointer t):=by
 have h:(match env.P.underlying 213 with|some (.pointer t)=>true|_=>false)=true:=by kernel_rfl
 split at h
 ·exact⟨_,‹_›⟩
 ·simp at h
theorem juU(h:List AObj):jbi env h 93 (.rptr [.any])=some .any:=by rw[jaY (by kernel_rfl)];simp[jai]
theorem jtp:V.any.cells=[.any]:=rfl
theorem jrn:V.any.isCell=true:=rfl
theorem juV(a s:List UInt8):jci env 227 [(0,.str a),(1,.str s),(2,.any)]=some (.agg [.str a,.str s,.any]):=by kernel_rfl
theorem jro(a s:List UInt8)(hl:s.length<=2^30)(L:List AObj)(ts:List Nat):jas env (ev env) 208 [.str a,.str s] ⟨L,ts⟩=some (.ptr L.length 0,⟨L++[.cells [.str a,.str s,.any] 227],ts⟩):=by
 refine jbk rfl rfl jz6 rfl (by simp[Tryz.f208]) (U4 rfl) (jar ?_);simp only[Tryz.f208,Ka,simprocAttr,Uy,Ke,Vq,jpg s hl,gl2,jaW,juU,jtp,jrn,juV];exact⟨by kernel_rfl,trivial⟩
theorem juW(h:List AObj)(d b o:Nat):jbn h (d+1) (.ptr b o)=some .any:=rfl
theorem jrp(a s:List UInt8)(hl:s.length<=2^30)(O:S):jas env (ev env) 176 [.str a,.str s,.int .i64 0,.int .i64 0,.iface 211 (.int .i64 1)] O=some (.iface 213 .any,O):=by
 refine jau rfl rfl rfl jz7 rfl (by simp[Tryz.f176]) (U4 rfl) (jar ?_) O;have n12:((1:Int)=2)=False:=eq_false (by omega);obtain⟨t,u143⟩:=u143;simp only[Tryz.f176,Ka,simprocAttr,Uy,Ke,Vq,u140,jeV,jfG u140,juz u143,jrh jyq u100,n12,jro a s hl,jap];simp only[jaW,jay,jbM,juW,Kx]
theorem dec_bound(s:List UInt8)(hd:∀i,i<s.length->IsDg (s.getD i 0)):∀i,i<=s.length->decV 0 (s.take i)<10^i
 |0,_=>by rw[Jl];exact Nat.zero_lt_one
 |i+1,hi=>by
  have h:=dec_bound s hd i (by omega);have hst:=jh2 (s:=s) (i:=i) (by omega);have h2:=hd i (by omega);have h3:10^(i+1)=10*10^i:=by rw[Uc];omega
  unfold IsDg at h2;omega
theorem dec_small(s:List UInt8)(hd:∀i,i<s.length->IsDg (s.getD i 0))(hl:s.length<=18)(i:Nat)(hi:i<=s.length):decV 0 (s.take i)<1000000000000000000:=by
 have h1:=dec_bound s hd i hi;have h2:10^i<=10^18:=Xe (by omega) (by omega);have h3:(10:Nat)^18=1000000000000000000:=by decide
 omega
theorem jtq(s:List UInt8)(hd:∀i,i<s.length->IsDg (s.getD i 0))(hl:s.length<=18)(Q:Post)(ks:List Kt)(c2:Code)(h2:∀T,T 5=.str s->T 6=.int .i64 (decV 0 s)->G env 184 none 77 Q ks c2 T [] ⟨[],[]⟩)(T:Tm)
  (a5:T 5=.str s) (a6:T 6=.int .i64 (0:Nat)) (a47:T 47=.row (jaw s) s.length .unk) (a48:T 48=.int .i64 s.length) (a49:T 49=.int .i64 (0:Nat)) :
  jiY env 184 none 77 (jf2 0 (jaz Tryz.f184)) T [] ⟨[],[]⟩ (Kt.post env 184 none 77 Q (.blk 0::.code c2::ks)):=by
 simp only[jaz,Tryz.f184,Kv,jf2,blkC,Option.or,Nat.reduceEqDiff,Ks,Ku,reduceIte];refine jbo (λm T D O=>D=[]/\O=⟨[],[]⟩/\T 5=.str s/\T 47=.row (jaw s) s.length .unk/\T 48=.int .i64 s.length/\∃i:Nat,T 49=.int .i64 i/\i<=s.length/\m=s.length-i/\T 6=.int .i64 (decV 0 (s.take i))) ?_ _ _ _ _ ⟨rfl,rfl,a5,a47,a48,0,a49,Qk _,rfl,by rw[a6,Jl];rfl⟩;clear a5 a6 a47 a48 a49 T;rintro m T D O ⟨rfl,rfl,t5,t47,t48,i,t49,hi,rfl,t6⟩;refine jar ?_;by_cases hlt:i<s.length
 ·have c1:(i:Int)<(s.length:Int):=by omega
  have c2:(0:Int)<=(i:Int)/\(i:Int)<(s.length:Int):=by omega
  have e1:IntKind.i64.wrap ((i:Int)+1)=((i+1:Nat):Int):=by rw[wrap_i64 (by omega) (by omega)];omega
  obtain⟨d1,d2⟩:=hd i hlt;have hst:=jh2 hlt;have b1:=dec_small s hd hl i hi;have b2:=dec_small s hd hl (i+1) hlt;generalize hc:s.getD i 0=c at *;generalize hP:decV 0 (s.take i)=P at *;generalize hP2:decV 0 (s.take (i+1))=P2 at *;have k4:IntKind.u8.wrap ((c.toNat:Int)-48)=((c.toNat-48:Nat):Int):=by rw[jhd (by omega) (by omega)];omega
  have k5:¬(9:Int)<((c.toNat-48:Nat):Int):=by omega
  have k6:IntKind.i64.wrap ((P:Int)*10)=((P*10:Nat):Int):=by rw[wrap_i64 (by omega) (by omega)];omega
  have k7:IntKind.i64.wrap ((c.toNat-48:Nat):Int)=((c.toNat-48:Nat):Int):=wrap_i64 (by omega) (by omega);have k8:IntKind.i64.wrap (((P*10:Nat):Int)+((c.toNat-48:Nat):Int))=(P2:Int):=by rw[wrap_i64 (by omega) (by omega)];omega
  simp only[Ka,simprocAttr,Uy,Ke,Vq,t5,t6,t47,t48,t49,c1,c2,e1,jh3,hlt,hc,jqz,k4,k5,k6,k7,k8,Z5];exact⟨s.length-(i+1),by omega,i+1,rfl,by omega,rfl,by rw[hP2]⟩
 ·have hi2:i=s.length:=by omega
  subst hi2;have c1:¬(s.length:Int)<(s.length:Int):=by omega
  rw[J4]at t6;simp only[Ka,simprocAttr,Uy,Ke,Vq,t5,t6,t47,t48,t49,c1];exact h2 _ t5 t6
theorem jtr(s:List UInt8)(hd:∀i,i<s.length->IsDg (s.getD i 0))(hne:s ≠ [])(hl:s.length<=2^30)(O:S):jas env (ev env) 184 [.str s] O=some (intV (decV 0 s),O):=by
 refine jau rfl rfl rfl jz4 rfl (by simp[Tryz.f184]) (U4 rfl) (jar ?_) O
 have hlen:0<s.length:=by
  rcases Jr s.length with h|h
  ·exact absurd (Qh h) hne
  ·exact h
 have g0:(0:Int)<(s.length:Int):=by omega
 have c0:(0:Int)<=0/\(0:Int)<(s.length:Int):=by omega
 have g1:((s.length:Int)<1)=False:=eq_false (by omega);obtain⟨d1,d2⟩:=hd 0 hlen;have k1:(((s.getD 0 0).toNat:Int)=43)=False:=eq_false (by omega);have k2:(((s.getD 0 0).toNat:Int)=45)=False:=eq_false (by omega);by_cases h18:s.length<=18
 ·have g2:(s.length:Int)<19:=by omega
  simp only[Tryz.f184,Ka,simprocAttr,Uy,Ke,U2,jaL,g0,g1,g2,jaG,jaE u9,c0,k1,k2,jhb u5,jb6];refine jtq s hd h18 _ _ _ (λT t5 t6 => ?_) _ rfl rfl rfl rfl rfl;simp only[Ka,simprocAttr,Uy,Ke,Vq,t5,t6,jaG,jaE u9,c0,k1,k2];have hb:=dec_small s hd h18 s.length (Kw _);rw[J4]at hb;unfold intV;rw[Ki (by omega)];simp only[jaW,jay,ja7,jaA,jaF,jaV,jbM,jb1,Kn,Kx]
 ·have g2:((s.length:Int)<19)=False:=eq_false (by omega);have hP:=jmv s hd hne hl;unfold intV at hP ⊢;by_cases h1:decV 0 s<9223372036854775808
  ·rw[Ki h1]at hP ⊢;simp only[Tryz.f184,Ka,simprocAttr,Uy,Ke,U2,jaL,g0,g2,hP];simp only[jaW,jay,ja7,jaA,jaF,jaV,jbM,jb1,Kn,Kx]
  ·rw[Kj h1]at hP ⊢;simp only[Tryz.f184,Ka,simprocAttr,Uy,Ke,U2,jaL,g0,g2,hP];simp only[jaW,jay,ja7,jaA,jaF,jaV,jbM,jb1,Kn,Kx]
def jw3(n:Nat):V:=if n<9223372036854775808 then .tup [.int .i64 n,.nilif]else .tup [.int .i64 9223372036854775807,.iface 213 .any]
theorem jts(h:List AObj)(d:Nat):jbn h (d+1) .any=some .any:=rfl
theorem jnO(s:List UInt8)(hd:∀i,i<s.length->IsDg (s.getD i 0))(hne:s ≠ [])(hl:s.length<=2^30)(O:S):jas env (ev env) 157 [.str s] O=some (jw3 (decV 0 s),O):=by
 refine jau rfl rfl rfl jz8 rfl (by simp[Tryz.f157]) (U4 rfl) (jar ?_) O;have hP:=jtr s hd hne hl;have hE:=λa=>jrp a s hl
 obtain⟨ms,u100⟩:=u100;unfold intV at hP;unfold jw3;by_cases h1:decV 0 s<9223372036854775808
 ·rw[Ki h1]at hP ⊢;simp only[Tryz.f157,Ka,simprocAttr,Uy,Ke,U2,hP,jcB u100,jbC];simp only[jaW,jay,ja7,jaA,jaF,jaV,jbM,jb1,Kn,Kx]
 ·rw[Kj h1]at hP ⊢;simp only[Tryz.f157,Ka,simprocAttr,Uy,Ke,U2,hP,jfH u100,asciiV,hE,jbC];simp only[jaW,jay,ja7,jaA,jaF,jaV,jbM,jts,Kn,Kx]
def aggT(t:Tok):V:=.agg [.int .i64 t.kind,.str t.text,.int .i64 t.n,.int .i64 t.pos]
def tokE(t:Tok)(e:Int):V:=.tup [aggT t,.int .i64 e]
def numV(s:List UInt8)(p:Int):V :=
 if 1<s.length/\(s.getD 0 0).toNat=48 then tokE ⟨0,[],0,0⟩ 11 else
 if 1000000000<decV 0 s then tokE ⟨0,[],0,0⟩ 2 else tokE ⟨3,s,decV 0 s,p⟩ 0
theorem jAb:env.P.funcs[123]? = some Tryz.f123:=by kernel_rfl
theorem zv52:jbG env 47=some (.agg [.int .i64 0,.str [],.int .i64 0,.int .i64 0]):=by kernel_rfl
theorem ld52(a b c d:V):jbi env [.cells [a,b,c,d] 47] 47 (.ptr 0 0)=some (.agg [a,b,c,d]):=by kernel_rfl
theorem jkr:jci env 47 []=some (.agg [.int .i64 0,.str [],.int .i64 0,.int .i64 0]):=by kernel_rfl
theorem jqA(s:List UInt8)(n p:Int):jci env 47 [(0,.int .i64 3),(1,.str s),(2,.int .i64 n),(3,.int .i64 p)]=some (.agg [.int .i64 3,.str s,.int .i64 n,.int .i64 p]):=by kernel_rfl
theorem jph(s:List UInt8)(p:Int)(hd:∀i,i<s.length->IsDg (s.getD i 0))(hne:s ≠ [])(hl:s.length<=2^30)(O:S):jas env (ev env) 123 [.str s,.int .i64 p] O=some (numV s p,O):=by
 refine jau rfl rfl rfl jAb rfl (by simp[Tryz.f123]) (U4 rfl) (jar ?_) O
 have hlen:0<s.length:=by
  rcases Jr s.length with h|h
  ·exact absurd (Qh h) hne
  ·exact h
 have c0:(0:Int)<=0/\(0:Int)<(s.length:Int):=by omega
 have e0:Int.toNat 0=0:=rfl;have hP:=jnO s hd hne hl;obtain⟨ms,u100⟩:=u100;unfold numV tokE aggT;unfold jw3 at hP;by_cases h1:(1:Int)<(s.length:Int)/\((s.getD 0 0).toNat:Int)=48
 ·obtain⟨h1,h2⟩:=h1;have h3:1<s.length/\(s.getD 0 0).toNat=48:=by omega
  rw[Ki h3];simp only[Tryz.f123,Ka,simprocAttr,Uy,Ke,U2,jaL,zv52,Va,jab,ja6,jbe,ld52,Yy,h1,h2,e0,jaG,jaE u9,c0,jkr];simp[jaW,jay,ja7,jcJ,jaA,jaF,jaV,jch]
 have h3:¬(1<s.length/\(s.getD 0 0).toNat=48):=by omega
 rw[Kj h3];by_cases h4:decV 0 s<9223372036854775808
 ·rw[Ki h4]at hP;by_cases h5:1000000000<decV 0 s
  ·rw[Ki h5];have h6:(1000000000:Int)<(decV 0 s:Nat):=by omega
   by_cases h7:(1:Int)<(s.length:Int)
   ·have h8:(((s.getD 0 0).toNat:Int)=48)=False:=eq_false (by omega);simp only[Tryz.f123,Ka,simprocAttr,Uy,Ke,U2,jaL,zv52,Va,jab,ja6,jbe,ld52,Yy,h7,h8,h6,e0,jaG,jaE u9,c0,jkr,hP,jcB u100,jbC];simp[jaW,jay,ja7,jcJ,jaA,jaF,jaV,jch]
   ·simp only[Tryz.f123,Ka,simprocAttr,Uy,Ke,U2,jaL,zv52,Va,jab,ja6,jbe,ld52,Yy,h7,h6,e0,jaG,jaE u9,c0,jkr,hP,jcB u100,jbC];simp[jaW,jay,ja7,jcJ,jaA,jaF,jaV,jch]
  ·rw[Kj h5];have h6:¬(1000000000:Int)<(decV 0 s:Nat):=by omega
   by_cases h7:(1:Int)<(s.length:Int)
   ·have h8:(((s.getD 0 0).toNat:Int)=48)=False:=eq_false (by omega);simp only[Tryz.f123,Ka,simprocAttr,Uy,Ke,U2,jaL,zv52,Va,jab,ja6,jbe,ld52,Yy,h7,h8,h6,e0,jaG,jaE u9,c0,jqA,hP,jcB u100,jbC];simp[jaW,jay,ja7,jcJ,jaA,jaF,jaV,jch]
   ·simp only[Tryz.f123,Ka,simprocAttr,Uy,Ke,U2,jaL,zv52,Va,jab,ja6,jbe,ld52,Yy,h7,h6,e0,jaG,jaE u9,c0,jqA,hP,jcB u100,jbC];simp[jaW,jay,ja7,jcJ,jaA,jaF,jaV,jch]
 ·rw[Kj h4]at hP;rw[Ki (by omega)];by_cases h7:(1:Int)<(s.length:Int)
  ·have h8:(((s.getD 0 0).toNat:Int)=48)=False:=eq_false (by omega);simp only[Tryz.f123,Ka,simprocAttr,Uy,Ke,U2,jaL,zv52,Va,jab,ja6,jbe,ld52,Yy,h7,h8,e0,jaG,jaE u9,c0,jkr,hP,jfH u100,jbC];simp[jaW,jay,ja7,jcJ,jaA,jaF,jaV,jch]
  ·simp only[Tryz.f123,Ka,simprocAttr,Uy,Ke,U2,jaL,zv52,Va,jab,ja6,jbe,ld52,Yy,h7,e0,jaG,jaE u9,c0,jkr,hP,jfH u100,jbC];simp[jaW,jay,ja7,jcJ,jaA,jaF,jaV,jch]
theorem jAc:env.P.funcs[155]? = some Tryz.f155:=by kernel_rfl
theorem jAd:env.P.funcs[121]? = some Tryz.f121:=by kernel_rfl
theorem u87:env.P.underlying 80=some (.int .i64):=by kernel_rfl
theorem u134:env.P.underlying 139=some (.slice 80):=by kernel_rfl
theorem s87:sz env 80=some 1:=by kernel_rfl
theorem ji9(k:IntKind):∀ws:List Int,V.closed.closedL (ws.map (V.int k))=true
 | []=>rfl
 |w::ws=>by simp only[Jf,V.closed.closedL,V.closed,Xz];exact ji9 k ws
theorem jdi(h:List AObj)(p:V):jbi env h 80 p=(jai h 1 p).bind (·[0]?):=jaY (by kernel_rfl)
def jgr(ws:List Int)(s:Int):Nat->Nat->Int
 |0,_ => -1
 |m+1,i=>if s=ws.getD i 0 then i else jgr ws s m (i+1)
theorem jlI (ws:List Int)(s:Int):∀m i,0<=jgr ws s m i↔∃j,i<=j/\j<i+m/\s=ws.getD j 0
  | 0, i => by simp only[jgr];constructor
               · intro h;omega
               · rintro⟨j,h1,h2,_⟩;omega
  | m+1,i=>by
    simp only[jgr];by_cases h:s=ws.getD i 0
    · rw[Ki h]
      exact⟨λ_=>⟨i,by omega,by omega,h⟩,λ_=>by omega⟩
    · rw [Kj h,jlI ws s m (i+1)]
      constructor
      · rintro⟨j,h1,h2,h3⟩;exact⟨j,by omega,by omega,h3⟩
      · rintro⟨j,h1,h2,h3⟩
        refine⟨j,?_,by omega,h3⟩
        rcases K4 i j with h4|h4
        · omega
        · have:j=i:=by omega
          subst this;exact absurd h3 h
theorem jrq(ws:List Int)(s:Int):0<=jgr ws s ws.length 0↔s∈ws:=by
 rw[jlI];constructor
 ·rintro⟨j,_,h2,rfl⟩;have h2:j<ws.length:=by omega
  simp[List.getD,h2]
 ·intro h;obtain⟨j,hj,rfl⟩:=Jw.1 h;exact⟨j,by omega,by omega,by simp[List.getD,hj]⟩
theorem jks(ws:List Int)(c:RCap)(hc:∀k e s,c ≠ .tok k e s):(V.row (ws.map (V.int .i64)) ws.length c).closed=true:=by
 simp only[V.closed,ji9,Bool.and_true]
theorem jkt(ws:List Int)(c:RCap)(hc:∀k e s,c ≠ .tok k e s)(hl:ws.length<=1000)(s:Int)(O:S):jas env (ev env) 155 [.row (ws.map (V.int .i64)) ws.length c,.int .i64 s] O=some (.int .i64 (jgr ws s ws.length 0),O):=by
 refine jau rfl rfl (by rw[Jz,jks ws c hc];rfl) jAc rfl (by simp[Tryz.f155]) (U4 rfl) (jar ?_) O;simp only[Tryz.f155,Ka,simprocAttr,Uy,Ke,Vq,u134];refine jbo (λm T D O=>D=[]/\O=S.empty/\T 0=.row (ws.map (V.int .i64)) ws.length c/\T 1=.int .i64 s/\T 7=.int .i64 ws.length/\∃i:Nat,T 8=.int .i64 i/\i<=ws.length/\m=ws.length-i/\jgr ws s ws.length 0=jgr ws s (ws.length-i) i) ?_ _ _ _ _ ⟨rfl,rfl,rfl,rfl,rfl,0,rfl,by omega,rfl,rfl⟩;rintro m T D O ⟨rfl,rfl,t0,t1,t7,i,t8,hi,rfl,hf⟩;refine jar ?_;by_cases hlt:i<ws.length
 ·have c1:(i:Int)<(ws.length:Int):=by omega
  have e1:IntKind.i64.wrap ((i:Int)+1)=((i+1:Nat):Int):=by rw[wrap_i64 (by omega) (by omega)];omega
  have c2:(0:Int)<=(i:Int)/\(i:Int)<(ws.length:Int):=by omega
  obtain⟨q,hq⟩:∃q,ws.length-i=q+1:=⟨ws.length-i-1,by omega⟩;have hq2:q=ws.length-(i+1):=by omega
  have hstep:jgr ws s (ws.length-i) i=if s=ws.getD i 0 then(i:Int)else jgr ws s q (i+1):=by rw[hq];rfl
  rw[hstep]at hf;by_cases hn:s=ws.getD i 0
  ·rw[Ki hn]at hf;simp only[Ka,simprocAttr,Uy,Ke,Vq,t0,t1,t7,t8,c1,c2,e1,jdi,u87,u134,s87,Y0,hlt,Yf,<- hn];simp only[jaW,jay,jaV,hf]
  ·rw[Kj hn,hq2]at hf;simp only[Ka,simprocAttr,Uy,Ke,Vq,t0,t1,t7,t8,c1,c2,e1,jdi,u87,u134,s87,Y0,hlt,Yf,hn];exact⟨ws.length-(i+1),by omega,i+1,rfl,by omega,rfl,hf⟩
 ·have hi2:i=ws.length:=by omega
  subst hi2;have c1:¬(ws.length:Int)<(ws.length:Int):=by omega
  rw[X6]at hf;simp only[Ka,simprocAttr,Uy,Ke,Vq,t0,t1,t7,t8,c1];simp only[jaW,jay,jaV,hf];rfl
theorem jg1(ws:List Int)(c:RCap)(hc:∀k e s,c ≠ .tok k e s)(hl:ws.length<=1000)(s:Int)(O:S):jas env (ev env) 121 [.row (ws.map (V.int .i64)) ws.length c,.int .i64 s] O=some (.bool (decide (s∈ws)),O):=by
 refine jau rfl rfl (by rw[Jz,jks ws c hc];rfl) jAd rfl (by simp[Tryz.f121]) (U4 rfl) (jar ?_) O;have hk:=jrq ws s;by_cases h:s∈ws
 ·have c0:=hk.2 h;simp only[Tryz.f121,Ka,simprocAttr,Uy,Ke,Vq,jkt ws c hc hl,c0];simp only[jaW,jay,jbj,h,decide_true]
 ·have c0:¬0<=jgr ws s ws.length 0:=λq=>h (hk.1 q)
  simp only[Tryz.f121,Ka,simprocAttr,Uy,Ke,Vq,jkt ws c hc hl,c0];simp only[jaW,jay,jbj,h,decide_false]
def clsN(c:Nat):Int:=if 97<=c/\c<=122 then 2 else if 48<=c/\c<=57 then 3 else if c=32 then 1 else if c=95 then 4 else if c=39 then 5 else 0
def clsL:List Int:=(List.range 256).map clsN
theorem jnP(O:S):jas env (ev env) 42 [] O=some (.agg (clsL.map (V.int .i64)),O):=jeo rfl rfl rfl (k:=2000) (by rw[<- jgi];kernel_rfl) O
theorem jAe:env.P.funcs[141]? = some Tryz.f141:=by kernel_rfl
theorem jjg(s:List UInt8)(hd:∀i,i<s.length->IsDg (s.getD i 0))(hne:s ≠ [])(hl:s.length<=2^30)(O:S):jas env (ev env) 175 [.str s,.int .i64 10,.int .i64 64] O=some (jkQ (decV 0 s),O):=by
 refine jau rfl rfl rfl jyp rfl (by simp[Tryz.f175]) (U4 rfl) (jar ?_) O;have hne2:(s=[])=False:=eq_false hne;simp only[Tryz.f175,Ka,simprocAttr,Uy,Ke,U2,jac,hne2,u140,u151,u115,Z5,jhb u5,jhH,w64a,w64,w64m,jb6];refine jg0 s hd hl _ (λT hn t12 t13 => ?_) _ rfl rfl rfl rfl rfl rfl rfl rfl rfl rfl;simp only[Ka,simprocAttr,Uy,Ke,Vq,t12,t13];unfold jkQ;rw[Ki hn];simp only[jaW,jay,ja7,jaA,jaF,jaV,jbM,jb1,Kn,Kx]
theorem jqB(s:List UInt8)(hd:∀i,i<s.length->IsDg (s.getD i 0))(hne:s ≠ [])(hl:s.length<=2^30)(hv:decV 0 s<18446744073709551616)(O:S):jas env (ev env) 141 [.str s,.int .i64 10,.int .i64 64] O=some (.tup [.int .u64 (decV 0 s),.nilif],O):=by
 have h:=jjg s hd hne hl;unfold jkQ at h;rw[Ki hv]at h;obtain⟨ms,hms⟩:=u100;refine jau rfl rfl rfl jAe rfl (by simp[Tryz.f141]) (U4 rfl) (jar ?_) O;simp only[Tryz.f141,Ka,simprocAttr,Uy,Ke,U2,h,jcB hms,jbC];simp only[jaW,jay,ja7,jaA,jaF,jaV,jbM,jb1,Kn,Kx]
end Go.Proofs.YtpclebdkhpapjaaGreatDoor.T
