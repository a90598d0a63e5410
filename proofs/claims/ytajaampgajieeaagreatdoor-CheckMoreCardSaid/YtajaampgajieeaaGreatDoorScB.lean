/- Proved here: a schema is checked. Conditions: those of each theorem; no statement of the seat is proved in this text. -/
import Derived.Test.YtajaampgajieeaaGreatDoorScA
set_option linter.unusedSimpArgs false
namespace Go.Proofs.YtajaampgajieeaaGreatDoor
open Go.Ab
set_option maxHeartbeats 4000000
set_option maxRecDepth 100000
set_option linter.unusedSimpArgs false
set_option linter.unusedVariables false
set_option linter.unusedSectionVars false
theorem jtT:env.P.funcs[296]? = some Tryz.f296:=by kernel_rfl
theorem jtU:env.P.funcs[297]? = some Tryz.f297:=by kernel_rfl
theorem jtV:env.P.funcs[325]? = some Tryz.f325:=by kernel_rfl
theorem jtW:env.P.funcs[270]? = some Tryz.f270:=by kernel_rfl
theorem jg5 (s:List UInt8)(hs:s.length<2 ^ 63)(σ:S):jah env (ev env) 297 [.str s] σ=some (.bool (!decide (jaZ s)),σ):=by
 refine jar rfl rfl rfl jtU rfl (by simp [Tryz.f297]) (by simp [Tryz.f297]) (jaj ?_) σ
 by_cases h:jaZ s <;>
 ·simp -implicitDefEqProofs only [Tryz.f297,Ka,Nat.reduceLT,Nat.reduceEqDiff,Ke,Kc,reduceIte,Ys,Y0,Int.reduceEq,Int.reduceLT,Int.reduceLE,Int.reduceNeg,mb,Nat.reduceBEq,tys,stb,Vq,jcY s hs,h]
  simp only [jau,jak,jaF,Qr,Ji]
noncomputable def jey (ws:List (List UInt8)):Nat→Nat→Int
 | 0,_ => -1
 | m+1,i=>if jaZ (ws.getD i []) then jey ws m (i+1) else i
theorem jjd (ws:List (List UInt8)):∀ m i,0≤jey ws m i↔∃ j,i≤j∧j<i+m∧¬ jaZ (ws.getD j [])
  | 0, i => by simp only [jey]; constructor
               · intro h; omega
               · rintro ⟨j,h1,h2,_⟩; omega
  | m+1,i=>by
    simp only [jey]
    by_cases h:jaZ (ws.getD i [])
    · rw [Kh h,jjd ws m (i+1)]
      constructor
      · rintro ⟨j,h1,h2,h3⟩; exact ⟨j,by omega,by omega,h3⟩
      · rintro ⟨j,h1,h2,h3⟩
        refine ⟨j,?_,by omega,h3⟩
        rcases K1 i j with h4 | h4
        · omega
        · have:j=i:=by omega
          subst this; exact absurd h h3
    · rw [Kg h]
      exact ⟨fun _=>⟨i,by omega,by omega,h⟩,fun _=>by omega⟩
theorem jje (w:V)(ws:List (List UInt8))(h:IsW w ws)(hl:ws.length≤1000)(hs:∀ i,i<ws.length→(ws.getD i []).length<2 ^ 63)(σ:S) :
  jah env (ev env) 325 [w,.func 297 [] []] σ=some (.int .i64 (jey ws ws.length 0),σ):=by
 refine jar rfl rfl (by simp [V.closed,V.closed.closedL,jcB h]) jtV rfl (by simp [Tryz.f325]) (by simp [Tryz.f325]) (jaj ?_) σ
 simp -implicitDefEqProofs only [Tryz.f325,Ka,Nat.reduceLT,Nat.reduceEqDiff,Ke,Kc,reduceIte,Ys,Y0,Int.reduceEq,Int.reduceLT,Int.reduceLE,Int.reduceNeg,mb,Nat.reduceBEq,tys,stb,Vq,jcN h]
 refine jaI (fun m T D σ=>D=[]∧σ=S.empty∧T 0=w∧T 1=.func 297 [] []∧T 7=.int .i64 ws.length∧∃ i:Nat,T 8=.int .i64 i∧i≤ws.length∧m=ws.length - i∧jey ws ws.length 0=jey ws (ws.length - i) i) ?_ _ _ _ _ ⟨rfl,rfl,rfl,rfl,rfl,0,rfl,by omega,rfl,rfl⟩
 rintro m T D σ ⟨rfl,rfl,t0,t1,t7,i,t8,hi,rfl,hf⟩
 refine jaj ?_
 by_cases hlt:i<ws.length
 ·have c1:(i:Int)<(ws.length:Int):=by omega
  have e1:IntKind.i64.wrap ((i:Int)+1)=((i+1:Nat):Int):=by rw [wrap_i64 (by omega) (by omega)]; omega
  have hx:=jl4 h hlt
  obtain ⟨q,hq⟩:∃ q,ws.length - i=q+1:=⟨ws.length - i - 1,by omega⟩
  have hq2:q=ws.length - (i+1):=by omega
  have hstep:jey ws (ws.length - i) i=if jaZ (ws.getD i []) then jey ws q (i+1) else i:=by rw [hq]; rfl
  rw [hstep] at hf
  by_cases hn:jaZ (ws.getD i [])
  ·rw [Kh hn,hq2] at hf
   simp -implicitDefEqProofs only [Ka,Nat.reduceLT,Nat.reduceEqDiff,Ke,Kc,reduceIte,Ys,Y0,Int.reduceEq,Int.reduceLT,Int.reduceLE,Int.reduceNeg,mb,Nat.reduceBEq,tys,stb,Vq,t0,t1,t7,t8,c1,e1,hx,jaw,jg5 _ (hs i hlt),hn,Qr]
   exact ⟨ws.length - (i+1),by omega,i+1,rfl,by omega,rfl,hf⟩
  ·rw [Kg hn] at hf
   simp -implicitDefEqProofs only [Ka,Nat.reduceLT,Nat.reduceEqDiff,Ke,Kc,reduceIte,Ys,Y0,Int.reduceEq,Int.reduceLT,Int.reduceLE,Int.reduceNeg,mb,Nat.reduceBEq,tys,stb,Vq,t0,t1,t7,t8,c1,e1,hx,jaw,jg5 _ (hs i hlt),hn,Ji]
   simp only [jau,jak,jat,hf]
 ·have hi2:i=ws.length:=by omega
  subst hi2
  have c1:¬ (ws.length:Int)<(ws.length:Int):=by omega
  have hf2:jey ws ws.length 0 = -1:=by rw [hf,J5]; rfl
  simp -implicitDefEqProofs only [Ka,Nat.reduceLT,Nat.reduceEqDiff,Ke,Kc,reduceIte,Ys,Y0,Int.reduceEq,Int.reduceLT,Int.reduceLE,Int.reduceNeg,mb,Nat.reduceBEq,tys,stb,Vq,t0,t1,t7,t8,c1]
  simp only [jau,jak,jat,hf2]
open Classical in
theorem jc0 (w:V)(ws:List (List UInt8))(h:IsW w ws)(hl:ws.length≤1000)(hs:∀ i,i<ws.length→(ws.getD i []).length<2 ^ 63)(σ:S) :
  jah env (ev env) 296 [w,.func 297 [] []] σ=some (.bool (decide (∃ i,i<ws.length∧¬ jaZ (ws.getD i []))),σ):=by
 refine jar rfl rfl (by simp [V.closed,V.closed.closedL,jcB h]) jtT rfl (by simp [Tryz.f296]) (by simp [Tryz.f296]) (jaj ?_) σ
 have hk:(0≤jey ws ws.length 0)↔∃ i,i<ws.length∧¬ jaZ (ws.getD i []):=by
  rw [jjd]
  constructor
  ·rintro ⟨j,_,h2,h3⟩; exact ⟨j,by omega,h3⟩
  ·rintro ⟨j,h2,h3⟩; exact ⟨j,by omega,by omega,h3⟩
 by_cases hp:∃ i,i<ws.length∧¬ jaZ (ws.getD i [])
 ·have c0:0≤jey ws ws.length 0:=hk.2 hp
  simp -implicitDefEqProofs only [Tryz.f296,Ka,Nat.reduceLT,Nat.reduceEqDiff,Ke,Kc,reduceIte,Ys,Y0,Int.reduceEq,Int.reduceLT,Int.reduceLE,Int.reduceNeg,mb,Nat.reduceBEq,tys,stb,Vq,jje w ws h hl hs,c0]
  simp only [jau,jak,jaF,hp,decide_true]
 ·have c0:¬ 0≤jey ws ws.length 0:=fun h=>hp (hk.1 h)
  simp -implicitDefEqProofs only [Tryz.f296,Ka,Nat.reduceLT,Nat.reduceEqDiff,Ke,Kc,reduceIte,Ys,Y0,Int.reduceEq,Int.reduceLT,Int.reduceLE,Int.reduceNeg,mb,Nat.reduceBEq,tys,stb,Vq,jje w ws h hl hs,c0]
  simp only [jau,jak,jaF,hp,decide_false]
theorem jtX:env.P.funcs[298]? = some Tryz.f298:=by kernel_rfl
def keyV (s:List UInt8):V:=.agg [.str s,.bool false]
theorem jo9 (a b:List UInt8):eqT env 8 309 (keyV a) (keyV b)=some (a == b):=by
 have h:eqT env 8 309 (keyV a) (keyV b)=(some (a == b)).bind fun r=>if r then some true else some false:=by kernel_rfl
 rw [h]
 cases a == b <;> rfl
theorem jpa (a:List UInt8):jdf env 8 309 (keyV a)=true:=by kernel_rfl
theorem jqh (a:List UInt8):jhF 8 (keyV a) (keyV a)=true:=by simp [jhF,keyV]
def entV (p:List UInt8 × Nat):V × V × Nat:=(keyV p.1,.agg [],p.2)
def keys (ps:List (List UInt8 × Nat)):List (List UInt8):=ps.map (·.1)
theorem jpb (s:List UInt8):∀ (ps:List (List UInt8 × Nat)) (i:Nat),s ∉ keys ps→jdL env 309 (keyV s) (ps.map entV) i=some none
 | [],i,h=>rfl
 | p::ps,i,h=>by
  have h1:¬ s=p.1:=fun e=>h (by simp [keys,e])
  have h2:s ∉ keys ps:=fun e=>h (by simp only [keys,Qz,Jf]; exact .inr e)
  simp only [Qz,jdL,entV,jo9,Ko,beq_eq_false_iff_ne.2 h1,Kj,Kc]
  exact jpb s ps (i+1) h2
theorem jm4 (s:List UInt8):∀ (ps:List (List UInt8 × Nat)) (i:Nat),s∈keys ps→∃ j n,jdL env 309 (keyV s) (ps.map entV) i=some (some (i+j))∧ps[j]? = some (s,n)
 | [],i,h=>by simp [keys] at h
 | p::ps,i,h=>by
  by_cases h1:s=p.1
  ·refine ⟨0,p.2,?_,by simp [h1]⟩
   simp only [Qz,jdL,entV,jo9,Ko,h1,beq_self_eq_true,Ke,Xp]
  ·have h2:s∈keys ps:=by
    simp only [keys,Qz,Jf] at h
    exact h.resolve_left h1
   obtain ⟨j,n,h3,h4⟩:=jm4 s ps (i+1) h2
   refine ⟨j+1,n,?_,by simpa using h4⟩
   simp only [Qz,jdL,entV,jo9,Ko,beq_eq_false_iff_ne.2 h1,Kj,Kc]
   rw [show i+(j+1)=i+1+j by omega]
   exact h3
def jm5 (E:Env) (t:TypeId) (mv kv xv:V) (σ:S):Option (V × S) :=
    match E.P.underlying t,mv with
    | some (.map kt _),.map b =>
      match σ.heap[b]? with
      | some (.map es clock) =>
        if jdf E 8 kt kv then
          match jdL E kt kv es 0 with
          | some none=>some (.tup [],σ.set b (.map (es++[(kv,xv,clock)]) (clock+1)))
          | some (some j) =>
            match es[j]? with
            | some e=>if jhF 8 e.1 kv then some (.tup [],σ.set b (.map (es.set j (kv,xv,e.2.2)) clock)) else none
            | none=>none
          | none=>none
        else none
      | _=>none
    | _,_=>none
theorem jnM {E:Env}{m:Bool}{T:Tm}{σ:S}(t:TypeId)(a b c:Operand):opT E m T σ (.mapUpdate t a b c)=(jaM E T a).bind fun mv=>(jaM E T b).bind fun kv=>(jaM E T c).bind fun xv=>jm5 E t mv kv xv σ:=rfl
theorem u164:env.P.underlying 306=some (.map 309 307):=by kernel_rfl
theorem jpc (s:List UInt8)(ps:List (List UInt8 × Nat))(clock:Nat)(hp:List AObj)(b:Nat)(ts:List Nat)(hh:hp[b]? = some (.map (ps.map entV) clock)) :
  ∃ ps' clock',jm5 env 306 (.map b) (keyV s) (.agg []) ⟨hp,ts⟩=some (.tup [],⟨hp.set b (.map (ps'.map entV) clock'),ts⟩)∧keys ps'=if s∈keys ps then keys ps else keys ps++[s]:=by
 unfold jm5
 simp only [u164,hh,jpa,Ke]
 by_cases h:s∈keys ps
 ·obtain ⟨j,n,h1,h2⟩:=jm4 s ps 0 h
  rw [Qx] at h1
  have h3:(ps.map entV)[j]? = some (entV (s,n)):=by simp [h2]
  have h4:(ps.map entV).set j (keyV s,.agg [],n)=ps.map entV:=by
   apply Xw
   intro i
   by_cases e:i=j
   ·subst e
    have:i<(ps.map entV).length:=by
     rcases K1 i (ps.map entV).length with h | h
     ·exact h
     ·rw [K8 h] at h3; simp at h3
    rw [Ks this,h3]; rfl
   ·rw [K0 (fun h=>e h.symm)]
  refine ⟨ps,clock,?_,by rw [Kh h]⟩
  simp only [h1,h3,entV,jqh,Ke,S.set]
  rw [h4]
 ·refine ⟨ps++[(s,clock)],clock+1,?_,by rw [Kg h]; simp [keys]⟩
  simp only [jpb s ps 0 h,S.set,Xu,Qz,Xk,entV]
theorem jpd (s:List UInt8):jcd env 309 [(0,.str s)]=some (keyV s):=by kernel_rfl
theorem jnN:jcd env 307 []=some (.agg []):=by kernel_rfl
theorem jl6 {T:Tm}{σ:S}{m:Bool}:opT env m T σ (.makeMap 306 none)=some (.map σ.heap.length,σ.push (.map [] 0)):=by
 unfold opT
 simp only [ja3,ja8,jbo,u164]
theorem upd0 (s:List UInt8)(ps:List (List UInt8 × Nat))(clock:Nat):∃ ps' clock',jm5 env 306 (.map 0) (keyV s) (.agg []) ⟨[.map (ps.map entV) clock],[]⟩=some (.tup [],⟨[.map (ps'.map entV) clock'],[]⟩)∧keys ps'=if s∈keys ps then keys ps else keys ps++[s] :=
 jpc s ps clock [.map (ps.map entV) clock] 0 [] rfl
theorem jsD (ps:List (List UInt8 × Nat))(clock:Nat)(ts:List Nat):lenO ⟨[.map (ps.map entV) clock],ts⟩ (some (.map 309 307)) (.map 0)=some (.int .i64 (keys ps).length,⟨[.map (ps.map entV) clock],ts⟩):=by
 rw [jp8 (es:=ps.map entV) (c:=clock) _ _ _ _ rfl]
 simp [keys]
def Dup (ws:List (List UInt8))(i:Nat):Prop:=∃ k j,k<j∧j<i∧ws.getD k []=ws.getD j []
open Classical in
theorem jeL (w:V)(ws:List (List UInt8))(h:IsW w ws)(hl:ws.length≤1000)(σ:S):jah env (ev env) 298 [w] σ=some (.bool (decide (jiI ws)),σ):=by
 refine jar rfl rfl (by simp [jcB h]) jtX rfl (by simp [Tryz.f298]) (by simp [Tryz.f298]) (jaj ?_) σ
 simp -implicitDefEqProofs only [Tryz.f298,Ka,Nat.reduceLT,Nat.reduceEqDiff,Ke,Kc,reduceIte,Ys,Y0,Int.reduceEq,Int.reduceLT,Int.reduceLE,Int.reduceNeg,mb,Nat.reduceBEq,tys,stb,Vq,jay,jcN h,jl6]
 refine jaI (fun m T D σ=>D=[]∧T 0=w∧T 3=.map 0∧T 7=w∧T 8=.int .i64 ws.length∧∃ (i clock:Nat) (ps:List (List UInt8 × Nat)),σ=⟨[.map (ps.map entV) clock],[]⟩∧T 9=.int .i64 i∧i≤ws.length∧m=ws.length - i ∧
  (∀ s,s∈keys ps↔∃ j,j<i∧ws.getD j []=s)∧(keys ps).length≤i∧((keys ps).length<i↔Dup ws i)) ?_ _ _ _ _
  ⟨rfl,rfl,rfl,rfl,rfl,0,0,[],rfl,rfl,by omega,rfl,fun s=>⟨fun h=>by simp [keys] at h,fun ⟨j,h,_⟩=>by omega⟩,by simp [keys],⟨fun h=>by omega,fun ⟨k,j,_,h,_⟩=>by omega⟩⟩
 rintro m T D σ ⟨rfl,t0,t3,t7,t8,i,clock,ps,rfl,t9,hi,rfl,hmem,hlen,hdup⟩
 refine jaj ?_
 by_cases hlt:i<ws.length
 ·have c1:(i:Int)<(ws.length:Int):=by omega
  have e1:IntKind.i64.wrap ((i:Int)+1)=((i+1:Nat):Int):=by rw [wrap_i64 (by omega) (by omega)]; omega
  have hx:=jl4 h hlt
  obtain ⟨ps',clock',hU,hk⟩:=upd0 (ws.getD i []) ps clock
  simp -implicitDefEqProofs only [Ka,Nat.reduceLT,Nat.reduceEqDiff,Ke,Kc,reduceIte,Ys,Y0,Int.reduceEq,Int.reduceLT,Int.reduceLE,Int.reduceNeg,mb,Nat.reduceBEq,tys,stb,Vq,t0,t3,t7,t8,t9,c1,e1,hx,jaw,jnM,jpd,jnN,hU]
  refine ⟨ws.length - (i+1),by omega,i+1,clock',ps',rfl,rfl,by omega,rfl,fun s => ?_,?_,?_⟩
  ·rw [hk]
   constructor
   ·intro hs
    split at hs
    ·obtain ⟨j,h1,h2⟩:=(hmem s).1 hs; exact ⟨j,by omega,h2⟩
    ·rcases Jv.1 hs with hs | hs
     ·obtain ⟨j,h1,h2⟩:=(hmem s).1 hs; exact ⟨j,by omega,h2⟩
     ·exact ⟨i,by omega,(J4.1 hs).symm⟩
   ·rintro ⟨j,h1,h2⟩
    have hj:j<i∨j=i:=by omega
    split
    ·rename_i hin
     rcases hj with hj | rfl
     ·exact (hmem s).2 ⟨j,hj,h2⟩
     ·rw [← h2]; exact hin
    ·rcases hj with hj | rfl
     ·exact List.mem_append_left _ ((hmem s).2 ⟨j,hj,h2⟩)
     ·rw [← h2]; simp
  ·rw [hk]; split
   ·omega
   ·simp only [Kk,K7,Qg]; omega
  ·rw [hk]; split
   ·rename_i hin
    obtain ⟨j,h1,h2⟩:=(hmem _).1 hin
    exact ⟨fun _=>⟨j,i,h1,by omega,h2⟩,fun _=>by omega⟩
   ·rename_i hin
    simp only [Kk,K7,Qg]
    constructor
    ·intro hh
     obtain ⟨k,j,h1,h2,h3⟩:=hdup.1 (by omega)
     exact ⟨k,j,h1,by omega,h3⟩
    ·rintro ⟨k,j,h1,h2,h3⟩
     have hj:j<i∨j=i:=by omega
     rcases hj with hj | rfl
     ·have:=hdup.2 ⟨k,j,h1,hj,h3⟩; omega
     ·exact absurd ((hmem _).2 ⟨k,h1,h3⟩) hin
 ·have hi2:i=ws.length:=by omega
  subst hi2
  have c1:¬ (ws.length:Int)<(ws.length:Int):=by omega
  have hT:((keys ps).length:Int)<(ws.length:Int)↔jiI ws:=by
   have:Dup ws ws.length↔jiI ws:=Iff.rfl
   rw [← this,← hdup]; omega
  by_cases hp:((keys ps).length:Int)<(ws.length:Int)
  ·have h2:=hT.1 hp
   simp -implicitDefEqProofs only [Ka,Nat.reduceLT,Nat.reduceEqDiff,Ke,Kc,reduceIte,Ys,Y0,Int.reduceEq,Int.reduceLT,Int.reduceLE,Int.reduceNeg,mb,Nat.reduceBEq,tys,stb,Vq,t0,t3,t7,t8,t9,c1,u164,jsD,jcN h,hp]
   simp only [jau,jak,jaF,h2,decide_true]
  ·have h2:¬ jiI ws:=fun q=>hp (hT.2 q)
   simp -implicitDefEqProofs only [Ka,Nat.reduceLT,Nat.reduceEqDiff,Ke,Kc,reduceIte,Ys,Y0,Int.reduceEq,Int.reduceLT,Int.reduceLE,Int.reduceNeg,mb,Nat.reduceBEq,tys,stb,Vq,t0,t3,t7,t8,t9,c1,u164,jsD,jcN h,hp]
   simp only [jau,jak,jaF,h2,decide_false]
open Classical in
theorem jnO (c:Col)(h:IsW c.w c.ws)(hs:jfW c)(h0:c.ws.length ≠ 0)(σ:S):jah env (ev env) 270 [.agg [.str c.name,.int .i64 c.lo,.int .i64 c.hi,c.w]] σ=some (.int .i64 (colE c),σ):=by
 refine jar rfl rfl (by simp [V.closed,V.closed.closedL,jcB h]) jtW rfl (by simp [Tryz.f270]) (by simp [Tryz.f270]) (jaj ?_) σ
 obtain ⟨hs1,hs2,hs3⟩:=hs
 have hic:=jbC h
 obtain ⟨nm,lo,hi,w,ws⟩:=c
 simp only at h hs1 hs2 hs3 hic h0 ⊢
 by_cases h1:(64:Int)<(ws.length:Int)
 ·have he:colE ⟨nm,lo,hi,w,ws⟩=4:=by simp only [colE]; rw [Kg h0,Kh (by omega)]
  simp -implicitDefEqProofs only [Tryz.f270,Ka,Nat.reduceLT,Nat.reduceEqDiff,Ke,Kc,reduceIte,Ys,Y0,Int.reduceEq,Int.reduceLT,Int.reduceLE,Int.reduceNeg,mb,Nat.reduceBEq,tys,stb,Vq,tys2,jay,jcN h,h1]
  simp only [jau,jak,jat,he]
 by_cases hp:∃ i,i<ws.length∧¬ jaZ (ws.getD i [])
 ·have he:colE ⟨nm,lo,hi,w,ws⟩=19:=by simp only [colE]; rw [Kg h0,Kg (by omega),Kh hp]
  simp -implicitDefEqProofs only [Tryz.f270,Ka,Nat.reduceLT,Nat.reduceEqDiff,Ke,Kc,reduceIte,Ys,Y0,Int.reduceEq,Int.reduceLT,Int.reduceLE,Int.reduceNeg,mb,Nat.reduceBEq,tys,stb,Vq,tys2,jay,jcN h,h1,jc0 w ws h hs2 hs3,hp]
  simp only [jau,jak,jat,he]
 by_cases h2:jiI ws
 ·have he:colE ⟨nm,lo,hi,w,ws⟩=8:=by simp only [colE]; rw [Kg h0,Kg (by omega),Kg hp,Kh h2]
  simp -implicitDefEqProofs only [Tryz.f270,Ka,Nat.reduceLT,Nat.reduceEqDiff,Ke,Kc,reduceIte,Ys,Y0,Int.reduceEq,Int.reduceLT,Int.reduceLE,Int.reduceNeg,mb,Nat.reduceBEq,tys,stb,Vq,tys2,jay,jcN h,h1,jc0 w ws h hs2 hs3,hp,jeL w ws h hs2,h2]
  simp only [jau,jak,jat,he]
 have e2:IntKind.i64.wrap ((ws.length:Int) - 1)=(ws.length:Int) - 1:=wrap_i64 (by omega) (by omega)
 by_cases h3:lo=0
 ·by_cases h4:hi=(ws.length:Int) - 1
  ·have he:colE ⟨nm,lo,hi,w,ws⟩=0:=by simp only [colE]; rw [Kg h0,Kg (by omega),Kg hp,Kg h2,Kg (by rintro (h | h); exact h h3; exact h h4)]
   simp -implicitDefEqProofs only [Tryz.f270,Ka,Nat.reduceLT,Nat.reduceEqDiff,Ke,Kc,reduceIte,Ys,Y0,Int.reduceEq,Int.reduceLT,Int.reduceLE,Int.reduceNeg,mb,Nat.reduceBEq,tys,stb,Vq,tys2,jay,jcN h,h1,jc0 w ws h hs2 hs3,hp,jeL w ws h hs2,h2,h3,e2,h4]
   simp only [jau,jak,jat,← h3,← h4,he]
  ·have he:colE ⟨nm,lo,hi,w,ws⟩=2:=by simp only [colE]; rw [Kg h0,Kg (by omega),Kg hp,Kg h2,Kh (.inr h4)]
   simp -implicitDefEqProofs only [Tryz.f270,Ka,Nat.reduceLT,Nat.reduceEqDiff,Ke,Kc,reduceIte,Ys,Y0,Int.reduceEq,Int.reduceLT,Int.reduceLE,Int.reduceNeg,mb,Nat.reduceBEq,tys,stb,Vq,tys2,jay,jcN h,h1,jc0 w ws h hs2 hs3,hp,jeL w ws h hs2,h2,h3,e2,h4]
   simp only [jau,jak,jat,← h3,he]
 ·have he:colE ⟨nm,lo,hi,w,ws⟩=2:=by simp only [colE]; rw [Kg h0,Kg (by omega),Kg hp,Kg h2,Kh (.inl h3)]
  simp -implicitDefEqProofs only [Tryz.f270,Ka,Nat.reduceLT,Nat.reduceEqDiff,Ke,Kc,reduceIte,Ys,Y0,Int.reduceEq,Int.reduceLT,Int.reduceLE,Int.reduceNeg,mb,Nat.reduceBEq,tys,stb,Vq,tys2,jay,jcN h,h1,jc0 w ws h hs2 hs3,hp,jeL w ws h hs2,h2,h3]
  simp only [jau,jak,jat,he]
theorem jtY:env.P.funcs[269]? = some Tryz.f269:=by kernel_rfl
theorem jnP (c d:Col)(hd:IsW d.w d.ws)(L:List AObj)(ts:List Nat)(p:Nat)(hp:L[p]? = some (.cells [.str c.name,.int .i64 c.lo,.int .i64 c.hi,c.w] 41)) :
  jah env (ev env) 269 [.agg [.str d.name,.int .i64 d.lo,.int .i64 d.hi,d.w],.ptr p 0] ⟨L,ts⟩=some (.bool (decide (d.name=c.name)),⟨L++[.cells [.str d.name,.int .i64 d.lo,.int .i64 d.hi,d.w] 41],ts⟩):=by
 refine jaO rfl rfl jtY rfl (by simp [Tryz.f269]) (by simp [Tryz.f269]) ?_
 refine jaj ?_
 have hlt:p<L.length:=by
  rcases K1 p L.length with h | h
  ·exact h
  ·rw [K8 h] at hp; simp at hp
 have hE:∀ o,(L++[o])[p]? = some (.cells [.str c.name,.int .i64 c.lo,.int .i64 c.hi,c.w] 41):=fun o=>by rw [Kn hlt]; exact hp
 by_cases h:d.name=c.name <;>
 ·simp -implicitDefEqProofs only [Tryz.f269,Ka,Nat.reduceLT,Nat.reduceEqDiff,Ke,Kc,reduceIte,Ys,Y0,Int.reduceEq,Int.reduceLT,Int.reduceLE,Int.reduceNeg,mb,Nat.reduceBEq,tys,stb,Vq,tys2,YW,jaf,hE,jas,h]
  simp [jau,h]
theorem jsE:env.P.funcs[200]? = some Tryz.f200:=by kernel_rfl
theorem jtZ:env.P.funcs[231]? = some Tryz.f231:=by kernel_rfl
def jef (ds:List Col)(nm:List UInt8):Nat→Nat→Int
 | 0,_ => -1
 | m+1,i=>if (ds.getD i Col.none).name=nm then i else jef ds nm m (i+1)
theorem jjf (ds:List Col)(nm:List UInt8):∀ m i,0≤jef ds nm m i↔∃ j,i≤j∧j<i+m∧(ds.getD j Col.none).name=nm
  | 0, i => by simp only [jef]; constructor
               · intro h; omega
               · rintro ⟨j,h1,h2,_⟩; omega
  | m+1,i=>by
    simp only [jef]
    by_cases h:(ds.getD i Col.none).name=nm
    · rw [Kh h]
      exact ⟨fun _=>⟨i,by omega,by omega,h⟩,fun _=>by omega⟩
    · rw [Kg h,jjf ds nm m (i+1)]
      constructor
      · rintro ⟨j,h1,h2,h3⟩; exact ⟨j,by omega,by omega,h3⟩
      · rintro ⟨j,h1,h2,h3⟩
        refine ⟨j,?_,by omega,h3⟩
        rcases K1 i j with h4 | h4
        · omega
        · have:j=i:=by omega
          subst this; exact absurd h3 h
theorem jl7 (c:Col)(dv:V)(ds:List Col)(hd:IsC dv ds)(ok:OkC ds)(hl:ds.length≤1000)(L:List AObj)(ts:List Nat)(p:Nat)(hp:L[p]? = some (.cells [.str c.name,.int .i64 c.lo,.int .i64 c.hi,c.w] 41)) :
  ∃ X,jah env (ev env) 200 [dv,.func 269 [] [.ptr p 0]] ⟨L,ts⟩=some (.int .i64 (jef ds c.name ds.length 0),⟨L++X,ts⟩):=by
 have hlt0:p<L.length:=by
  rcases K1 p L.length with h | h
  ·exact h
  ·rw [K8 h] at hp; simp at hp
 suffices h:∃ v σ',jah env (ev env) 200 [dv,.func 269 [] [.ptr p 0]] ⟨L,ts⟩=some (v,σ')∧(v=.int .i64 (jef ds c.name ds.length 0)∧∃ X,σ'=⟨L++X,ts⟩) by
  obtain ⟨v,σ',h1,rfl,X,rfl⟩:=h
  exact ⟨X,h1⟩
 refine jaE rfl rfl jsE rfl (by simp [Tryz.f200]) (by simp [Tryz.f200]) (jaj ?_)
 simp -implicitDefEqProofs only [Tryz.f200,Ka,Nat.reduceLT,Nat.reduceEqDiff,Ke,Kc,reduceIte,Ys,Y0,Int.reduceEq,Int.reduceLT,Int.reduceLE,Int.reduceNeg,mb,Nat.reduceBEq,tys,stb,Vq,tys2,jhd hd]
 refine jaI (fun m T D σ=>D=[]∧T 0=dv∧T 1=.func 269 [] [.ptr p 0]∧T 7=.int .i64 ds.length∧∃ (i:Nat) (X:List AObj),σ=⟨L++X,ts⟩∧T 8=.int .i64 i∧i≤ds.length∧m=ds.length - i∧jef ds c.name ds.length 0=jef ds c.name (ds.length - i) i) ?_ _ _ _ _ ⟨rfl,rfl,rfl,rfl,0,[],by simp,rfl,by omega,rfl,rfl⟩
 rintro m T D σ ⟨rfl,t0,t1,t7,i,X,rfl,t8,hi,rfl,hf⟩
 refine jaj ?_
 by_cases hlt:i<ds.length
 ·have c1:(i:Int)<(ds.length:Int):=by omega
  have e1:IntKind.i64.wrap ((i:Int)+1)=((i+1:Nat):Int):=by rw [wrap_i64 (by omega) (by omega)]; omega
  have hx:=jgP hd hlt
  have hN:=jnP c (ds.getD i Col.none) (ok.at hlt) (L++X) ts p (by rw [Kn hlt0]; exact hp)
  obtain ⟨q,hq⟩:∃ q,ds.length - i=q+1:=⟨ds.length - i - 1,by omega⟩
  have hq2:q=ds.length - (i+1):=by omega
  have hstep:jef ds c.name (ds.length - i) i=if (ds.getD i Col.none).name=c.name then (i:Int) else jef ds c.name q (i+1):=by rw [hq]; rfl
  rw [hstep] at hf
  by_cases hn:(ds.getD i Col.none).name=c.name
  ·rw [Kh hn] at hf
   simp only [hn,decide_true] at hN
   simp -implicitDefEqProofs only [Ka,Nat.reduceLT,Nat.reduceEqDiff,Ke,Kc,reduceIte,Ys,Y0,Int.reduceEq,Int.reduceLT,Int.reduceLE,Int.reduceNeg,mb,Nat.reduceBEq,tys,stb,Vq,tys2,t0,t1,t7,t8,c1,e1,hx,jeU,jaN,hn,hN]
   exact ⟨by rw [hf]; rfl,_,by rw [K4]⟩
  ·rw [Kg hn,hq2] at hf
   simp only [hn,decide_false] at hN
   simp -implicitDefEqProofs only [Ka,Nat.reduceLT,Nat.reduceEqDiff,Ke,Kc,reduceIte,Ys,Y0,Int.reduceEq,Int.reduceLT,Int.reduceLE,Int.reduceNeg,mb,Nat.reduceBEq,tys,stb,Vq,tys2,t0,t1,t7,t8,c1,e1,hx,jeU,jaN,hN]
   exact ⟨ds.length - (i+1),by omega,i+1,_,by rw [K4],rfl,by omega,rfl,hf⟩
 ·have hi2:i=ds.length:=by omega
  subst hi2
  have c1:¬ (ds.length:Int)<(ds.length:Int):=by omega
  have hf2:jef ds c.name ds.length 0 = -1:=by rw [hf,J5]; rfl
  simp -implicitDefEqProofs only [Ka,Nat.reduceLT,Nat.reduceEqDiff,Ke,Kc,reduceIte,Ys,Y0,Int.reduceEq,Int.reduceLT,Int.reduceLE,Int.reduceNeg,mb,Nat.reduceBEq,tys,stb,Vq,t0,t1,t7,t8,c1]
  exact ⟨by rw [hf2]; rfl,X,rfl⟩
open Classical in
theorem jiJ (c:Col)(dv:V)(ds:List Col)(hd:IsC dv ds)(ok:OkC ds)(hl:ds.length≤1000)(L:List AObj)(ts:List Nat)(p:Nat)(hp:L[p]? = some (.cells [.str c.name,.int .i64 c.lo,.int .i64 c.hi,c.w] 41)) :
  ∃ X,jah env (ev env) 231 [dv,.func 269 [] [.ptr p 0]] ⟨L,ts⟩=some (.bool (decide (∃ j,j<ds.length∧(ds.getD j Col.none).name=c.name)),⟨L++X,ts⟩):=by
 obtain ⟨X,hX⟩:=jl7 c dv ds hd ok hl L ts p hp
 refine ⟨X,?_⟩
 have hk:(0≤jef ds c.name ds.length 0)↔∃ j,j<ds.length∧(ds.getD j Col.none).name=c.name:=by
  rw [jjf]
  constructor
  ·rintro ⟨j,_,h2,h3⟩; exact ⟨j,by omega,h3⟩
  ·rintro ⟨j,h2,h3⟩; exact ⟨j,by omega,by omega,h3⟩
 refine jaO rfl rfl jtZ rfl (by simp [Tryz.f231]) (by simp [Tryz.f231]) ?_
 refine jaj ?_
 by_cases hq:∃ j,j<ds.length∧(ds.getD j Col.none).name=c.name
 ·have c0:0≤jef ds c.name ds.length 0:=hk.2 hq
  simp -implicitDefEqProofs only [Tryz.f231,Ka,Nat.reduceLT,Nat.reduceEqDiff,Ke,Kc,reduceIte,Ys,Y0,Int.reduceEq,Int.reduceLT,Int.reduceLE,Int.reduceNeg,mb,Nat.reduceBEq,tys,stb,Vq,hX,c0]
  simp only [jau,hq,decide_true,and_self]
 ·have c0:¬ 0≤jef ds c.name ds.length 0:=fun h=>hq (hk.1 h)
  simp -implicitDefEqProofs only [Tryz.f231,Ka,Nat.reduceLT,Nat.reduceEqDiff,Ke,Kc,reduceIte,Ys,Y0,Int.reduceEq,Int.reduceLT,Int.reduceLE,Int.reduceNeg,mb,Nat.reduceBEq,tys,stb,Vq,hX,c0]
  simp only [jau,hq,decide_false,and_self]
theorem jt0:env.P.funcs[238]? = some Tryz.f238:=by kernel_rfl
theorem jjg:∀ (cs:List Col) (i:Nat),(jaL cs).take (i * 4)=jaL (cs.take i)
 | cs,0=>by simp [jaL]
 | [],i+1=>by simp [jaL]
 | c::cs,i+1=>by
  rw [jbF,show (i+1) * 4=i * 4+1+1+1+1 by omega]
  simp only [Q6,jjg cs i,jbF]
theorem jrD {v:V}{cs:List Col}(h:IsC v cs){i:Nat}(hi:i<cs.length):∃ u,jct env 36 v none (some (.int .i64 (i:Int))) none=some u∧IsC u (cs.take i):=by
 rcases h with ⟨rfl,rfl⟩ | ⟨q,_,rfl⟩
 ·simp at hi
 ·refine ⟨.row (jaL (cs.take i)) i .unk,?_,.inr ⟨.unk,.inl rfl,by simp [Qi,J9 (Nat.le_of_lt hi)]⟩⟩
  have hb:ja4 (some (.int .i64 (i:Int))) cs.length cs.length=some i:=by
   simp only [ja4]; simp; omega
  simp only [jct,tys2,Ko,jde,hb]
  simp [ja4,show ¬ i=cs.length by omega,jjg]
theorem jkZ (cs:List Col){i j:Nat}(h:j<i):(cs.take i).getD j Col.none=cs.getD j Col.none:=by
 simp [List.getD,Q9,h]
open Classical in
theorem jd1 (cv:V)(cs:List Col)(hc:IsC cv cs)(ok:OkC cs)(hl:cs.length≤1000)(i:Nat)(hlt:i<cs.length)(hsc:jfW (cs.getD i Col.none))(σ:S) :
  jah env (ev env) 238 [cv,.int .i64 i] σ=some (.int .i64 (colX cs i),σ):=by
 refine jar rfl rfl (by simp [V.closed,V.closed.closedL,jce hc ok]) jt0 rfl (by simp [Tryz.f238]) (by simp [Tryz.f238]) (jaj ?_) σ
 have hwc:=ok.at hlt
 have hic:=jbC hwc
 by_cases hnm:jaZ (cs.getD i Col.none).name
 case neg =>
  have hX:colX cs i=19:=by simp only [colX]; rw [Kh hnm]
  simp -implicitDefEqProofs only [Tryz.f238,Ka,Nat.reduceLT,Nat.reduceEqDiff,Ke,Kc,reduceIte,Ys,Y0,Int.reduceEq,Int.reduceLT,Int.reduceLE,Int.reduceNeg,mb,Nat.reduceBEq,tys,stb,Vq,tys2,jgP hc hlt,jeU,jaN,z44,jay,Qg,jaa,Q1,Qq,K2,Jl,K3,Qn,Jx,jae,jad,hic,YW,Nat.reduceAdd,Nat.reduceLeDiff,jcY _ hsc.1,hnm]
  simp only [jau,jak,jat,hX]
 obtain ⟨u,hu,hcu⟩:=jrD hc hlt
 have oku:OkC (cs.take i):=fun c h=>ok c (List.mem_of_mem_take h)
 obtain ⟨X,hX⟩:=jiJ (cs.getD i Col.none) u (cs.take i) hcu oku (by simp; omega) [.cells [.str (cs.getD i Col.none).name,.int .i64 (cs.getD i Col.none).lo,.int .i64 (cs.getD i Col.none).hi,(cs.getD i Col.none).w] 41] [] 0 rfl
 have hk:(∃ j,j<(cs.take i).length∧((cs.take i).getD j Col.none).name=(cs.getD i Col.none).name)↔∃ k,k<i∧(cs.getD k Col.none).name=(cs.getD i Col.none).name:=by
  have hli:(cs.take i).length=i:=by simp; omega
  rw [hli]
  constructor
  ·rintro ⟨j,h1,h2⟩; exact ⟨j,h1,by rwa [jkZ cs h1] at h2⟩
  ·rintro ⟨j,h1,h2⟩; exact ⟨j,h1,by rwa [jkZ cs h1]⟩
 simp only [hk,Jq,Q8] at hX
 by_cases hd:∃ k,k<i∧(cs.getD k Col.none).name=(cs.getD i Col.none).name
 ·have hE:colX cs i=8:=by simp only [colX]; rw [Kg (not_not_intro hnm),Kh hd]
  simp only [hd,decide_true] at hX
  simp -implicitDefEqProofs only [Tryz.f238,Ka,Nat.reduceLT,Nat.reduceEqDiff,Ke,Kc,reduceIte,Ys,Y0,Int.reduceEq,Int.reduceLT,Int.reduceLE,Int.reduceNeg,mb,Nat.reduceBEq,tys,stb,Vq,tys2,jgP hc hlt,jeU,jaN,z44,jay,Qg,jaa,Q1,Qq,K2,Jl,K3,Qn,Jx,jae,jad,hic,YW,Nat.reduceAdd,Nat.reduceLeDiff,jcY _ hsc.1,hnm,jb3,jb4,jck,hu,hX]
  simp only [jau,jak,jat,hE]
 have hE:colX cs i=colE (cs.getD i Col.none):=by simp only [colX]; rw [Kg (not_not_intro hnm),Kg hd]
 simp only [hd,decide_false] at hX
 have hL:jag (.cells [.str (cs.getD i Col.none).name,.int .i64 (cs.getD i Col.none).lo,.int .i64 (cs.getD i Col.none).hi,(cs.getD i Col.none).w] 41::X) 4 (.ptr 0 0)=some [.str (cs.getD i Col.none).name,.int .i64 (cs.getD i Col.none).lo,.int .i64 (cs.getD i Col.none).hi,(cs.getD i Col.none).w]:=jcZ rfl
 by_cases h0:(0:Int)<((cs.getD i Col.none).ws.length:Int)
 ·have hne:(cs.getD i Col.none).ws.length ≠ 0:=by omega
  simp -implicitDefEqProofs only [Tryz.f238,Ka,Nat.reduceLT,Nat.reduceEqDiff,Ke,Kc,reduceIte,Ys,Y0,Int.reduceEq,Int.reduceLT,Int.reduceLE,Int.reduceNeg,mb,Nat.reduceBEq,tys,stb,Vq,tys2,jgP hc hlt,jeU,jaN,z44,jay,Qg,jaa,Q1,Qq,K2,Jl,K3,Qn,Jx,jae,jad,hic,YW,Nat.reduceAdd,Nat.reduceLeDiff,jcY _ hsc.1,hnm,jb3,jb4,jck,hu,hX,jcN hwc,h0,hL,jnO _ hwc hsc hne]
  simp only [jau,jak,jat,hE]
 have hz:(cs.getD i Col.none).ws.length=0:=by omega
 by_cases h1:(cs.getD i Col.none).lo < -1000000
 ·have he:colE (cs.getD i Col.none)=2:=by simp only [colE,hz,Ke]; rw [Kh (.inl h1)]
  simp -implicitDefEqProofs only [Tryz.f238,Ka,Nat.reduceLT,Nat.reduceEqDiff,Ke,Kc,reduceIte,Ys,Y0,Int.reduceEq,Int.reduceLT,Int.reduceLE,Int.reduceNeg,mb,Nat.reduceBEq,tys,stb,Vq,tys2,jgP hc hlt,jeU,jaN,z44,jay,Qg,jaa,Q1,Qq,K2,Jl,K3,Qn,Jx,jae,jad,hic,YW,Nat.reduceAdd,Nat.reduceLeDiff,jcY _ hsc.1,hnm,jb3,jb4,jck,hu,hX,jcN hwc,h0,h1]
  simp only [jau,jak,jat,hE,he]
 by_cases h2:1000000<(cs.getD i Col.none).hi
 ·have he:colE (cs.getD i Col.none)=2:=by simp only [colE,hz,Ke]; rw [Kh (.inr (.inl h2))]
  simp -implicitDefEqProofs only [Tryz.f238,Ka,Nat.reduceLT,Nat.reduceEqDiff,Ke,Kc,reduceIte,Ys,Y0,Int.reduceEq,Int.reduceLT,Int.reduceLE,Int.reduceNeg,mb,Nat.reduceBEq,tys,stb,Vq,tys2,jgP hc hlt,jeU,jaN,z44,jay,Qg,jaa,Q1,Qq,K2,Jl,K3,Qn,Jx,jae,jad,hic,YW,Nat.reduceAdd,Nat.reduceLeDiff,jcY _ hsc.1,hnm,jb3,jb4,jck,hu,hX,jcN hwc,h0,h1,h2]
  simp only [jau,jak,jat,hE,he]
 by_cases h3:(cs.getD i Col.none).hi<(cs.getD i Col.none).lo
 ·have he:colE (cs.getD i Col.none)=2:=by simp only [colE,hz,Ke]; rw [Kh (.inr (.inr h3))]
  simp -implicitDefEqProofs only [Tryz.f238,Ka,Nat.reduceLT,Nat.reduceEqDiff,Ke,Kc,reduceIte,Ys,Y0,Int.reduceEq,Int.reduceLT,Int.reduceLE,Int.reduceNeg,mb,Nat.reduceBEq,tys,stb,Vq,tys2,jgP hc hlt,jeU,jaN,z44,jay,Qg,jaa,Q1,Qq,K2,Jl,K3,Qn,Jx,jae,jad,hic,YW,Nat.reduceAdd,Nat.reduceLeDiff,jcY _ hsc.1,hnm,jb3,jb4,jck,hu,hX,jcN hwc,h0,h1,h2,h3]
  simp only [jau,jak,jat,hE,he]
 ·have he:colE (cs.getD i Col.none)=0:=by simp only [colE,hz,Ke]; rw [Kg (by omega)]
  simp -implicitDefEqProofs only [Tryz.f238,Ka,Nat.reduceLT,Nat.reduceEqDiff,Ke,Kc,reduceIte,Ys,Y0,Int.reduceEq,Int.reduceLT,Int.reduceLE,Int.reduceNeg,mb,Nat.reduceBEq,tys,stb,Vq,tys2,jgP hc hlt,jeU,jaN,z44,jay,Qg,jaa,Q1,Qq,K2,Jl,K3,Qn,Jx,jae,jad,hic,YW,Nat.reduceAdd,Nat.reduceLeDiff,jcY _ hsc.1,hnm,jb3,jb4,jck,hu,hX,jcN hwc,h0,h1,h2,h3]
  simp only [jau,jak,jat,hE,he]
theorem jt1:env.P.funcs[254]? = some Tryz.f254:=by kernel_rfl
theorem jt2:env.P.funcs[255]? = some Tryz.f255:=by kernel_rfl
theorem jt3:env.P.funcs[256]? = some Tryz.f256:=by kernel_rfl
theorem jt4:env.P.funcs[258]? = some Tryz.f258:=by kernel_rfl
theorem jt5:env.P.funcs[259]? = some Tryz.f259:=by kernel_rfl
theorem jt6:env.P.funcs[260]? = some Tryz.f260:=by kernel_rfl
theorem jt7:env.P.funcs[223]? = some Tryz.f223:=by kernel_rfl
theorem tys3:sz env 64=some 1∧sz env 32=some 1∧sz env 224=some 1∧env.P.underlying 222=some (.slice 224)∧(∀ h p,jaS env h 64 p=(jag h 1 p).bind (·[0]?))∧(∀ h p,jaS env h 32 p=(jag h 1 p).bind (·[0]?))∧(∀ h p,jaS env h 224 p=(jag h 1 p).bind (·[0]?)):=by
 have g30:aggT env 64=some false:=by kernel_rfl
 have g32:aggT env 32=some false:=by kernel_rfl
 have g76:aggT env 224=some false:=by kernel_rfl
 exact ⟨by kernel_rfl,by kernel_rfl,by kernel_rfl,by kernel_rfl,fun _ _=>jaG g30,fun _ _=>jaG g32,fun _ _=>jaG g76⟩
theorem jnQ (g:FuncId)(e:Int)(L:List AObj)(ts:List Nat) :
  jah env (ev env) 254 [.func g [] [],.int .i64 e] ⟨L,ts⟩=some (.func 255 [] [.ptr L.length 0,.ptr (L.length+1) 0],⟨L++[.cells [.func g [] []] 64,.cells [.int .i64 e] 32],ts⟩):=by
 refine jaO rfl rfl jt1 rfl (by simp [Tryz.f254]) (by simp [Tryz.f254]) ?_
 refine jaj ?_
 simp -implicitDefEqProofs only [Tryz.f254,Ka,Nat.reduceLT,Nat.reduceEqDiff,Ke,Kc,reduceIte,Ys,Y0,Int.reduceEq,Int.reduceLT,Int.reduceLE,Int.reduceNeg,mb,Nat.reduceBEq,tys,stb,Vq,tys2,tys3,jnI,Y6,jqg]
 simp only [jau,K4,Jq,Q8,and_self]
def Says (g:FuncId)(sc:List V)(b:Bool):Prop:=∀ L ts,jah env (ev env) g [.agg sc] ⟨L,ts⟩=some (.bool b,⟨L++[.cells sc 38],ts⟩)
theorem jgi (g:FuncId)(e:Int)(a b c d:V)(r:Bool)(hg:Says g [a,b,c,d] r)(L:List AObj)(ts:List Nat)(p q:Nat)(hp:L[p]? = some (.cells [.func g [] []] 64))(hq:L[q]? = some (.cells [.int .i64 e] 32)) :
  jah env (ev env) 255 [.agg [a,b,c,d],.ptr p 0,.ptr q 0] ⟨L,ts⟩=some (.tup [.int .i64 (if r=true then e else 0),.int .i64 (-1)],⟨L++[.cells [a,b,c,d] 38,.cells [a,b,c,d] 38],ts⟩):=by
 refine jaO rfl rfl jt2 rfl (by simp [Tryz.f255]) (by simp [Tryz.f255]) ?_
 refine jaj ?_
 cases r <;>
 ·simp -implicitDefEqProofs only [Tryz.f255,Ka,Nat.reduceLT,Nat.reduceEqDiff,Ke,Kc,reduceIte,Ys,Y0,Int.reduceEq,Int.reduceLT,Int.reduceLE,Int.reduceNeg,mb,Nat.reduceBEq,tys,stb,Vq,tys2,tys3,YW,jhq (ja7 hp _),jhq (ja7 (ja7 hp _) _),jhq (ja7 (ja7 hq _) _),jhq (ja7 hq _),ja7 hp,ja7 hq,jfe,jdt,hg _ _]
  simp [jau]
theorem ck90 (nm:List UInt8)(hn:nm.length<2 ^ 63)(b c d:V):Says 256 [.str nm,b,c,d] (!decide (jaZ nm)):=by
 intro L ts
 refine jaO rfl rfl jt3 rfl (by simp [Tryz.f256]) (by simp [Tryz.f256]) ?_
 refine jaj ?_
 by_cases h:jaZ nm <;>
 ·simp -implicitDefEqProofs only [Tryz.f256,Ka,Nat.reduceLT,Nat.reduceEqDiff,Ke,Kc,reduceIte,Ys,Y0,Int.reduceEq,Int.reduceLT,Int.reduceLE,Int.reduceNeg,mb,Nat.reduceBEq,tys,stb,Vq,tys2,tys3,YW,jaf,jcY nm hn,h,Qr,Ji]
  simp [jau]
theorem ck92 (a b c:V)(cv:V)(cs:List Col)(hc:IsC cv cs):Says 259 [a,b,c,cv] (decide (cs.length=0)):=by
 intro L ts
 refine jaO rfl rfl jt5 rfl (by simp [Tryz.f259]) (by simp [Tryz.f259]) ?_
 refine jaj ?_
 by_cases h:(cs.length:Int)=0
 ·have h':cs.length=0:=by omega
  simp -implicitDefEqProofs only [Tryz.f259,Ka,Nat.reduceLT,Nat.reduceEqDiff,Ke,Kc,reduceIte,Ys,Y0,Int.reduceEq,Int.reduceLT,Int.reduceLE,Int.reduceNeg,mb,Nat.reduceBEq,tys,stb,Vq,tys2,tys3,YW,jaf,jhd hc,h]
  simp [jau,h']
 ·have h':¬ cs.length=0:=by omega
  simp -implicitDefEqProofs only [Tryz.f259,Ka,Nat.reduceLT,Nat.reduceEqDiff,Ke,Kc,reduceIte,Ys,Y0,Int.reduceEq,Int.reduceLT,Int.reduceLE,Int.reduceNeg,mb,Nat.reduceBEq,tys,stb,Vq,tys2,tys3,YW,jaf,jhd hc,h]
  simp [jau,h']
theorem ck93 (a b c:V)(cv:V)(cs:List Col)(hc:IsC cv cs):Says 260 [a,b,c,cv] (decide (16<cs.length)):=by
 intro L ts
 refine jaO rfl rfl jt6 rfl (by simp [Tryz.f260]) (by simp [Tryz.f260]) ?_
 refine jaj ?_
 by_cases h:(16:Int)<(cs.length:Int)
 ·have h':16<cs.length:=by omega
  simp -implicitDefEqProofs only [Tryz.f260,Ka,Nat.reduceLT,Nat.reduceEqDiff,Ke,Kc,reduceIte,Ys,Y0,Int.reduceEq,Int.reduceLT,Int.reduceLE,Int.reduceNeg,mb,Nat.reduceBEq,tys,stb,Vq,tys2,tys3,YW,jaf,jhd hc,h]
  simp [jau,h']
 ·have h':¬ 16<cs.length:=by omega
  simp -implicitDefEqProofs only [Tryz.f260,Ka,Nat.reduceLT,Nat.reduceEqDiff,Ke,Kc,reduceIte,Ys,Y0,Int.reduceEq,Int.reduceLT,Int.reduceLE,Int.reduceNeg,mb,Nat.reduceBEq,tys,stb,Vq,tys2,tys3,YW,jaf,jhd hc,h]
  simp [jau,h']
theorem ck91 (a d:V)(pb:Bool)(many:Int):Says 258 [a,.bool pb,.int .i64 many,d] (decide ((pb=true∧many ≠ 0)∨(pb=false∧(many<1∨50<many)))):=by
 intro L ts
 refine jaO rfl rfl jt4 rfl (by simp [Tryz.f258]) (by simp [Tryz.f258]) ?_
 refine jaj ?_
 cases pb with
 | true =>
  by_cases h:many=0 <;>
  ·simp -implicitDefEqProofs only [Tryz.f258,Ka,Nat.reduceLT,Nat.reduceEqDiff,Ke,Kc,reduceIte,Ys,Y0,Int.reduceEq,Int.reduceLT,Int.reduceLE,Int.reduceNeg,mb,Nat.reduceBEq,tys,stb,Vq,tys2,tys3,YW,jaf,h]
   simp [jau,h]
 | false =>
  by_cases h:many<1
  ·simp -implicitDefEqProofs only [Tryz.f258,Ka,Nat.reduceLT,Nat.reduceEqDiff,Ke,Kc,reduceIte,Ys,Y0,Int.reduceEq,Int.reduceLT,Int.reduceLE,Int.reduceNeg,mb,Nat.reduceBEq,tys,stb,Vq,tys2,tys3,YW,jaf,h]
   simp [jau,h]
  ·by_cases h2:50<many <;>
   ·simp -implicitDefEqProofs only [Tryz.f258,Ka,Nat.reduceLT,Nat.reduceEqDiff,Ke,Kc,reduceIte,Ys,Y0,Int.reduceEq,Int.reduceLT,Int.reduceLE,Int.reduceNeg,mb,Nat.reduceBEq,tys,stb,Vq,tys2,tys3,YW,jaf,h,h2]
    simp [jau,h,h2]
theorem jt8:env.P.funcs[261]? = some Tryz.f261:=by kernel_rfl
theorem ck94 (nm:List UInt8)(pb:Bool)(many:Int)(cv:V)(cs:List Col)(hc:IsC cv cs)(ok:OkC cs)(hl:cs.length≤1000)(hs:∀ i,i<cs.length→jfW (cs.getD i Col.none))(L:List AObj)(ts:List Nat) :
  ∃ X,jah env (ev env) 261 [.agg [.str nm,.bool pb,.int .i64 many,cv]] ⟨L,ts⟩=some (.tup [.int .i64 (jb6 cs cs.length 0).1,.int .i64 (jb6 cs cs.length 0).2],⟨L++X,ts⟩):=by
 suffices h:∃ v σ',jah env (ev env) 261 [.agg [.str nm,.bool pb,.int .i64 many,cv]] ⟨L,ts⟩=some (v,σ')∧(v=.tup [.int .i64 (jb6 cs cs.length 0).1,.int .i64 (jb6 cs cs.length 0).2]∧∃ X,σ'=⟨L++X,ts⟩) by
  obtain ⟨v,σ',h1,rfl,X,rfl⟩:=h
  exact ⟨X,h1⟩
 refine jaE rfl rfl jt8 rfl (by simp [Tryz.f261]) (by simp [Tryz.f261]) (jaj ?_)
 simp -implicitDefEqProofs only [Tryz.f261,Ka,Nat.reduceLT,Nat.reduceEqDiff,Ke,Kc,reduceIte,Ys,Y0,Int.reduceEq,Int.reduceLT,Int.reduceLE,Int.reduceNeg,mb,Nat.reduceBEq,tys,stb,Vq,tys2,tys3,YW,jaf,jhd hc]
 refine jaI (fun m T D σ=>D=[]∧σ=⟨L++[.cells [.str nm,.bool pb,.int .i64 many,cv] 38],ts⟩∧T 1=.ptr L.length 0∧T 8=.int .i64 cs.length∧∃ i:Nat,T 9=.int .i64 i∧i≤cs.length∧m=cs.length - i∧jb6 cs cs.length 0=jb6 cs (cs.length - i) i) ?_ _ _ _ _ ⟨rfl,rfl,rfl,rfl,0,rfl,by omega,rfl,rfl⟩
 rintro m T D σ ⟨rfl,rfl,t1,t8,i,t9,hi,rfl,hf⟩
 refine jaj ?_
 by_cases hlt:i<cs.length
 ·have c1:(i:Int)<(cs.length:Int):=by omega
  have e1:IntKind.i64.wrap ((i:Int)+1)=((i+1:Nat):Int):=by rw [wrap_i64 (by omega) (by omega)]; omega
  obtain ⟨q,hq⟩:∃ q,cs.length - i=q+1:=⟨cs.length - i - 1,by omega⟩
  have hq2:q=cs.length - (i+1):=by omega
  have hstep:jb6 cs (cs.length - i) i=if colX cs i=0 then jb6 cs q (i+1) else (colX cs i,(i:Int)):=by rw [hq]; rfl
  rw [hstep] at hf
  by_cases hz:colX cs i=0
  ·rw [Kh hz,hq2] at hf
   simp -implicitDefEqProofs only [Ka,Nat.reduceLT,Nat.reduceEqDiff,Ke,Kc,reduceIte,Ys,Y0,Int.reduceEq,Int.reduceLT,Int.reduceLE,Int.reduceNeg,mb,Nat.reduceBEq,tys,stb,Vq,tys2,tys3,t1,t8,t9,c1,e1,jaf,jd1 cv cs hc ok hl i hlt (hs i hlt),hz]
   exact ⟨cs.length - (i+1),by omega,i+1,rfl,by omega,rfl,hf⟩
  ·rw [Kg hz] at hf
   simp -implicitDefEqProofs only [Ka,Nat.reduceLT,Nat.reduceEqDiff,Ke,Kc,reduceIte,Ys,Y0,Int.reduceEq,Int.reduceLT,Int.reduceLE,Int.reduceNeg,mb,Nat.reduceBEq,tys,stb,Vq,tys2,tys3,t1,t8,t9,c1,e1,jaf,jd1 cv cs hc ok hl i hlt (hs i hlt),hz]
   exact ⟨by rw [hf]; rfl,_,rfl⟩
 ·have hi2:i=cs.length:=by omega
  subst hi2
  have c1:¬ (cs.length:Int)<(cs.length:Int):=by omega
  rw [J5] at hf
  simp -implicitDefEqProofs only [Ka,Nat.reduceLT,Nat.reduceEqDiff,Ke,Kc,reduceIte,Ys,Y0,Int.reduceEq,Int.reduceLT,Int.reduceLE,Int.reduceNeg,mb,Nat.reduceBEq,tys,stb,Vq,t1,t8,t9,c1]
  exact ⟨by rw [hf]; rfl,_,rfl⟩
def jdG (g:FuncId)(n:Nat):V:=.func 255 [] [.ptr n 0,.ptr (n+1) 0]
def jeM:V:=.row [jdG 256 1,jdG 258 3,jdG 259 5,jdG 260 7,.func 261 [] []] 5 .full
def jel (o:AObj):List AObj:=[o,.cells [.func 256 [] []] 64,.cells [.int .i64 19] 32,.cells [.func 258 [] []] 64,.cells [.int .i64 2] 32,.cells [.func 259 [] []] 64,.cells [.int .i64 3] 32,.cells [.func 260 [] []] 64,.cells [.int .i64 4] 32]
theorem jnR:rowO env 222 5 [(0,.func 255 [] [.ptr 1 0,.ptr 2 0]),(1,.func 255 [] [.ptr 3 0,.ptr 4 0]),(2,.func 255 [] [.ptr 5 0,.ptr 6 0]),(3,.func 255 [] [.ptr 7 0,.ptr 8 0]),(4,.func 261 [] [])]=some jeM:=by kernel_rfl
theorem jl8 (o:AObj):jah env (ev env) 223 [] ⟨[o],[]⟩=some (jeM,⟨jel o,[]⟩):=by
 refine jaO rfl rfl jt7 rfl (by simp [Tryz.f223]) (by simp [Tryz.f223]) ?_
 refine jaj ?_
 simp -implicitDefEqProofs only [Tryz.f223,Ka,Nat.reduceLT,Nat.reduceEqDiff,Ke,Kc,reduceIte,Ys,Y0,Int.reduceEq,Int.reduceLT,Int.reduceLE,Int.reduceNeg,mb,Nat.reduceBEq,tys,stb,Vq,tys2,tys3,jnQ,jan,Nat.reduceAdd,jnR]
 simp [jau,jel]
theorem jd2 (cs:List Col):∀ m i,(jb6 cs m i).1=0→jb6 cs m i=(0,-1)
 | 0,i,_=>rfl
 | m+1,i,h=>by
  simp only [jb6] at h ⊢
  by_cases hz:colX cs i=0
  ·rw [Kh hz] at h ⊢; exact jd2 cs m (i+1) h
  ·rw [Kg hz] at h; exact absurd h hz
open Classical in
noncomputable def jgR (nm:List UInt8)(pb:Bool)(many:Int)(cs:List Col):Nat→Int × Int
 | 0=>jeQ nm pb many cs
 | 1=>if (pb=true∧many ≠ 0)∨(pb=false∧(many<1∨50<many)) then (2,-1) else if cs.length=0 then (3,-1) else if 16<cs.length then (4,-1) else jb6 cs cs.length 0
 | 2=>if cs.length=0 then (3,-1) else if 16<cs.length then (4,-1) else jb6 cs cs.length 0
 | 3=>if 16<cs.length then (4,-1) else jb6 cs cs.length 0
 | 4=>jb6 cs cs.length 0
 | _=>(0,-1)
theorem jsF:jaC 1 jeM (.int .i64 0)=some (.rptr [jdG 256 1,jdG 258 3,jdG 259 5,jdG 260 7,.func 261 [] []]):=rfl
theorem jsG:jaC 1 jeM (.int .i64 1)=some (.rptr [jdG 258 3,jdG 259 5,jdG 260 7,.func 261 [] []]):=rfl
theorem jsH:jaC 1 jeM (.int .i64 2)=some (.rptr [jdG 259 5,jdG 260 7,.func 261 [] []]):=rfl
theorem jsI:jaC 1 jeM (.int .i64 3)=some (.rptr [jdG 260 7,.func 261 [] []]):=rfl
theorem jsJ:jaC 1 jeM (.int .i64 4)=some (.rptr [.func 261 [] []]):=rfl
theorem lenF:jbE (some (.slice 224)) jeM=some (.int .i64 5):=rfl
theorem jt9:env.P.funcs[171]? = some Tryz.f171:=by kernel_rfl
theorem jiK:IntKind.i64.wrap (0+1)=1∧IntKind.i64.wrap (1+1)=2∧IntKind.i64.wrap (2+1)=3∧IntKind.i64.wrap (3+1)=4∧IntKind.i64.wrap (4+1)=5:=by
 refine ⟨?_,?_,?_,?_,?_⟩ <;> rw [wrap_i64 (by omega) (by omega)] <;> rfl
open Classical in
theorem check_call (nm:List UInt8)(pb:Bool)(many:Int)(cv:V)(cs:List Col)(hc:IsC cv cs)(ok:OkC cs)(hn:nm.length<2 ^ 63)(hl:cs.length≤1000)(hs:∀ i,i<cs.length→jfW (cs.getD i Col.none))(σ:S) :
  jah env (ev env) 171 [.agg [.str nm,.bool pb,.int .i64 many,cv]] σ=some (.tup [.int .i64 (jeQ nm pb many cs).1,.int .i64 (jeQ nm pb many cs).2],σ):=by
 refine jar rfl rfl (by simp [V.closed,V.closed.closedL,jce hc ok]) jt9 rfl (by simp [Tryz.f171]) (by simp [Tryz.f171]) (jaj ?_) σ
 simp -implicitDefEqProofs only [Tryz.f171,Ka,Nat.reduceLT,Nat.reduceEqDiff,Ke,Kc,reduceIte,Ys,Y0,Int.reduceEq,Int.reduceLT,Int.reduceLE,Int.reduceNeg,mb,Nat.reduceBEq,tys,stb,Vq,tys2,tys3,jay,YW,jl8,lenF]
 generalize hr:jeQ nm pb many cs=r
 refine jaI (fun m T D σ=>D=[]∧T 1=.ptr 0 0∧T 8=jeM∧T 9=.int .i64 5∧∃ (i:Nat) (X:List AObj),σ=⟨jel (.cells [.str nm,.bool pb,.int .i64 many,cv] 38)++X,[]⟩∧T 10=.int .i64 i∧i≤5∧m=5 - i∧jgR nm pb many cs i=r) ?_ _ _ _ _
  ⟨rfl,rfl,rfl,rfl,0,[],by rw [Jk],rfl,by omega,rfl,hr⟩
 clear hr
 rintro m T D σ ⟨rfl,t1,t8,t9,i,X,rfl,t10,hi,rfl,hr⟩
 refine jaj ?_
 have hfin:∀ a b:Int,(a,b)=r→ja2 (jel (.cells [.str nm,.bool pb,.int .i64 many,cv] 38)++X) jak (jau [V.int .i64 a,V.int .i64 b])=some (.tup [.int .i64 r.1,.int .i64 r.2]):=fun a b h=>by
  subst h
  simp only [jau,jak,jbP,jaz,jaW,jat,Ko,Qh]
 have hfin2:∀ (Y:List AObj) (a b:Int),(a,b)=r→ja2 Y jak (jau [V.int .i64 a,V.int .i64 b])=some (.tup [.int .i64 r.1,.int .i64 r.2]):=fun Y a b h=>by
  subst h
  simp only [jau,jak,jbP,jaz,jaW,jat,Ko,Qh]
 have hL:jag (jel (.cells [.str nm,.bool pb,.int .i64 many,cv] 38)++X) 4 (.ptr 0 0)=some [.str nm,.bool pb,.int .i64 many,cv]:=jcZ rfl
 have hi':i=0∨i=1∨i=2∨i=3∨i=4∨i=5:=by omega
 rcases hi' with rfl | rfl | rfl | rfl | rfl | rfl
 ·have hC:=jgi 256 19 _ _ _ _ _ (ck90 nm hn (.bool pb) (.int .i64 many) cv) (jel (.cells [.str nm,.bool pb,.int .i64 many,cv] 38)++X) [] 1 2 rfl rfl
  by_cases h:jaZ nm
  ·simp only [h,decide_true,Qr,Kj,Kc] at hC
   have hr1:jgR nm pb many cs 1=r:=by rw [← hr]; show _=jeQ nm pb many cs; unfold jeQ; rw [Kg (by simp [h])]; rfl
   simp -implicitDefEqProofs only [Ka,Nat.reduceLT,Nat.reduceEqDiff,Ke,Kc,reduceIte,Ys,Y0,Int.reduceEq,Int.reduceLT,Int.reduceLE,Int.reduceNeg,mb,Nat.reduceBEq,tys,stb,Vq,tys2,tys3,t1,t8,t9,t10,Int.natCast_zero,jsF,jaw,jfe,hL,jdG,hC,jiK]
   exact ⟨4,by omega,1,_,by rw [K4],rfl,by omega,rfl,hr1⟩
  ·simp only [h,decide_false,Ji,Ke] at hC
   have hr1:(19,-1)=r:=by rw [← hr]; show _=jeQ nm pb many cs; unfold jeQ; rw [Kh (by simp [h])]
   simp -implicitDefEqProofs only [Ka,Nat.reduceLT,Nat.reduceEqDiff,Ke,Kc,reduceIte,Ys,Y0,Int.reduceEq,Int.reduceLT,Int.reduceLE,Int.reduceNeg,mb,Nat.reduceBEq,tys,stb,Vq,tys2,tys3,t1,t8,t9,t10,Int.natCast_zero,jsF,jaw,jfe,hL,jdG,hC,jiK]
   exact hfin2 _ _ _ hr1
 ·have hC:=jgi 258 2 _ _ _ _ _ (ck91 (.str nm) cv pb many) (jel (.cells [.str nm,.bool pb,.int .i64 many,cv] 38)++X) [] 3 4 rfl rfl
  by_cases h:(pb=true∧many ≠ 0)∨(pb=false∧(many<1∨50<many))
  ·simp only [h,decide_true,Ke] at hC
   have hr1:(2,-1)=r:=by rw [← hr]; simp only [jgR]; rw [Kh h]
   simp -implicitDefEqProofs only [Ka,Nat.reduceLT,Nat.reduceEqDiff,Ke,Kc,reduceIte,Ys,Y0,Int.reduceEq,Int.reduceLT,Int.reduceLE,Int.reduceNeg,mb,Nat.reduceBEq,tys,stb,Vq,tys2,tys3,t1,t8,t9,t10,Jw,jsG,jaw,jfe,hL,jdG,hC,jiK]
   exact hfin2 _ _ _ hr1
  ·simp only [h,decide_false,Kj,Kc] at hC
   have hr1:jgR nm pb many cs 2=r:=by rw [← hr]; simp only [jgR]; rw [Kg h]
   simp -implicitDefEqProofs only [Ka,Nat.reduceLT,Nat.reduceEqDiff,Ke,Kc,reduceIte,Ys,Y0,Int.reduceEq,Int.reduceLT,Int.reduceLE,Int.reduceNeg,mb,Nat.reduceBEq,tys,stb,Vq,tys2,tys3,t1,t8,t9,t10,Jw,jsG,jaw,jfe,hL,jdG,hC,jiK]
   exact ⟨3,by omega,2,_,by rw [K4],rfl,by omega,rfl,hr1⟩
 ·have hC:=jgi 259 3 _ _ _ _ _ (ck92 (.str nm) (.bool pb) (.int .i64 many) cv cs hc) (jel (.cells [.str nm,.bool pb,.int .i64 many,cv] 38)++X) [] 5 6 rfl rfl
  by_cases h:cs.length=0
  ·simp only [h,decide_true,Ke] at hC
   have hr1:(3,-1)=r:=by rw [← hr]; simp only [jgR]; rw [Kh h]
   simp -implicitDefEqProofs only [Ka,Nat.reduceLT,Nat.reduceEqDiff,Ke,Kc,reduceIte,Ys,Y0,Int.reduceEq,Int.reduceLT,Int.reduceLE,Int.reduceNeg,mb,Nat.reduceBEq,tys,stb,Vq,tys2,tys3,t1,t8,t9,t10,Jw,jsH,jaw,jfe,hL,jdG,hC,jiK]
   exact hfin2 _ _ _ hr1
  ·simp only [h,decide_false,Kj,Kc] at hC
   have hr1:jgR nm pb many cs 3=r:=by rw [← hr]; simp only [jgR]; rw [Kg h]
   simp -implicitDefEqProofs only [Ka,Nat.reduceLT,Nat.reduceEqDiff,Ke,Kc,reduceIte,Ys,Y0,Int.reduceEq,Int.reduceLT,Int.reduceLE,Int.reduceNeg,mb,Nat.reduceBEq,tys,stb,Vq,tys2,tys3,t1,t8,t9,t10,Jw,jsH,jaw,jfe,hL,jdG,hC,jiK]
   exact ⟨2,by omega,3,_,by rw [K4],rfl,by omega,rfl,hr1⟩
 ·have hC:=jgi 260 4 _ _ _ _ _ (ck93 (.str nm) (.bool pb) (.int .i64 many) cv cs hc) (jel (.cells [.str nm,.bool pb,.int .i64 many,cv] 38)++X) [] 7 8 rfl rfl
  by_cases h:16<cs.length
  ·simp only [h,decide_true,Ke] at hC
   have hr1:(4,-1)=r:=by rw [← hr]; simp only [jgR]; rw [Kh h]
   simp -implicitDefEqProofs only [Ka,Nat.reduceLT,Nat.reduceEqDiff,Ke,Kc,reduceIte,Ys,Y0,Int.reduceEq,Int.reduceLT,Int.reduceLE,Int.reduceNeg,mb,Nat.reduceBEq,tys,stb,Vq,tys2,tys3,t1,t8,t9,t10,Jw,jsI,jaw,jfe,hL,jdG,hC,jiK]
   exact hfin2 _ _ _ hr1
  ·simp only [h,decide_false,Kj,Kc] at hC
   have hr1:jgR nm pb many cs 4=r:=by rw [← hr]; simp only [jgR]; rw [Kg h]
   simp -implicitDefEqProofs only [Ka,Nat.reduceLT,Nat.reduceEqDiff,Ke,Kc,reduceIte,Ys,Y0,Int.reduceEq,Int.reduceLT,Int.reduceLE,Int.reduceNeg,mb,Nat.reduceBEq,tys,stb,Vq,tys2,tys3,t1,t8,t9,t10,Jw,jsI,jaw,jfe,hL,jdG,hC,jiK]
   exact ⟨1,by omega,4,_,by rw [K4],rfl,by omega,rfl,hr1⟩
 ·obtain ⟨Y,hC⟩:=ck94 nm pb many cv cs hc ok hl hs (jel (.cells [.str nm,.bool pb,.int .i64 many,cv] 38)++X) []
  have hr1:jb6 cs cs.length 0=r:=by rw [← hr]; simp only [jgR]
  by_cases h:(jb6 cs cs.length 0).1=0
  ·have h2:=jd2 cs _ _ h
   simp only [h2] at hC
   simp -implicitDefEqProofs only [Ka,Nat.reduceLT,Nat.reduceEqDiff,Ke,Kc,reduceIte,Ys,Y0,Int.reduceEq,Int.reduceLT,Int.reduceLE,Int.reduceNeg,mb,Nat.reduceBEq,tys,stb,Vq,tys2,tys3,t1,t8,t9,t10,Jw,jsJ,jaw,jfe,hL,jdG,hC,jiK]
   exact ⟨0,by omega,5,_,by rw [K4],rfl,by omega,rfl,by rw [← hr1,h2]; rfl⟩
  ·simp -implicitDefEqProofs only [Ka,Nat.reduceLT,Nat.reduceEqDiff,Ke,Kc,reduceIte,Ys,Y0,Int.reduceEq,Int.reduceLT,Int.reduceLE,Int.reduceNeg,mb,Nat.reduceBEq,tys,stb,Vq,tys2,tys3,t1,t8,t9,t10,Jw,jsJ,jaw,jfe,hL,jdG,hC,jiK,h]
   exact hfin2 _ _ _ hr1
 ·have hr1:(0,-1)=r:=by rw [← hr]; simp only [jgR]
  simp -implicitDefEqProofs only [Ka,Nat.reduceLT,Nat.reduceEqDiff,Ke,Kc,reduceIte,Ys,Y0,Int.reduceEq,Int.reduceLT,Int.reduceLE,Int.reduceNeg,mb,Nat.reduceBEq,tys,stb,Vq,tys2,tys3,t1,t8,t9,t10,Jw]
  exact hfin2 _ _ _ hr1
end Go.Proofs.YtajaampgajieeaaGreatDoor
