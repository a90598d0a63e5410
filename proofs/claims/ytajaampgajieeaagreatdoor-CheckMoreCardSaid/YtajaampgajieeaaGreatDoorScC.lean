/- Proved here: schemas are checked and found. Conditions: those of each theorem; no statement of the seat is proved in this text. -/
import Derived.Test.YtajaampgajieeaaGreatDoorScB
set_option linter.unusedSimpArgs false
namespace Go.Proofs.YtajaampgajieeaaGreatDoor
open Go.Ab
set_option maxHeartbeats 4000000
set_option maxRecDepth 100000
set_option linter.unusedSimpArgs false
set_option linter.unusedVariables false
set_option linter.unusedSectionVars false
structure Sch where
 name:List UInt8
 pub:Bool
 many:Int
 cv:V
 cs:List Col
def Sch.cells (s:Sch):List V:=[.str s.name,.bool s.pub,.int .i64 s.many,s.cv]
def Sch.none:Sch:=⟨[],false,0,.nilsl,[]⟩
def jbB (l:List Sch):List V:=(l.map Sch.cells).flatten
def IsS (v:V)(l:List Sch):Prop:=(v=.nilsl∧l=[])∨∃ q,(q=RCap.unk∨q=RCap.full)∧v=.row (jbB l) l.length q
def OkS (l:List Sch):Prop:=∀ s∈l,IsC s.cv s.cs∧OkC s.cs
theorem OkS.at {l:List Sch}(h:OkS l){i:Nat}(hi:i<l.length):IsC (l.getD i Sch.none).cv (l.getD i Sch.none).cs∧OkC (l.getD i Sch.none).cs:=h _ (by simp [List.getD,hi])
theorem jb9 (c:Sch)(cs:List Sch):jbB (c::cs)=.str c.name::.bool c.pub::.int .i64 c.many::c.cv::jbB cs:=rfl
theorem jgS:∀ (cs:List Sch) (i:Nat),(jbB cs).drop (i * 4)=jbB (cs.drop i)
 | cs,0=>by simp
 | [],i+1=>by simp [jbB]
 | c::cs,i+1=>by
  rw [jb9,show (i+1) * 4=i * 4+1+1+1+1 by omega]
  simp only [K2]
  exact jgS cs i
theorem jjh:∀ (cs:List Sch) (i:Nat),(jbB cs).take (i * 4)=jbB (cs.take i)
 | cs,0=>by simp [jbB]
 | [],i+1=>by simp [jbB]
 | c::cs,i+1=>by
  rw [jb9,show (i+1) * 4=i * 4+1+1+1+1 by omega]
  simp only [Q6,jjh cs i,jb9]
theorem jm6 {cs:List Sch}{i:Nat}(hi:i<cs.length):jbB (cs.drop i)=.str (cs.getD i Sch.none).name::.bool (cs.getD i Sch.none).pub::.int .i64 (cs.getD i Sch.none).many::(cs.getD i Sch.none).cv::jbB (cs.drop (i+1)):=by
 have e:cs.drop i=cs.getD i Sch.none::cs.drop (i+1):=by
  rw [Qu hi]
  simp [List.getD,hi]
 rw [e,jb9]
theorem jrE {v:V}{cs:List Sch}(h:IsS v cs):jbE (some (.slice 38)) v=some (.int .i64 cs.length):=by
 rcases h with ⟨rfl,rfl⟩ | ⟨q,_,rfl⟩ <;> rfl
theorem jpe {v:V}{cs:List Sch}(h:IsS v cs){i:Nat}(hi:i<cs.length):jaC 4 v (.int .i64 (i:Int))=some (.rptr (.str (cs.getD i Sch.none).name::.bool (cs.getD i Sch.none).pub::.int .i64 (cs.getD i Sch.none).many::(cs.getD i Sch.none).cv::jbB (cs.drop (i+1)))):=by
 rcases h with ⟨rfl,rfl⟩ | ⟨q,_,rfl⟩
 ·simp at hi
 ·rw [Ys,Kh (by omega),Qf,jgS,jm6 hi]
theorem jff:∀ {l:List Sch},OkS l→V.closed.closedL (jbB l)=true
 | [],h=>rfl
 | c::cs,h=>by
  have h1:=h c (by simp)
  rw [jb9]
  simp only [V.closed.closedL,V.closed,jce h1.1 h1.2,jff (l:=cs) fun x hx=>h x (by simp [hx]),K6]
theorem jfy {v:V}{l:List Sch}(h:IsS v l)(ok:OkS l):v.closed=true:=by
 rcases h with ⟨rfl,rfl⟩ | ⟨q,rfl | rfl,rfl⟩
 ·rfl
 ·simp only [V.closed,jff ok,K6]
 ·simp only [V.closed,jff ok,K6]
theorem tys4:env.P.underlying 24=some (.slice 38):=by kernel_rfl
theorem jrF {v:V}{cs:List Sch}(h:IsS v cs){i:Nat}(hi:i<cs.length):∃ u,jct env 24 v none (some (.int .i64 (i:Int))) none=some u∧IsS u (cs.take i):=by
 rcases h with ⟨rfl,rfl⟩ | ⟨q,_,rfl⟩
 ·simp at hi
 ·refine ⟨.row (jbB (cs.take i)) i .unk,?_,.inr ⟨.unk,.inl rfl,by simp [Qi,J9 (Nat.le_of_lt hi)]⟩⟩
  have hb:ja4 (some (.int .i64 (i:Int))) cs.length cs.length=some i:=by
   simp only [ja4]; simp; omega
  simp only [jct,tys2,tys4,Ko,jde,hb]
  simp [ja4,show ¬ i=cs.length by omega,jjh]
theorem jji (cs:List Sch){i j:Nat}(h:j<i):(cs.take i).getD j Sch.none=cs.getD j Sch.none:=by
 simp [List.getD,Q9,h]
def jcn (f:Nat→Bool):Nat→Nat→Int
 | 0,_ => -1
 | m+1,i=>if f i=true then i else jcn f m (i+1)
theorem jc7 (f:Nat→Bool):∀ m i,0≤jcn f m i↔∃ j,i≤j∧j<i+m∧f j=true
  | 0, i => by simp only [jcn]; constructor
               · intro h; omega
               · rintro ⟨j,h1,h2,_⟩; omega
  | m+1,i=>by
    simp only [jcn]
    by_cases h:f i=true
    · rw [Kh h]
      exact ⟨fun _=>⟨i,by omega,by omega,h⟩,fun _=>by omega⟩
    · rw [Kg h,jc7 f m (i+1)]
      constructor
      · rintro ⟨j,h1,h2,h3⟩; exact ⟨j,by omega,by omega,h3⟩
      · rintro ⟨j,h1,h2,h3⟩
        refine ⟨j,?_,by omega,h3⟩
        rcases K1 i j with h4 | h4
        · omega
        · have:j=i:=by omega
          subst this; exact absurd h3 h
theorem jfX {f:Nat→Bool}{n i:Nat}(h:i<n):jcn f (n - i) i=if f i=true then (i:Int) else jcn f (n - (i+1)) (i+1):=by
 obtain ⟨q,hq⟩:∃ q,n - i=q+1:=⟨n - i - 1,by omega⟩
 have hq2:n - (i+1)=q:=by omega
 rw [hq,hq2]; rfl
theorem jc8 {f:Nat→Bool}:∀ {m i:Nat},¬ 0≤jcn f m i→jcn f m i = -1
 | 0,i,_=>rfl
 | m+1,i,h=>by
  simp only [jcn] at h ⊢
  by_cases hf:f i=true
  ·rw [Kh hf] at h; omega
  ·rw [Kg hf] at h ⊢; exact jc8 h
theorem jua:env.P.funcs[172]? = some Tryz.f172:=by kernel_rfl
def jc1 (x:Int):V:=.tup [.int .i64 (if 0≤x then x else 0),.bool (decide (0≤x))]
theorem jjj (x:Int)(σ:S):jah env (ev env) 172 [.int .i64 x] σ=some (jc1 x,σ):=by
 refine jaO rfl rfl jua rfl (by simp [Tryz.f172]) (by simp [Tryz.f172]) ?_
 refine jaj ?_
 by_cases h:0≤x
 ·have h2:¬ x<0:=by omega
  simp -implicitDefEqProofs only [Tryz.f172,Ka,Nat.reduceLT,Nat.reduceEqDiff,Ke,Kc,reduceIte,Ys,Y0,Int.reduceEq,Int.reduceLT,Int.reduceLE,Int.reduceNeg,mb,Nat.reduceBEq,tys,stb,Vq,h,h2]
  simp [jau,jc1,h]
 ·have h2:x<0:=by omega
  simp -implicitDefEqProofs only [Tryz.f172,Ka,Nat.reduceLT,Nat.reduceEqDiff,Ke,Kc,reduceIte,Ys,Y0,Int.reduceEq,Int.reduceLT,Int.reduceLE,Int.reduceNeg,mb,Nat.reduceBEq,tys,stb,Vq,h,h2]
  simp [jau,jc1,h]
theorem jub:env.P.funcs[174]? = some Tryz.f174:=by kernel_rfl
theorem juc:env.P.funcs[201]? = some Tryz.f201:=by kernel_rfl
theorem jl9 (nm:List UInt8)(d:Sch)(L:List AObj)(ts:List Nat)(p:Nat)(hp:L[p]? = some (.cells [.str nm] 9)) :
  jah env (ev env) 174 [.agg [.str d.name,.bool d.pub,.int .i64 d.many,d.cv],.ptr p 0] ⟨L,ts⟩=some (.bool (decide (d.name=nm)),⟨L++[.cells [.str d.name,.bool d.pub,.int .i64 d.many,d.cv] 38],ts⟩):=by
 refine jaO rfl rfl jub rfl (by simp [Tryz.f174]) (by simp [Tryz.f174]) ?_
 refine jaj ?_
 by_cases h:d.name=nm <;>
 ·simp -implicitDefEqProofs only [Tryz.f174,Ka,Nat.reduceLT,Nat.reduceEqDiff,Ke,Kc,reduceIte,Ys,Y0,Int.reduceEq,Int.reduceLT,Int.reduceLE,Int.reduceNeg,mb,Nat.reduceBEq,tys,stb,Vq,tys2,YW,jaf,ja7 hp,jas,h]
  simp [jau,h]
theorem jma (nm:List UInt8)(d:Col)(L:List AObj)(ts:List Nat)(p:Nat)(hp:L[p]? = some (.cells [.str nm] 9)) :
  jah env (ev env) 201 [.agg [.str d.name,.int .i64 d.lo,.int .i64 d.hi,d.w],.ptr p 0] ⟨L,ts⟩=some (.bool (decide (d.name=nm)),⟨L++[.cells [.str d.name,.int .i64 d.lo,.int .i64 d.hi,d.w] 41],ts⟩):=by
 refine jaO rfl rfl juc rfl (by simp [Tryz.f201]) (by simp [Tryz.f201]) ?_
 refine jaj ?_
 by_cases h:d.name=nm <;>
 ·simp -implicitDefEqProofs only [Tryz.f201,Ka,Nat.reduceLT,Nat.reduceEqDiff,Ke,Kc,reduceIte,Ys,Y0,Int.reduceEq,Int.reduceLT,Int.reduceLE,Int.reduceNeg,mb,Nat.reduceBEq,tys,stb,Vq,tys2,YW,jaf,ja7 hp,jas,h]
  simp [jau,h]
def jca (l:List Sch)(nm:List UInt8):Nat→Nat→Int:=jcn fun i=>decide ((l.getD i Sch.none).name=nm)
def jk0 (l:List Col)(nm:List UInt8):Nat→Nat→Int:=jcn fun i=>decide ((l.getD i Col.none).name=nm)
theorem jud:env.P.funcs[173]? = some Tryz.f173:=by kernel_rfl
theorem jmb (nm:List UInt8)(v:V)(l:List Sch)(hv:IsS v l)(ok:OkS l)(hl:l.length≤1000)(L:List AObj)(ts:List Nat)(p:Nat)(hp:L[p]? = some (.cells [.str nm] 9)) :
  ∃ X,jah env (ev env) 173 [v,.func 174 [] [.ptr p 0]] ⟨L,ts⟩=some (.int .i64 (jca l nm l.length 0),⟨L++X,ts⟩):=by
 suffices h:∃ u σ',jah env (ev env) 173 [v,.func 174 [] [.ptr p 0]] ⟨L,ts⟩=some (u,σ')∧(u=.int .i64 (jca l nm l.length 0)∧∃ X,σ'=⟨L++X,ts⟩) by
  obtain ⟨v,σ',h1,rfl,X,rfl⟩:=h
  exact ⟨X,h1⟩
 refine jaE rfl rfl jud rfl (by simp [Tryz.f173]) (by simp [Tryz.f173]) (jaj ?_)
 simp -implicitDefEqProofs only [Tryz.f173,Ka,Nat.reduceLT,Nat.reduceEqDiff,Ke,Kc,reduceIte,Ys,Y0,Int.reduceEq,Int.reduceLT,Int.reduceLE,Int.reduceNeg,mb,Nat.reduceBEq,tys,stb,Vq,tys2,tys4,jrE hv]
 refine jaI (fun m T D σ=>D=[]∧T 0=v∧T 1=.func 174 [] [.ptr p 0]∧T 7=.int .i64 l.length∧∃ (i:Nat) (X:List AObj),σ=⟨L++X,ts⟩∧T 8=.int .i64 i∧i≤l.length∧m=l.length - i∧jca l nm l.length 0=jca l nm (l.length - i) i) ?_ _ _ _ _ ⟨rfl,rfl,rfl,rfl,0,[],by simp,rfl,by omega,rfl,rfl⟩
 rintro m T D σ ⟨rfl,t0,t1,t7,i,X,rfl,t8,hi,rfl,hf⟩
 refine jaj ?_
 by_cases hlt:i<l.length
 ·have c1:(i:Int)<(l.length:Int):=by omega
  have e1:IntKind.i64.wrap ((i:Int)+1)=((i+1:Nat):Int):=by rw [wrap_i64 (by omega) (by omega)]; omega
  have hx:=jpe hv hlt
  have hN:=jl9 nm (l.getD i Sch.none) (L++X) ts p (ja7 hp X)
  unfold jca at hf
  rw [jfX hlt] at hf
  by_cases hn:(l.getD i Sch.none).name=nm
  ·rw [Kh (decide_eq_true hn)] at hf
   simp only [hn,decide_true] at hN
   simp -implicitDefEqProofs only [Ka,Nat.reduceLT,Nat.reduceEqDiff,Ke,Kc,reduceIte,Ys,Y0,Int.reduceEq,Int.reduceLT,Int.reduceLE,Int.reduceNeg,mb,Nat.reduceBEq,tys,stb,Vq,tys2,tys4,t0,t1,t7,t8,c1,e1,hx,jfe,jaN,hn,hN]
   exact ⟨by rw [jca,hf]; rfl,_,by rw [K4]⟩
  ·rw [Kg (by simp only [Qm]; exact hn)] at hf
   simp only [hn,decide_false] at hN
   simp -implicitDefEqProofs only [Ka,Nat.reduceLT,Nat.reduceEqDiff,Ke,Kc,reduceIte,Ys,Y0,Int.reduceEq,Int.reduceLT,Int.reduceLE,Int.reduceNeg,mb,Nat.reduceBEq,tys,stb,Vq,tys2,tys4,t0,t1,t7,t8,c1,e1,hx,jfe,jaN,hN]
   exact ⟨l.length - (i+1),by omega,i+1,_,by rw [K4],rfl,by omega,rfl,hf⟩
 ·have hi2:i=l.length:=by omega
  subst hi2
  have c1:¬ (l.length:Int)<(l.length:Int):=by omega
  rw [J5] at hf
  simp -implicitDefEqProofs only [Ka,Nat.reduceLT,Nat.reduceEqDiff,Ke,Kc,reduceIte,Ys,Y0,Int.reduceEq,Int.reduceLT,Int.reduceLE,Int.reduceNeg,mb,Nat.reduceBEq,tys,stb,Vq,t0,t1,t7,t8,c1]
  exact ⟨by rw [hf]; rfl,X,rfl⟩
theorem jmc (nm:List UInt8)(dv:V)(ds:List Col)(hd:IsC dv ds)(ok:OkC ds)(hl:ds.length≤1000)(L:List AObj)(ts:List Nat)(p:Nat)(hp:L[p]? = some (.cells [.str nm] 9)) :
  ∃ X,jah env (ev env) 200 [dv,.func 201 [] [.ptr p 0]] ⟨L,ts⟩=some (.int .i64 (jk0 ds nm ds.length 0),⟨L++X,ts⟩):=by
 suffices h:∃ v σ',jah env (ev env) 200 [dv,.func 201 [] [.ptr p 0]] ⟨L,ts⟩=some (v,σ')∧(v=.int .i64 (jk0 ds nm ds.length 0)∧∃ X,σ'=⟨L++X,ts⟩) by
  obtain ⟨v,σ',h1,rfl,X,rfl⟩:=h
  exact ⟨X,h1⟩
 refine jaE rfl rfl jsE rfl (by simp [Tryz.f200]) (by simp [Tryz.f200]) (jaj ?_)
 simp -implicitDefEqProofs only [Tryz.f200,Ka,Nat.reduceLT,Nat.reduceEqDiff,Ke,Kc,reduceIte,Ys,Y0,Int.reduceEq,Int.reduceLT,Int.reduceLE,Int.reduceNeg,mb,Nat.reduceBEq,tys,stb,Vq,tys2,jhd hd]
 refine jaI (fun m T D σ=>D=[]∧T 0=dv∧T 1=.func 201 [] [.ptr p 0]∧T 7=.int .i64 ds.length∧∃ (i:Nat) (X:List AObj),σ=⟨L++X,ts⟩∧T 8=.int .i64 i∧i≤ds.length∧m=ds.length - i∧jk0 ds nm ds.length 0=jk0 ds nm (ds.length - i) i) ?_ _ _ _ _ ⟨rfl,rfl,rfl,rfl,0,[],by simp,rfl,by omega,rfl,rfl⟩
 rintro m T D σ ⟨rfl,t0,t1,t7,i,X,rfl,t8,hi,rfl,hf⟩
 refine jaj ?_
 by_cases hlt:i<ds.length
 ·have c1:(i:Int)<(ds.length:Int):=by omega
  have e1:IntKind.i64.wrap ((i:Int)+1)=((i+1:Nat):Int):=by rw [wrap_i64 (by omega) (by omega)]; omega
  have hx:=jgP hd hlt
  have hN:=jma nm (ds.getD i Col.none) (L++X) ts p (ja7 hp X)
  unfold jk0 at hf
  rw [jfX hlt] at hf
  by_cases hn:(ds.getD i Col.none).name=nm
  ·rw [Kh (decide_eq_true hn)] at hf
   simp only [hn,decide_true] at hN
   simp -implicitDefEqProofs only [Ka,Nat.reduceLT,Nat.reduceEqDiff,Ke,Kc,reduceIte,Ys,Y0,Int.reduceEq,Int.reduceLT,Int.reduceLE,Int.reduceNeg,mb,Nat.reduceBEq,tys,stb,Vq,tys2,t0,t1,t7,t8,c1,e1,hx,jeU,jaN,hn,hN]
   exact ⟨by rw [jk0,hf]; rfl,_,by rw [K4]⟩
  ·rw [Kg (by simp only [Qm]; exact hn)] at hf
   simp only [hn,decide_false] at hN
   simp -implicitDefEqProofs only [Ka,Nat.reduceLT,Nat.reduceEqDiff,Ke,Kc,reduceIte,Ys,Y0,Int.reduceEq,Int.reduceLT,Int.reduceLE,Int.reduceNeg,mb,Nat.reduceBEq,tys,stb,Vq,tys2,t0,t1,t7,t8,c1,e1,hx,jeU,jaN,hN]
   exact ⟨ds.length - (i+1),by omega,i+1,_,by rw [K4],rfl,by omega,rfl,hf⟩
 ·have hi2:i=ds.length:=by omega
  subst hi2
  have c1:¬ (ds.length:Int)<(ds.length:Int):=by omega
  rw [J5] at hf
  simp -implicitDefEqProofs only [Ka,Nat.reduceLT,Nat.reduceEqDiff,Ke,Kc,reduceIte,Ys,Y0,Int.reduceEq,Int.reduceLT,Int.reduceLE,Int.reduceNeg,mb,Nat.reduceBEq,tys,stb,Vq,t0,t1,t7,t8,c1]
  exact ⟨by rw [hf]; rfl,X,rfl⟩
theorem at97:env.P.funcs[97]? = some Tryz.f97:=by kernel_rfl
theorem jue:env.P.funcs[122]? = some Tryz.f122:=by kernel_rfl
theorem jjk (h:List AObj)(x:Int):ja2 h jak (jau [.int .i64 (if 0≤x then x else 0),.bool (decide (0≤x))])=some (jc1 x):=by
 simp only [jau,jak,jbP,jaz,jaW,jat,jaF,Ko,Qh,jc1]
theorem find_call (nm:List UInt8)(v:V)(l:List Sch)(hv:IsS v l)(ok:OkS l)(hl:l.length≤1000)(σ:S):jah env (ev env) 97 [v,.str nm] σ=some (jc1 (jca l nm l.length 0),σ):=by
 refine jar rfl rfl (by simp [V.closed,jfy hv ok]) at97 rfl (by simp [Tryz.f97]) (by simp [Tryz.f97]) (jaj ?_) σ
 obtain ⟨X,hX⟩:=jmb nm v l hv ok hl [.cells [.str nm] 9] [] 0 rfl
 simp -implicitDefEqProofs only [Tryz.f97,Ka,Nat.reduceLT,Nat.reduceEqDiff,Ke,Kc,reduceIte,Ys,Y0,Int.reduceEq,Int.reduceLT,Int.reduceLE,Int.reduceNeg,mb,Nat.reduceBEq,tys,stb,Vq,tys2,tys3,jay,hX,jjj,show (V.str nm).cells=[.str nm] from rfl,jc1]
 exact jjk _ _
theorem jk1 (nm:List UInt8)(a b c:V)(hca:a.closed=true)(hcb:b.closed=true)(hcc:c.closed=true)(cv:V)(cs:List Col)(hc:IsC cv cs)(ok:OkC cs)(hl:cs.length≤1000)(σ:S) :
  jah env (ev env) 122 [.agg [a,b,c,cv],.str nm] σ=some (jc1 (jk0 cs nm cs.length 0),σ):=by
 refine jar rfl rfl (by simp [V.closed,V.closed.closedL,jce hc ok,hca,hcb,hcc]) jue rfl (by simp [Tryz.f122]) (by simp [Tryz.f122]) (jaj ?_) σ
 obtain ⟨X,hX⟩:=jmc nm cv cs hc ok hl [.cells [a,b,c,cv] 38,.cells [.str nm] 9] [] 1 rfl
 simp -implicitDefEqProofs only [Tryz.f122,Ka,Nat.reduceLT,Nat.reduceEqDiff,Ke,Kc,reduceIte,Ys,Y0,Int.reduceEq,Int.reduceLT,Int.reduceLE,Int.reduceNeg,mb,Nat.reduceBEq,tys,stb,Vq,tys2,tys3,jay,YW,hX,jjj,show (V.str nm).cells=[.str nm] from rfl,jc1]
 exact jjk _ _
theorem at96:env.P.funcs[96]? = some Tryz.f96:=by kernel_rfl
noncomputable def jeR (l:List Sch)(i:Nat):Int × Int:=jeQ (l.getD i Sch.none).name (l.getD i Sch.none).pub (l.getD i Sch.none).many (l.getD i Sch.none).cs
open Classical in
noncomputable def jg6 (l:List Sch):Nat→Nat→Int × Int × Int
 | 0,_=>(0,-1,-1)
 | m+1,i=>if (jeR l i).1=0 then (if ∃ k,k<i∧(l.getD k Sch.none).name=(l.getD i Sch.none).name then (8,(i:Int),-1) else jg6 l m (i+1)) else ((jeR l i).1,(i:Int),(jeR l i).2)
noncomputable def allE (l:List Sch):Int × Int × Int:=if 16<l.length then (4,16,-1) else jg6 l l.length 0
def jm7 (s:Sch):Prop:=s.name.length<2 ^ 63∧s.cs.length≤1000∧∀ i,i<s.cs.length→jfW (s.cs.getD i Col.none)
def tri (r:Int × Int × Int):V:=.tup [.int .i64 r.1,.int .i64 r.2.1,.int .i64 r.2.2]
theorem jht (h:List AObj)(a b c:Int)(r:Int × Int × Int)(e:(a,b,c)=r):ja2 h jak (jau [.int .i64 a,.int .i64 b,.int .i64 c])=some (tri r):=by
 subst e
 simp only [jau,jak,jbP,jaz,jaW,jat,jaF,Ko,Qh,tri]
theorem jk2 {l:List Sch}{nm:List UInt8}{i:Nat}(hi:i<l.length):0≤jca (l.take i) nm (l.take i).length 0↔∃ k,k<i∧(l.getD k Sch.none).name=nm:=by
 have hli:(l.take i).length=i:=by simp; omega
 rw [hli]; unfold jca; rw [jc7]
 constructor
 ·rintro ⟨j,_,h2,h3⟩
  have h3:=of_decide_eq_true h3
  rw [jji l (by omega)] at h3
  exact ⟨j,by omega,h3⟩
 ·rintro ⟨j,h2,h3⟩
  exact ⟨j,by omega,by omega,by rw [jji l h2]; exact decide_eq_true h3⟩
theorem jqi {v:V}{cs:List Col}(h:IsC v cs):v.isCell=true:=by rcases h with ⟨rfl,_⟩ | ⟨q,_,rfl⟩ <;> rfl
theorem jjV (v:V)(l:List Sch)(hv:IsS v l)(ok:OkS l)(hl:l.length≤1000)(hs:∀ i,i<l.length→jm7 (l.getD i Sch.none))(σ:S):jah env (ev env) 96 [v] σ=some (tri (allE l),σ):=by
 refine jar rfl rfl (by simp [V.closed,jfy hv ok]) at96 rfl (by simp [Tryz.f96]) (by simp [Tryz.f96]) (jaj ?_) σ
 by_cases h16:(16:Int)<(l.length:Int)
 ·have he:(4,16,-1)=allE l:=by unfold allE; rw [Kh (by omega)]
  simp -implicitDefEqProofs only [Tryz.f96,Ka,Nat.reduceLT,Nat.reduceEqDiff,Ke,Kc,reduceIte,Ys,Y0,Int.reduceEq,Int.reduceLT,Int.reduceLE,Int.reduceNeg,mb,Nat.reduceBEq,tys,stb,Vq,tys2,tys3,tys4,jay,jrE hv,h16]
  exact jht _ _ _ _ _ he
 have he:allE l=jg6 l l.length 0:=by unfold allE; rw [Kg (by omega)]
 simp -implicitDefEqProofs only [Tryz.f96,Ka,Nat.reduceLT,Nat.reduceEqDiff,Ke,Kc,reduceIte,Ys,Y0,Int.reduceEq,Int.reduceLT,Int.reduceLE,Int.reduceNeg,mb,Nat.reduceBEq,tys,stb,Vq,tys2,tys3,tys4,jay,jrE hv,h16]
 refine jaI (fun m T D σ=>D=[]∧T 0=v∧T 14=v∧T 15=.int .i64 l.length∧∃ (i:Nat) (X:List AObj),σ=⟨X,[]⟩∧T 16=.int .i64 i∧i≤l.length∧m=l.length - i∧allE l=jg6 l (l.length - i) i) ?_ _ _ _ _ ⟨rfl,rfl,rfl,rfl,0,[],rfl,rfl,by omega,rfl,he⟩
 clear he
 rintro m T D σ ⟨rfl,t0,t14,t15,i,X,rfl,t16,hi,rfl,hf⟩
 refine jaj ?_
 by_cases hlt:i<l.length
 ·have c1:(i:Int)<(l.length:Int):=by omega
  have e1:IntKind.i64.wrap ((i:Int)+1)=((i+1:Nat):Int):=by rw [wrap_i64 (by omega) (by omega)]; omega
  have hx:=jpe hv hlt
  obtain ⟨hcc,hok⟩:=ok.at hlt
  obtain ⟨hs1,hs2,hs3⟩:=hs i hlt
  have hic:=jqi hcc
  obtain ⟨u,hu,hcu⟩:=jrF hv hlt
  have oku:OkS (l.take i):=fun c h=>ok c (List.mem_of_mem_take h)
  have hF:=find_call (l.getD i Sch.none).name u (l.take i) hcu oku (by simp; omega)
  obtain ⟨q,hq⟩:∃ q,l.length - i=q+1:=⟨l.length - i - 1,by omega⟩
  have hq2:q=l.length - (i+1):=by omega
  have hstep:jg6 l (l.length - i) i=if (jeR l i).1=0 then (if ∃ k,k<i∧(l.getD k Sch.none).name=(l.getD i Sch.none).name then (8,(i:Int),-1) else jg6 l q (i+1)) else ((jeR l i).1,(i:Int),(jeR l i).2):=by rw [hq]; rfl
  rw [hstep] at hf
  have hC:=check_call (l.getD i Sch.none).name (l.getD i Sch.none).pub (l.getD i Sch.none).many (l.getD i Sch.none).cv (l.getD i Sch.none).cs hcc hok hs1 hs2 hs3
  change ∀ σ,_=some (V.tup [.int .i64 (jeR l i).1,.int .i64 (jeR l i).2],σ) at hC
  by_cases hz:(jeR l i).1=0
  ·rw [Kh hz] at hf
   simp only [hz] at hC
   by_cases hk:0≤jca (l.take i) (l.getD i Sch.none).name (l.take i).length 0
   ·rw [Kh ((jk2 hlt).1 hk)] at hf
    simp -implicitDefEqProofs only [Ka,Nat.reduceLT,Nat.reduceEqDiff,Ke,Kc,reduceIte,Ys,Y0,Int.reduceEq,Int.reduceLT,Int.reduceLE,Int.reduceNeg,mb,Nat.reduceBEq,tys,stb,Vq,tys2,tys3,tys4,t0,t14,t15,t16,c1,e1,hx,jfe,jaN,z29,jaf,jap,jaa,Q1,Qq,K2,Jl,K3,Qn,jae,jad,jam,hic,YW,Nat.reduceAdd,Nat.reduceLeDiff,jdt,hC,jb3,jb4,jck,hu,hF,jc1,hk]
    exact ⟨by kernel_rfl,jht _ _ _ _ _ hf.symm⟩
   ·rw [Kg (fun h=>hk ((jk2 hlt).2 h)),hq2] at hf
    simp -implicitDefEqProofs only [Ka,Nat.reduceLT,Nat.reduceEqDiff,Ke,Kc,reduceIte,Ys,Y0,Int.reduceEq,Int.reduceLT,Int.reduceLE,Int.reduceNeg,mb,Nat.reduceBEq,tys,stb,Vq,tys2,tys3,tys4,t0,t14,t15,t16,c1,e1,hx,jfe,jaN,z29,jaf,jap,jaa,Q1,Qq,K2,Jl,K3,Qn,jae,jad,jam,hic,YW,Nat.reduceAdd,Nat.reduceLeDiff,jdt,hC,jb3,jb4,jck,hu,hF,jc1,hk]
    exact ⟨by kernel_rfl,l.length - (i+1),by omega,i+1,_,rfl,rfl,by omega,rfl,hf⟩
  ·rw [Kg hz] at hf
   simp -implicitDefEqProofs only [Ka,Nat.reduceLT,Nat.reduceEqDiff,Ke,Kc,reduceIte,Ys,Y0,Int.reduceEq,Int.reduceLT,Int.reduceLE,Int.reduceNeg,mb,Nat.reduceBEq,tys,stb,Vq,tys2,tys3,tys4,t0,t14,t15,t16,c1,e1,hx,jfe,jaN,z29,jaf,jap,jaa,Q1,Qq,K2,Jl,K3,Qn,jae,jad,jam,hic,YW,Nat.reduceAdd,Nat.reduceLeDiff,jdt,hC,hz]
   exact jht _ _ _ _ _ hf.symm
 ·have hi2:i=l.length:=by omega
  subst hi2
  have c1:¬ (l.length:Int)<(l.length:Int):=by omega
  rw [J5] at hf
  simp -implicitDefEqProofs only [Ka,Nat.reduceLT,Nat.reduceEqDiff,Ke,Kc,reduceIte,Ys,Y0,Int.reduceEq,Int.reduceLT,Int.reduceLE,Int.reduceNeg,mb,Nat.reduceBEq,tys,stb,Vq,t0,t14,t15,t16,c1]
  exact jht _ _ _ _ _ hf.symm
def juf (c:Col):Prop:=IsW c.w c.ws∧c.name.length<2 ^ 63∧c.ws.length<2 ^ 63∧∀ i,i<c.ws.length→(c.ws.getD i []).length<2 ^ 63
def jsK (s:Sch):Prop:=IsC s.cv s.cs∧(∀ c∈s.cs,juf c)∧s.name.length<2 ^ 63∧s.cs.length<2 ^ 63
theorem jpf:maxLen<2 ^ 63:=by decide
theorem jsK.okC {s:Sch}(h:jsK s):OkC s.cs:=fun c hc=>(h.2.1 c hc).1
end Go.Proofs.YtajaampgajieeaaGreatDoor
