/- Proved here: fractions of small numbers. Conditions: those of each theorem; no statement of the seat is proved in this text. -/
import Derived.Test.YtpclebdkhpapjaaGreatDoorTkB
import Derived.Test.YtpclebdkhpapjaaGreatDoorItA
set_option linter.unusedSimpArgs false
set_option linter.unusedVariables false
set_option linter.unusedSectionVars false
namespace Go.Proofs.YtpclebdkhpapjaaGreatDoor
open Go.Ab
set_option maxHeartbeats 8000000
set_option maxRecDepth 1000000
namespace T
def splitD (s:List UInt8):V :=
 if 2000<s.length then .tup [.nilsl,.agg [.int .i64 4,.int .i64 2000]] else
 match toksD s with
 | (l,none)=>.tup [toksV l,.agg [.int .i64 0,.int .i64 0]]
 | (_,some (x,i))=>.tup [.nilsl,.agg [.int .i64 x,.int .i64 i]]
theorem jsG (s:List UInt8):jpO s=splitD s:=by
 unfold jpO splitD
 rw [jt6]
 split
 ·rfl
 ·generalize toksD s=r
  obtain ⟨l,_ | ⟨x,i⟩⟩:=r <;> rfl
theorem splitD_call (s:List UInt8)(hl:s.length≤4000)(σ:S):jas env (ev env) 19 [.str s] σ=some (splitD s,σ):=by rw [← jsG]; exact jqB s hl σ
end T
namespace A
def jjK:List Nat:=[13,15,10,12,20,34,35,36,37,38,39,40,67,65,42,87,122,124,123,126,158]
def mutL:List Nat:=[47,45,46,88,14,86,171,172,174,140,165,144]
def jvb:List V→Option V
 | [.str s]=>match Nat.ble s.length 4000 with | true=>some (T.splitD s) | false=>none
 | _=>none
def jxE (f:FuncId):Option (List V→Option V):=match Nat.beq f 127 with | true=>some jo1 | false=>match Nat.beq f 234 with | true=>some idxV | false=>match Nat.beq f 19 with | true=>some jvb | false=>none
noncomputable def env:Env:={ P:=Tryz.prog,pure:=fun f=>memN f jjK,mutb:=fun f _=>memN f mutL,gl:=glV,hook:=jxE,pan:=fun f=>memN f [27,61,25,10,131,129,62,63,96,132,128,95,160,59,92,28,58] }
theorem env_ok:env.Ok :=
  { mixed := by kernel_rfl
    glc:=jkZ
    hook := fun f g h=>by
      simp only [env,jxE] at h
      split at h
      · rename_i hf
        have e:=Qw hf
        subst e
        simp only [Kg] at h
        subst h
        exact jmw (E:=env) (fn:=Tryz.f127) Tryz.func127 (by kernel_rfl) (by kernel_rfl) (by kernel_rfl) rfl
      · split at h
        · rename_i hf
          have e:=Qw hf
          subst e
          simp only [Kg] at h
          subst h
          exact jvN (E:=env) (fn:=Tryz.f234) Tryz.func234 (by kernel_rfl) (by kernel_rfl) (by kernel_rfl) rfl
        · split at h
          · rename_i hf
            have e:=Qw hf
            subst e
            simp only [Kg] at h
            subst h
            intro args v hv Γ σ w xs hw hg hx
            unfold jvb at hv
            split at hv
            · rename_i s
              split at hv
              · rename_i hl
                simp only [Kg] at hv
                subst hv
                exact jcH T.env_ok (fun t r h=>jf8 T.env_ok h) (T.splitD_call s (Qn hl) σ) hw hg hx
              · simp at hv
            · simp at hv
          · simp at h }
end A
set_option maxRecDepth 100000
open Classical in
noncomputable def jfZ (E:Env)(f:FuncId)(args:List V):Option V:=if h:∃ v,∀ σ,jas E (ev E) f args σ=some (v,σ) then some (Classical.choose h) else none
theorem jfo {E:Env}{f:FuncId}{args:List V}{v:V}(h:∀ σ,jas E (ev E) f args σ=some (v,σ)):jfZ E f args=some v:=by
 unfold jfZ
 have he:∃ v,∀ σ,jas E (ev E) f args σ=some (v,σ):=⟨v,h⟩
 rw [dif_pos he]
 have h1:=Vm he S.empty
 rw [h] at h1
 simp only [Kg,Kh,and_true] at h1
 rw [← h1]
theorem jfp {E:Env}(hE:E.Ok){f:FuncId}{args:List V}{v:V}(hv:jfZ E f args=some v){Γ:Ctx}{σ:S}{w:World}{xs:Array Value}(hw:WRel Γ σ w)(hg:GOK E Γ)(hx:LRel Γ args xs):∃ Γ' w' y,Moved Γ Γ' σ w w'∧VRel Γ' v y∧jme E.P f xs w y w':=by
 unfold jfZ at hv
 split at hv
 ·rename_i hh
  simp only [Kg] at hv
  subst hv
  exact jcH hE (fun t r h=>jf8 hE h) (Vm hh σ) hw hg hx
 ·simp at hv
set_option maxRecDepth 1000000
namespace A
def dgsS:List UInt8:=[48,49,50,51,52,53,54,55,56,57]
def setC:List V:=(List.range 256).map fun i=>.bool (Nat.ble 48 i && Nat.ble i 57)
theorem set_row:jeW env 197 [.str dgsS] (.tup [.agg setC,.bool true]):=jeX env_ok rfl (k:=80) (by kernel_rfl)
def mil:List UInt8:=[49,48,48,48,48,48,48,48,48,48]
theorem mil_row:jeW env 67 [.str mil,.str mil] (.tup [.str [49],.int .i64 0]):=jeX env_ok rfl (k:=80) (by kernel_rfl)
end A
namespace R
def jjK:List Nat:=[67,98,99,100,101,102,134,135,136,137,138,139,140,143,144,167,168,169,170,171,194,202,203,222,223]
def jua:List V→Option V
 | [.str s]=>if s=A.dgsS then some (.tup [.agg A.setC,.bool true]) else none
 | _=>none
noncomputable def jrn (f:FuncId):Option (List V→Option V):=match Nat.beq f 141 with | true=>some (jfZ T.env 141) | false=>match Nat.beq f 177 with | true=>some (jfZ I.env 177) | false=>match Nat.beq f 197 with | true=>some jua | false=>none
noncomputable def jvc (f:FuncId):Option (List V→S→Option (V × S)):=match Nat.beq f 46 with | true=>some (jas T.env (ev T.env) 46) | false=>match Nat.beq f 47 with | true=>some (jas T.env (ev T.env) 47) | false=>none
noncomputable def env:Env:={ P:=Tryz.prog,pure:=fun f=>memN f jjK,mutb:=fun f _=>f == 171,gl:=glV,hook:=jrn,hookS:=jvc,stab:=fun f r=>f == 171 && (r == 5 || r == 6) }
theorem env_ok:env.Ok :=
  { mixed := by kernel_rfl
    glc:=jkZ
    hook := fun f g h=>by
      simp only [env,jrn] at h
      split at h
      · rename_i hf
        have e:=Qw hf
        subst e
        simp only [Kg] at h
        subst h
        intro args v hv Γ σ w xs hw hg hx
        exact jfp T.env_ok hv hw hg hx
      · split at h
        · rename_i hf
          have e:=Qw hf
          subst e
          simp only [Kg] at h
          subst h
          intro args v hv Γ σ w xs hw hg hx
          exact jfp I.env_ok hv hw hg hx
        · split at h
          · rename_i hf
            have e:=Qw hf
            subst e
            simp only [Kg] at h
            subst h
            intro args v hv Γ σ w xs hw hg hx
            unfold jua at hv
            split at hv
            · split at hv
              · rename_i hs
                subst hs
                simp only [Kg] at hv
                subst hv
                exact A.set_row Γ σ w xs hw hg hx
              · simp at hv
            · simp at hv
          · simp at h
    hookS:=by
      intro f g h args σ v σ' hv Γ w xs hw hg hx
      simp only [env,jvc] at h
      split at h
      · rename_i hf
        have e:=Qw hf
        subst e
        simp only [Kg] at h
        subst h
        exact jcH T.env_ok (fun t r h=>jf8 T.env_ok h) hv hw hg hx
      · split at h
        · rename_i hf
          have e:=Qw hf
          subst e
          simp only [Kg] at h
          subst h
          exact jcH T.env_ok (fun t r h=>jf8 T.env_ok h) hv hw hg hx
        · simp at h }
theorem jsH {args:List V}{v:V}(h:∀ σ,jas T.env (ev T.env) 141 args σ=some (v,σ))(rec:Task→Option Res)(σ:S):jas env rec 141 args σ=some (v,σ):=by
 have hf:env.hook 141=some (jfZ T.env 141):=rfl
 unfold jas
 rw [hf]
 simp only [jfo h,Kw]
theorem jub {args:List V}{v:V}(h:∀ σ,jas I.env (ev I.env) 177 args σ=some (v,σ))(rec:Task→Option Res)(σ:S):jas env rec 177 args σ=some (v,σ):=by
 have hf:env.hook 177=some (jfZ I.env 177):=rfl
 unfold jas
 rw [hf]
 simp only [jfo h,Kw]
theorem joB (rec:Task→Option Res)(args:List V)(σ:S):jas env rec 46 args σ=jas T.env (ev T.env) 46 args σ:=by
 have hf:env.hook 46=none:=rfl
 have hS:env.hookS 46=some (jas T.env (ev T.env) 46):=rfl
 conv=>lhs; unfold jas
 rw [hf,hS]
 rfl
theorem jwb (rec:Task→Option Res)(args:List V)(σ:S):jas env rec 47 args σ=jas T.env (ev T.env) 47 args σ:=by
 have hf:env.hook 47=none:=rfl
 have hS:env.hookS 47=some (jas T.env (ev T.env) 47):=rfl
 conv=>lhs; unfold jas
 rw [hf,hS]
 rfl
theorem juc (σ:S):jas env (ev env) 197 [.str A.dgsS] σ=some (.tup [.agg A.setC,.bool true],σ):=by
 have hf:env.hook 197=some jua:=rfl
 unfold jas
 rw [hf]
 simp only [jua,Ks,Kw]
end R
end Go.Proofs.YtpclebdkhpapjaaGreatDoor
namespace Go.Proofs.YtpclebdkhpapjaaGreatDoor.R
open Go.Ab
set_option maxHeartbeats 8000000
set_option maxRecDepth 100000
theorem tys:env.P.underlying 3=some (.int .i64)∧env.P.underlying 4=some .bool∧env.P.underlying 5=some (.int .u8)∧env.P.underlying 9=some .string∧env.P.underlying 27=some .string∧env.P.underlying 159=some (.int .u64)∧env.P.underlying 124=some (.slice 159) ∧
  sz env 9=some 1∧sz env 3=some 1∧sz env 4=some 1∧sz env 5=some 1∧sz env 27=some 1∧sz env 159=some 1∧sz env 124=some 1:=by
 exact ⟨by kernel_rfl,by kernel_rfl,by kernel_rfl,by kernel_rfl,by kernel_rfl,by kernel_rfl,by kernel_rfl,by kernel_rfl,by kernel_rfl,by kernel_rfl,by kernel_rfl,by kernel_rfl,by kernel_rfl,by kernel_rfl⟩
theorem u3:env.P.underlying 3=some (.int .i64):=tys.1
theorem u9:env.P.underlying 9=some .string:=tys.2.2.2.1
theorem u27:env.P.underlying 27=some .string:=tys.2.2.2.2.1
theorem u124:env.P.underlying 124=some (.slice 159):=tys.2.2.2.2.2.2.1
theorem s159:sz env 159=some 1:=tys.2.2.2.2.2.2.2.2.2.2.2.2.1
theorem mb (f:FuncId)(r:Nat)(h:(f == 171)=false):env.mutb f r=false:=h
theorem stb (f:FuncId)(r:Nat)(h:(f == 171 && (r == 5 || r == 6))=false):env.stab f r=false:=h
theorem Ke:type_of% (Kf @mb (Kf @stb @tys)):=Kf @mb (Kf @stb @tys)
theorem jgS (h:List AObj)(p:V):jbj env h 159 p=(jai h 1 p).bind (·[0]?):=jaX (by kernel_rfl)
theorem jgT (h:List AObj)(p:V):jbj env h 124 p=(jai h 1 p).bind (·[0]?):=jaX (by kernel_rfl)
theorem al3 (h:List AObj)(p:V):jbj env h 3 p=(jai h 1 p).bind (·[0]?):=jaX (by kernel_rfl)
theorem al4 (h:List AObj)(p:V):jbj env h 4 p=(jai h 1 p).bind (·[0]?):=jaX (by kernel_rfl)
theorem jzd:env.P.funcs[136]? = some Tryz.f136:=by kernel_rfl
theorem jze:env.P.funcs[138]? = some Tryz.f138:=by kernel_rfl
theorem jzf:env.P.funcs[142]? = some Tryz.f142:=by kernel_rfl
theorem jxF:env.P.funcs[169]? = some Tryz.f169:=by kernel_rfl
def lc (l:List Nat):List V:=(l.map fun n=>((n:Nat):Int)).map (V.int .u64)
def IsL (v:V)(l:List Nat):Prop:=(v=.nilsl∧l=[])∨∃ z,v=.row (lc (l++z)) l.length .unk
theorem jpU (l:List Nat):(lc l).length=l.length:=by simp [lc]
theorem jxG (l:List Nat)(i:Nat):(lc l)[i]? = if i<l.length then some (.int .u64 (l.getD i 0)) else none:=by
 unfold lc
 rw [Xr,Xr]
 by_cases h:i<l.length
 ·simp [h,List.getD]
 ·simp [h]
theorem jxH (l z:List Nat)(i:Nat)(h:i<l.length):(lc (l++z))[i]? = some (.int .u64 (l.getD i 0)):=by
 rw [jxG,Km (by rw [Ku]; omega)]
 simp only [List.getD,K0 h]
theorem jsI (l:List Nat):V.closed.closedL (lc l)=true:=by
 unfold lc
 induction l with
 | nil=>rfl
 | cons a l ih=>simpa [V.closed,V.closed.closedL] using ih
theorem jct {v:V}{l:List Nat}(h:IsL v l):v.closed=true:=by
 rcases h with ⟨rfl,rfl⟩ | ⟨z,rfl⟩
 ·rfl
 ·simp [V.closed,jsI]
theorem jkg {v:V}{l:List Nat}(h:IsL v l)(e:TypeId):jec (some (.slice e)) v=some (.int .i64 l.length):=by
 rcases h with ⟨rfl,rfl⟩ | ⟨z,rfl⟩ <;> rfl
theorem jdW {v:V}{l:List Nat}(h:IsL v l):v.cells=[v]∧v.isCell=true:=by
 rcases h with ⟨rfl,rfl⟩ | ⟨z,rfl⟩ <;> exact ⟨rfl,rfl⟩
theorem joC (hp:List AObj)(d:Nat)(l:List Nat):(lc l).mapM (jbm hp (d+1))=some (lc l):=by rw [lc,jkd]
theorem jk9 {v:V}{l:List Nat}(h:IsL v l)(hp:List AObj)(d:Nat):jbm hp (d+2) v=some v:=by
 rcases h with ⟨rfl,rfl⟩ | ⟨z,rfl⟩
 ·rfl
 ·rw [jfR,joC]; rfl
def Sl (H:List AObj)(v:V)(l:List Nat):Prop:=(v=.nilsl∧l=[])∨(∃ z q,v=.row (lc (l++z)) l.length q)∨∃ b cap ex z t,v=.hsl b 0 l.length cap ex∧H[b]? = some (.cells (lc (l++z)) t)∧l.length≤cap∧cap≤(l++z).length
theorem IsL.sl {v:V}{l:List Nat}(h:IsL v l)(H:List AObj):Sl H v l:=by
 rcases h with h | ⟨z,h⟩
 ·exact .inl h
 ·exact .inr (.inl ⟨z,_,h⟩)
theorem Sl.len {H:List AObj}{v:V}{l:List Nat}(h:Sl H v l)(e:TypeId):jec (some (.slice e)) v=some (.int .i64 l.length):=by
 rcases h with ⟨rfl,rfl⟩ | ⟨z,q,rfl⟩ | ⟨b,cap,ex,z,t,rfl,_⟩ <;> rfl
theorem Sl.at {H:List AObj}{v:V}{l:List Nat}(h:Sl H v l)(i:Nat)(hi:i<l.length):∃ p,jaJ 1 v (.int .i64 i)=some p∧(jai H 1 p).bind (·[0]?)=some (.int .u64 (l.getD i 0)):=by
 rcases h with ⟨_,rfl⟩ | ⟨z,q,rfl⟩ | ⟨b,cap,ex,z,t,rfl,hb,h1,h2⟩
 ·simp at hi
 ·have hg:=jxH l z i hi
  refine ⟨.rptr ((lc (l++z)).drop i),?_,?_⟩
  ·have h1:(i:Int)<(l.length:Int):=by omega
   simp [jaJ,hi]
  ·simp only [jai,Qm,jpU,Ku]
   rw [Km (by omega)]
   simp only [Kk,Q4,Jj,Jl]
   simpa using hg
 ·have hg:=jxH l z i hi
  refine ⟨.ptr b (0+i * 1),?_,?_⟩
  ·simp [jaJ,hi]
  ·rw [YA,hb,YB,K8,Qo]
   exact hg
theorem IsL.at {v:V}{l:List Nat}(h:IsL v l)(i:Nat)(hi:i<l.length):∃ p,jaJ 1 v (.int .i64 i)=some p∧∀ H:List AObj,(jai H 1 p).bind (·[0]?)=some (.int .u64 (l.getD i 0)):=by
 rcases h with ⟨rfl,rfl⟩ | ⟨z,rfl⟩
 ·simp at hi
 ·obtain ⟨p,p1,p2⟩:=Sl.at (H:=[]) (.inr (.inl ⟨z,.unk,rfl⟩)) i hi
  refine ⟨p,p1,?_⟩
  rw [Ys,Km (by omega)] at p1
  simp only [Kg] at p1
  subst p1
  exact fun H=>p2
theorem Sl.cut {H:List AObj}{v:V}{l:List Nat}(h:Sl H v l)(k:Nat)(hk:k≤l.length):∃ v',jbT env 124 v none (some (.int .i64 k)) none=some v'∧Sl H v' (l.take k):=by
 have hlt:(l.take k).length=k:=by rw [K7]; omega
 rcases h with ⟨rfl,rfl⟩ | ⟨z,q,rfl⟩ | ⟨b,cap,ex,z,t,rfl,hb,h1,h2⟩
 ·have:k=0:=by simpa using hk
  subst this
  exact ⟨.nilsl,by simp [jbT,u124,s159,jcG,jbi],.inl ⟨rfl,rfl⟩⟩
 ·have e:lc (l.take k)=(lc (l++z)).take k:=by
   simp only [lc,← List.map_take]
   rw [Vg hk]
  have h5:((k:Nat):Int)≤(l.length:Int):=by omega
  obtain ⟨q',he⟩:∃ q',jbT env 124 (.row (lc (l++z)) l.length q) none (some (.int .i64 k)) none=some (.row (lc (l.take k)) k q'):=by
   rw [e]
   exact ⟨_,by simp [jbT,u124,s159,jcG,jbi,h5,hk]; rfl⟩
  exact ⟨_,he,.inr (.inl ⟨[],q',by rw [hlt,Qx]⟩)⟩
 ·have h5:((k:Nat):Int)≤(cap:Int):=by omega
  have h6:k≤cap:=by omega
  obtain ⟨ex',he⟩:∃ ex',jbT env 124 (.hsl b 0 l.length cap ex) none (some (.int .i64 k)) none=some (.hsl b 0 k cap ex'):=by
   cases ex <;> exact ⟨_,by simp [jbT,u124,s159,jcG,jbi,h6]; rfl⟩
  have e:l++z=l.take k++(l.drop k++z):=by rw [← Xa,J4]
  refine ⟨_,he,.inr (.inr ⟨b,cap,ex',l.drop k++z,t,by rw [hlt],by rw [← e]; exact hb,by omega,by rw [← e]; exact h2⟩)⟩
theorem jsJ {H H':List AObj}{v:V}{l:List Nat}(h:Sl H v l)(hm:∀ (b:Nat) cs t,H[b]? = some (.cells cs t)→H'[b]? = some (.cells cs t))(d:Nat):∃ w,jbm H' (d+2) v=some w∧IsL w l:=by
 rcases h with ⟨rfl,rfl⟩ | ⟨z,q,rfl⟩ | ⟨b,cap,ex,z,t,rfl,hb,h1,h2⟩
 ·exact ⟨_,rfl,.inl ⟨rfl,rfl⟩⟩
 ·exact ⟨.row (lc (l++z)) l.length .unk,by rw [jfR,joC]; rfl,.inr ⟨z,rfl⟩⟩
 ·refine ⟨.row (lc (l++z)) l.length .unk,?_,.inr ⟨z,rfl⟩⟩
  rw [jrI _ _ _ _ _ _ _ _ t (hm _ _ _ hb) h1,Jo,joC]; rfl
theorem jsK {v:V}{l:List Nat}(h:IsL v l)(σ:S):jas env (ev env) 136 [v] σ=some (.bool (decide ((l.length:Int)=0)),σ):=by
 refine jav rfl rfl (by simp [jct h]) jzd rfl (by simp [Tryz.f136]) (by simp [Tryz.f136]) (jar ?_) σ
 have hl:=jkg h
 by_cases hz:(l.length:Int)=0
 ·have hz2:=eq_true hz
  simp only [Tryz.f136,Ka,simprocAttr,Ys,Y0,Ke,Vq,jaq,hl,hz2]
  rfl
 ·have hz2:=eq_false hz
  simp only [Tryz.f136,Ka,simprocAttr,Ys,Y0,Ke,Vq,jaq,hl,hz2]
  rfl
theorem jlO {v:V}{l:List Nat}(h:IsL v l)(σ:S):jas env (ev env) 138 [v] σ=some (.bool (decide (l=[1])),σ):=by
 refine jav rfl rfl (by simp [jct h]) jze rfl (by simp [Tryz.f138]) (by simp [Tryz.f138]) (jar ?_) σ
 have hl:=jkg h
 by_cases h1:(l.length:Int)=1
 ·have hz2:=eq_true h1
  obtain ⟨a,rfl⟩:∃ a,l=[a]:=List.length_eq_one_iff.1 (by omega)
  obtain ⟨p,p1,p2⟩:=h.at 0 (by simp)
  have p1':jaJ 1 v (.int .i64 0)=some p:=p1
  have p2':∀ H:List AObj,(jai H 1 p).bind (·[0]?)=some (.int .u64 a):=p2
  by_cases ha:(a:Int)=1
  ·have h2:=eq_true ha
   have h3:decide ([a]=[1])=true:=by simp; omega
   simp only [Tryz.f138,Ka,simprocAttr,Ys,Y0,Ke,Vq,jaq,hl,p1',p2',jgS,h2,h3]
   rfl
  ·have h2:=eq_false ha
   have h3:decide ([a]=[1])=false:=by simp; omega
   simp only [Tryz.f138,Ka,simprocAttr,Ys,Y0,Ke,Vq,jaq,hl,p1',p2',jgS,h2,h3]
   rfl
 ·have hz2:=eq_false h1
  have h3:decide (l=[1])=false:=by
   simp only [decide_eq_false_iff_not]; rintro rfl; exact h1 rfl
  simp only [Tryz.f138,Ka,simprocAttr,Ys,Y0,Ke,Vq,jaq,hl,hz2,h3]
  rfl
def jpV (l r:List Nat):Prop:=∃ k,k≤l.length∧r=l.take k∧(∀ i,k≤i→i<l.length→l.getD i 0=0)∧(k=0∨l.getD (k - 1) 0 ≠ 0)
theorem jng {L:List AObj}{ts:List Nat}{v:V}{l:List Nat}(h:Sl L v l)(hl:l.length≤2 ^ 40):∃ v' r,jas env (ev env) 142 [v] ⟨L,ts⟩=some (v',⟨L,ts⟩)∧Sl L v' r∧jpV l r:=by
 obtain ⟨v',σ',h1,rfl,r,h2,h3⟩:=jck (k:=fun v' σ'=>σ'=⟨L,ts⟩∧∃ r,Sl L v' r∧jpV l r) rfl rfl jzf rfl (by simp [Tryz.f142]) (by simp [Tryz.f142]) (σ:=⟨L,ts⟩) (args:=[v]) (E:=env) (jar (by
  simp only [Tryz.f142,Ka,simprocAttr,Ys,Y0,Ke,Vq]
  refine jbu (fun m T D σ=>D=[]∧σ=⟨L,ts⟩∧∃ k,k≤l.length∧Sl L (T 0) (l.take k)∧m=k∧∀ i,k≤i→i<l.length→l.getD i 0=0) ?_ _ _ _ _ ⟨rfl,rfl,l.length,Ky _,by rw [Ju]; exact h,rfl,fun i h1 h2=>by omega⟩
  rintro m T D σ ⟨rfl,rfl,k,hk,hs,hm,hz⟩
  subst m
  refine jar ?_
  generalize ht0:T 0=w at hs
  have hlt:(l.take k).length=k:=by rw [K7]; omega
  have hlen:=hs.len
  rw [hlt] at hlen
  by_cases h0:0<k
  ·have c0:((0:Int)<(k:Int))=True:=eq_true (by omega)
   have e1:IntKind.i64.wrap ((k:Int) - 1)=((k - 1:Nat):Int):=by rw [wrap_i64 (by omega) (by omega)]; omega
   obtain ⟨p,p1,p2⟩:=hs.at (k - 1) (by omega)
   have e2:(l.take k).getD (k - 1) 0=l.getD (k - 1) 0:=by simp only [List.getD,Q4]; rw [Km (by omega)]
   rw [e2] at p2
   by_cases hl:l.getD (k - 1) 0=0
   ·have c1:(((l.getD (k - 1) 0:Nat):Int)=0)=True:=eq_true (by omega)
    obtain ⟨w',q1,q2⟩:=hs.cut (k - 1) (by omega)
    simp only [Ka,simprocAttr,Ys,Y0,Ke,Vq,ht0,hlen,c0,e1,p1,p2,jgS,c1,jba,jbb,jbf,q1]
    refine ⟨k - 1,by omega,k - 1,by omega,?_,rfl,fun i a b => ?_⟩
    ·rw [Vj,Js (by omega)] at q2; exact q2
    ·by_cases hi:i=k - 1
     ·subst hi; exact hl
     ·exact hz i (by omega) b
   ·have c1:(((l.getD (k - 1) 0:Nat):Int)=0)=False:=eq_false (by omega)
    simp only [Ka,simprocAttr,Ys,Y0,Ke,Vq,ht0,hlen,c0,e1,p1,p2,jgS,c1]
    exact ⟨_,hs,k,hk,rfl,hz,.inr hl⟩
  ·have c0:((0:Int)<(k:Int))=False:=eq_false (by omega)
   simp only [Ka,simprocAttr,Ys,Y0,Ke,Vq,ht0,hlen,c0]
   exact ⟨_,hs,k,hk,rfl,hz,.inl (by omega)⟩))
 exact ⟨v',r,h1,h2,h3⟩
def ofL (n:Nat):List Nat:=if n=0 then [] else [n]
theorem jvd (k:Int):rowO env 124 1 [(0,.int .u64 k)]=some (.row [.int .u64 k] 1 .full):=by kernel_rfl
theorem jwc (σ:S)(k:Int):appO env false σ 124 124 .nilsl (.row [.int .u64 k] 1 .full)=some (.row [.int .u64 k] 1 (.tok σ.toks.length 0 1),⟨σ.heap,σ.toks++[0]⟩):=by kernel_rfl
theorem jcQ {h:List AObj}{b:Nat}{v:V}{t:TypeId}(hb:h[b]? = some (.cells [v] t)):(jai h 1 (.ptr b 0)).bind (·[0]?)=some v:=by
 simp [jai,hb]
theorem jsL (n:Nat)(hn:n<1000000000):∃ v,IsL v (ofL n)∧∀ σ,jas env (ev env) 169 [.int .u64 n] σ=some (v,σ):=by
 by_cases h0:n=0
 ·subst h0
  refine ⟨.nilsl,.inl ⟨rfl,rfl⟩,fun σ => ?_⟩
  refine jav rfl rfl rfl jxF rfl (by simp [Tryz.f169]) (by simp [Tryz.f169]) (jar ?_) σ
  simp only [Tryz.f169,Ka,simprocAttr,Ys,Y0,Ke,Vq,jaq]
  refine jbu (fun m T D σ=>D=[]∧σ=⟨[],[]⟩∧m=0∧T 0=.int .u64 (0:Nat)∧T 3=.nilsl) ?_ 0 _ _ _ ⟨rfl,rfl,rfl,rfl,rfl⟩
  rintro m T D σ ⟨rfl,rfl,hm,t0,t3⟩
  refine jar ?_
  simp only [Ka,simprocAttr,Ys,Y0,Ke,Vq,t0,t3,Int.natCast_zero,Int.lt_irrefl]
  rfl
 ·have e1:ofL n=[n]:=by unfold ofL; rw [Kn h0]
  refine ⟨.row [.int .u64 n] 1 .unk,.inr ⟨[],by rw [e1]; rfl⟩,fun σ => ?_⟩
  refine jav rfl rfl rfl jxF rfl (by simp [Tryz.f169]) (by simp [Tryz.f169]) (jar ?_) σ
  simp only [Tryz.f169,Ka,simprocAttr,Ys,Y0,Ke,Vq,jaq]
  refine jbu (fun m T D σ=>D=[]∧((m=1∧σ=⟨[],[]⟩∧T 0=.int .u64 n∧T 3=.nilsl)∨(m=0∧T 0=.int .u64 (0:Nat)∧∃ c,T 3=.row [.int .u64 n] 1 c))) ?_ 1 _ _ _ ⟨rfl,.inl ⟨rfl,rfl,rfl,rfl⟩⟩
  rintro m T D σ ⟨rfl,⟨hm,rfl,t0,t3⟩ | ⟨hm,t0,c,t3⟩⟩
  ·refine jar ?_
   have c0:((0:Int)<(n:Int))=True:=eq_true (by omega)
   have e2:(n:Int).tmod 1000000000=n:=Int.tmod_eq_of_lt (by omega) (by omega)
   have e3:(n:Int).tdiv 1000000000=0:=Int.tdiv_eq_zero_of_lt (by omega) (by omega)
   have w0:IntKind.u64.wrap 0=0:=by decide
   simp only [Ka,simprocAttr,Ys,Y0,Ke,Vq,t0,t3,c0,e2,e3,jag,jvd,jwc,w0]
   exact ⟨0,by omega,.inr ⟨rfl,_,rfl⟩⟩
  ·refine jar ?_
   simp only [Ka,simprocAttr,Ys,Y0,Ke,Vq,t0,t3,Int.natCast_zero,Int.lt_irrefl]
   rfl
theorem jzg:env.P.funcs[204]? = some Tryz.f204:=by kernel_rfl
theorem jjV {y v:V}{b:Nat}{l:List Nat}{P:Nat→S→Prop}{R:S→Prop}(hb:∀ i σ,P i σ→σ.heap[b]? = some (.cells [v] 124))(hv:IsL v l)(hl:l.length≤2 ^ 40)
  (hy:∀ i σ,i<l.length→P (i+1) σ→∃ r σ',jdf env (ev env) y [.int .i64 i,.int .u64 (l.getD i 0)] σ=some (.bool r,σ')∧(if r=true then P i σ' else R σ')) (σ:S) (hP:P l.length σ) :
  ∃ v' σ',jas env (ev env) 204 [y,.ptr b 0] σ=some (v',σ')∧(P 0 σ'∨R σ'):=by
 refine jck rfl rfl jzg rfl (by simp [Tryz.f204]) (by simp [Tryz.f204]) (jar ?_)
 obtain ⟨L,ts⟩:=σ
 have hb1:=jcQ (hb _ _ hP)
 have hlen:=jkg hv
 have e0:IntKind.i64.wrap ((l.length:Int) - 1)=(l.length:Int) - 1:=wrap_i64 (by omega) (by omega)
 simp only at hb1
 simp only [Tryz.f204,Ka,simprocAttr,Ys,Y0,Ke,Vq,jgT,hb1,hlen,e0]
 refine jbu (fun m T D σ=>D=[]∧T 0=y∧T 1=.ptr b 0∧∃ k:Nat,m=k∧k≤l.length∧T 3=.int .i64 ((k:Int) - 1)∧P k σ) ?_ l.length _ _ _ ⟨rfl,rfl,rfl,l.length,rfl,Ky _,rfl,hP⟩
 clear hb1 hP L ts
 rintro m T D ⟨L,ts⟩ ⟨rfl,t0,t1,k,hm,hk,t3,hP⟩
 subst m
 have hb1:=jcQ (hb _ _ hP)
 simp only at hb1
 refine jar ?_
 by_cases h0:0<k
 ·obtain ⟨i,rfl⟩:∃ i,k=i+1:=⟨k - 1,by omega⟩
  have e2:((i+1:Nat):Int) - 1=(i:Int):=by omega
  rw [e2] at t3
  have c0:((0:Int)≤(i:Int))=True:=eq_true (by omega)
  obtain ⟨p,p1,p2⟩:=Sl.at (hv.sl L) i (by omega)
  obtain ⟨r,σ',hc,hr⟩:=hy i ⟨L,ts⟩ (by omega) hP
  have e3:IntKind.i64.wrap ((i:Int) - 1)=(i:Int) - 1:=wrap_i64 (by omega) (by omega)
  cases r
  ·simp only [Ka,simprocAttr,Ys,Y0,Ke,Vq,t0,t1,t3,c0,jgT,jgS,hb1,p1,p2,hc]
   exact .inr hr
  ·simp only [Ka,simprocAttr,Ys,Y0,Ke,Vq,t0,t1,t3,c0,jgT,jgS,hb1,p1,p2,hc,e3]
   exact ⟨i,by omega,i,rfl,by omega,rfl,hr⟩
 ·have hk0:k=0:=by omega
  subst hk0
  have t3':T 3=.int .i64 (-1):=t3
  simp only [Ka,simprocAttr,Ys,Y0,Ke,Vq,t0,t1,t3']
  exact .inl hP
open Go.Proofs.YtpclebdkhpapjaaGreatDoor.T (asgR bodR rngC jem)
def val:List Nat→Nat
 | []=>0
 | a::r=>a+1000000000 * val r
theorem jud {l:List Nat}{i:Nat}(h:i<l.length):val (l.drop i)=l.getD i 0+1000000000 * val (l.drop (i+1)):=by
 rw [Q6 h]
 simp [val,List.getD,h]
theorem jzh:env.P.funcs[171]? = some Tryz.f171:=by kernel_rfl
theorem jzi:env.P.funcs[173]? = some Tryz.f173:=by kernel_rfl
theorem joD (v:V)(hc:v.cells=[v])(L:List AObj)(ts:List Nat):jas env (ev env) 173 [v] ⟨L,ts⟩=some (.func 204 [] [.ptr L.length 0],⟨L++[.cells [v] 124],ts⟩):=by
 refine jbh rfl rfl jzi rfl (by simp [Tryz.f173]) (by simp [Tryz.f173]) (jar ?_)
 simp only [Tryz.f173,Ka,simprocAttr,Ys,Y0,Ke,Vq,YP,jaZ,hc]
theorem jve (q:List Nat)(i x:Nat)(h:i<q.length):jab (lc q) i [.int .u64 x]=lc (q.set i x):=by
 unfold jab lc
 rw [X4,Km h]
 simp [List.map_take,List.map_drop]
theorem jxI {r d a:Nat}(hr:r<d)(ha:a<1000000000):(r * 1000000000+a) / d<1000000000:=by
 refine (Nat.div_lt_iff_lt_mul (by omega)).2 ?_
 have:(r+1) * 1000000000≤d * 1000000000:=Qi _ hr
 omega
def H171 (v:V)(d n:Nat)(lo:AObj)(q:List Nat)(r:Nat):S:=⟨[.cells [v] 124,.cells [.int .u64 d] 159,.cells (lc q) 159,.cells [.hsl 2 0 n n .exact] 124,.cells [.int .u64 r] 159,.cells [v] 124,.defd true,lo],[]⟩
def P171 (v:V)(l:List Nat)(d:Nat)(lo:AObj)(i:Nat)(σ:S):Prop:=∃ (q:List Nat) (r:Nat),σ=H171 v d l.length lo q r∧q.length=l.length∧(∀ x∈q,x<1000000000)∧r=val (l.drop i) % d
theorem joE {v:V}{l:List Nat}(hv:IsL v l)(hl:l.length≤2 ^ 30)(hB:∀ x∈l,x<1000000000){d:Nat}(h1:1≤d)(h2:d<1000000000){T:Tm}{tmps:List V}{lo:AObj}(hr:Rep 36 T tmps)
  (hlo:lo=.loop .ready none 171 tmps #[15,16] (asgR (jax Tryz.f171)) (bodR (jax Tryz.f171)) 6) (t2:T 2=.ptr 0 0) (t3:T 3=.ptr 1 0) (t6:T 6=.ptr 3 0) (t7:T 7=.ptr 4 0) (i:Nat) (σ:S) (hi:i<l.length) (hP:P171 v l d lo (i+1) σ) :
  ∃ σ',jdf env (ev env) (.yld 7) [.int .i64 i,.int .u64 (l.getD i 0)] σ=some (.bool true,σ')∧P171 v l d lo i σ':=by
 obtain ⟨q,r,rfl,hq,hqB,hrv⟩:=hP
 refine jgf hlo rfl hr rfl (by simp) ?_
 intro lb hlb
 clear hlb hlo hr
 have hrd:r<d:=by rw [hrv]; exact J1 _ (by omega)
 have hli:l.getD i 0<1000000000:=by
  have:l.getD i 0=l[i]:=by simp [List.getD,hi]
  rw [this]; exact hB _ (J5 hi)
 have hx:r * 1000000000+l.getD i 0<1000000000 * 1000000000:=by
  have:(r+1) * 1000000000≤d * 1000000000:=Qi _ hrd
  omega
 have hmod:(r * 1000000000+l.getD i 0) % d=val (l.drop i) % d:=by
  rw [jud hi,hrv,Jx,Nat.add_mod,Nat.mul_mod,Nat.mod_mod,← Nat.mul_mod,← Nat.add_mod,Ug]
 have hdiv:=jxI hrd hli
 obtain ⟨p,p1,hp⟩:=hv.at i hi
 generalize hX:r * 1000000000+l.getD i 0=X at *
 have hm:=J1 X (show 0<d by omega)
 have e1:IntKind.u64.wrap ((r:Int) * 1000000000)=((r * 1000000000:Nat):Int):=by rw [wrap_u64 (by omega) (by omega)]; omega
 have e2:IntKind.u64.wrap (((r * 1000000000:Nat):Int)+(l.getD i 0:Nat))=(X:Int):=by rw [wrap_u64 (by omega) (by omega)]; omega
 have e3:((d:Int)=0)=False:=eq_false (by omega)
 have e4:(X:Int).tdiv (d:Int)=((X / d:Nat):Int):=rfl
 have e5:(X:Int).tmod (d:Int)=((X % d:Nat):Int):=rfl
 generalize X / d=Qt at *
 generalize X % d=Mt at *
 have e6:IntKind.u64.wrap (Qt:Int)=(Qt:Int):=wrap_u64 (by omega) (by omega)
 have e7:IntKind.u64.wrap (Mt:Int)=(Mt:Int):=wrap_u64 (by omega) (by omega)
 have c1:((0:Int)≤(i:Int)∧(i:Int)<(l.length:Int))=True:=eq_true (by omega)
 have st:∀ L ts,storeAt ⟨L,ts⟩ [.int .u64 Qt] 2 (0+i * 1) (some (.cells (lc q) 159))=some ⟨L.set 2 (.cells (lc (q.set i Qt)) 159),ts⟩:=fun L ts=>by
  rw [YE,Km ⟨by rw [jpU]; simp; omega,rfl⟩,show 0+i * 1=i by omega,jve q i Qt (by omega)]; rfl
 refine jar ?_
 simp only [asgR,bodR,rngC,jax,Tryz.f171,Kv,Option.or,H171]
 simp only [Ka,simprocAttr,Ys,Y0,Ke,Vq,Va,jab,Xh,Xw,t2,t3,t6,t7,jgS,jgT,p1,hp,e1,e2,e3,e4,e5,e6,e7]
 refine ⟨by kernel_rfl,?_⟩
 refine jkG rfl (fun s=>s.heap[1]? = some (.cells [.int .u64 d] 159)∧s.heap[3]? = some (.cells [.hsl 2 0 l.length l.length .exact] 124)) ⟨rfl,rfl⟩ (by kernel_rfl) ?_
 simp only [Ka,simprocAttr,Ys,Y0,Ke,Vq,Va,jab,hhWa,hhWb,hhWc,hhWd,t2,t3,t6,t7,jgS,jgT,e3,e4,e5,e6,e7,jbH,c1,st]
 refine ⟨fun s h=>by rw [h.2]; rfl,fun s h=>by rw [h.1]; rfl,fun s h=>by rw [h.1]; rfl,⟨by rw [jpU]; omega,rfl⟩,rfl,q.set i Qt,Mt,?_,by rw [Je]; exact hq,fun x hx => ?_,hmod⟩
 ·have:=jve q i Qt (by omega)
  unfold jab at this
  unfold H171
  rw [← this]; rfl
 ·rcases List.mem_or_eq_of_mem_set hx with h | h
  ·exact hqB x h
  ·omega
theorem e124:jfw env 124=some 159:=by kernel_rfl
theorem b159:bys env 159=some 8:=by kernel_rfl
theorem z159:jbE env 159=some (.int .u64 0):=by kernel_rfl
theorem jzj (r:Nat):env.mutb 171 r=true:=rfl
theorem jwd (n:Nat):lc (List.replicate n 0)=List.replicate n (.int .u64 0):=by simp [lc]
theorem jxJ {σ:S}(n:Nat)(hn:n ≠ 0)(hl:n≤2 ^ 30):jqn env true σ 124 (.int .i64 n) (.int .i64 n)=some (.hsl σ.heap.length 0 n n .exact,σ.push (.cells (lc (List.replicate n 0)) 159)):=by
 have hlim:(lim:Nat)=2 ^ 40:=rfl
 have h1:0≤(n:Int)∧(n:Int)≤n∧(n:Int)≤(lim:Nat)∧(n:Int) * ((8:Nat):Int)≤(lim:Nat):=by rw [hlim]; omega
 have h2:¬ n * 1=0:=by omega
 rw [jwd]
 simp only [jqn,e124,s159,b159,z159,Kk,h1,and_self,Ks,K3,h2,Kr,Y6,K1,K5,K8,true_or,T.rep_flat]
theorem jue (n:Nat):∀ x∈List.replicate n 0,x<1000000000:=fun x hx=>by rw [(List.mem_replicate.1 hx).2]; omega
theorem jbK {E:Env}{f:FuncId}{args:List V}{F:Go.Func}{body:Code}(hp:E.pure f=true)(hk:E.hook f=none)(hc:args.all V.closed=true)(hf:E.P.funcs[f]? = some F)(hb:F.body=some body)
  (hn:F.name ≠ "runtime.NumGoroutine") (hl:args.length≤F.ntmps) (P:V→Prop)
  (hw:wpC E f none F.ntmps body (argT args) [] S.empty ⟨wpR E F.results.toList fun v' σ'=>∃ v,jbm σ'.heap jay v'=some v∧P v,fun _ _ _ _=>False,wpR E F.results.toList fun v' σ'=>∃ v,jbm σ'.heap jay v'=some v∧P v⟩) :
  ∃ v,P v∧∀ σ,jas E (ev E) f args σ=some (v,σ):=by
 obtain ⟨v',σ',h1,v,h2,h3⟩:=jly hf hb hn hl hw
 refine ⟨v,h3,fun σ => ?_⟩
 unfold jas
 simp only [hk,hp,jeA hc,hc,h1,h2,Ks,Kw]
def K171 (l:List Nat)(d:Nat)(v:V):Prop:=∃ w q,v=.tup [w,.int .u64 (val l % d:Nat)]∧IsL w q∧q.length≤l.length∧∀ x∈q,x<1000000000
theorem je3 {v:V}{l:List Nat}(hv:IsL v l)(hne:l ≠ [])(hl:l.length≤2 ^ 30)(hB:∀ x∈l,x<1000000000){d:Nat}(h1:1≤d)(h2:d<1000000000) :
  ∃ u,K171 l d u∧∀ σ,jas env (ev env) 171 [v,.int .u64 d] σ=some (u,σ):=by
 have hn0:l.length ≠ 0:=fun h=>hne (Qh h)
 have hlen:=jkg hv
 have hc:=jdW hv
 have hmk:∀ σ:S,jqn env true σ 124 (.int .i64 l.length) (.int .i64 l.length)=some (.hsl σ.heap.length 0 l.length l.length .exact,σ.push (.cells (lc (List.replicate l.length 0)) 159)):=fun σ=>jxJ l.length hn0 hl
 have z124:jbE env 124=some .nilsl:=by kernel_rfl
 refine jbK rfl rfl (by simp [jct hv,V.closed]) jzh rfl (by simp [Tryz.f171]) (by simp [Tryz.f171]) _ (jar ?_)
 simp only [Tryz.f171,Ka,simprocAttr,Ys,Y0,Ke,Vq,Va,jab,jaq,jgT,jgS,hlen,hc.1,hc.2,jhg,jzj,hmk,z124,z159,joD v hc.1]
 refine ⟨rfl,jrC rfl ?_⟩
 intro tmps lo lx hr hlo hlx
 have hrd:∀ i σ,i<l.length→P171 v l d lo (i+1) σ→∃ r σ',jdf env (ev env) (.yld 7) [.int .i64 i,.int .u64 (l.getD i 0)] σ=some (.bool r,σ')∧(if r=true then P171 v l d lo i σ' else False):=fun i σ hi hP=>by
  obtain ⟨σ',a,b⟩:=joE hv hl hB h1 h2 hr hlo rfl rfl rfl rfl i σ hi hP
  exact ⟨true,σ',a,b⟩
 obtain ⟨u,σ2,hcall,hE⟩:=jjV (y:=.yld 7) (b:=5) (P:=P171 v l d lo) (R:=fun _=>False) (fun i σ h=>by obtain ⟨q,r,rfl,_⟩:=h; rfl) hv (by omega) hrd
  ⟨[.cells [v] 124,.cells [.int .u64 d] 159,.cells (lc (List.replicate l.length 0)) 159,.cells [.hsl 2 0 l.length l.length .exact] 124,.cells [.int .u64 0] 159,.cells [v] 124,.defd true,lo],[]⟩
  ⟨List.replicate l.length 0,0,rfl,List.length_replicate,jue _,by rw [List.drop_length]; exact (Nat.zero_mod d).symm⟩
 obtain ⟨q,r,rfl,hq,hqB,hrv⟩:=hE.resolve_right (fun h=>h)
 rw [Jo] at hrv
 subst hrv
 refine ⟨u,_,jem rfl rfl hcall,rfl,?_⟩
 clear hcall hrd
 have hsl:Sl (H171 v d l.length lx q (val l % d)).heap (.hsl 2 0 l.length l.length .exact) q:=.inr (.inr ⟨2,l.length,.exact,[],159,by rw [hq],by rw [Qx]; rfl,by omega,by rw [Qx]; omega⟩)
 obtain ⟨w,q',t1,t2,k,k1,k2,k3,k4⟩:=jng (ts:=[]) hsl (by omega)
 unfold H171 at t1 t2
 simp only at t1 t2
 unfold H171
 simp only [Va,jab,simprocAttr,Ka,Ys,Y0,Ke,Vq]
 refine jkG rfl (fun s=>s.heap[3]? = some (.cells [.hsl 2 0 l.length l.length .exact] 124)∧s.heap[4]? = some (.cells [.int .u64 (val l % d:Nat)] 159)) ⟨rfl,rfl⟩ (by kernel_rfl) ?_
 simp only [Ka,simprocAttr,Ys,Y0,Ke,Vq,Va,jab,hhWa,hhWb,hhWc,hhWd,jgS,jgT,t1,wpR,jbG]
 obtain ⟨w',s1,s2⟩:=jsJ (H':=[.cells [v] 124,.cells [.int .u64 d] 159,.cells (lc q) 159,.cells [.hsl 2 0 l.length l.length .exact] 124,.cells [.int .u64 (val l % d:Nat)] 159,.cells [v] 124,.defd false,lx]) t2 (fun b cs t hb=>by
  match b,hb with
  | 0,hb=>exact hb
  | 1,hb=>exact hb
  | 2,hb=>exact hb
  | 3,hb=>exact hb
  | 4,hb=>exact hb
  | 5,hb=>exact hb
  | 6,hb=>cases hb
  | 7,hb=>exact hb
  | n+8,hb=>cases hb) 9
 refine ⟨fun s h=>by rw [h.1]; rfl,fun _=>trivial,fun s h=>by rw [h.2]; rfl,_,?_,w',q',rfl,s2,?_,?_⟩
 ·simp only [jaZ,jay,ja6,jaz,jaF,jaW,s1,Kk,Kw]
 ·rw [k2,K7]; omega
 ·rw [k2]; exact fun x hx=>hqB x (Vp hx)
theorem jzk:env.P.funcs[170]? = some Tryz.f170:=by kernel_rfl
theorem jzl:env.P.funcs[202]? = some Tryz.f202:=by kernel_rfl
theorem jzm:env.P.funcs[203]? = some Tryz.f203:=by kernel_rfl
theorem jzn:env.P.funcs[222]? = some Tryz.f222:=by kernel_rfl
theorem jzo:env.P.funcs[223]? = some Tryz.f223:=by kernel_rfl
def cmpI (a b:Int):Int:=if a<b then -1 else if b<a then 1 else 0
theorem nan1 (a:Int)(σ:S):jas env (ev env) 222 [.int .i64 a] σ=some (.bool false,σ):=by
 refine jav rfl rfl rfl jzn rfl (by simp [Tryz.f222]) (by simp [Tryz.f222]) (jar ?_) σ
 have h:(a=a)=True:=eq_true rfl
 simp only [Tryz.f222,Ka,simprocAttr,Ys,Y0,Ke,Vq,jaq,h,ne_eq]
 rfl
theorem nan2 (a:Int)(σ:S):jas env (ev env) 223 [.int .u64 a] σ=some (.bool false,σ):=by
 refine jav rfl rfl rfl jzo rfl (by simp [Tryz.f223]) (by simp [Tryz.f223]) (jar ?_) σ
 have h:(a=a)=True:=eq_true rfl
 simp only [Tryz.f223,Ka,simprocAttr,Ys,Y0,Ke,Vq,jaq,h,ne_eq]
 rfl
theorem cmp1 (a b:Int)(σ:S):jas env (ev env) 202 [.int .i64 a,.int .i64 b] σ=some (.int .i64 (cmpI a b),σ):=by
 refine jav rfl rfl rfl jzl rfl (by simp [Tryz.f202]) (by simp [Tryz.f202]) (jar ?_) σ
 unfold cmpI
 by_cases h1:a<b
 ·have c1:=eq_true h1
  simp only [Tryz.f202,Ka,simprocAttr,Ys,Y0,Ke,Vq,jaq,nan1,c1]
  rfl
 ·have c1:=eq_false h1
  by_cases h2:b<a
  ·have c2:=eq_true h2
   simp only [Tryz.f202,Ka,simprocAttr,Ys,Y0,Ke,Vq,jaq,nan1,c1,c2]
   rfl
  ·have c2:=eq_false h2
   simp only [Tryz.f202,Ka,simprocAttr,Ys,Y0,Ke,Vq,jaq,nan1,c1,c2]
   rfl
theorem cmp2 (a b:Int)(σ:S):jas env (ev env) 203 [.int .u64 a,.int .u64 b] σ=some (.int .i64 (cmpI a b),σ):=by
 refine jav rfl rfl rfl jzm rfl (by simp [Tryz.f203]) (by simp [Tryz.f203]) (jar ?_) σ
 unfold cmpI
 by_cases h1:a<b
 ·have c1:=eq_true h1
  simp only [Tryz.f203,Ka,simprocAttr,Ys,Y0,Ke,Vq,jaq,nan2,c1]
  rfl
 ·have c1:=eq_false h1
  by_cases h2:b<a
  ·have c2:=eq_true h2
   simp only [Tryz.f203,Ka,simprocAttr,Ys,Y0,Ke,Vq,jaq,nan2,c1,c2]
   rfl
  ·have c2:=eq_false h2
   simp only [Tryz.f203,Ka,simprocAttr,Ys,Y0,Ke,Vq,jaq,nan2,c1,c2]
   rfl
def cmpT (a b:List Nat):Nat→Int
 | 0=>0
 | i+1=>if a.getD i 0=b.getD i 0 then cmpT a b i else cmpI (a.getD i 0:Nat) (b.getD i 0:Nat)
def cmpL (a b:List Nat):Int:=if a.length=b.length then cmpT a b a.length else cmpI a.length b.length
theorem z3:jbE env 3=some (.int .i64 0):=by kernel_rfl
def H170 (u v:V)(c:Int)(lo:AObj):S:=⟨[.cells [u] 124,.cells [v] 124,.cells [.int .i64 c] 3,.cells [u] 124,.defd true,lo],[]⟩
def P170 (u v:V)(a b:List Nat)(lo:AObj)(i:Nat)(σ:S):Prop:=σ=H170 u v 0 lo∧cmpT a b a.length=cmpT a b i
def R170 (u v:V)(a b:List Nat)(lr:AObj)(σ:S):Prop:=σ=H170 u v (cmpT a b a.length) lr
theorem jsM {u v:V}{a b:List Nat}(hu:IsL u a)(hv:IsL v b)(hab:a.length=b.length){T:Tm}{tmps:List V}{lo lr:AObj}(hr:Rep 38 T tmps)
  (hlo:lo=.loop .ready none 170 tmps #[18,19] (asgR (jax Tryz.f170)) (bodR (jax Tryz.f170)) 4) (hlr:lr=.loop .done (some .ret) 170 tmps #[18,19] (asgR (jax Tryz.f170)) (bodR (jax Tryz.f170)) 4)
  (t2:T 2=.ptr 0 0) (t3:T 3=.ptr 1 0) (t4:T 4=.ptr 2 0) (i:Nat) (σ:S) (hi:i<a.length) (hP:P170 u v a b lo (i+1) σ) :
  ∃ r σ',jdf env (ev env) (.yld 5) [.int .i64 i,.int .u64 (a.getD i 0)] σ=some (.bool r,σ')∧(if r=true then P170 u v a b lo i σ' else R170 u v a b lr σ'):=by
 obtain ⟨rfl,hc⟩:=hP
 obtain ⟨p,p1,p2⟩:=hu.at i hi
 obtain ⟨q,q1,q2⟩:=hv.at i (by omega)
 rw [show cmpT a b (i+1)=if a.getD i 0=b.getD i 0 then cmpT a b i else cmpI (a.getD i 0:Nat) (b.getD i 0:Nat) from rfl] at hc
 by_cases h:a.getD i 0=b.getD i 0
 ·rw [Km h] at hc
  have c1:(((a.getD i 0:Nat):Int)=((b.getD i 0:Nat):Int))=True:=eq_true (by omega)
  have hh:∃ σ',jdf env (ev env) (.yld 5) [.int .i64 i,.int .u64 (a.getD i 0)] (H170 u v 0 lo)=some (.bool true,σ')∧P170 u v a b lo i σ':=by
   refine jgf hlo rfl hr rfl (by simp) ?_
   intro lb hlb
   clear hlb hlo hr
   refine jar ?_
   simp only [asgR,bodR,rngC,jax,Tryz.f170,Kv,Option.or,H170]
   simp only [Ka,simprocAttr,Ys,Y0,Ke,Vq,Va,jab,Xh,Xw,t2,t3,t4,jgS,jgT,p1,p2,q1,q2,c1]
   exact ⟨by kernel_rfl,rfl,hc⟩
  obtain ⟨σ',h1,h2⟩:=hh
  exact ⟨true,σ',h1,h2⟩
 ·rw [Kn h] at hc
  have c1:(((a.getD i 0:Nat):Int)=((b.getD i 0:Nat):Int))=False:=eq_false (by omega)
  have hh:∃ σ',jdf env (ev env) (.yld 5) [.int .i64 i,.int .u64 (a.getD i 0)] (H170 u v 0 lo)=some (.bool false,σ')∧R170 u v a b lr σ':=by
   refine jmE hlo rfl hr rfl (by simp) ?_
   intro lb lr2 hlb hlr2
   have hlr3:lr2=lr:=by rw [hlr,hlr2]
   clear hlb hlo hr hlr2 hlr
   subst hlr3
   refine jar ?_
   simp only [asgR,bodR,rngC,jax,Tryz.f170,Kv,Option.or,H170]
   simp only [Ka,simprocAttr,Ys,Y0,Ke,Vq,Va,jab,Xh,Xw,t2,t3,t4,jgS,jgT,p1,p2,q1,q2,c1,cmp2]
   refine ⟨by kernel_rfl,by kernel_rfl,rfl,?_⟩
   unfold R170
   rw [hc]
   rfl
  obtain ⟨σ',h1,h2⟩:=hh
  exact ⟨false,σ',h1,h2⟩
theorem juf {u v:V}{a b:List Nat}(hu:IsL u a)(hv:IsL v b)(hl:a.length≤2 ^ 30)(σ:S):jas env (ev env) 170 [u,v] σ=some (.int .i64 (cmpL a b),σ):=by
 have hlu:=jkg hu
 have hlv:=jkg hv
 have hcu:=jdW hu
 have hcv:=jdW hv
 refine jav rfl rfl (by simp [jct hu,jct hv]) jzk rfl (by simp [Tryz.f170]) (by simp [Tryz.f170]) (jar ?_) σ
 unfold cmpL
 by_cases h:a.length=b.length
 ·rw [Km h]
  have c1:((a.length:Int)=(b.length:Int))=True:=eq_true (by omega)
  simp only [Tryz.f170,Ka,simprocAttr,Ys,Y0,Ke,Vq,Va,jab,jaq,jgT,hlu,hlv,hcu.1,hcv.1,c1,z3,joD u hcu.1]
  refine jo5 rfl ?_
  intro tmps lo lr hr hlo hlr
  obtain ⟨w,σ2,hcall,hE⟩:=jjV (y:=.yld 5) (b:=3) (P:=P170 u v a b lo) (R:=R170 u v a b lr) (fun i σ h=>by obtain ⟨rfl,_⟩:=h; rfl) hu (by omega) (jsM hu hv h hr hlo hlr rfl rfl rfl)
   ⟨[.cells [u] 124,.cells [v] 124,.cells [.int .i64 0] 3,.cells [u] 124,.defd true,lo],[]⟩ ⟨rfl,rfl⟩
  refine ⟨w,σ2,jem rfl rfl hcall,?_⟩
  rcases hE with ⟨rfl,hc⟩ | rfl
  ·refine .inl ⟨rfl,_,rfl,?_⟩
   rw [hc]
   generalize AObj.loop .exhausted none 170 tmps _ _ _ _=lx
   unfold H170 cmpT
   simp only [Va,jab,simprocAttr,Ka,Ys,Y0,Ke,Vq,wpR,jbG,al3]
   first | exact ⟨rfl,rfl⟩ | rfl
  ·refine .inr ⟨rfl,_,rfl,?_⟩
   generalize AObj.loop .exhausted _ 170 tmps _ _ _ _=lx
   unfold H170
   simp only [Va,jab,simprocAttr,Ka,Ys,Y0,Ke,Vq,wpR,jbG,al3]
   first | exact ⟨rfl,rfl⟩ | rfl
 ·rw [Kn h]
  have c1:((a.length:Int)=(b.length:Int))=False:=eq_false (by omega)
  simp only [Tryz.f170,Ka,simprocAttr,Ys,Y0,Ke,Vq,Va,jab,jaq,jgT,hlu,hlv,hcu.1,hcv.1,c1,z3,cmp1,al3]
  exact ⟨rfl,rfl⟩
theorem jzp:env.P.funcs[139]? = some Tryz.f139:=by kernel_rfl
theorem jzq:env.P.funcs[140]? = some Tryz.f140:=by kernel_rfl
def numL (n:Nat):List Nat:=if n=0 then [] else if n<1000000000 then [n] else [0,1]
theorem jxK {n:Nat}(h:n<1000000000):ofL n=numL n:=by
 unfold ofL numL
 by_cases h0:n=0
 ·rw [Km h0,Km h0]
 ·rw [Kn h0,Kn h0,Km h]
theorem jlP {n:Nat}(h:n≤1000000000):val (numL n)=n∧(numL n).length≤2∧∀ x∈numL n,x<1000000000:=by
 unfold numL
 by_cases h0:n=0
 ·rw [Km h0]; subst h0; exact ⟨rfl,by simp,by simp⟩
 ·rw [Kn h0]
  by_cases h1:n<1000000000
  ·rw [Km h1]; exact ⟨by simp [val],by simp,by simpa using h1⟩
  ·rw [Kn h1]; exact ⟨by simp [val]; omega,by simp,by simp⟩
theorem jsN {x y:Nat}(hx:x≤1000000000)(hy:y≤1000000000):cmpL (numL x) (numL y)<0↔x<y:=by
 unfold numL
 by_cases x0:x=0
 ·rw [Km x0]
  by_cases y0:y=0
  ·rw [Km y0]; subst x0 y0; decide
  ·rw [Kn y0]
   by_cases y1:y<1000000000
   ·rw [Km y1]; simp [cmpL,cmpI]; omega
   ·rw [Kn y1]; simp [cmpL,cmpI]; omega
 ·rw [Kn x0]
  by_cases x1:x<1000000000
  ·rw [Km x1]
   by_cases y0:y=0
   ·rw [Km y0]; simp [cmpL,cmpI]; omega
   ·rw [Kn y0]
    by_cases y1:y<1000000000
    ·rw [Km y1]
     by_cases e:x=y
     ·subst e; simp [cmpL,cmpT]
     ·simp only [cmpL,K1,K5,Ks,cmpT,X7,Kn e,cmpI]
      by_cases h:x<y
      ·rw [Km (by omega)]; omega
      ·rw [Kn (by omega),Km (by omega)]; omega
    ·rw [Kn y1]; simp [cmpL,cmpI]; omega
  ·rw [Kn x1]
   by_cases y0:y=0
   ·rw [Km y0]; simp [cmpL,cmpI]; omega
   ·rw [Kn y0]
    by_cases y1:y<1000000000
    ·rw [Km y1]; simp [cmpL,cmpI]; omega
    ·rw [Kn y1]
     have h1:¬ x<y:=by omega
     simp [cmpL,cmpT,h1]
def KD (x y:Nat)(w:V):Prop:=∃ q r ql,w=.tup [q,r]∧IsL q ql∧ql.length≤2∧(∀ e∈ql,e<1000000000)∧IsL r (numL (x % y))
theorem jlQ {u v:V}{x y:Nat}(hu:IsL u (numL x))(hv:IsL v (numL y))(hx:x≤1000000000)(hy:y≤1000000000)(h1:1≤y)(hxy:¬ (x=1000000000∧y=1000000000)) :
  ∃ w,KD x y w∧∀ σ,jas env (ev env) 140 [u,v] σ=some (w,σ):=by
 obtain ⟨vx,lx,bx⟩:=jlP hx
 obtain ⟨vy,ly,by'⟩:=jlP hy
 have hcmp:=juf hu hv (by omega)
 refine jbK rfl rfl (by simp [jct hu,jct hv]) jzq rfl (by simp [Tryz.f140]) (by simp [Tryz.f140]) _ (jar ?_)
 by_cases hlt:x<y
 ·have c1:(cmpL (numL x) (numL y)<0)=True:=eq_true ((jsN hx hy).2 hlt)
  simp only [Tryz.f140,Ka,simprocAttr,Ys,Y0,Ke,Vq,jaq,hcmp,c1]
  refine ⟨.tup [.nilsl,u],?_,.nilsl,u,[],rfl,.inl ⟨rfl,rfl⟩,by simp,by simp,by rw [Xe hlt]; exact hu⟩
  simp only [jaZ,jay,ja6,jaz,jaF,jgJ,jk9 hu,Kk,Kw]
 ·have c1:(cmpL (numL x) (numL y)<0)=False:=eq_false (fun h=>hlt ((jsN hx hy).1 h))
  have hy1:y<1000000000:=by omega
  have ey:numL y=[y]:=by unfold numL; rw [Kn (by omega),Km hy1]
  rw [ey] at hv
  have hlen:=jkg hv
  obtain ⟨p,p1,p2⟩:=hv.at 0 (by simp)
  have p1':jaJ 1 v (.int .i64 0)=some p:=p1
  have p2':∀ H:List AObj,(jai H 1 p).bind (·[0]?)=some (.int .u64 y):=p2
  obtain ⟨w0,⟨w,q,rfl,k1,k2,k3⟩,hsm⟩:=je3 hu (by intro e; rw [e] at vx; simp [val] at vx; omega) (by omega) bx h1 hy1
  rw [vx] at hsm
  have hm:=J1 x h1
  obtain ⟨z,z1,z2⟩:=jsL (x % y) (by omega)
  have c2:(((1:Nat):Int)=1)=True:=eq_true rfl
  simp only [Tryz.f140,Ka,simprocAttr,Ys,Y0,Ke,Vq,jaq,hcmp,c1,hlen,c2,p1',p2',jgS,hsm,z2]
  refine ⟨.tup [w,z],?_,w,z,q,rfl,k1,by omega,k3,by rw [← jxK (by omega)]; exact z1⟩
  simp only [jaZ,jay,ja6,jaz,jaF,jk9 k1,jk9 z1,Kk,Kw]
def KG (x y:Nat)(w:V):Prop:=IsL w (numL (Nat.gcd x y))
theorem jug {u v:V}{x y:Nat}(hu:IsL u (numL x))(hv:IsL v (numL y))(hx:x≤1000000000)(hy:y≤1000000000)(hxy:¬ (x=1000000000∧y=1000000000)) :
  ∃ w,KG x y w∧∀ σ,jas env (ev env) 139 [u,v] σ=some (w,σ):=by
 refine jbK rfl rfl (by simp [jct hu,jct hv]) jzp rfl (by simp [Tryz.f139]) (by simp [Tryz.f139]) _ (jar ?_)
 simp only [Tryz.f139,Ka,simprocAttr,Ys,Y0,Ke,Vq,jaq]
 refine jbu (fun m T D σ=>D=[]∧σ=⟨[],[]⟩∧∃ a b:Nat,m=b∧IsL (T 0) (numL a)∧IsL (T 1) (numL b)∧a≤1000000000∧b≤1000000000∧¬ (a=1000000000∧b=1000000000)∧Nat.gcd a b=Nat.gcd x y) ?_ y _ _ _ ⟨rfl,rfl,x,y,rfl,hu,hv,hx,hy,hxy,rfl⟩
 clear hu hv hx hy hxy
 rintro m T D σ ⟨rfl,rfl,a,b,hm,ha,hb,ha1,hb1,hab,hg⟩
 subst m
 generalize hT0:T 0=u at ha
 generalize hT1:T 1=v at hb
 refine jar ?_
 have hlen:=jkg hb
 by_cases h0:b=0
 ·subst h0
  have c0:((0:Int)<((numL 0).length:Int))=False:=eq_false (by simp [numL])
  simp only [Ka,simprocAttr,Ys,Y0,Ke,Vq,hT0,hT1,hlen,c0]
  refine ⟨u,?_,?_⟩
  ·simp only [jaZ,jay,jk9 ha]
  ·unfold KG; rw [← hg,Nat.gcd_zero_right]; exact ha
 ·have hl:0<(numL b).length:=by
   unfold numL; rw [Kn h0]; split <;> simp
  have c0:((0:Int)<((numL b).length:Int))=True:=eq_true (by omega)
  obtain ⟨w,⟨q,r,ql,rfl,q1,q2,q3,q4⟩,hd⟩:=jlQ ha hb ha1 hb1 (by omega) hab
  have hm:=J1 a (show 0<b by omega)
  simp only [Ka,simprocAttr,Ys,Y0,Ke,Vq,hT0,hT1,hlen,c0,hd]
  exact ⟨a % b,hm,b,a % b,rfl,hb,q4,hb1,by omega,by omega,by rw [← hg,Nat.gcd_comm b,← Nat.gcd_rec,Nat.gcd_comm]⟩
theorem at98:env.P.funcs[98]? = some Tryz.f98:=by kernel_rfl
theorem at99:env.P.funcs[99]? = some Tryz.f99:=by kernel_rfl
theorem jzr:env.P.funcs[134]? = some Tryz.f134:=by kernel_rfl
theorem jzs:env.P.funcs[135]? = some Tryz.f135:=by kernel_rfl
theorem jzt:env.P.funcs[167]? = some Tryz.f167:=by kernel_rfl
theorem jzu:env.P.funcs[168]? = some Tryz.f168:=by kernel_rfl
theorem jzv:env.P.funcs[194]? = some Tryz.f194:=by kernel_rfl
theorem jzw:env.P.funcs[198]? = some Tryz.f198:=by kernel_rfl
theorem jzx:env.P.funcs[199]? = some Tryz.f199:=by kernel_rfl
theorem jzy:env.P.funcs[218]? = some Tryz.f218:=by kernel_rfl
theorem u204:env.P.underlying 204=some (.array 256 4):=by kernel_rfl
theorem s4:sz env 4=some 1:=by kernel_rfl
theorem jxL (c:UInt8):A.setC[c.toNat]? = some (.bool (Nat.ble 48 c.toNat && Nat.ble c.toNat 57)):=by
 have h:c.toNat<256:=c.toNat_lt
 unfold A.setC
 rw [Xr,List.getElem?_range h]; rfl
theorem jpW (L:List AObj)(ts:List Nat)(b:Nat)(hb:L[b]? = some (.cells A.setC 204))(c:UInt8):jas env (ev env) 218 [.ptr b 0,.int .u8 c.toNat] ⟨L,ts⟩=some (.bool (Nat.ble 48 c.toNat && Nat.ble c.toNat 57),⟨L,ts⟩):=by
 refine jbh rfl rfl jzy rfl (by simp [Tryz.f218]) (by simp [Tryz.f218]) (jar ?_)
 have h:c.toNat<256:=c.toNat_lt
 have ix:idxO (env.P.underlying 204) (sz env) (some (.ptr b 0)) (some (.int .u8 c.toNat))=some (.ptr b c.toNat):=by
  rw [u204]; simp [idxO,s4,jdi]; omega
 have ld:jbj env L 4 (.ptr b c.toNat)=some (.bool (Nat.ble 48 c.toNat && Nat.ble c.toNat 57)):=by
  rw [al4,YA,hb,YB,jxL]
 simp only [Tryz.f218,Ka,simprocAttr,Ys,Y0,Ke,Vq,jaa,jae,ix,ld,jaZ]
theorem jpX (w:List UInt8)(k:Nat)(h:k≤w.length):jbT env 9 (.str w) none (some (.int .i64 (k:Int))) none=some (.str (w.take k)):=by
 simp [jbT,u9,jcG,jbi,h]
theorem jpY (w:List UInt8)(k:Nat)(h:k≤w.length):jbT env 9 (.str w) (some (.int .i64 (k:Int))) none none=some (.str (w.drop k)):=by
 simp [jbT,u9,jcG,jbi,h]
 exact Qj (by simp)
theorem jqF (L:List AObj)(ts:List Nat)(b:Nat)(hb:L[b]? = some (.cells A.setC 204))(s:List UInt8)(hl:s.length≤2 ^ 30):∃ w,jas env (ev env) 199 [.str s,.ptr b 0] ⟨L,ts⟩=some (.str w,⟨L,ts⟩)∧w.length≤s.length:=by
 obtain ⟨v',σ',h1,rfl,w,rfl,h2⟩:=jck (E:=env) (f:=199) (args:=[.str s,.ptr b 0]) (σ:=⟨L,ts⟩) (k:=fun v' σ'=>σ'=⟨L,ts⟩∧∃ w,v'=.str w∧w.length≤s.length) rfl rfl jzx rfl (by simp [Tryz.f199]) (by simp [Tryz.f199]) (jar (by
  simp only [Tryz.f199,Ka,simprocAttr,Ys,Y0,Ke,Vq]
  refine jbu (fun m T D σ=>D=[]∧σ=⟨L,ts⟩∧T 1=.ptr b 0∧∃ w:List UInt8,T 0=.str w∧m=w.length∧w.length≤s.length) ?_ s.length _ _ _ ⟨rfl,rfl,rfl,s,rfl,rfl,Ky _⟩
  rintro m T D σ ⟨rfl,rfl,t1,w,t0,hm,hw⟩
  subst m
  refine jar ?_
  by_cases h0:0<w.length
  ·have c0:((0:Int)<(w.length:Int))=True:=eq_true (by omega)
   have e1:IntKind.i64.wrap ((w.length:Int) - 1)=((w.length - 1:Nat):Int):=by rw [wrap_i64 (by omega) (by omega)]; omega
   have c2:((0:Int)≤((w.length - 1:Nat):Int)∧((w.length - 1:Nat):Int)<(w.length:Int))=True:=eq_true (by omega)
   have hc:=jpW L ts b hb (w.getD (w.length - 1) 0)
   have sl:=jpX w (w.length - 1) (by omega)
   cases hB:(Nat.ble 48 (w.getD (w.length - 1) 0).toNat && Nat.ble (w.getD (w.length - 1) 0).toNat 57)
   ·rw [hB] at hc
    simp only [Ka,simprocAttr,Ys,Y0,Ke,Vq,t0,t1,jaK,c0,e1,jaG,jaE u9,c2,hc]
    exact ⟨w,rfl,hw⟩
   ·rw [hB] at hc
    simp only [Ka,simprocAttr,Ys,Y0,Ke,Vq,t0,t1,jaK,c0,e1,jaG,jaE u9,c2,hc,jba,jbb,jbf,sl]
    exact ⟨w.length - 1,by omega,_,rfl,by rw [K7]; omega,by rw [K7]; omega⟩
  ·have c0:((0:Int)<(w.length:Int))=False:=eq_false (by omega)
   simp only [Ka,simprocAttr,Ys,Y0,Ke,Vq,t0,t1,jaK,c0]
   exact ⟨w,rfl,hw⟩))
 exact ⟨w,h1,h2⟩
theorem jsO (L:List AObj)(ts:List Nat)(b:Nat)(hb:L[b]? = some (.cells A.setC 204))(s:List UInt8)(hl:s.length≤2 ^ 30):∃ w,jas env (ev env) 198 [.str s,.ptr b 0] ⟨L,ts⟩=some (.str w,⟨L,ts⟩):=by
 obtain ⟨v',σ',h1,rfl,w,rfl⟩:=jck (E:=env) (f:=198) (args:=[.str s,.ptr b 0]) (σ:=⟨L,ts⟩) (k:=fun v' σ'=>σ'=⟨L,ts⟩∧∃ w,v'=.str w) rfl rfl jzw rfl (by simp [Tryz.f198]) (by simp [Tryz.f198]) (jar (by
  simp only [Tryz.f198,Ka,simprocAttr,Ys,Y0,Ke,Vq]
  refine jbu (fun m T D σ=>D=[]∧σ=⟨L,ts⟩∧T 1=.ptr b 0∧∃ w:List UInt8,T 0=.str w∧m=w.length) ?_ s.length _ _ _ ⟨rfl,rfl,rfl,s,rfl,rfl⟩
  rintro m T D σ ⟨rfl,rfl,t1,w,t0,hm⟩
  subst m
  refine jar ?_
  by_cases h0:0<w.length
  ·have c0:((0:Int)<(w.length:Int))=True:=eq_true (by omega)
   have hc:=jpW L ts b hb (w.getD 0 0)
   have sl:=jpY w 1 (by omega)
   have sl1:jbT env 9 (.str w) (some (.int .i64 1)) none none=some (.str (w.drop 1)):=sl
   cases hB:(Nat.ble 48 (w.getD 0 0).toNat && Nat.ble (w.getD 0 0).toNat 57)
   ·rw [hB] at hc
    simp only [Ka,simprocAttr,Ys,Y0,Ke,Vq,t0,t1,jaK,c0,jaG,jaE u9,hc]
    exact ⟨w,rfl⟩
   ·rw [hB] at hc
    simp only [Ka,simprocAttr,Ys,Y0,Ke,Vq,t0,t1,jaK,c0,jaG,jaE u9,hc,jba,jbb,jbf,sl1]
    exact ⟨w.length - 1,by omega,_,rfl,by rw [Qm]⟩
  ·have c0:((0:Int)<(w.length:Int))=False:=eq_false (by omega)
   simp only [Ka,simprocAttr,Ys,Y0,Ke,Vq,t0,t1,jaK,c0]
   exact ⟨w,rfl⟩))
 exact ⟨w,h1⟩
theorem juh:A.setC.length=256:=by kernel_rfl
theorem jsP:A.setC.all V.isCell=true:=by kernel_rfl
theorem z204:jbE env 204=some (.agg (List.replicate 256 (.bool false))):=by kernel_rfl
theorem jlR (T:Tm):jaL env T (.const (.string ⟨(48::49::50::51::52::53::54::55::56::57::[]).toArray⟩))=some (.str A.dgsS):=rfl
theorem jxM:(A.dgsS=[])=False:=eq_false (by decide)
theorem jwe:A.dgsS.length=10:=rfl
theorem jqG:(V.agg A.setC).cells=A.setC:=rfl
theorem s204:sz env 204=some 256:=by kernel_rfl
theorem jxN:List.drop 256 (List.replicate 256 (V.bool false))=[]:=by simp
theorem jzz:(List.replicate 256 (V.bool false)).length=256:=by simp
theorem jui (s:List UInt8)(hl:s.length≤2 ^ 30):∃ v,(∃ w,v=.str w)∧∀ σ,jas env (ev env) 168 [.str s,.str A.dgsS] σ=some (v,σ):=by
 refine jbK rfl rfl rfl jzu rfl (by simp [Tryz.f168]) (by simp [Tryz.f168]) _ (jar ?_)
 by_cases h:s=[]
 ·have c1:=eq_true h
  simp only [Tryz.f168,Ka,simprocAttr,Ys,Y0,Ke,Vq,jaq,jac,c1]
  exact ⟨_,rfl,s,rfl⟩
 ·have c1:=eq_false h
  obtain ⟨w,h1,h2⟩:=jqF [.cells A.setC 204] [] 0 rfl s hl
  obtain ⟨x,h3⟩:=jsO [.cells A.setC 204] [] 0 rfl w (by omega)
  simp only [Tryz.f168,Ka,simprocAttr,Ys,Y0,Ke,Vq,Va,jab,jaq,jac,c1,jxM,jaK,jwe,juc,z204,jqG,s204,juh,jsP,jxN,jzz,h1,h3]
  exact ⟨_,rfl,x,rfl⟩
theorem jnh (s:List UInt8)(hl:s.length≤2 ^ 30):∃ v,(∃ b,v=.bool b)∧∀ σ,jas env (ev env) 135 [.str s] σ=some (v,σ):=by
 obtain ⟨_,⟨w,rfl⟩,ht⟩:=jui s hl
 refine jbK rfl rfl rfl jzs rfl (by simp [Tryz.f135]) (by simp [Tryz.f135]) _ (jar ?_)
 by_cases h:s=[]
 ·have c1:=eq_true h
  simp only [Tryz.f135,Ka,simprocAttr,Ys,Y0,Ke,Vq,jaq,jac,jad,c1]
  exact ⟨_,rfl,_,rfl⟩
 ·have c1:=eq_false h
  have hp:0<s.length:=by cases s with | nil=>exact absurd rfl h | cons a r=>simp
  have c0:((0:Int)<(s.length:Int))=True:=eq_true (by omega)
  by_cases h2:s=[48]
  ·have c2:=eq_true h2
   simp only [Tryz.f135,Ka,simprocAttr,Ys,Y0,Ke,Vq,↓jlR,jaq,jac,jad,c1,c2,ht]
   exact ⟨_,rfl,_,rfl⟩
  ·have c2:=eq_false h2
   by_cases h3:((s.getD 0 0).toNat:Int)=48
   ·have c3:=eq_true h3
    simp only [Tryz.f135,Ka,simprocAttr,Ys,Y0,Ke,Vq,↓jlR,jaq,jac,jad,c1,c2,jaG,jaE u9,c0,c3]
    exact ⟨_,rfl,_,rfl⟩
   ·have c3:=eq_false h3
    simp only [Tryz.f135,Ka,simprocAttr,Ys,Y0,Ke,Vq,↓jlR,jaq,jac,jad,c1,c2,jaG,jaE u9,c0,c3,ht]
    exact ⟨_,rfl,_,rfl⟩
theorem jh9 (s:List UInt8)(hl:s.length≤2 ^ 30):∃ v,(∃ e,v=.int .i64 e)∧∀ σ,jas env (ev env) 99 [.str s] σ=some (v,σ):=by
 obtain ⟨_,⟨b,rfl⟩,hf⟩:=jnh s hl
 refine jbK rfl rfl rfl at99 rfl (by simp [Tryz.f99]) (by simp [Tryz.f99]) _ (jar ?_)
 cases b
 ·simp only [Tryz.f99,Ka,simprocAttr,Ys,Y0,Ke,Vq,jaq,hf]
  exact ⟨_,rfl,_,rfl⟩
 ·by_cases h:(4000:Int)<(s.length:Int)
  ·have c:=eq_true h
   simp only [Tryz.f99,Ka,simprocAttr,Ys,Y0,Ke,Vq,jaq,hf,jaK,c]
   exact ⟨_,rfl,_,rfl⟩
  ·have c:=eq_false h
   simp only [Tryz.f99,Ka,simprocAttr,Ys,Y0,Ke,Vq,jaq,hf,jaK,c]
   exact ⟨_,rfl,_,rfl⟩
theorem jsQ (s:List UInt8)(hs:s ≠ [])(h45:s.getD 0 0 ≠ 45)(σ:S):jas env (ev env) 194 [.str s,.str [45]] σ=some (.bool false,σ):=by
 refine jav rfl rfl rfl jzv rfl (by simp [Tryz.f194]) (by simp [Tryz.f194]) (jar ?_) σ
 have hp:1≤s.length:=by cases s with | nil=>exact absurd rfl hs | cons a r=>simp
 have c0:((1:Int)≤(s.length:Int))=True:=eq_true (by omega)
 have sl:jbT env 9 (.str s) none (some (.int .i64 1)) none=some (.str (s.take 1)):=jpX s 1 hp
 have c1:(s.take 1=[45])=False:=eq_false (by
  cases s with
  | nil=>exact absurd rfl hs
  | cons a r=>intro h; simp at h h45; exact h45 h)
 simp only [Tryz.f194,Ka,simprocAttr,Ys,Y0,Ke,Vq,jaq,jaK,c0,jba,jbb,jbf,sl,jac,c1]
 rfl
theorem juj (s:List UInt8)(hs:s ≠ [])(h45:s.getD 0 0 ≠ 45)(σ:S):jas env (ev env) 134 [.str s,.str [45]] σ=some (.tup [.str s,.bool false],σ):=by
 have h1:∀ σ,jas env (ev env) 167 [.str s,.str [45]] σ=some (.tup [.str s,.bool false],σ):=fun σ=>by
  refine jav rfl rfl rfl jzt rfl (by simp [Tryz.f167]) (by simp [Tryz.f167]) (jar ?_) σ
  simp only [Tryz.f167,Ka,simprocAttr,Ys,Y0,Ke,Vq,jaq,jsQ s hs h45]
  rfl
 refine jav rfl rfl rfl jzr rfl (by simp [Tryz.f134]) (by simp [Tryz.f134]) (jar ?_) σ
 simp only [Tryz.f134,Ka,simprocAttr,Ys,Y0,Ke,Vq,jaq,h1]
 rfl
theorem jni (s:List UInt8)(hs:s ≠ [])(h45:s.getD 0 0 ≠ 45)(hl:s.length≤2 ^ 30):∃ v,(∃ b,v=.tup [.bool false,.str s,.bool b])∧∀ σ,jas env (ev env) 98 [.str s] σ=some (v,σ):=by
 obtain ⟨_,⟨b,rfl⟩,hf⟩:=jnh s hl
 have hc:=juj s hs h45
 refine jbK rfl rfl rfl at98 rfl (by simp [Tryz.f98]) (by simp [Tryz.f98]) _ (jar ?_)
 cases b
 ·simp only [Tryz.f98,Ka,simprocAttr,Ys,Y0,Ke,Vq,jaq,hf,hc]
  exact ⟨_,rfl,_,rfl⟩
 ·simp only [Tryz.f98,Ka,simprocAttr,Ys,Y0,Ke,Vq,jaq,hf,hc]
  exact ⟨_,rfl,_,rfl⟩
open Go.Proofs.YtpclebdkhpapjaaGreatDoor.T (IsDg decV jpK)
theorem jzA:env.P.funcs[101]? = some Tryz.f101:=by kernel_rfl
def jdX:Nat→List UInt8→List Nat→List Nat
 | 0,_,acc=>acc
 | f+1,s,acc=>if s=[] then acc else jdX f (s.take (s.length - 9)) (acc++[decV 0 (s.drop (s.length - 9))])
theorem jla:∀ (f:Nat) (s:List UInt8) (acc:List Nat),(jdX f s acc).length≤acc.length+s.length
 | 0,s,acc=>by unfold jdX; omega
 | f+1,s,acc=>by
  unfold jdX
  by_cases h:s=[]
  ·rw [Km h]; omega
  ·rw [Kn h]
   have h1:0<s.length:=by cases s with | nil=>exact absurd rfl h | cons a r=>simp
   have:=jla f (s.take (s.length - 9)) (acc++[decV 0 (s.drop (s.length - 9))])
   rw [Ku,Xk,K7] at this
   omega
theorem jxO:Elt env 124 159 1 8:=⟨e124,s159,b159,by kernel_rfl,u124⟩
theorem jqH {base w n:Nat}{ts:List Nat}{v:V}{cs:List V}(g:GrowV base ts w v n cs):(v=.nilsl∧n=0)∨∃ q,v=.row cs n q:=by
 cases g with
 | nil=>exact .inl ⟨rfl,rfl⟩
 | full _ _ hl=>exact .inr ⟨_,rfl⟩
 | tok _ _ k e hl hb ht=>exact .inr ⟨_,rfl⟩
theorem jwf {base n:Nat}{ts:List Nat}{v:V}{l:List Nat}(g:GrowV base ts 1 v n (lc l))(H:List AObj):Sl H v l:=by
 have hn:=g.lens
 rw [jpU,Qo] at hn
 subst hn
 rcases jqH g with ⟨rfl,h⟩ | ⟨q,rfl⟩
 ·exact .inl ⟨rfl,Qh h⟩
 ·exact .inr (.inl ⟨[],q,by rw [Qx]⟩)
theorem jxP (a b:List Nat):lc (a++b)=lc a++lc b:=by simp [lc]
theorem jvf (s:List UInt8)(hd:∀ i,i<s.length→IsDg (s.getD i 0))(hl:s.length≤18):decV 0 s<1000000000000000000:=by
 have:=T.dec_small s hd hl s.length (Ky _)
 rwa [Ju] at this
theorem jxQ (w:List UInt8)(i k:Nat)(h:k≤w.length)(hi:i≤k):jbT env 9 (.str w) (some (.int .i64 (i:Int))) (some (.int .i64 (k:Int))) none=some (.str ((w.take k).drop i)):=by
 have h1:((i:Nat):Int)≤(k:Int):=by omega
 simp [jbT,u9,jcG,jbi,h,hi,List.drop_take]
theorem jqI (s:List UInt8)(hd:∀ i,i<s.length→IsDg (s.getD i 0))(hl:s.length≤2 ^ 30):∃ v,(∃ r,IsL v r∧jpV (jdX s.length s []) r)∧∀ σ,jas env (ev env) 101 [.str s] σ=some (v,σ):=by
 refine jbK rfl rfl rfl jzA rfl (by simp [Tryz.f101]) (by simp [Tryz.f101]) _ (jar ?_)
 simp only [Tryz.f101,Ka,simprocAttr,Ys,Y0,Ke,Vq,jaq,jaK]
 generalize hfin:jdX s.length s []=fin
 have hfl:fin.length≤2 ^ 30:=by
  have:=jla s.length s []
  rw [hfin] at this
  simp only [K5] at this; omega
 refine jbu (fun m T D σ=>D=[]∧T 0=.str s∧∃ (e:Nat) (x:Int) (acc:List Nat) (fuel:Nat),m=e∧T 4=.int .i64 x∧x≤e∧(x<e→x≤0∧e=0) ∧ -9≤x∧e≤s.length∧acc.length≤s.length - e∧e≤fuel∧jdX fuel (s.take e) acc=fin∧σ.heap=[]∧GrowV 0 σ.toks 1 (T 3) acc.length (lc acc)) ?_ s.length _ _ _
  ⟨rfl,rfl,s.length,s.length,[],s.length,rfl,rfl,Int.le_refl _,fun h=>absurd h (by omega),by omega,Ky _,by simp,Ky _,by rw [Ju]; exact hfin,rfl,.nil⟩
 rintro m T D ⟨H,ts⟩ ⟨rfl,t0,e,x,acc,fuel,hm,t4,hx1,hx2,hx3,he,hal,hef,hf,hH,hg⟩
 subst m
 simp only at hH hg
 subst hH
 refine jar ?_
 generalize ht3:T 3=w at hg
 by_cases h0:0<e
 ·have hxe:x=e:=by omega
  subst hxe
  have c0:((0:Int)<(e:Int))=True:=eq_true (by omega)
  have e1:IntKind.i64.wrap ((e:Int) - 9)=(e:Int) - 9:=wrap_i64 (by omega) (by omega)
  have hmax:(if (e:Int) - 9 > 0 then (e:Int) - 9 else 0)=((e - 9:Nat):Int):=by split <;> omega
  have hsl:=jxQ s (e - 9) e he (by omega)
  generalize hc:(s.take e).drop (e - 9)=ch at hsl
  have hlen:ch.length=e - (e - 9):=by rw [← hc,Qm,K7]; omega
  have hdc:∀ i,i<ch.length→IsDg (ch.getD i 0):=by
   intro i hi
   have:ch.getD i 0=s.getD (e - 9+i) 0:=by
    rw [← hc]
    simp only [List.getD,Jj,Q4]
    rw [Km (by omega)]
   rw [this]; exact hd _ (by omega)
  have hdl:=jvf ch hdc (by omega)
  have hu:=jpK ch hdc (by intro h; rw [h] at hlen; simp at hlen; omega) (by omega) (by omega)
  have hcall:=fun σ=>jsH hu (ev env) σ
  obtain ⟨f,rfl⟩:∃ f,fuel=f+1:=⟨fuel - 1,by omega⟩
  have hlt:(s.take e).length=e:=by rw [K7]; omega
  have hne:¬ s.take e=[]:=by intro h; rw [h] at hlt; simp at hlt; omega
  rw [show jdX (f+1) (s.take e) acc=if s.take e=[] then acc else jdX f ((s.take e).take ((s.take e).length - 9)) (acc++[decV 0 ((s.take e).drop ((s.take e).length - 9))]) from rfl,Kn hne,hlt,hc,Vj,Js (by omega)] at hf
  have hlim:(lim:Nat)=2 ^ 40:=rfl
  obtain ⟨v',ts',a1,a2,a3⟩:=GrowV.push (E:=env) (hp:=[]) (q:=.full) (new:=[.int .u64 (decV 0 ch)]) (t2:=124) jxO ⟨159,u124⟩ hg (Ql _) rfl rfl ⟨by rw [hlim]; omega,by rw [hlim]; omega⟩
  simp only [Ka,simprocAttr,Ys,Y0,Ke,Vq,t0,t4,ht3,c0,e1,hmax,jba,jbb,jbf,hsl,hcall,jag,jvd,a1]
  refine ⟨e - 9,by omega,e - 9,(e:Int) - 9,acc++[decV 0 ch],f,rfl,rfl,by omega,fun h=>by omega,by omega,by omega,?_,by omega,hf,?_⟩
  ·rw [Ku,Xk]; omega
  ·rw [Ku,Xk,jxP]; exact a2
 ·have he0:e=0:=by omega
  subst he0
  have c0:((0:Int)<x)=False:=eq_false (by omega)
  have hfa:acc=fin:=by
   rw [Jk] at hf
   cases fuel with
   | zero=>exact hf
   | succ f=>exact hf
  subst hfa
  obtain ⟨v',r,t1,t2,t5⟩:=jng (ts:=ts) (jwf hg []) (by omega)
  obtain ⟨u,s1,s2⟩:=jsJ t2 (fun b cs t h=>h) 10
  simp only [Ka,simprocAttr,Ys,Y0,Ke,Vq,t0,t4,ht3,c0,t1]
  exact ⟨u,s1,r,s2,t5⟩
open Go.Proofs.YtpclebdkhpapjaaGreatDoor.T (asgR bodR rngC jem Bld jtM Stay jhx jjN z110)
theorem jzB:env.P.funcs[143]? = some Tryz.f143:=by kernel_rfl
theorem jzC:env.P.funcs[144]? = some Tryz.f144:=by kernel_rfl
theorem jzD:env.P.funcs[102]? = some Tryz.f102:=by kernel_rfl
theorem jfn (n:Nat)(hn:n<1000000000):∃ s,(∀ σ,jas env (ev env) 177 [.int .u64 n,.int .i64 10] σ=some (.str s,σ))∧s.length≤9:=by
 obtain ⟨s,h1,h2,h3,h4,h5,h6⟩:=I.sfuint_call n (by omega)
 refine ⟨s,fun σ=>jub h1 (ev env) σ,?_⟩
 by_cases h:s.length≤9
 ·exact h
 ·have:=h6 (by omega)
  have h7:=J9 (n:=10) (by decide) (show 9≤s.length - 1 by omega)
  omega
theorem jdD {v:V}{l:List Nat}(hv:IsL v l)(hB:∀ x∈l,x<1000000000)(hl:l.length≤2 ^ 30):∃ u,(∃ n,u=.int .i64 n)∧∀ σ,jas env (ev env) 143 [v] σ=some (u,σ):=by
 have hlen:=jkg hv
 refine jbK rfl rfl (by simp [jct hv]) jzB rfl (by simp [Tryz.f143]) (by simp [Tryz.f143]) _ (jar ?_)
 by_cases h:(l.length:Int)=0
 ·have c1:=eq_true h
  simp only [Tryz.f143,Ka,simprocAttr,Ys,Y0,Ke,Vq,jaq,hlen,c1]
  exact ⟨_,rfl,_,rfl⟩
 ·have c1:=eq_false h
  have e1:IntKind.i64.wrap ((l.length:Int) - 1)=((l.length - 1:Nat):Int):=by rw [wrap_i64 (by omega) (by omega)]; omega
  obtain ⟨p,p1,p2⟩:=hv.at (l.length - 1) (by omega)
  have hx:l.getD (l.length - 1) 0<1000000000:=by
   have:l.getD (l.length - 1) 0=l[l.length - 1]'(by omega):=by simp [List.getD,show l.length - 1<l.length by omega]
   rw [this]; exact hB _ (J5 _)
  obtain ⟨s,hs,_⟩:=jfn _ hx
  simp only [Tryz.f143,Ka,simprocAttr,Ys,Y0,Ke,Vq,jaq,hlen,c1,e1,p1,p2,jgS,hs,jaK]
  exact ⟨_,rfl,_,rfl⟩
theorem IsL.cut {v:V}{l:List Nat}(h:IsL v l)(k:Nat)(hk:k≤l.length):∃ v',jbT env 124 v none (some (.int .i64 k)) none=some v'∧IsL v' (l.take k):=by
 have hlt:(l.take k).length=k:=by rw [K7]; omega
 rcases h with ⟨rfl,rfl⟩ | ⟨z,rfl⟩
 ·have:k=0:=by simpa using hk
  subst this
  exact ⟨.nilsl,by simp [jbT,u124,s159,jcG,jbi],.inl ⟨rfl,rfl⟩⟩
 ·have e:lc (l.take k)=(lc (l++z)).take k:=by
   simp only [lc,← List.map_take]
   rw [Vg hk]
  have h5:((k:Nat):Int)≤(l.length:Int):=by omega
  refine ⟨.row (lc (l.take k++[])) (l.take k).length .unk,?_,.inr ⟨[],rfl⟩⟩
  rw [hlt,Qx,e]
  simp [jbT,u124,s159,jcG,jbi,h5,hk,jgW]
def jiy:List UInt8:=[48,48,48,48,48,48,48,48,48]
theorem juk (T:Tm):jaL env T (.const (.string ⟨(48::48::48::48::48::48::48::48::48::[]).toArray⟩))=some (.str jiy):=rfl
structure P144 (u:V) (n b:Nat) (lo:AObj) (i:Nat) (σ:S):Prop where
 bld:∃ s,Bld σ 0 s∧s.length+20 * i≤20 * n
 box:σ.heap[b]? = some (.cells [u] 124)
 dfd:σ.heap[b+1]? = some (.defd true)
 lop:σ.heap[b+2]? = some lo
theorem jul (u:V):Stay (.cells [u] 124):=by
 constructor <;> intro c h <;> injection h with _ h2 <;> exact absurd h2 (by decide)
theorem jpZ (x:Bool):Stay (.defd x):=⟨fun _ h=>(by cases h),fun _ h=>(by cases h)⟩
theorem jjW (st:LoopState)(pe:Option Code)(fn:FuncId)(ts:List V)(ps:Array Tmp)(a b:Code)(d:Nat):Stay (.loop st pe fn ts ps a b d):=⟨fun _ h=>(by cases h),fun _ h=>(by cases h)⟩
theorem joF {L:List AObj}{ts:List Nat}{p:Nat}{s:List UInt8}(h:Bld ⟨L,ts⟩ p s){q:Nat}{o:AObj}(ho:Stay o)(hq:L[q]? = some o)(o':AObj):Bld ⟨L.set q o',ts⟩ p s:=by
 obtain ⟨a,v,hp,ha,hb⟩:=h
 simp only at hp hb
 have h1:q ≠ p:=by rintro rfl; rw [hp] at hq; cases hq; exact ho.1 _ rfl
 refine ⟨a,v,by simp only; rw [Ki h1]; exact hp,ha,?_⟩
 rcases hb with h | ⟨b,h2,h3,h4⟩
 ·exact .inl h
 ·have h5:q ≠ b:=by rintro rfl; rw [h3] at hq; cases hq; exact ho.2 _ rfl
  exact .inr ⟨b,h2,by simp only; rw [Ki h5]; exact h3,h4⟩
theorem jwg {L:List AObj}{ts:List Nat}{p:Nat}{s:List UInt8}(h:Bld ⟨L,ts⟩ p s)(M:List AObj):Bld ⟨L++M,ts⟩ p s:=by
 obtain ⟨a,v,hp,ha,hb⟩:=h
 refine ⟨a,v,jbR hp M,ha,?_⟩
 rcases hb with h | ⟨b,h2,h3,h4⟩
 ·exact .inl h
 ·exact .inr ⟨b,h2,jbR h3 M,h4⟩
theorem jsR {u:V}{l:List Nat}{b:Nat}(hB:∀ x∈l,x<1000000000)(hl:l.length≤2 ^ 20){T:Tm}{tmps:List V}{lo:AObj}{n:Nat}(hn:n≤2 ^ 20)(hr:Rep 35 T tmps)
  (hlo:lo=.loop .ready none 144 tmps #[24,25] (asgR (jax Tryz.f144)) (bodR (jax Tryz.f144)) (b+1)) (t3:T 3=.ptr 0 0) (i:Nat) (σ:S) (hi:i<l.length) (hP:P144 u n b lo (i+1) σ) :
  ∃ σ',jdf env (ev env) (.yld (b+2)) [.int .i64 i,.int .u64 (l.getD i 0)] σ=some (.bool true,σ')∧P144 u n b lo i σ':=by
 obtain ⟨L,ts⟩:=σ
 obtain ⟨⟨s,hb,hs⟩,p1,p2,p3⟩:=hP
 simp only at p1 p2 p3
 refine jgf hlo p3 hr rfl (by simp) ?_
 intro lb hlb
 have hx:l.getD i 0<1000000000:=by
  have:l.getD i 0=l[i]:=by simp [List.getD,hi]
  rw [this]; exact hB _ (J5 _)
 obtain ⟨w,hf,hw⟩:=jfn _ hx
 have slo:Stay lo:=by rw [hlo]; exact jjW ..
 have slb:Stay lb:=by rw [hlb]; exact jjW ..
 clear hlb hlo hr
 have hlt:=jaT p3
 have hb1:=joF hb slo p3 lb
 obtain ⟨L1,c1,b1,k1⟩:=jhx (L.set (b+2) lb) ts 0 s (jiy.drop w.length) hb1 (by simp [jiy]; omega)
 obtain ⟨L2,c2,b2,k2⟩:=jhx L1 ts 0 _ w b1 (by simp [jiy]; omega)
 have hk:∀ (q:Nat) (o:AObj),Stay o→(L.set (b+2) lb)[q]? = some o→L2[q]? = some o:=fun q o ho hq=>k2 q o ho (k1 q o ho hq)
 have q0:L2[b+2]? = some lb:=hk _ _ slb (Kj hlt)
 have q1:L2[b]? = some (.cells [u] 124):=hk _ _ (jul u) (by rw [Ki (by omega)]; exact p1)
 have q2:L2[b+1]? = some (.defd true):=hk _ _ (jpZ true) (by rw [Ki (by omega)]; exact p2)
 have hlt2:=jaT q0
 have sl:=jpY jiy w.length (by simp [jiy]; exact hw)
 have d1:=fun σ=>joB (ev env) [.ptr 0 0,.str (jiy.drop w.length)] σ
 have d2:=fun σ=>joB (ev env) [.ptr 0 0,.str w] σ
 refine jar ?_
 simp only [asgR,bodR,rngC,jax,Tryz.f144,Kv,Option.or]
 simp only [Ka,simprocAttr,Ys,Y0,Ke,Vq,Va,jab,↓juk,Xh,Xw,t3,p3,hf,jaK,jba,jbb,jbf,sl,d1,d2,c1,c2]
 refine ⟨q0,⟨_,joF b2 slb q0 lo,?_⟩,?_,?_,?_⟩
 ·simp [jiy]; omega
 ·simp only; rw [Ki (by omega)]; exact q1
 ·simp only; rw [Ki (by omega)]; exact q2
 ·simp only; rw [Kj hlt2]
theorem jiz {v:V}{l:List Nat}(hv:IsL v l)(hB:∀ x∈l,x<1000000000)(hl:l.length≤2 ^ 20):∃ u,(∃ s,u=.str s∧s.length≤2 ^ 25)∧∀ σ,jas env (ev env) 144 [v] σ=some (u,σ):=by
 have hlen:=jkg hv
 refine jbK rfl rfl (by simp [jct hv]) jzC rfl (by simp [Tryz.f144]) (by simp [Tryz.f144]) _ (jar ?_)
 by_cases h:(l.length:Int)=0
 ·have c1:=eq_true h
  simp only [Tryz.f144,Ka,simprocAttr,Ys,Y0,Ke,Vq,jaq,hlen,c1]
  exact ⟨_,rfl,_,rfl,by simp⟩
 ·have c1:=eq_false h
  have e1:IntKind.i64.wrap ((l.length:Int) - 1)=((l.length - 1:Nat):Int):=by rw [wrap_i64 (by omega) (by omega)]; omega
  obtain ⟨p,p1,p2⟩:=hv.at (l.length - 1) (by omega)
  have hx:l.getD (l.length - 1) 0<1000000000:=by
   have:l.getD (l.length - 1) 0=l[l.length - 1]'(by omega):=by simp [List.getD,show l.length - 1<l.length by omega]
   rw [this]; exact hB _ (J5 _)
  obtain ⟨s,hs,hs9⟩:=jfn _ hx
  obtain ⟨u,su,hu⟩:=hv.cut (l.length - 1) (by omega)
  have zb:jbE env 90=some (.agg [.nilptr,.nilsl]):=by kernel_rfl
  have hb0:Bld ⟨[.cells [.nilptr,.nilsl] 90],[]⟩ 0 []:=⟨.nilptr,.nilsl,rfl,.inl ⟨rfl,rfl⟩,.inl ⟨rfl,rfl⟩⟩
  obtain ⟨L1,w1,b1,k1⟩:=jhx _ _ 0 [] s hb0 (by simp; omega)
  have d1:=fun σ=>joB (ev env) [.ptr 0 0,.str s] σ
  have hcu:=jdW hu
  simp only [Tryz.f144,Ka,simprocAttr,Ys,Y0,Ke,Vq,Va,jab,jaq,hlen,c1,e1,p1,p2,jgS,hs,zb,d1,w1,jba,jbb,jbf,su,joD u hcu.1]
  have hB2:∀ x∈l.take (l.length - 1),x<1000000000:=fun x hx=>hB x (Vp hx)
  have hlt2:(l.take (l.length - 1)).length=l.length - 1:=by rw [K7]; omega
  have hg0:L1.length ≠ 0:=by
   obtain ⟨_,_,hp,_⟩:=b1
   have:=jaT hp
   simp only at this; omega
  refine jrC rfl ?_
  simp only [Ku,Xk]
  intro tmps lo lx hr hlo hlx
  have slo:Stay lo:=by rw [hlo]; exact jjW ..
  have hP0:P144 u l.length L1.length lo (l.take (l.length - 1)).length ⟨L1++[AObj.cells [u] 124]++[AObj.defd true,lo],[]⟩:=by
   refine ⟨⟨s,?_,?_⟩,?_,?_,?_⟩
   ·rw [Xa]
    exact jwg b1 _
   ·rw [hlt2]; omega
   ·simp
   ·simp
   ·simp
  obtain ⟨w,σ2,hcall,hE⟩:=jjV (y:=.yld (L1.length+2)) (b:=L1.length) (P:=P144 u l.length L1.length lo) (R:=fun _=>False) (fun i σ h=>h.box) hu (by omega) (fun i σ hi hP=>by
   obtain ⟨σ',a,b⟩:=jsR hB2 (by omega) hl hr hlo rfl i σ hi hP
   exact ⟨true,σ',a,b⟩) _ hP0
  obtain ⟨⟨s2,q1,q2⟩,q3,q4,q5⟩:=hE.resolve_right (fun h=>h)
  obtain ⟨L2,ts2⟩:=σ2
  simp only at q3 q4 q5
  refine ⟨w,⟨L2,ts2⟩,jem rfl rfl hcall,q5,?_⟩
  have hb3:=joF q1 slo q5 lx
  obtain ⟨σ3,f1,f2⟩:=jjN _ ts2 0 s2 hb3 (by omega)
  have q6:=f2 (L1.length+1) _ (jpZ true) (by simp only; rw [Ki (by omega)]; exact q4)
  have d3:=fun σ=>jwb (ev env) [.ptr 0 0] σ
  simp only [Va,jab,simprocAttr,Ka,Ys,Y0,Ke,Vq,d3,f1,wpR,jbG,q6]
  exact ⟨_,rfl,_,rfl,by omega⟩
theorem at67:env.P.funcs[67]? = some Tryz.f67:=by kernel_rfl
theorem jzE:env.P.funcs[100]? = some Tryz.f100:=by kernel_rfl
theorem jzF:env.P.funcs[137]? = some Tryz.f137:=by kernel_rfl
theorem jum:ja4 env 126 0=some 0∧ja4 env 126 1=some 1∧ja4 env 126 2=some 2:=⟨by kernel_rfl,by kernel_rfl,by kernel_rfl⟩
theorem s126:sz env 126=some 3:=by kernel_rfl
theorem z126:jbE env 126=some (.agg [.bool false,.nilsl,.nilsl]):=by kernel_rfl
theorem jeD (s:List UInt8)(e:Int)(h:List AObj):jbm h jay (jaZ [.str s,.int .i64 e])=some (.tup [.str s,.int .i64 e]):=by
 simp only [jaZ,jay,ja6,jaz,jaF,jaW,jb8,Kk,Kw]
theorem jnj (us:Option TypeDesc)(cc:Bool)(a b:List UInt8)(h:a.length+b.length≤2 ^ 40):jbZ us cc .add (.str a) (.str b)=some (.str (a++b)):=by
 have hlim:lim=2 ^ 40:=rfl
 unfold jbZ
 simp only [vBin,jkm]
 rw [hlim,Km h]
def KN (w:V):Prop:=∃ s e,w=.tup [.str s,.int .i64 e]
theorem jun {u v:V}{a b:List Nat}(hu:IsL u a)(hv:IsL v b)(ha:∀ x∈a,x<1000000000)(hb:∀ x∈b,x<1000000000)(la:a.length≤2 ^ 20)(lb:b.length≤2 ^ 20) :
  ∃ w,KN w∧∀ σ,jas env (ev env) 102 [.agg [.bool false,u,v]] σ=some (w,σ):=by
 obtain ⟨_,⟨n1,rfl⟩,d1⟩:=jdD hu ha (by omega)
 obtain ⟨_,⟨n2,rfl⟩,d2⟩:=jdD hv hb (by omega)
 obtain ⟨_,⟨s1,rfl,l1⟩,t1⟩:=jiz hu ha la
 obtain ⟨_,⟨s2,rfl,l2⟩,t2⟩:=jiz hv hb lb
 have o2:=jlO hv
 have cu:=jdW hu
 have cv:=jdW hv
 have a1:=fun us cc=>jnj us cc [47] s2 (by simp; omega)
 have a2:=fun us cc=>jnj us cc s1 (47::s2) (by simp; omega)
 refine jbK rfl rfl (by simp [V.closed,V.closed.closedL,jct hu,jct hv]) jzD rfl (by simp [Tryz.f102]) (by simp [Tryz.f102]) _ (jar ?_)
 by_cases h1:(4000:Int)<n1
 ·have c1:=eq_true h1
  simp only [Tryz.f102,Ka,simprocAttr,Ys,Y0,Ke,Vq,Va,jab,jaq,jum,jgT,d1,c1]
  exact ⟨_,jeD _ _ _,_,_,rfl⟩
 ·have c1:=eq_false h1
  by_cases h2:(4000:Int)<n2
  ·have c2:=eq_true h2
   simp only [Tryz.f102,Ka,simprocAttr,Ys,Y0,Ke,Vq,Va,jab,jaq,jum,jgT,d1,d2,c1,c2]
   exact ⟨_,jeD _ _ _,_,_,rfl⟩
  ·have c2:=eq_false h2
   cases hO:decide (b=[1])
   ·rw [hO] at o2
    simp only [Tryz.f102,Ka,simprocAttr,Ys,Y0,Ke,Vq,Va,jab,jaq,jum,jgT,al4,d1,d2,c1,c2,t1,t2,o2,a1,a2]
    exact ⟨_,jeD _ _ _,_,_,rfl⟩
   ·rw [hO] at o2
    simp only [Tryz.f102,Ka,simprocAttr,Ys,Y0,Ke,Vq,Va,jab,jaq,jum,jgT,al4,d1,d2,c1,c2,t1,t2,o2,a1,a2]
    exact ⟨_,jeD _ _ _,_,_,rfl⟩
def KM (w:V):Prop:=∃ u v a b,w=.agg [.bool false,u,v]∧IsL u a∧IsL v b∧(∀ x∈a,x<1000000000)∧(∀ x∈b,x<1000000000)∧a.length≤2∧b.length≤2
theorem jsS {u v:V}{a b:List Nat}(m:Bool)(hu:IsL u a)(hv:IsL v b)(h:List AObj):jbm h jay (jaZ [.agg [.bool m,u,v]])=some (.agg [.bool m,u,v]):=by
 simp only [jaZ,jay,jcv,jaz,jaF,jbl,jk9 hu,jk9 hv,Kk,Kw]
theorem jzG {L:List AObj}{p:Nat}{a b c:V}(h:L[p]? = some (.cells [a,b,c] 126)):jbj env L 126 (.ptr p 0)=some (.agg [a,b,c]):=by
 have g:Go.Ab.aggT env 126=some true:=by kernel_rfl
 have l:jai L 3 (.ptr p 0)=some [a,b,c]:=by simp [jai,h]
 unfold jbj
 simp only [g,s126,l,Kk,Kw]
theorem jzH {u:V}{a:List Nat}(h:IsL u a):jb9 env 126 [(2,u)]=some (.agg [.bool false,.nilsl,u]):=by
 rcases h with ⟨rfl,_⟩ | ⟨z,rfl⟩ <;> kernel_rfl
theorem bd3 (m:Bool){u v:V}{a b:List Nat}(hu:IsL u a)(hv:IsL v b):jb9 env 126 [(0,.bool m),(1,u),(2,v)]=some (.agg [.bool m,u,v]):=by
 rcases hu with ⟨rfl,_⟩ | ⟨z,rfl⟩ <;> rcases hv with ⟨rfl,_⟩ | ⟨z',rfl⟩ <;> kernel_rfl
theorem jeo (b:Bool):(V.bool b).isCell=true:=rfl
theorem jdR:V.nilsl.isCell=true:=rfl
theorem jnk {K:V→Prop}{u v:V}{a b:List Nat}(hu:IsL u a)(hv:IsL v b)(h:K (.agg [.bool false,u,v])):V1 ((jbj env [AObj.cells [.bool false,u,v] 126] 126 (.ptr 0 0)).bind fun v=>some [v]) fun vs=>∃ w,jbm [AObj.cells [.bool false,u,v] 126] jay (jaZ vs)=some w∧K w:=by
 rw [jzG rfl]
 exact ⟨_,rfl,_,jsS false hu hv _,h⟩
theorem jqJ:∃ w,(∃ v,w=.agg [.bool false,.nilsl,v]∧IsL v [1])∧∀ σ,jas env (ev env) 137 [] σ=some (w,σ):=by
 obtain ⟨v,h1,h2⟩:=jsL 1 (by omega)
 have h2':∀ σ,jas env (ev env) 169 [.int .u64 1] σ=some (v,σ):=h2
 have hv:IsL v [1]:=h1
 have cv:=jdW hv
 refine jbK rfl rfl rfl jzF rfl (by simp [Tryz.f137]) (by simp [Tryz.f137]) _ (jar ?_)
 simp only [Tryz.f137,Ka,simprocAttr,Ys,Y0,Ke,Vq,Va,jab,jaq,z126,s126,h2',jzH hv,cv.2,jdR,jeo]
 exact jnk (a:=[]) (.inl ⟨rfl,rfl⟩) hv ⟨_,rfl,hv⟩
theorem jsT {u v:V}{x y:Nat}(hu:IsL u (numL x))(hv:IsL v (numL y))(hx:x≤1000000000)(hy:y≤1000000000)(h1:1≤y)(hxy:¬ (x=1000000000∧y=1000000000)) :
  ∃ w,KM w∧∀ σ,jas env (ev env) 100 [.bool false,u,v] σ=some (w,σ):=by
 obtain ⟨vx,lx,bx⟩:=jlP hx
 obtain ⟨vy,ly,by'⟩:=jlP hy
 have cu:=jdW hu
 have cv:=jdW hv
 have z:=jsK hu
 have o:=jlO hv
 refine jbK rfl rfl (by simp [V.closed,jct hu,jct hv]) jzE rfl (by simp [Tryz.f100]) (by simp [Tryz.f100]) _ (jar ?_)
 by_cases hz:((numL x).length:Int)=0
 ·have c1:decide (((numL x).length:Int)=0)=true:=by simpa using hz
  rw [c1] at z
  obtain ⟨_,⟨w,rfl,hw⟩,hf⟩:=jqJ
  have cw:=jdW hw
  simp only [Tryz.f100,Ka,simprocAttr,Ys,Y0,Ke,Vq,Va,jab,jaq,z126,s126,z,hf,cw.2,jdR,jeo]
  exact jnk (a:=[]) (.inl ⟨rfl,rfl⟩) hw ⟨_,_,[],[1],rfl,.inl ⟨rfl,rfl⟩,hw,by simp,by simp,by simp,by simp⟩
 ·have c1:decide (((numL x).length:Int)=0)=false:=by simpa using hz
  rw [c1] at z
  by_cases ho:numL y=[1]
  ·have c2:decide (numL y=[1])=true:=by simpa using ho
   rw [c2] at o
   simp only [Tryz.f100,Ka,simprocAttr,Ys,Y0,Ke,Vq,Va,jab,jaq,z126,s126,z,o,bd3 false hu hv,cu.2,cv.2,jdR,jeo]
   exact jnk hu hv ⟨_,_,_,_,rfl,hu,hv,bx,by',lx,ly⟩
  ·have c2:decide (numL y=[1])=false:=by simpa using ho
   rw [c2] at o
   obtain ⟨g,hg,hgc⟩:=jug hu hv hx hy hxy
   have hg0:=Nat.gcd_pos_of_pos_right x h1
   have og:=jlO hg
   by_cases hg1:numL (Nat.gcd x y)=[1]
   ·have c3:decide (numL (Nat.gcd x y)=[1])=true:=by simpa using hg1
    rw [c3] at og
    simp only [Tryz.f100,Ka,simprocAttr,Ys,Y0,Ke,Vq,Va,jab,jaq,z126,s126,z,o,hgc,og,bd3 false hu hv,cu.2,cv.2,jdR,jeo]
    exact jnk hu hv ⟨_,_,_,_,rfl,hu,hv,bx,by',lx,ly⟩
   ·have c3:decide (numL (Nat.gcd x y)=[1])=false:=by simpa using hg1
    rw [c3] at og
    have hgy:Nat.gcd x y≤y:=Nat.gcd_le_right _ h1
    have hgx:Nat.gcd x y≤1000000000:=by omega
    have hx0:0<x:=by
     rcases Xg x with h | h
     ·subst h; simp [numL] at hz
     ·exact h
    have hgx2:Nat.gcd x y≤x:=Nat.gcd_le_left _ hx0
    obtain ⟨_,⟨q1,r1,ql1,rfl,k1,k2,k3,k4⟩,d1⟩:=jlQ hu hg hx hgx hg0 (by omega)
    obtain ⟨_,⟨q2,r2,ql2,rfl,m1,m2,m3,m4⟩,d2⟩:=jlQ hv hg hy hgx hg0 (by omega)
    have c4:=jdW k1
    have c5:=jdW m1
    simp only [Tryz.f100,Ka,simprocAttr,Ys,Y0,Ke,Vq,Va,jab,jaq,z126,s126,z,o,hgc,og,d1,d2,bd3 false k1 m1,c4.2,c5.2,jdR,jeo]
    exact jnk k1 m1 ⟨_,_,_,_,rfl,k1,m1,k3,m3,k2,m2⟩
open Go.Proofs.YtpclebdkhpapjaaGreatDoor.T (IsDg decV)
theorem jvg:∀ (l:List UInt8) (a:Nat),I.decV a l=decV a l
 | [],a=>rfl
 | c::l,a=>jvg l (a * 10+(c.toNat - 48))
theorem jwh (l:List UInt8):∀ a:Nat,decV a l=a * 10 ^ l.length+decV 0 l:=by
 induction l with
 | nil =>
  intro a
  have e1:decV a []=a:=rfl
  have e2:decV 0 []=0:=rfl
  rw [e1,e2,K5,Vl,Qo,Jl]
 | cons c l ih =>
  intro a
  have e1:decV a (c::l)=decV (a * 10+(c.toNat - 48)) l:=rfl
  have e2:decV 0 (c::l)=decV (0 * 10+(c.toNat - 48)) l:=rfl
  rw [e1,e2,ih (a * 10+(c.toNat - 48)),ih (0 * 10+(c.toNat - 48)),K1,Vy]
  generalize 10 ^ l.length=P
  generalize c.toNat - 48=x
  rw [Nat.zero_mul,K8,Ja,Nat.mul_assoc,Ug 10 P]
  omega
theorem jwi {n:Nat}{s:List UInt8}(h:I.DgsOf n s)(hn:n≤1000000000):s.length≤9∨(s.length=10∧n=1000000000):=by
 obtain ⟨h1,h2,h3,h4,h5⟩:=h
 by_cases h9:s.length≤9
 ·exact .inl h9
 ·have:=h5 (by omega)
  by_cases h10:s.length=10
  ·rw [h10] at this
   exact .inr ⟨h10,by omega⟩
  ·have h7:=J9 (n:=10) (by decide) (show 10≤s.length - 1 by omega)
   omega
theorem juo {n:Nat}{l r:List Nat}(h:(n<1000000000∧l=[n])∨(n=1000000000∧l=[0,1]))(ht:jpV l r):r=numL n:=by
 obtain ⟨k,k1,rfl,k3,k4⟩:=ht
 rcases h with ⟨hn,rfl⟩ | ⟨rfl,rfl⟩
 ·unfold numL
  by_cases h0:n=0
  ·rw [Km h0]; subst h0
   have:k=0:=by
    rcases k4 with h | h
    ·exact h
    ·simp only [Xk] at k1
     have:k=0∨k=1:=by omega
     rcases this with h1 | h1
     ·exact h1
     ·subst h1; exact absurd rfl h
   subst this; rfl
  ·rw [Kn h0,Km hn]
   have:k ≠ 0:=by
    rintro rfl
    exact h0 (k3 0 (Ky _) (by simp))
   simp only [Xk] at k1
   have:k=1:=by omega
   subst this; rfl
 ·have e:numL 1000000000=[0,1]:=by decide
  rw [e]
  have:k=2:=by
   simp only [K1,K5] at k1
   by_cases h:k≤1
   ·have:=k3 1 h (by simp)
    exact absurd this (by simp)
   ·omega
  subst this; rfl
theorem jnl {n:Nat}{s:List UInt8}(h:I.DgsOf n s)(hn:n≤1000000000):∃ v,IsL v (numL n)∧∀ σ,jas env (ev env) 101 [.str s] σ=some (v,σ):=by
 have h10:=jwi h hn
 obtain ⟨h1,h2,h3,h4,h5⟩:=h
 rw [jvg] at h4
 have hd:∀ i,i<s.length→IsDg (s.getD i 0):=h1
 have hp:0<s.length:=by cases s with | nil=>exact absurd rfl h2 | cons a r=>simp
 obtain ⟨v,⟨r,v1,v2⟩,hc⟩:=jqI s hd (by omega)
 refine ⟨v,?_,hc⟩
 rw [← juo ?_ v2]
 ·exact v1
 obtain ⟨f,hf⟩:∃ f,s.length=f+1:=⟨s.length - 1,by omega⟩
 rcases h10 with h | ⟨h,rfl⟩
 ·left
  have hlt:=jvf s hd (by omega)
  have hb:n<1000000000:=by
   have e:=T.dec_bound s hd s.length (Ky _)
   rw [Ju,h4] at e
   have:=J9 (n:=10) (by decide) h
   omega
  refine ⟨hb,?_⟩
  rw [hf]
  show (if s=[] then [] else jdX f (s.take (s.length - 9)) ([]++[decV 0 (s.drop (s.length - 9))]))=_
  rw [Kn h2,show s.length - 9=0 by omega,Jk,Jo,h4]
  cases f <;> rfl
 ·right
  refine ⟨rfl,?_⟩
  rw [h]
  show (if s=[] then [] else jdX 9 (s.take (s.length - 9)) ([]++[decV 0 (s.drop (s.length - 9))]))=_
  rw [Kn h2,h]
  show (if s.take 1=[] then _ else jdX 8 ((s.take 1).take ((s.take 1).length - 9)) (([]++[decV 0 (s.drop 1)])++[decV 0 ((s.take 1).drop ((s.take 1).length - 9))]))=_
  have hl1:(s.take 1).length=1:=by rw [K7]; omega
  have hl2:(s.drop 1).length=9:=by rw [Qm]; omega
  rw [Kn (by intro h; rw [h] at hl1; simp at hl1),hl1]
  simp only [Nat.reduceSub,Jk,Jo]
  have e:decV 0 s=decV 0 (s.take 1) * 10 ^ 9+decV 0 (s.drop 1):=by
   conv=>lhs; rw [← J4 1 s,T.decV_app,jwh,hl2]
  have hd2:∀ i,i<(s.drop 1).length→IsDg ((s.drop 1).getD i 0):=fun i hi=>by
   have:(s.drop 1).getD i 0=s.getD (1+i) 0:=by simp [List.getD,Jx]
   rw [this]; exact hd _ (by omega)
  have hb:=T.dec_bound (s.drop 1) hd2 _ (Ky _)
  rw [Ju,hl2] at hb
  rw [h4] at e
  have e1:decV 0 (s.take 1)=1:=by omega
  have e2:decV 0 (s.drop 1)=0:=by omega
  rw [e1,e2]; rfl
theorem ratmake_call {n d:Nat}{s t:List UInt8}(hs:I.DgsOf n s)(ht:I.DgsOf d t)(hn:n≤1000000000)(hd:d≤1000000000)(h1:1≤d)(hnd:¬ (n=1000000000∧d=1000000000)) :
  ∃ w,KN w∧∀ σ,jas env (ev env) 67 [.str s,.str t] σ=some (w,σ):=by
 obtain ⟨u,hu,pu⟩:=jnl hs hn
 obtain ⟨v,hv,pv⟩:=jnl ht hd
 obtain ⟨_,⟨fu,fv,a,b,rfl,q1,q2,q3,q4,q5,q6⟩,hm⟩:=jsT hu hv hn hd h1 hnd
 obtain ⟨_,⟨x,e,rfl⟩,hnum⟩:=jun q1 q2 q3 q4 (by omega) (by omega)
 obtain ⟨s1,s2,s3,s4,s5⟩:=hs
 obtain ⟨t1,t2,t3,t4,t5⟩:=ht
 have sp:0<s.length:=by cases s with | nil=>exact absurd rfl s2 | cons a r=>simp
 have h45:s.getD 0 0 ≠ 45:=fun h=>by
  have:=s1 0 sp
  rw [h] at this
  exact absurd this.1 (by decide)
 obtain ⟨_,⟨bi,rfl⟩,hi⟩:=jni s s2 h45 (by omega)
 obtain ⟨_,⟨ec,rfl⟩,hck⟩:=jh9 t (by omega)
 refine jbK rfl rfl rfl at67 rfl (by simp [Tryz.f67]) (by simp [Tryz.f67]) _ (jar ?_)
 have c1:((4000:Int)<(s.length:Int))=False:=eq_false (by omega)
 cases bi
 ·simp only [Tryz.f67,Ka,simprocAttr,Ys,Y0,Ke,Vq,jaq,hi]
  exact ⟨_,jeD _ _ _,_,_,rfl⟩
 ·by_cases he:ec=0
  ·have c2:=eq_true he
   by_cases h48:t=[48]
   ·have c3:=eq_true h48
    simp only [Tryz.f67,Ka,simprocAttr,Ys,Y0,Ke,Vq,jaq,hi,jaK,c1,hck,c2,jac,c3]
    exact ⟨_,jeD _ _ _,_,_,rfl⟩
   ·have c3:=eq_false h48
    simp only [Tryz.f67,Ka,simprocAttr,Ys,Y0,Ke,Vq,jaq,hi,jaK,c1,hck,c2,jac,c3,pu,pv,hm,hnum]
    exact ⟨_,jeD _ _ _,_,_,rfl⟩
  ·have c2:=eq_false he
   simp only [Tryz.f67,Ka,simprocAttr,Ys,Y0,Ke,Vq,jaq,hi,jaK,c1,hck,c2]
   exact ⟨_,jeD _ _ _,_,_,rfl⟩
end Go.Proofs.YtpclebdkhpapjaaGreatDoor.R
