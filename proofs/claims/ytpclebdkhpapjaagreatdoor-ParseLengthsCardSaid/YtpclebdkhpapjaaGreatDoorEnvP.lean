/- Proved here: the setting in which queries are parsed. Conditions: those of each theorem; no statement of the seat is proved in this text. -/
import Derived.Test.YtpclebdkhpapjaaGreatDoorTkB
import Derived.Test.YtpclebdkhpapjaaGreatDoorItA
set_option linter.unusedSimpArgs false
set_option linter.unusedVariables false
set_option linter.unusedSectionVars false
namespace Go.Proofs.YtpclebdkhpapjaaGreatDoor
open Go.Ab
set_option maxHeartbeats 8000000
set_option maxRecDepth 1000000
namespace T
def splitD (s:List UInt8):V :=
 if 2000<s.length then .tup [.nilsl,.agg [.int .i64 4,.int .i64 2000]] else
 match toksD s with
 | (l,none)=>.tup [toksV l,.agg [.int .i64 0,.int .i64 0]]
 | (_,some (x,i))=>.tup [.nilsl,.agg [.int .i64 x,.int .i64 i]]
theorem jqO (s:List UInt8):jn9 s=splitD s:=by
 unfold jn9 splitD
 rw [jrW]
 split
 ·rfl
 ·generalize toksD s=r
  obtain ⟨l,_ | ⟨x,i⟩⟩:=r <;> rfl
theorem splitD_call (s:List UInt8)(hl:s.length≤4000)(σ:S):jaC env (ev env) 19 [.str s] σ=some (splitD s,σ):=by rw [← jqO]; exact joM s hl σ
end T
namespace A
def jmQ:List Nat:=[13,15,10,12,20,34,35,36,37,38,39,40,67,65,42,87,122,124,123,126,158]
def mutL:List Nat:=[47,45,46,88,14,86,171,172,174,140,165,144]
def jsO:List V→Option V
 | [.str s]=>match Nat.ble s.length 4000 with | true=>some (T.splitD s) | false=>none
 | _=>none
def juS (f:FuncId):Option (List V→Option V):=match Nat.beq f 127 with | true=>some jnt | false=>match Nat.beq f 234 with | true=>some idxV | false=>match Nat.beq f 19 with | true=>some jsO | false=>none
noncomputable def env:Env:={ P:=Tryz.prog,pure:=fun f=>memN f jmQ,mutb:=fun f _=>memN f mutL,gl:=glV,hook:=juS,pan:=fun f=>memN f [27,61,25,10] }
theorem env_ok:env.Ok :=
  { mixed := by kernel_rfl
    glc:=jn3
    hook := fun f g h=>by
      simp only [env,juS] at h
      split at h
      · rename_i hf
        have e:=Jd hf
        subst e
        simp only [Kf] at h
        subst h
        exact jlf (E:=env) (fn:=Tryz.f127) Tryz.func127 (by kernel_rfl) (by kernel_rfl) (by kernel_rfl) rfl
      · split at h
        · rename_i hf
          have e:=Jd hf
          subst e
          simp only [Kf] at h
          subst h
          exact jtf (E:=env) (fn:=Tryz.f234) Tryz.func234 (by kernel_rfl) (by kernel_rfl) (by kernel_rfl) rfl
        · split at h
          · rename_i hf
            have e:=Jd hf
            subst e
            simp only [Kf] at h
            subst h
            intro args v hv Γ σ w xs hw hg hx
            unfold jsO at hv
            split at hv
            · rename_i s
              split at hv
              · rename_i hl
                simp only [Kf] at hv
                subst hv
                exact jeb T.env_ok (fun t r h=>jkh T.env_ok h) (T.splitD_call s (Qi hl) σ) hw hg hx
              · simp at hv
            · simp at hv
          · simp at h }
theorem awake_row:jpt env 13 [] (.bool true):=jou env_ok rfl (k:=80) (by kernel_rfl)
end A
set_option maxRecDepth 100000
open Classical in
noncomputable def jlU (E:Env)(f:FuncId)(args:List V):Option V:=if h:∃ v,∀ σ,jaC E (ev E) f args σ=some (v,σ) then some (Classical.choose h) else none
theorem jod {E:Env}{f:FuncId}{args:List V}{v:V}(h:∀ σ,jaC E (ev E) f args σ=some (v,σ)):jlU E f args=some v:=by
 unfold jlU
 have he:∃ v,∀ σ,jaC E (ev E) f args σ=some (v,σ):=⟨v,h⟩
 rw [dif_pos he]
 have h1:=V2 he S.empty
 rw [h] at h1
 simp only [Kf,Ki,and_true] at h1
 rw [← h1]
theorem joe {E:Env}(hE:E.Ok){f:FuncId}{args:List V}{v:V}(hv:jlU E f args=some v){Γ:Ctx}{σ:S}{w:World}{xs:Array Value}(hw:WRel Γ σ w)(hg:GOK E Γ)(hx:LRel Γ args xs):∃ Γ' w' y,Moved Γ Γ' σ w w'∧VRel Γ' v y∧jkY E.P f xs w y w':=by
 unfold jlU at hv
 split at hv
 ·rename_i hh
  simp only [Kf] at hv
  subst hv
  exact jeb hE (fun t r h=>jkh hE h) (V2 hh σ) hw hg hx
 ·simp at hv
def juT:List V→Option V
 | []=>some (.bool true)
 | _=>none
def jmQ:List Nat:=[10,11,9,12,16,17,18,20,21,34,35,40,41,67]
def jwh:List Nat:=[8,14,19]
noncomputable def juU (f:FuncId):Option (List V→Option V):=match memN f jwh with | true=>some (jlU T.env f) | false=>match Nat.beq f 65 with | true=>some (jlU I.env f) | false=>match Nat.beq f 13 with | true=>some juT | false=>none
noncomputable def env:Env:={ P:=Tryz.prog,pure:=fun f=>memN f jmQ,mutb:=fun f _=>false,gl:=glV,hook:=juU,stab:=fun f r=>(f == 10 && (r == 7 || r == 3)) || (f == 22 && r == 3) || (f == 23 && r == 3) || (f == 28 && r == 9) || (f == 57 && r == 5) || (f == 161 && (r == 2 || r == 4)) }
theorem env_ok:env.Ok :=
  { mixed:=by kernel_rfl
    glc:=jn3
    hook := fun f g h=>by
      simp only [env,juU] at h
      split at h
      · simp only [Kf] at h
        subst h
        intro args v hv Γ σ w xs hw hg hx
        exact joe T.env_ok hv hw hg hx
      · split at h
        · simp only [Kf] at h
          subst h
          intro args v hv Γ σ w xs hw hg hx
          exact joe I.env_ok hv hw hg hx
        split at h
        · rename_i hf
          have e:=Jd hf
          subst e
          simp only [Kf] at h
          subst h
          intro args v hv Γ σ w xs hw hg hx
          unfold juT at hv
          split at hv
          · simp only [Kf] at hv
            subst hv
            exact A.awake_row Γ σ w xs hw hg hx
          · simp at hv
        · simp at h }
theorem juV {args:List V}{v:V}(h:∀ σ,jaC I.env (ev I.env) 65 args σ=some (v,σ))(rec:Task→Option Res)(σ:S):jaC env rec 65 args σ=some (v,σ):=by
 have hf:env.hook 65=some (jlU I.env 65):=rfl
 unfold jaC
 rw [hf]
 simp only [jod h,Kz]
theorem call_T {f:FuncId}{args:List V}{v:V}(hf:env.hook f=some (jlU T.env f))(h:∀ σ,jaC T.env (ev T.env) f args σ=some (v,σ))(rec:Task→Option Res)(σ:S):jaC env rec f args σ=some (v,σ):=by
 unfold jaC
 rw [hf]
 simp only [jod h,Kz]
theorem jfL (σ:S):jaC env (ev env) 13 [] σ=some (.bool true,σ):=rfl
end Go.Proofs.YtpclebdkhpapjaaGreatDoor
