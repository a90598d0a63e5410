/- Proved here: the settings. Conditions: those of each theorem; no statement of the seat is proved in this text. -/
import Derived.Test.YtajaampgajieeaaGreatDoorAbF
import Derived.Test.YtajaampgajieeaaGreatDoorRows
set_option linter.unusedSimpArgs false
namespace Go.Proofs.YtajaampgajieeaaGreatDoor
open Go.Ab
set_option linter.unusedVariables false
def asciiV (s:String):V:=.str (s.toList.map fun c=>UInt8.ofNat c.toNat)
def jo4:List V:=["above","and","batch","between","bits","by","consistent","count","else","factor","from","histogram","identity","if","join","keep","late","limit","mode","none","not","of","on","or","peak","prefix","quantile","running","sum","then","total","tree","using","where","with"].map asciiV
def jqZ:List V:=[1,10,100,1000,10000,100000,1000000,10000000,100000000,1000000000,10000000000,100000000000,1000000000000,10000000000000,100000000000000,1000000000000000,10000000000000000,100000000000000000,1000000000000000000,10000000000000000000].map fun n=>V.int .u64 n
def glV (g:Nat):Option V :=
 match g with
 | 0=>some (.rptr jo4)
 | 6=>some (.rptr jqZ)
 | _=>none
def memN (f:Nat):List Nat→Bool
 | []=>false
 | g::r=>match Nat.beq f g with
  | true=>true
  | false=>memN f r
def jl2:List Nat:=[257,262,285,46,106,224,28,105,175,102,143,263,286,171,96,97,122,284,183,208,316,317,341,270,298,238,296,297,325,133,75,177,154,155,225,226,217,166,134,264,241,234,179,227]
noncomputable def env:Env:={ P:=Tryz.prog,pure:=fun f=>memN f jl2,mutb:=fun f r=>f == 157 || f == 182 && r == 3,gl:=glV,hook:=fun _=>none,stab:=fun f r=>f == 28 && r == 6 }
set_option maxRecDepth 1000000
theorem jm2 {g:Nat}{v:V}(h:glV g=some v):(g=0∧v=.rptr jo4)∨(g=6∧v=.rptr jqZ):=by
 unfold glV at h
 split at h
 ·simp at h; exact .inl ⟨rfl,h.symm⟩
 ·simp at h; exact .inr ⟨rfl,h.symm⟩
 ·simp at h
theorem jm3 (g:Nat)(v:V)(h:glV g=some v):v.closed=true:=by
 rcases jm2 h with ⟨_,rfl⟩ | ⟨_,rfl⟩
 ·kernel_rfl
 ·kernel_rfl
theorem env_ok:env.Ok:={ mixed:=by kernel_rfl,glc:=jm3,hook:=fun f g h=>by simp [env] at h }
theorem env_gl {W:World}{l:List (String × DataW Unit)}(h:laidMetH Tryz.prog l W)(hp:(l.all fun x=>x.2.handleName?.isNone)=true)(m0:("privhouse/schema.reserved",Rows.laid_privhouse_schema_reserved)∈l)
  (m1:("internal/strconv.uint64pow10",Rows.laid_internal_strconv_uint64pow10)∈l):GOK env (Ctx.top W):=by
 intro g v hv
 rcases jm2 hv with ⟨rfl,rfl⟩ | ⟨rfl,rfl⟩
 ·exact ji2 (k:=5) h hp m0 (g:=0) (t:=274) (by kernel_rfl) (by kernel_rfl) (by kernel_rfl)
 ·exact ji2 (k:=5) h hp m1 (g:=6) (t:=346) (by kernel_rfl) (by kernel_rfl) (by kernel_rfl)
set_option maxRecDepth 100000
open Classical in
noncomputable def jeT (E:Env)(f:FuncId)(args:List V):Option V:=if h:∃ v,∀ σ,jah E (ev E) f args σ=some (v,σ) then some (Classical.choose h) else none
theorem jhr {E:Env}{f:FuncId}{args:List V}{v:V}(h:∀ σ,jah E (ev E) f args σ=some (v,σ)):jeT E f args=some v:=by
 unfold jeT
 have he:∃ v,∀ σ,jah E (ev E) f args σ=some (v,σ):=⟨v,h⟩
 rw [dif_pos he]
 have h1:=Classical.choose_spec he S.empty
 rw [h] at h1
 simp only [Kf,Km,and_true] at h1
 rw [← h1]
theorem jhs {E:Env}(hE:E.Ok){f:FuncId}{args:List V}{v:V}(hv:jeT E f args=some v){Γ:Ctx}{σ:S}{w:World}{xs:Array Value}(hw:WRel Γ σ w)(hg:GOK E Γ)(hx:LRel Γ args xs):∃ Γ' w' y,Moved Γ Γ' σ w w'∧VRel Γ' v y∧jkt E.P f xs w y w':=by
 unfold jeT at hv
 split at hv
 ·rename_i hh
  simp only [Kf] at hv
  subst hv
  exact je3 hE (fun t r h=>jmB hE h) (Classical.choose_spec hh σ) hw hg hx
 ·simp at hv
namespace F
def jl2:List Nat:=[169,170,228,229]
def hookF (f:FuncId):Option (List V→Option V):=match Nat.beq f 345 with | true=>some idxV | false=>none
noncomputable def env:Env:={ P:=Tryz.prog,pure:=fun f=>memN f jl2,mutb:=fun f _=>memN f [252,279,278,310,311,312],gl:=glV,hook:=hookF,rowB:=true }
theorem env_ok:env.Ok :=
  { mixed:=by kernel_rfl
    glc:=jm3
    hook:=fun f g h=>by
      simp only [env,hookF] at h
      split at h
      · rename_i hf
        have e:=Xs hf
        subst e
        simp only [Kf] at h
        subst h
        exact jru (E:=env) (fn:=Tryz.f345) Tryz.func345 (by kernel_rfl) (by kernel_rfl) (by kernel_rfl) rfl
      · simp at h }
end F
namespace K
def rowsL:List Nat:=[14]
def hookT:List V→Option V
 | []=>some (.bool true)
 | _=>none
def jtG:List Nat:=[96,97,75,166,133,105,106,175,102,143,177,134,46,28,179,122]
def hookN:List Nat:=[169,170,228,229]
def jl2:List Nat:=[17,19,21,22,24,25,26,27,29,30,100,101,103,104,107,108,98,99,114,167,168,176,178,180,181,191,20,162,218,161,160]
noncomputable def hookK (f:FuncId):Option (List V→Option V):=match memN f rowsL with | true=>some hookT | false=>match memN f jtG with | true=>some (jeT YtajaampgajieeaaGreatDoor.env f) | false=>match memN f hookN with | true=>some (jeT F.env f) | false=>none
noncomputable def env:Env:={ P:=Tryz.prog,pure:=fun f=>memN f jl2,mutb:=fun _ _=>false,gl:=glV,hook:=hookK,rowB:=true,stab:=fun f r=>f == 81 && r == 8 || f == 81 && r == 9 || f == 77 && r == 11 || f == 159 && r == 7 || f == 85 && r == 4 || f == 88 && r == 7 || f == 88 && r == 8 || f == 92 && r == 3 || f == 93 && r == 8 }
theorem jif {f:FuncId}{args:List V}{v:V}(hf:env.hook f=some (jeT YtajaampgajieeaaGreatDoor.env f))(h:∀ σ,jah YtajaampgajieeaaGreatDoor.env (ev YtajaampgajieeaaGreatDoor.env) f args σ=some (v,σ))(rec:Task→Option Res)(σ:S):jah env rec f args σ=some (v,σ):=by
 unfold jah
 rw [hf]
 simp only [jhr h,Qh]
theorem call_F {f:FuncId}{args:List V}{v:V}(hf:env.hook f=some (jeT F.env f))(h:∀ σ,jah F.env (ev F.env) f args σ=some (v,σ))(rec:Task→Option Res)(σ:S):jah env rec f args σ=some (v,σ):=by
 unfold jah
 rw [hf]
 simp only [jhr h,Qh]
end K
namespace N
def jtH:List Nat:=[75]
def jtI:List Nat:=[17,19,26]
def jl2:List Nat:=[20,162,218,161,160]
noncomputable def hookN (f:FuncId):Option (List V→Option V):=match memN f K.rowsL with | true=>some K.hookT | false=>match memN f jtH with | true=>some (jeT YtajaampgajieeaaGreatDoor.env f) | false=>match memN f jtI with | true=>some (jeT K.env f) | false=>none
noncomputable def env:Env:={ P:=Tryz.prog,pure:=fun f=>memN f jl2,mutb:=fun _ _=>false,gl:=glV,hook:=hookN,rowB:=true,stab:=fun f r=>f == 81 && r == 8 || f == 81 && r == 9 || f == 77 && r == 11 || f == 159 && r == 7 || f == 16 && r == 3 || f == 79 && r == 8 || f == 82 && r == 13 || f == 82 && r == 18 || f == 82 && r == 28 || f == 82 && r == 29 || f == 32 && r == 20 || f == 33 && r == 7 }
theorem jif {f:FuncId}{args:List V}{v:V}(hf:env.hook f=some (jeT YtajaampgajieeaaGreatDoor.env f))(h:∀ σ,jah YtajaampgajieeaaGreatDoor.env (ev YtajaampgajieeaaGreatDoor.env) f args σ=some (v,σ))(rec:Task→Option Res)(σ:S):jah env rec f args σ=some (v,σ):=by
 unfold jah
 rw [hf]
 simp only [jhr h,Qh]
theorem jq0 {f:FuncId}{args:List V}{v:V}(hf:env.hook f=some (jeT K.env f))(h:∀ σ,jah K.env (ev K.env) f args σ=some (v,σ))(rec:Task→Option Res)(σ:S):jah env rec f args σ=some (v,σ):=by
 unfold jah
 rw [hf]
 simp only [jhr h,Qh]
end N
end Go.Proofs.YtajaampgajieeaaGreatDoor
