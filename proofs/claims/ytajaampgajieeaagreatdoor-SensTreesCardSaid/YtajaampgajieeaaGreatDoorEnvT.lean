/- Proved here: the settings. Conditions: each theorem's own. -/
import Derived.Test.YtajaampgajieeaaGreatDoorAbF
import Derived.Test.YtajaampgajieeaaGreatDoorRows
set_option linter.unusedSimpArgs false
set_option linter.unusedVariables false
set_option maxRecDepth 1000000
namespace Go.Proofs.YtajaampgajieeaaGreatDoor
open Go.Ab
def asciiV(s:String):V:=.str (s.toList.map λc=>UInt8.ofNat c.toNat)
def jrB:List V:=["above","and","batch","between","bits","by","consistent","count","else","factor","from","histogram","identity","if","join","keep","late","limit","mode","none","not","of","on","or","peak","prefix","quantile","running","sum","then","total","tree","using","where","with"].map asciiV
def juW:List V:=[1,10,100,1000,10000,100000,1000000,10000000,100000000,1000000000,10000000000,100000000000,1000000000000,10000000000000,100000000000000,1000000000000000,10000000000000000,100000000000000000,1000000000000000000,10000000000000000000].map λn=>V.int .u64 n
def glV(g:Nat):Option V :=
 match g with
 |0=>some (.rptr jrB)
 |6=>some (.rptr juW)
 |_=>none
def memN(f:Nat):List Nat->Bool
 | []=>false
 |g::r=>match Nat.beq f g with
  |true=>true
  |false=>memN f r
def jix:List Nat:=[257,262,285,46,106,224,28,105,175,102,143,263,286,171,96,97,122,284,183,208,316,317,341,270,298,238,296,297,325,133,75,177,154,155,225,226,217,166,134,264,241,234,179,227]
noncomputable def env:Env:={ P:=Tryz.prog,pure:=λf=>memN f jix,mutb:=λf r=>f==157 ||f==182 && r==3,gl:=glV,hook:=λ_=>none,stab:=λf r=>f==28 && r==6 }
theorem joN {g:Nat}{v:V}(h:glV g=some v):(g=0/\v=.rptr jrB)\/(g=6/\v=.rptr juW):=by
 unfold glV at h;split at h
 ·simp at h;exact .inl ⟨rfl,h.symm⟩
 ·simp at h;exact .inr ⟨rfl,h.symm⟩
 ·simp at h
theorem jjS(g:Nat)(v:V)(h:glV g=some v):v.closed=true:=by
 rcases joN h with⟨_,rfl⟩|⟨_,rfl⟩
 ·kernel_rfl
 ·kernel_rfl
theorem env_ok:env.Ok:={ mixed:=ac,glc:=jjS,hook:=λf g h=>by simp[env]at h }
theorem env_gl {W:World}{l:List (String × DataW Unit)}(h:laidMetH Tryz.prog l W)(hp:(l.all λx=>x.2.handleName?.isNone)=true)(m0:("privhouse/schema.reserved",Rows.laid_privhouse_schema_reserved)∈l)
  (m1:("internal/strconv.uint64pow10",Rows.laid_internal_strconv_uint64pow10)∈l):GOK env (Ctx.top W):=by
 intro g v hv
 rcases joN hv with⟨rfl,rfl⟩|⟨rfl,rfl⟩
 ·exact jjI (k:=5) h hp m0 (g:=0) (t:=274) ac ac ac
 ·exact jjI (k:=5) h hp m1 (g:=6) (t:=346) ac ac ac
open Classical in
noncomputable def jbU(E:Env)(f:FuncId)(args:List V):Option V:=if h:∃v,∀U,jah E (ev E) f args U=some (v,U)then some (Classical.choose h)else none
theorem jdS {E:Env}{f:FuncId}{args:List V}{v:V}(h:∀U,jah E (ev E) f args U=some (v,U)):jbU E f args=some v:=by
 unfold jbU;have he:∃v,∀U,jah E (ev E) f args U=some (v,U):=⟨v,h⟩;rw[dif_pos he];have h1:=Classical.choose_spec he S.empty;rw[h]at h1;simp only[Ki,Qg,and_true]at h1;rw[<- h1]
theorem jdT {E:Env}(hE:E.Ok){f:FuncId}{args:List V}{v:V}(hv:jbU E f args=some v){O:Ctx}{U:S}{w:World}{xs:Array Value}(hw:WRel O U w)(hg:GOK E O)(hx:LRel O args xs):∃O' w' y,Moved O O' U w w'/\VRel O' v y/\joj E.P f xs w y w':=by
 unfold jbU at hv;split at hv
 ·rename_i hh;simp only[Ki]at hv;subst hv;exact jfk hE (λt r h=>jol hE h) (Classical.choose_spec hh U) hw hg hx
 ·simp at hv
namespace F
def jix:List Nat:=[169,170,228,229]
def hookF(f:FuncId):Option (List V->Option V):=match Nat.beq f 345 with|true=>some idxV|false=>none
noncomputable def env:Env:={ P:=Tryz.prog,pure:=λf=>memN f jix,mutb:=λf _=>memN f [252,279,278,310,311,312],gl:=glV,hook:=hookF,rowB:=true }
theorem env_ok:env.Ok :=
  { mixed:=by kernel_rfl
    glc:=jjS
    hook:=λf g h=>by
      simp only[env,hookF]at h;split at h
      · rename_i hf
        have e:=U9 hf;subst e;simp only[Ki]at h;subst h;exact jvh (E:=env) (fn:=Tryz.f345) Tryz.func345 ac ac ac rfl
      · simp at h }
end F
namespace K
def rowsL:List Nat:=[31]
def hookT:List V->Option V
 | []=>some (.bool true)
 |_=>none
def jvm:List Nat:=[96,97,75,166,133,105,106,175,102,143,177,134,46,28,179,122]
def hookN:List Nat:=[169,170,228,229]
def jix:List Nat:=[17,19,21,22,24,25,26,27,29,30,100,101,103,104,107,108,98,99,114,167,168,176,178,180,181,191,20,162,218,161,160]
noncomputable def hookK(f:FuncId):Option (List V->Option V):=match memN f rowsL with|true=>some hookT|false=>match memN f jvm with|true=>some (jbU YtajaampgajieeaaGreatDoor.env f)|false=>match memN f hookN with|true=>some (jbU F.env f)|false=>none
noncomputable def env:Env:={ P:=Tryz.prog,pure:=λf=>memN f jix,mutb:=λ_ _=>false,gl:=glV,hook:=hookK,rowB:=true,stab:=λf r=>f==81 && r==8 ||f==81 && r==9 ||f==77 && r==11 ||f==159 && r==7 ||f==85 && r==4 ||f==88 && r==7 ||f==88 && r==8 ||f==92 && r==3 ||f==93 && r==8 }
theorem jb6 {f:FuncId}{args:List V}{v:V}(hf:env.hook f=some (jbU YtajaampgajieeaaGreatDoor.env f))(h:∀U,jah YtajaampgajieeaaGreatDoor.env (ev YtajaampgajieeaaGreatDoor.env) f args U=some (v,U))(rec:Task->Option Res)(U:S):jah env rec f args U=some (v,U):=by
 unfold jah;rw[hf];simp only[jdS h,K9]
theorem call_F {f:FuncId}{args:List V}{v:V}(hf:env.hook f=some (jbU F.env f))(h:∀U,jah F.env (ev F.env) f args U=some (v,U))(rec:Task->Option Res)(U:S):jah env rec f args U=some (v,U):=by
 unfold jah;rw[hf];simp only[jdS h,K9]
end K
namespace W
def jvm:List Nat:=[75,177,133,208,227,238,143,122,166,134,234]
def jix:List Nat:=[116,149,126,145,192,193,212,213,214,232,233,235,240,271,272,273,383,384,385,386,387,388,194]
noncomputable def jtr(f:FuncId):Option (List V->Option V):=match memN f jvm with|true=>some (jbU YtajaampgajieeaaGreatDoor.env f)|false=>none
noncomputable def env:Env:={ P:=Tryz.prog,pure:=λf=>memN f jix,mutb:=λf _=>f==194 ||f==214,gl:=glV,hook:=jtr,stab:=λf r=>f==194 && r==7 }
theorem jb6 {f:FuncId}{args:List V}{v:V}(hf:env.hook f=some (jbU YtajaampgajieeaaGreatDoor.env f))(h:∀U,jah YtajaampgajieeaaGreatDoor.env (ev YtajaampgajieeaaGreatDoor.env) f args U=some (v,U))(rec:Task->Option Res)(U:S):jah env rec f args U=some (v,U):=by
 unfold jah;rw[hf];simp only[jdS h,K9]
theorem env_ok:env.Ok :=
  { mixed:=by kernel_rfl
    glc:=jjS
    hook:=λf g h=>by
      simp only[env,jtr]at h;split at h
      · simp only[Ki]at h
        subst h;intro args v hv O U w xs hw hg hx;exact jdT YtajaampgajieeaaGreatDoor.env_ok hv hw hg hx
      · simp at h }
end W
namespace B
def jvn:List Nat:=[96,97,122,105,171,133]
def hookK:List Nat:=[17,26,19,114,20]
def jtr:List Nat:=[126,116]
def jix:List Nat:=[41,118,115,195,236,120,197,204,37,43,45,128,130,129,131,35,68,70,36,40,49,52,112,117,230,185,186,187,188,189,190,135]
noncomputable def hookB(f:FuncId):Option (List V->Option V):=match memN f jvn with|true=>some (jbU YtajaampgajieeaaGreatDoor.env f)|false=>match memN f hookK with|true=>some (jbU K.env f)|false=>match memN f jtr with|true=>some (jbU W.env f)|false=>none
noncomputable def env:Env:={ P:=Tryz.prog,pure:=λf=>memN f jix,mutb:=λf r=>f==237 ||f==128 && r==5 ||f==130 && r==5 ||f==69,gl:=glV,hook:=hookB,rowB:=true,stab:=λf r=>f==41 && r==13 ||f==120 && r==5 ||f==203 && r==9 ||f==37 && r==8 ||f==128 && r==9 ||f==130 && r==9 ||f==216 && r==3 ||f==36 && r==3 }
theorem jb6 {f:FuncId}{args:List V}{v:V}(hf:env.hook f=some (jbU YtajaampgajieeaaGreatDoor.env f))(h:∀U,jah YtajaampgajieeaaGreatDoor.env (ev YtajaampgajieeaaGreatDoor.env) f args U=some (v,U))(rec:Task->Option Res)(U:S):jah env rec f args U=some (v,U):=by
 unfold jah;rw[hf];simp only[jdS h,K9]
theorem jiy {f:FuncId}{args:List V}{v:V}(hf:env.hook f=some (jbU K.env f))(h:∀U,jah K.env (ev K.env) f args U=some (v,U))(rec:Task->Option Res)(U:S):jah env rec f args U=some (v,U):=by
 unfold jah;rw[hf];simp only[jdS h,K9]
theorem jwK {f:FuncId}{args:List V}{v:V}(hf:env.hook f=some (jbU W.env f))(h:∀U,jah W.env (ev W.env) f args U=some (v,U))(rec:Task->Option Res)(U:S):jah env rec f args U=some (v,U):=by
 unfold jah;rw[hf];simp only[jdS h,K9]
end B
namespace N
def jvn:List Nat:=[75]
def jx1:List Nat:=[17,19,26]
def jx2:List Nat:=[41,37,43,45,35,36,40,49,52,68,70,120]
def jix:List Nat:=[20,162,218,161,160,34,60,65,66,58,67,38,42,39,44,71]
noncomputable def hookN(f:FuncId):Option (List V->Option V):=match memN f K.rowsL with|true=>some K.hookT|false=>match memN f jvn with|true=>some (jbU YtajaampgajieeaaGreatDoor.env f)|false=>match memN f jx1 with|true=>some (jbU K.env f)|false=>match memN f jx2 with|true=>some (jbU B.env f)|false=>none
noncomputable def env:Env:={ P:=Tryz.prog,pure:=λf=>memN f jix,mutb:=λf r=>f==32 && r==8 ||f==10 && r==14,gl:=glV,hook:=hookN,rowB:=true,stab:=λf r=>f==81 && r==8 ||f==81 && r==9 ||f==77 && r==11 ||f==159 && r==7 ||f==16 && r==3 ||f==79 && r==8 ||f==82 && r==13 ||f==82 && r==18 ||f==82 && r==28 ||f==82 && r==29 ||f==32 && r==20 ||f==33 && r==7 }
theorem jb6 {f:FuncId}{args:List V}{v:V}(hf:env.hook f=some (jbU YtajaampgajieeaaGreatDoor.env f))(h:∀U,jah YtajaampgajieeaaGreatDoor.env (ev YtajaampgajieeaaGreatDoor.env) f args U=some (v,U))(rec:Task->Option Res)(U:S):jah env rec f args U=some (v,U):=by
 unfold jah;rw[hf];simp only[jdS h,K9]
theorem jiy {f:FuncId}{args:List V}{v:V}(hf:env.hook f=some (jbU K.env f))(h:∀U,jah K.env (ev K.env) f args U=some (v,U))(rec:Task->Option Res)(U:S):jah env rec f args U=some (v,U):=by
 unfold jah;rw[hf];simp only[jdS h,K9]
theorem jrC {f:FuncId}{args:List V}{v:V}(hf:env.hook f=some (jbU B.env f))(h:∀U,jah B.env (ev B.env) f args U=some (v,U))(rec:Task->Option Res)(U:S):jah env rec f args U=some (v,U):=by
 unfold jah;rw[hf];simp only[jdS h,K9]
end N
end Go.Proofs.YtajaampgajieeaaGreatDoor
