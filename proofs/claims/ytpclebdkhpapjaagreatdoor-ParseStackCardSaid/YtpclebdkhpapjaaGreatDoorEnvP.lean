/- Proved here: the setting in which queries are parsed. Conditions: those of each theorem; no statement of the seat is proved in this text. -/
import Derived.Test.YtpclebdkhpapjaaGreatDoorRmA
set_option linter.unusedSimpArgs false
set_option linter.unusedVariables false
set_option linter.unusedSectionVars false
namespace Go.Proofs.YtpclebdkhpapjaaGreatDoor.T
open Go.Ab
namespace TM
set_option maxHeartbeats 8000000
set_option maxRecDepth 100000
set_option linter.unusedSimpArgs false
set_option linter.unusedVariables false
set_option linter.unusedSectionVars false
theorem u3:env.P.underlying 3=some (.int .i64):=by kernel_rfl
theorem u9:env.P.underlying 9=some .string:=by kernel_rfl
theorem u5:env.P.underlying 5=some (.int .u8):=by kernel_rfl
theorem u97:env.P.underlying 77=some (.slice 5):=by kernel_rfl
theorem s5:sz env 5=some 1:=by kernel_rfl
theorem b5:bys env 5=some 1:=by kernel_rfl
theorem e97:jfw env 77=some 5:=by kernel_rfl
theorem z5:jj8 env 5=some 1:=by kernel_rfl
theorem tys:env.P.underlying 3=some (.int .i64)∧env.P.underlying 9=some .string∧env.P.underlying 77=some (.slice 5):=⟨u3,u9,u97⟩
theorem mb (r:Nat):env.mutb 14 r=false:=rfl
theorem stb (r:Nat):env.stab 14 r=false:=rfl
theorem Ke:type_of% (Kf @mb (Kf @stb @tys)):=Kf @mb (Kf @stb @tys)
theorem jcr:∀ s:List UInt8,jcn (jaD s)=some s
 | []=>rfl
 | b::s=>by
  have h:=jcr s
  unfold jaD at h ⊢
  simp only [Ji,jcn,h,Kw,Kg,Jt,and_true]
  simp
theorem jaK {s:List UInt8}:jec (some .string) (.str s)=some (.int .i64 s.length):=rfl
theorem jsp {hp:List AObj}{ts:List Nat}{cs:List V}{k e:Nat}(hk:ts[k]? = some e){s:List UInt8}(hn:s.length ≠ 0)(hb:cs.length+s.length≤lim) :
  appO env false ⟨hp,ts⟩ 77 9 (.row cs cs.length (.tok k e 1)) (.str s)=some (.row (cs++jaD s) (cs++jaD s).length (.tok k (e+1) 1),⟨hp,ts.set k (e+1)⟩):=by
 have hc:(jaD s).all V.isCell=true:=by
  simp [jaD,V.isCell]
 have hv:jby hp 1 s.length (.str s)=some (jaD s):=by simp [jby,jaD]
 have hl:(jaD s).length=s.length:=by simp [jaD]
 unfold appO
 simp only [e97,s5,b5,u9,z5,vLen,hv,Kk,Ks]
 simp only [jbN,hn,Kr,hb,hc,hk,Qo,and_self,Ks,Ku,hl]
end TM
set_option maxHeartbeats 8000000
set_option maxRecDepth 1000000
def asc (s:String):List UInt8:=s.toList.map fun c=>UInt8.ofNat c.toNat
end Go.Proofs.YtpclebdkhpapjaaGreatDoor.T
namespace Go.Proofs.YtpclebdkhpapjaaGreatDoor.A
open Go.Ab
set_option maxHeartbeats 8000000
set_option maxRecDepth 1000000
def k1:RTab:=[(20,[(asciiV "count from t with factor 2 bits 8"),(.agg [(.int .i64 1),.nilsl,(.int .i64 0),(.int .i64 0),(.int .i64 0),(.int .i64 0),(asciiV ""),(.int .i64 0),.nilsl,(.int .i64 0),(.bool false),(asciiV "t"),(.int .i64 0),(asciiV ""),(asciiV ""),(asciiV ""),(.int .i64 0),.nilsl,(asciiV "2"),(.int .i64 8)])],(.bool true)),
 (20,[(asciiV "sum a - 1 * b between -3 and 4 from t keep 2 where not a < 3 or c = 'red' with factor 6/4 bits 8"),(.agg [(.int .i64 2),(.row [(.int .i64 2),(.int .i64 0),(asciiV "a"),(.int .i64 1),(.int .i64 1),(asciiV ""),(.int .i64 2),(.int .i64 0),(asciiV "b"),(.int .i64 6),(.int .i64 0),(asciiV ""),(.int .i64 5),(.int .i64 0),(asciiV "")] 5 .full),(.int .i64 (-3)),(.int .i64 4),(.int .i64 0),(.int .i64 0),(asciiV ""),(.int .i64 0),.nilsl,(.int .i64 0),(.bool false),(asciiV "t"),(.int .i64 2),(asciiV ""),(asciiV ""),(asciiV ""),(.int .i64 0),(.row [(.int .i64 2),(.int .i64 0),(asciiV "a"),(.int .i64 1),(.int .i64 3),(asciiV ""),(.int .i64 11),(.int .i64 0),(asciiV ""),(.int .i64 17),(.int .i64 0),(asciiV ""),(.int .i64 2),(.int .i64 0),(asciiV "c"),(.int .i64 3),(.int .i64 0),(asciiV "red"),(.int .i64 9),(.int .i64 0),(asciiV ""),(.int .i64 16),(.int .i64 0),(asciiV "")] 8 .full),(asciiV "3/2"),(.int .i64 8)])],(.bool true)),
 (40,[(asciiV "count from t keep 0 with factor 2 bits 8"),(.int .i64 2),(.int .i64 18)],(.bool true))]
def k2:RTab:=[(20,[(asciiV "batch a 1..3, -2..2 using tree from t join u on a = b limit 2 with factor 2 bits 8"),(.agg [(.int .i64 10),.nilsl,(.int .i64 0),(.int .i64 0),(.int .i64 0),(.int .i64 0),(asciiV "a"),(.int .i64 0),(.row [(.int .i64 1),(.int .i64 3),(.int .i64 (-2)),(.int .i64 2)] 2 .full),(.int .i64 2),(.bool false),(asciiV "t"),(.int .i64 0),(asciiV "u"),(asciiV "a"),(asciiV "b"),(.int .i64 2),.nilsl,(asciiV "2"),(.int .i64 8)])],(.bool true)),
 (20,[(asciiV "total if a = 1 then b else 2 between 0 and 9 by c from t with factor 2 bits 8"),(.agg [(.int .i64 4),(.row [(.int .i64 2),(.int .i64 0),(asciiV "a"),(.int .i64 1),(.int .i64 1),(asciiV ""),(.int .i64 9),(.int .i64 0),(asciiV ""),(.int .i64 2),(.int .i64 0),(asciiV "b"),(.int .i64 1),(.int .i64 2),(asciiV ""),(.int .i64 8),(.int .i64 0),(asciiV "")] 6 .full),(.int .i64 0),(.int .i64 9),(.int .i64 0),(.int .i64 0),(asciiV "c"),(.int .i64 0),.nilsl,(.int .i64 0),(.bool false),(asciiV "t"),(.int .i64 0),(asciiV ""),(asciiV ""),(asciiV ""),(.int .i64 0),.nilsl,(asciiV "2"),(.int .i64 8)])],(.bool true)),
 (40,[(asciiV ""),(.int .i64 11),(.int .i64 0)],(.bool true)),
 (40,[(asciiV "count"),(.int .i64 11),(.int .i64 5)],(.bool true))]
def k3:RTab:=[(40,[(asciiV "count from t with factor 2 bits 8 x"),(.int .i64 11),(.int .i64 34)],(.bool true)),
 (40,[(asciiV "count from t with factor 2/0 bits 8"),(.int .i64 6),(.int .i64 27)],(.bool true)),
 (40,[(asciiV "count from t where a + 1 = 'red' with factor 2 bits 8"),(.int .i64 11),(.int .i64 27)],(.bool true)),
 (40,[(asciiV "peak a from t with factor 2 bits 8 consistent"),(.int .i64 11),(.int .i64 35)],(.bool true))]
theorem jxR:∀ p∈k1,jeW env p.1 p.2.1 p.2.2:=jjp env_ok (S0:=[]) (by simp) (k:=80) (by kernel_rfl)
theorem jzI:∀ p∈k2,jeW env p.1 p.2.1 p.2.2:=jjp env_ok (S0:=[]) (by simp) (k:=80) (by kernel_rfl)
theorem jzJ:∀ p∈k3,jeW env p.1 p.2.1 p.2.2:=jjp env_ok (S0:=[]) (by simp) (k:=80) (by kernel_rfl)
theorem awake_row:jeW env 13 [] (.bool true):=jeW.untab (T:=k1) (jeX (env_ok.tab jxR) rfl (k:=80) (by kernel_rfl))
end Go.Proofs.YtpclebdkhpapjaaGreatDoor.A
namespace Go.Proofs.YtpclebdkhpapjaaGreatDoor
open Go.Ab
set_option maxHeartbeats 8000000
set_option maxRecDepth 100000
def jup:List V→Option V
 | []=>some (.bool true)
 | _=>none
noncomputable def jsU (args:List V):Option V :=
 match args with
 | [.str s,.str t]=>if s=A.mil∧t=A.mil then some (.tup [.str [49],.int .i64 0]) else jfZ R.env 67 args
 | _=>none
def jjK:List Nat:=[10,11,9,12,16,17,18,20,21,34,35,40,41]
def jwj:List Nat:=[8,14,19]
noncomputable def jxS (f:FuncId):Option (List V→Option V):=match memN f jwj with | true=>some (jfZ T.env f) | false=>match Nat.beq f 65 with | true=>some (jfZ I.env f) | false=>match Nat.beq f 13 with | true=>some jup | false=>match Nat.beq f 67 with | true=>some jsU | false=>none
noncomputable def env:Env:={ P:=Tryz.prog,pure:=fun f=>memN f jjK,mutb:=fun f _=>false,gl:=glV,hook:=jxS,stab:=fun f r=>(f == 10 && (r == 7 || r == 3)) || (f == 22 && r == 3) || (f == 23 && r == 3) || (f == 28 && r == 9) || (f == 57 && r == 5) || (f == 161 && (r == 2 || r == 4)) }
theorem env_ok:env.Ok :=
  { mixed:=by kernel_rfl
    glc:=jkZ
    hook := fun f g h=>by
      simp only [env,jxS] at h
      split at h
      · simp only [Kg] at h
        subst h
        intro args v hv Γ σ w xs hw hg hx
        exact jfp T.env_ok hv hw hg hx
      · split at h
        · simp only [Kg] at h
          subst h
          intro args v hv Γ σ w xs hw hg hx
          exact jfp I.env_ok hv hw hg hx
        split at h
        · rename_i hf
          have e:=Qw hf
          subst e
          simp only [Kg] at h
          subst h
          intro args v hv Γ σ w xs hw hg hx
          unfold jup at hv
          split at hv
          · simp only [Kg] at hv
            subst hv
            exact A.awake_row Γ σ w xs hw hg hx
          · simp at hv
        split at h
        · rename_i hf
          have e:=Qw hf
          subst e
          simp only [Kg] at h
          subst h
          intro args v hv Γ σ w xs hw hg hx
          unfold jsU at hv
          split at hv
          · split at hv
            · rename_i hs
              obtain ⟨rfl,rfl⟩:=hs
              simp only [Kg] at hv
              subst hv
              exact A.mil_row Γ σ w xs hw hg hx
            · exact jfp R.env_ok hv hw hg hx
          · simp at hv
        · simp at h }
theorem jsV {args:List V}{v:V}(h:∀ σ,jas I.env (ev I.env) 65 args σ=some (v,σ))(rec:Task→Option Res)(σ:S):jas env rec 65 args σ=some (v,σ):=by
 have hf:env.hook 65=some (jfZ I.env 65):=rfl
 unfold jas
 rw [hf]
 simp only [jfo h,Kw]
theorem jvh {f:FuncId}{args:List V}{v:V}(hf:env.hook f=some (jfZ T.env f))(h:∀ σ,jas T.env (ev T.env) f args σ=some (v,σ))(rec:Task→Option Res)(σ:S):jas env rec f args σ=some (v,σ):=by
 unfold jas
 rw [hf]
 simp only [jfo h,Kw]
end Go.Proofs.YtpclebdkhpapjaaGreatDoor
