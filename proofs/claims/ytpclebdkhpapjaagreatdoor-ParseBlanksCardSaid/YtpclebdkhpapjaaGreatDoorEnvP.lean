/- Proved here: the setting in which queries are parsed. Conditions: those of each theorem; no statement of the seat is proved in this text. -/
import Derived.Test.YtpclebdkhpapjaaGreatDoorRmA
set_option linter.unusedSimpArgs false
set_option linter.unusedVariables false
set_option linter.unusedSectionVars false
namespace Go.Proofs.YtpclebdkhpapjaaGreatDoor.T
open Go.Ab
namespace TM
set_option maxHeartbeats 8000000
set_option maxRecDepth 100000
set_option linter.unusedSimpArgs false
set_option linter.unusedVariables false
set_option linter.unusedSectionVars false
theorem u3:env.P.underlying 3=some (.int .i64):=by kernel_rfl
theorem u9:env.P.underlying 9=some .string:=by kernel_rfl
theorem u5:env.P.underlying 5=some (.int .u8):=by kernel_rfl
theorem u97:env.P.underlying 77=some (.slice 5):=by kernel_rfl
theorem s5:sz env 5=some 1:=by kernel_rfl
theorem b5:bys env 5=some 1:=by kernel_rfl
theorem e97:jfR env 77=some 5:=by kernel_rfl
theorem z5:jkC env 5=some 1:=by kernel_rfl
theorem tys:env.P.underlying 3=some (.int .i64)/\env.P.underlying 9=some .string/\env.P.underlying 77=some (.slice 5):=⟨u3,u9,u97⟩
theorem mb(r:Nat):env.mutb 14 r=false:=rfl
theorem stb(r:Nat):env.stab 14 r=false:=rfl
theorem Ke:type_of% (Kf @mb (Kf @stb @tys)):=Kf @mb (Kf @stb @tys)
theorem jcy:∀s:List UInt8,jcv (jaz s)=some s
 | []=>rfl
 |b::s=>by
  have h:=jcy s
  unfold jaz at h ⊢
  simp only[Ja,jcv,h,Kw,Kg,Jw,and_true]
  simp
theorem jaN {s:List UInt8}:jd5 (some .string) (.str s)=some (.int .i64 s.length):=rfl
theorem jte {hp:List AObj}{ts:List Nat}{cs:List V}{k e:Nat}(hk:ts[k]? = some e){s:List UInt8}(hn:s.length ≠ 0)(hb:cs.length+s.length<=lim) :
  appO env false ⟨hp,ts⟩ 77 9 (.row cs cs.length (.tok k e 1)) (.str s)=some (.row (cs++jaz s) (cs++jaz s).length (.tok k (e+1) 1),⟨hp,ts.set k (e+1)⟩):=by
 have hc:(jaz s).all V.isCell=true:=by
  simp[jaz,V.isCell]
 have hv:jby hp 1 s.length (.str s)=some (jaz s):=by simp[jby,jaz]
 have hl:(jaz s).length=s.length:=by simp[jaz]
 unfold appO
 simp only[e97,s5,b5,u9,z5,vLen,hv,Kj,Ku]
 simp only[jbT,hn,Kr,hb,hc,hk,Qr,and_self,Ku,Ks,hl]
end TM
set_option maxHeartbeats 8000000
set_option maxRecDepth 1000000
def asc(s:String):List UInt8:=s.toList.map λc=>UInt8.ofNat c.toNat
theorem at8:env.P.funcs[8]? = some Tryz.f8:=by kernel_rfl
theorem pick_call(x:Int)(n:Nat)(h1:1<=n)(h2:n<=2^40):∃k:Nat,k<n/\∀O,jar env (ev env) 8 [.int .i64 x,.int .i64 n] O=some (.int .i64 k,O):=by
 have hb:=Int.tmod_lt_of_pos x (show(0:Int)<(n:Int) by omega)
 have hb2 : -(n:Int)<x.tmod n:=by
  have:=Int.tmod_lt_of_pos (-x) (show(0:Int)<(n:Int) by omega)
  rw[Int.neg_tmod]at this;omega
 have hn:((n:Int)=0)=False:=eq_false (by omega)
 by_cases h0:x.tmod n<0
 ·refine⟨(x.tmod n+n).toNat,by omega,λO=>jau rfl rfl rfl at8 rfl (by simp[Tryz.f8]) (by simp[Tryz.f8]) (jaq ?_) O⟩
  have e1:IntKind.i64.wrap (x.tmod n+n)=(((x.tmod n+n).toNat:Nat):Int):=by rw[wrap_i64 (by omega) (by omega)];omega
  simp only[Tryz.f8,Ka,simprocAttr,Uq,Ke,Uu,h0,hn,e1]
  simp only[jaX,jax,jaW]
 ·refine⟨(x.tmod n).toNat,by omega,λO=>jau rfl rfl rfl at8 rfl (by simp[Tryz.f8]) (by simp[Tryz.f8]) (jaq ?_) O⟩
  have e1:x.tmod n=(((x.tmod n).toNat:Nat):Int):=by omega
  simp only[Tryz.f8,Ka,simprocAttr,Uq,Ke,Uu,h0,hn]
  simp only[jaX,jax,jaW]
  rw[<- e1]
end Go.Proofs.YtpclebdkhpapjaaGreatDoor.T
namespace Go.Proofs.YtpclebdkhpapjaaGreatDoor.A
open Go.Ab
set_option maxHeartbeats 8000000
set_option maxRecDepth 1000000
def k1:RTab:=[(20,[(asciiV "count from t with factor 2 bits 8"),(.agg [(.int .i64 1),.nilsl,(.int .i64 0),(.int .i64 0),(.int .i64 0),(.int .i64 0),(asciiV ""),(.int .i64 0),.nilsl,(.int .i64 0),(.bool false),(asciiV "t"),(.int .i64 0),(asciiV ""),(asciiV ""),(asciiV ""),(.int .i64 0),.nilsl,(asciiV "2"),(.int .i64 8)])],(.bool true)),
 (20,[(asciiV "sum a - 1 * b between -3 and 4 from t keep 2 where not a < 3 or c = 'red' with factor 6/4 bits 8"),(.agg [(.int .i64 2),(.row [(.int .i64 2),(.int .i64 0),(asciiV "a"),(.int .i64 1),(.int .i64 1),(asciiV ""),(.int .i64 2),(.int .i64 0),(asciiV "b"),(.int .i64 6),(.int .i64 0),(asciiV ""),(.int .i64 5),(.int .i64 0),(asciiV "")] 5 .full),(.int .i64 (-3)),(.int .i64 4),(.int .i64 0),(.int .i64 0),(asciiV ""),(.int .i64 0),.nilsl,(.int .i64 0),(.bool false),(asciiV "t"),(.int .i64 2),(asciiV ""),(asciiV ""),(asciiV ""),(.int .i64 0),(.row [(.int .i64 2),(.int .i64 0),(asciiV "a"),(.int .i64 1),(.int .i64 3),(asciiV ""),(.int .i64 11),(.int .i64 0),(asciiV ""),(.int .i64 17),(.int .i64 0),(asciiV ""),(.int .i64 2),(.int .i64 0),(asciiV "c"),(.int .i64 3),(.int .i64 0),(asciiV "red"),(.int .i64 9),(.int .i64 0),(asciiV ""),(.int .i64 16),(.int .i64 0),(asciiV "")] 8 .full),(asciiV "3/2"),(.int .i64 8)])],(.bool true)),
 (40,[(asciiV "count from t keep 0 with factor 2 bits 8"),(.int .i64 2),(.int .i64 18)],(.bool true))]
def k2:RTab:=[(20,[(asciiV "batch a 1..3, -2..2 using tree from t join u on a = b limit 2 with factor 2 bits 8"),(.agg [(.int .i64 10),.nilsl,(.int .i64 0),(.int .i64 0),(.int .i64 0),(.int .i64 0),(asciiV "a"),(.int .i64 0),(.row [(.int .i64 1),(.int .i64 3),(.int .i64 (-2)),(.int .i64 2)] 2 .full),(.int .i64 2),(.bool false),(asciiV "t"),(.int .i64 0),(asciiV "u"),(asciiV "a"),(asciiV "b"),(.int .i64 2),.nilsl,(asciiV "2"),(.int .i64 8)])],(.bool true)),
 (20,[(asciiV "total if a = 1 then b else 2 between 0 and 9 by c from t with factor 2 bits 8"),(.agg [(.int .i64 4),(.row [(.int .i64 2),(.int .i64 0),(asciiV "a"),(.int .i64 1),(.int .i64 1),(asciiV ""),(.int .i64 9),(.int .i64 0),(asciiV ""),(.int .i64 2),(.int .i64 0),(asciiV "b"),(.int .i64 1),(.int .i64 2),(asciiV ""),(.int .i64 8),(.int .i64 0),(asciiV "")] 6 .full),(.int .i64 0),(.int .i64 9),(.int .i64 0),(.int .i64 0),(asciiV "c"),(.int .i64 0),.nilsl,(.int .i64 0),(.bool false),(asciiV "t"),(.int .i64 0),(asciiV ""),(asciiV ""),(asciiV ""),(.int .i64 0),.nilsl,(asciiV "2"),(.int .i64 8)])],(.bool true)),
 (40,[(asciiV ""),(.int .i64 11),(.int .i64 0)],(.bool true)),
 (40,[(asciiV "count"),(.int .i64 11),(.int .i64 5)],(.bool true))]
def k3:RTab:=[(40,[(asciiV "count from t with factor 2 bits 8 x"),(.int .i64 11),(.int .i64 34)],(.bool true)),
 (40,[(asciiV "count from t with factor 2/0 bits 8"),(.int .i64 6),(.int .i64 27)],(.bool true)),
 (40,[(asciiV "count from t where a + 1 = 'red' with factor 2 bits 8"),(.int .i64 11),(.int .i64 27)],(.bool true)),
 (40,[(asciiV "peak a from t with factor 2 bits 8 consistent"),(.int .i64 11),(.int .i64 35)],(.bool true))]
theorem jyZ:∀p∈k1,jfa env p.1 p.2.1 p.2.2:=jjN env_ok (S0:=[]) (by simp) (k:=80) (by kernel_rfl)
theorem jAT:∀p∈k2,jfa env p.1 p.2.1 p.2.2:=jjN env_ok (S0:=[]) (by simp) (k:=80) (by kernel_rfl)
theorem jAU:∀p∈k3,jfa env p.1 p.2.1 p.2.2:=jjN env_ok (S0:=[]) (by simp) (k:=80) (by kernel_rfl)
theorem awake_row:jfa env 13 [] (.bool true):=jfa.untab (T:=k1) (jfb (env_ok.tab jyZ) rfl (k:=80) (by kernel_rfl))
end Go.Proofs.YtpclebdkhpapjaaGreatDoor.A
namespace Go.Proofs.YtpclebdkhpapjaaGreatDoor
open Go.Ab
set_option maxHeartbeats 8000000
set_option maxRecDepth 100000
def jvg:List V->Option V
 | []=>some (.bool true)
 |_=>none
noncomputable def jtL(args:List V):Option V :=
 match args with
 | [.str s,.str t]=>if s=A.mil/\t=A.mil then some (.tup [.str [49],.int .i64 0])else jgm R.env 67 args
 |_=>none
def jkc:List Nat:=[10,11,9,12,16,17,18,20,21,34,35,40,41]
def jxl:List Nat:=[8,14,19]
noncomputable def jy0(f:FuncId):Option (List V->Option V):=match memN f jxl with|true=>some (jgm T.env f)|false=>match Nat.beq f 65 with|true=>some (jgm I.env f)|false=>match Nat.beq f 13 with|true=>some jvg|false=>match Nat.beq f 67 with|true=>some jtL|false=>none
noncomputable def env:Env:={ P:=Tryz.prog,pure:=λf=>memN f jkc,mutb:=λf _=>false,gl:=glV,hook:=jy0,stab:=λf r=>(f==10 && (r==7 ||r==3)) ||(f==22 && r==3) ||(f==23 && r==3) ||(f==28 && r==9) ||(f==57 && r==5) ||(f==161 && (r==2 ||r==4)) }
theorem env_ok:env.Ok :=
  { mixed:=by kernel_rfl
    glc:=jlt
    hook := fun f g h=>by
      simp only[env,jy0]at h
      split at h
      · simp only[Kg]at h
        subst h
        intro args v hv Γ O w xs hw hg hx
        exact jfJ T.env_ok hv hw hg hx
      · split at h
        · simp only[Kg]at h
          subst h
          intro args v hv Γ O w xs hw hg hx
          exact jfJ I.env_ok hv hw hg hx
        split at h
        · rename_i hf
          have e:=Qz hf
          subst e
          simp only[Kg]at h
          subst h
          intro args v hv Γ O w xs hw hg hx
          unfold jvg at hv
          split at hv
          · simp only[Kg]at hv
            subst hv
            exact A.awake_row Γ O w xs hw hg hx
          · simp at hv
        split at h
        · rename_i hf
          have e:=Qz hf
          subst e
          simp only[Kg]at h
          subst h
          intro args v hv Γ O w xs hw hg hx
          unfold jtL at hv
          split at hv
          · split at hv
            · rename_i hs
              obtain⟨rfl,rfl⟩:=hs
              simp only[Kg]at hv
              subst hv
              exact A.mil_row Γ O w xs hw hg hx
            · exact jfJ R.env_ok hv hw hg hx
          · simp at hv
        · simp at h }
theorem jtM {args:List V}{v:V}(h:∀O,jar I.env (ev I.env) 65 args O=some (v,O))(rec:Task->Option Res)(O:S):jar env rec 65 args O=some (v,O):=by
 have hf:env.hook 65=some (jgm I.env 65):=rfl
 unfold jar
 rw[hf]
 simp only[jfI h,Kw]
theorem jnY {f:FuncId}{args:List V}{v:V}(hf:env.hook f=some (jgm T.env f))(h:∀O,jar T.env (ev T.env) f args O=some (v,O))(rec:Task->Option Res)(O:S):jar env rec f args O=some (v,O):=by
 unfold jar
 rw[hf]
 simp only[jfI h,Kw]
end Go.Proofs.YtpclebdkhpapjaaGreatDoor
