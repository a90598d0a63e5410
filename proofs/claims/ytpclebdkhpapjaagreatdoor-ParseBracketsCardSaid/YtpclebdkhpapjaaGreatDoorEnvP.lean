/- Proved here: the setting in which queries are parsed. Conditions: those of each theorem; no statement of the seat is proved in this text. -/
import Derived.Test.YtpclebdkhpapjaaGreatDoorRmA
set_option linter.unusedSimpArgs false
set_option linter.unusedVariables false
set_option linter.unusedSectionVars false
namespace Go.Proofs.YtpclebdkhpapjaaGreatDoor.T
open Go.Ab
namespace TM
set_option maxHeartbeats 8000000
set_option maxRecDepth 100000
set_option linter.unusedSimpArgs false
set_option linter.unusedVariables false
set_option linter.unusedSectionVars false
theorem u3:env.P.underlying 3=some (.int .i64):=by kernel_rfl
theorem u9:env.P.underlying 9=some .string:=by kernel_rfl
theorem u5:env.P.underlying 5=some (.int .u8):=by kernel_rfl
theorem u97:env.P.underlying 77=some (.slice 5):=by kernel_rfl
theorem s5:sz env 5=some 1:=by kernel_rfl
theorem b5:bys env 5=some 1:=by kernel_rfl
theorem e97:jf0 env 77=some 5:=by kernel_rfl
theorem z5:jkK env 5=some 1:=by kernel_rfl
theorem zv5:∃z,jbG env 5=some z/\z.cells.length=1:=⟨.int .u8 0,by kernel_rfl,rfl⟩
theorem tys:env.P.underlying 3=some (.int .i64)/\env.P.underlying 9=some .string/\env.P.underlying 77=some (.slice 5):=⟨u3,u9,u97⟩
theorem mb(r:Nat):env.mutb 14 r=false:=rfl
theorem stb(r:Nat):env.stab 14 r=false:=rfl
theorem Ke:type_of% (Kf @mb (Kf @stb @tys)):=Kf @mb (Kf @stb @tys)
theorem at14:env.P.funcs[14]? = some Tryz.f14:=by kernel_rfl
def repS(n:Nat)(s:List UInt8):List UInt8:=(List.replicate n s).flatten
theorem jvt(n:Nat)(s:List UInt8):(repS n s).length=n*s.length:=by
 simp[repS]
theorem repS_succ(n:Nat)(s:List UInt8):repS (n+1) s=repS n s++s:=by
 unfold repS;rw[V2,List.flatten_append];simp
theorem jcm:∀s:List UInt8,jcA (jaw s)=some s
 | []=>rfl
 |b::s=>by
  have h:=jcm s;unfold jaw at h ⊢;simp only[Jf,jcA,h,Kx,Kg,J2,and_true];simp
noncomputable def mkO(O:S)(v:V):Option (V × S):=jbz env false (λo=>match o with| .const c=>je5 c|_=>some v) O (.makeSlice 77 (.const (.int .i64 0)) (.tmp 0))
theorem jxq {T:Tm}{O:S}(x:Operand):opT env false T O (.makeSlice 77 (.const (.int .i64 0)) x)=(jaK env T x).bind (mkO O):=by
 have e:opT env false T O (.makeSlice 77 (.const (.int .i64 0)) x)=jbz env false (jaK env T) O (.makeSlice 77 (.const (.int .i64 0)) x):=rfl;rw[e];unfold mkO;simp only[jbz];cases jaK env T x<;>rfl
theorem jxr {O:S}{c:Int}(h1:0<c)(h2:c<=lim):mkO O (.int .i64 c)=some (.row [] 0 (.tok O.toks.length 0 1),⟨O.heap,O.toks++[0]⟩):=by
 obtain⟨z,hz,hl⟩:=zv5;have h3:¬(0:Int)=c:=by omega
 have h4:¬c.toNat=0:=by omega
 have h5:(0:Int)<=c:=by omega
 have h6:c*((1:Nat):Int)<=(lim:Int):=by omega
 unfold mkO;simp only[jbz,je5,jhp,Kn,e97,s5,b5,hz,hl,Qm,h4,h5,h2,h3,h6,Ks,Ku,and_self,true_and,or_false,Int.le_refl,Km,Xg,Jl]
theorem jaL {s:List UInt8}:jes (some .string) (.str s)=some (.int .i64 s.length):=rfl
theorem jpd {hp:List AObj}{ts:List Nat}{cs:List V}{k e:Nat}(hk:ts[k]? = some e){s:List UInt8}(hn:s.length ≠ 0)(hb:cs.length+s.length<=lim) :
  appO env false ⟨hp,ts⟩ 77 9 (.row cs cs.length (.tok k e 1)) (.str s)=some (.row (cs++jaw s) (cs++jaw s).length (.tok k (e+1) 1),⟨hp,ts.set k (e+1)⟩):=by
 have hc:(jaw s).all V.isCell=true:=by
  simp[jaw,V.isCell]
 have hv:jbv hp 1 s.length (.str s)=some (jaw s):=by simp[jbv,jaw]
 have hl:(jaw s).length=s.length:=by simp[jaw]
 unfold appO;simp only[e97,s5,b5,u9,z5,vLen,hv,Kn,Ku];simp only[jbT,hn,Ks,hb,hc,hk,Qm,and_self,Ku,Kr,hl]
theorem jvu {hp:List AObj}{ts:List Nat}{s:List UInt8}{c:RCap}{a b:TypeId}:jiA env ⟨hp,ts⟩ a b (some (.slice 5)) (some .string) (.row (jaw s) (jaw s).length c)=some (.str s,⟨hp,ts⟩):=by
 have hv:jbv hp 1 (jaw s).length (.row (jaw s) (jaw s).length c)=some (jaw s):=by simp[jbv]
 simp[jiA,joY,joZ,u5,hv,jcm]
theorem times_ok(s:List UInt8)(n:Nat)(hs:s.length ≠ 0)(hs2:s.length<=1000)(h1:1<=n)(h2:n<=10000)(O:S):jas env (ev env) 14 [.str s,.int .i64 n] O=some (.str (repS n s),O):=by
 refine jau rfl rfl rfl at14 rfl (by simp[Tryz.f14]) (U4 rfl) (jar ?_) O;have c1:(n:Int)>0:=by omega
 have hm:0<(n:Int)*(s.length:Int)/\(n:Int)*(s.length:Int)<=10000000:=by
  have h3:n*s.length<=10000*1000:=Nat.mul_le_mul h2 hs2;have h4:0<n*s.length:=Nat.mul_pos (by omega) (by omega);have h5:((n*s.length:Nat):Int)=(n:Int)*(s.length:Int):=by simp
  omega
 have e1:IntKind.i64.wrap ((n:Int)*(s.length:Int))=(n:Int)*(s.length:Int):=Go.IntWalk.i64_in _ (by omega);have c2:0<(n:Int)*(s.length:Int)/\(n:Int)*(s.length:Int)<=((lim:Nat):Int):=⟨hm.1,by unfold lim;omega⟩;simp only[Tryz.f14,Za,Zb,Zc,Zd,Ze,Zf,Zg,Zh,Zi,Zj,Zk,Zl,Zm,Zn,Zo,Zp,Zq,Zr,Zs,Zt,Zu,Zv,Zw,Zx,Zy,Zz,ZA,ZB,ZC,ZE,ZF,ZG,ZH,ZI,ZJ,ZK,ZL,ZM,ZN,ZO,ZP,ZQ,ZR,ZS,ZT,ZU,ZV,ZW,ZX,ZY,ZZ,Z0,Z1,Z2,Z3,Z4,Z5,Z6,jaK,Z7,simprocAttr,true_and,Z8,Z9,jfF,Ya,jez,Yb,Yc,Yd,Ye,Yf,Yg,Yh,Yi,Yj,Yk,Yl,Ym,Yn,Yo,Yp,Yq,Yr,Ys,Yt,Yu,Yv,Yw,je5,jhp,argT,ZL1,resT,Yx,Yy,Qm,Yz,YA,YB,YC,YD,YE,YF,YG,YH,YI,YJ,setT,YK,YL,YM,YN,YO,Vi,YP,YQ,YR,YS,YT,YU,YV,YW,YX,Q5,YY,YZ,Y0,Y1,Y2,Y3,K3,Km,Jx,and_self,Y4,Y5,Vb,Xn,not_true_eq_false,decide_true,decide_false,true_implies,false_implies,Xg,K0,K6,K7,mb,Js,X0,Y6,tys,stb,Y7,Y8,Y9,Qa,Qb,Qc,ZB1,Qd,Qe,jxq,c1,e1,jxr hm.1 (show(n:Int)*(s.length:Int)<=((lim:Nat):Int) by unfold lim;omega),S.empty,jaL]
 have hw:∀i:Nat,jaw (repS (i+1) s)=jaw (repS i s)++jaw s:=by
  intro i;rw[repS_succ];simp[jaw]
 have hbl:∀i:Nat,(jaw (repS i s)).length=i*s.length:=by
  intro i;simp only[jaw,Ju,jvt]
 refine jbo (λm T D O=>D=[]/\O.heap=[]/\∃i k e:Nat,T 0=.str s/\T 1=.int .i64 n/\T 6=.int .i64 i/\i<=n/\m=n-i /\
  T 5=.row (jaw (repS i s)) (jaw (repS i s)).length (.tok k e 1)/\O.toks[k]? = some e) ?_ _ _ _ _ ⟨rfl,rfl,0,0,0,rfl,rfl,rfl,by omega,rfl,rfl,rfl⟩
 rintro m T D ⟨hp,ts⟩ ⟨rfl,hh,i,k,e,t0,t1,t6,hi,rfl,t5,hk⟩;simp only at hh hk;subst hh;refine jar ?_;by_cases hlt:i<n
 ·have d1:(i:Int)<(n:Int):=by omega
  have d2:IntKind.i64.wrap ((i:Int)+1)=((i+1:Nat):Int):=by rw[wrap_i64 (by omega) (by omega)];omega
  have hsm:i*s.length<=10000*1000:=Nat.mul_le_mul (by omega) hs2;have hb:(jaw (repS i s)).length+s.length<=lim:=by rw[hbl];unfold lim;omega
  simp only[Za,Zb,Zc,Zd,Ze,Zf,Zg,Zh,Zi,Zj,Zk,Zl,Zm,Zn,Zo,Zp,Zq,Zr,Zs,Zt,Zu,Zv,Zw,Zx,Zy,Zz,ZA,ZB,ZC,ZE,ZF,ZG,ZH,ZI,ZJ,ZK,ZL,ZM,ZN,ZO,ZP,ZQ,ZR,ZS,ZT,ZU,ZV,ZW,ZX,ZY,ZZ,Z0,Z1,Z2,Z3,Z4,Z5,Z6,jaK,Z7,simprocAttr,true_and,Z8,Z9,jfF,Ya,jez,Yb,Yc,Yd,Ye,Yf,Yg,Yh,Yi,Yj,Yk,Yl,Ym,Yn,Yo,Yp,Yq,Yr,Ys,Yt,Yu,Yv,Yw,je5,jhp,argT,ZL1,resT,Yx,Yy,Qm,Yz,YA,YB,YC,YD,YE,YF,YG,YH,YI,YJ,setT,YK,YL,YM,YN,YO,Vi,YP,YQ,YR,YS,YT,YU,YV,YW,YX,Q5,YY,YZ,Y0,Y1,Y2,Y3,K3,Km,Jx,and_self,Y4,Y5,Vb,Xn,not_true_eq_false,decide_true,decide_false,true_implies,false_implies,Xg,K0,K6,K7,mb,Js,X0,Y6,tys,stb,Y7,Y8,Y9,Qa,Qb,Qc,ZB1,Qd,Qe,t0,t1,t5,t6,d1,d2,jpd hk hs hb];refine⟨n-(i+1),by omega,i+1,k,e+1,rfl,by omega,rfl,?_,?_⟩
  ·rw[hw]
  ·have:k<ts.length:=by
    rcases K4 k ts.length with h1|h1
    ·exact h1
    ·rw[Qf h1]at hk;simp at hk
   simp[this]
 ·have d1:¬(i:Int)<(n:Int):=by omega
  obtain rfl:i=n:=by omega
  simp only[Za,Zb,Zc,Zd,Ze,Zf,Zg,Zh,Zi,Zj,Zk,Zl,Zm,Zn,Zo,Zp,Zq,Zr,Zs,Zt,Zu,Zv,Zw,Zx,Zy,Zz,ZA,ZB,ZC,ZE,ZF,ZG,ZH,ZI,ZJ,ZK,ZL,ZM,ZN,ZO,ZP,ZQ,ZR,ZS,ZT,ZU,ZV,ZW,ZX,ZY,ZZ,Z0,Z1,Z2,Z3,Z4,Z5,Z6,jaK,Z7,simprocAttr,true_and,Z8,Z9,jfF,Ya,jez,Yb,Yc,Yd,Ye,Yf,Yg,Yh,Yi,Yj,Yk,Yl,Ym,Yn,Yo,Yp,Yq,Yr,Ys,Yt,Yu,Yv,Yw,je5,jhp,argT,ZL1,resT,Yx,Yy,Qm,Yz,YA,YB,YC,YD,YE,YF,YG,YH,YI,YJ,setT,YK,YL,YM,YN,YO,Vi,YP,YQ,YR,YS,YT,YU,YV,YW,YX,Q5,YY,YZ,Y0,Y1,Y2,Y3,K3,Km,Jx,and_self,Y4,Y5,Vb,Xn,not_true_eq_false,decide_true,decide_false,true_implies,false_implies,Xg,K0,K6,K7,mb,Js,X0,Y6,tys,stb,Y7,Y8,Y9,Qa,Qb,Qc,ZB1,Qd,Qe,t0,t1,t5,t6,d1,jvu];simp[jaW,jay,jbn,V.closed]
end TM
set_option maxHeartbeats 8000000
set_option maxRecDepth 1000000
def asc(s:String):List UInt8:=s.toList.map λc=>UInt8.ofNat c.toNat
def rep(n:Nat)(s:List UInt8):List UInt8:=TM.repS n s
theorem at8:env.P.funcs[8]? = some Tryz.f8:=by kernel_rfl
theorem pick_call(x:Int)(n:Nat)(h1:1<=n)(h2:n<=2^40):∃k:Nat,k<n/\∀O,jas env (ev env) 8 [.int .i64 x,.int .i64 n] O=some (.int .i64 k,O):=by
 have hb:=Int.tmod_lt_of_pos x (show(0:Int)<(n:Int) by omega)
 have hb2 : -(n:Int)<x.tmod n:=by
  have:=Int.tmod_lt_of_pos (-x) (show(0:Int)<(n:Int) by omega);rw[Int.neg_tmod]at this;omega
 have hn:((n:Int)=0)=False:=eq_false (by omega);by_cases h0:x.tmod n<0
 ·refine⟨(x.tmod n+n).toNat,by omega,λO=>jau rfl rfl rfl at8 rfl (by simp[Tryz.f8]) (U4 rfl) (jar ?_) O⟩;have e1:IntKind.i64.wrap (x.tmod n+n)=(((x.tmod n+n).toNat:Nat):Int):=by rw[wrap_i64 (by omega) (by omega)];omega
  simp only[Tryz.f8,Ka,simprocAttr,Uy,Ke,U2,h0,hn,e1];simp only[jaW,jay,jaV]
 ·refine⟨(x.tmod n).toNat,by omega,λO=>jau rfl rfl rfl at8 rfl (by simp[Tryz.f8]) (U4 rfl) (jar ?_) O⟩;have e1:x.tmod n=(((x.tmod n).toNat:Nat):Int):=by omega
  simp only[Tryz.f8,Ka,simprocAttr,Uy,Ke,U2,h0,hn];simp only[jaW,jay,jaV];rw[<- e1]
end Go.Proofs.YtpclebdkhpapjaaGreatDoor.T
namespace Go.Proofs.YtpclebdkhpapjaaGreatDoor.A
open Go.Ab
set_option maxHeartbeats 8000000
set_option maxRecDepth 1000000
def k1:RTab:=[(20,[(asciiV "count from t with factor 2 bits 8"),(.agg [(.int .i64 1),.nilsl,(.int .i64 0),(.int .i64 0),(.int .i64 0),(.int .i64 0),(asciiV ""),(.int .i64 0),.nilsl,(.int .i64 0),(.bool false),(asciiV "t"),(.int .i64 0),(asciiV ""),(asciiV ""),(asciiV ""),(.int .i64 0),.nilsl,(asciiV "2"),(.int .i64 8)])],(.bool true)),
 (20,[(asciiV "sum a - 1 * b between -3 and 4 from t keep 2 where not a < 3 or c = 'red' with factor 6/4 bits 8"),(.agg [(.int .i64 2),(.row [(.int .i64 2),(.int .i64 0),(asciiV "a"),(.int .i64 1),(.int .i64 1),(asciiV ""),(.int .i64 2),(.int .i64 0),(asciiV "b"),(.int .i64 6),(.int .i64 0),(asciiV ""),(.int .i64 5),(.int .i64 0),(asciiV "")] 5 .full),(.int .i64 (-3)),(.int .i64 4),(.int .i64 0),(.int .i64 0),(asciiV ""),(.int .i64 0),.nilsl,(.int .i64 0),(.bool false),(asciiV "t"),(.int .i64 2),(asciiV ""),(asciiV ""),(asciiV ""),(.int .i64 0),(.row [(.int .i64 2),(.int .i64 0),(asciiV "a"),(.int .i64 1),(.int .i64 3),(asciiV ""),(.int .i64 11),(.int .i64 0),(asciiV ""),(.int .i64 17),(.int .i64 0),(asciiV ""),(.int .i64 2),(.int .i64 0),(asciiV "c"),(.int .i64 3),(.int .i64 0),(asciiV "red"),(.int .i64 9),(.int .i64 0),(asciiV ""),(.int .i64 16),(.int .i64 0),(asciiV "")] 8 .full),(asciiV "3/2"),(.int .i64 8)])],(.bool true)),
 (40,[(asciiV "count from t keep 0 with factor 2 bits 8"),(.int .i64 2),(.int .i64 18)],(.bool true))]
def k2:RTab:=[(20,[(asciiV "batch a 1..3, -2..2 using tree from t join u on a = b limit 2 with factor 2 bits 8"),(.agg [(.int .i64 10),.nilsl,(.int .i64 0),(.int .i64 0),(.int .i64 0),(.int .i64 0),(asciiV "a"),(.int .i64 0),(.row [(.int .i64 1),(.int .i64 3),(.int .i64 (-2)),(.int .i64 2)] 2 .full),(.int .i64 2),(.bool false),(asciiV "t"),(.int .i64 0),(asciiV "u"),(asciiV "a"),(asciiV "b"),(.int .i64 2),.nilsl,(asciiV "2"),(.int .i64 8)])],(.bool true)),
 (20,[(asciiV "total if a = 1 then b else 2 between 0 and 9 by c from t with factor 2 bits 8"),(.agg [(.int .i64 4),(.row [(.int .i64 2),(.int .i64 0),(asciiV "a"),(.int .i64 1),(.int .i64 1),(asciiV ""),(.int .i64 9),(.int .i64 0),(asciiV ""),(.int .i64 2),(.int .i64 0),(asciiV "b"),(.int .i64 1),(.int .i64 2),(asciiV ""),(.int .i64 8),(.int .i64 0),(asciiV "")] 6 .full),(.int .i64 0),(.int .i64 9),(.int .i64 0),(.int .i64 0),(asciiV "c"),(.int .i64 0),.nilsl,(.int .i64 0),(.bool false),(asciiV "t"),(.int .i64 0),(asciiV ""),(asciiV ""),(asciiV ""),(.int .i64 0),.nilsl,(asciiV "2"),(.int .i64 8)])],(.bool true)),
 (40,[(asciiV ""),(.int .i64 11),(.int .i64 0)],(.bool true)),
 (40,[(asciiV "count"),(.int .i64 11),(.int .i64 5)],(.bool true))]
def k3:RTab:=[(40,[(asciiV "count from t with factor 2 bits 8 x"),(.int .i64 11),(.int .i64 34)],(.bool true)),
 (40,[(asciiV "count from t with factor 2/0 bits 8"),(.int .i64 6),(.int .i64 27)],(.bool true)),
 (40,[(asciiV "count from t where a + 1 = 'red' with factor 2 bits 8"),(.int .i64 11),(.int .i64 27)],(.bool true)),
 (40,[(asciiV "peak a from t with factor 2 bits 8 consistent"),(.int .i64 11),(.int .i64 35)],(.bool true))]
theorem jy5:∀p∈k1,jfi env p.1 p.2.1 p.2.2:=jj1 env_ok (S0:=[]) (by simp) (k:=80) (by kernel_rfl)
theorem jA0:∀p∈k2,jfi env p.1 p.2.1 p.2.2:=jj1 env_ok (S0:=[]) (by simp) (k:=80) (by kernel_rfl)
theorem jA1:∀p∈k3,jfi env p.1 p.2.1 p.2.2:=jj1 env_ok (S0:=[]) (by simp) (k:=80) (by kernel_rfl)
theorem awake_row:jfi env 13 [] (.bool true):=jfi.untab (T:=k1) (jfj (env_ok.tab jy5) rfl (k:=80) (by kernel_rfl))
end Go.Proofs.YtpclebdkhpapjaaGreatDoor.A
namespace Go.Proofs.YtpclebdkhpapjaaGreatDoor
open Go.Ab
set_option maxHeartbeats 8000000
set_option maxRecDepth 100000
def jvv:List V->Option V
 | []=>some (.bool true)
 |_=>none
noncomputable def jtS(args:List V):Option V :=
 match args with
 | [.str s,.str t]=>if s=A.mil/\t=A.mil then some (.tup [.str [49],.int .i64 0])else jgt R.env 67 args
 |_=>none
def jkm:List Nat:=[10,11,9,12,16,17,18,20,21,34,35,40,41]
def jxs:List Nat:=[8,14,19]
noncomputable def jy6(f:FuncId):Option (List V->Option V):=match memN f jxs with|true=>some (jgt T.env f)|false=>match Nat.beq f 65 with|true=>some (jgt I.env f)|false=>match Nat.beq f 13 with|true=>some jvv|false=>match Nat.beq f 67 with|true=>some jtS|false=>none
noncomputable def env:Env:={ P:=Tryz.prog,pure:=λf=>memN f jkm,mutb:=λf _=>false,gl:=glV,hook:=jy6,stab:=λf r=>(f==10 && (r==7 ||r==3)) ||(f==22 && r==3) ||(f==23 && r==3) ||(f==28 && r==9) ||(f==57 && r==5) ||(f==161 && (r==2 ||r==4)) }
theorem env_ok:env.Ok :=
  { mixed:=by kernel_rfl
    glc:=jlD
    hook := fun f g h=>by
      simp only[env,jy6]at h;split at h
      · simp only[Kg]at h
        subst h;intro args v hv Y O w xs hw hg hx;exact jfP T.env_ok hv hw hg hx
      · split at h
        · simp only[Kg]at h
          subst h;intro args v hv Y O w xs hw hg hx;exact jfP I.env_ok hv hw hg hx
        split at h
        · rename_i hf
          have e:=Qw hf;subst e;simp only[Kg]at h;subst h;intro args v hv Y O w xs hw hg hx;unfold jvv at hv;split at hv
          · simp only[Kg]at hv
            subst hv;exact A.awake_row Y O w xs hw hg hx
          · simp at hv
        split at h
        · rename_i hf
          have e:=Qw hf;subst e;simp only[Kg]at h;subst h;intro args v hv Y O w xs hw hg hx;unfold jtS at hv;split at hv
          · split at hv
            · rename_i hs
              obtain⟨rfl,rfl⟩:=hs;simp only[Kg]at hv;subst hv;exact A.mil_row Y O w xs hw hg hx
            · exact jfP R.env_ok hv hw hg hx
          · simp at hv
        · simp at h }
theorem jtT {args:List V}{v:V}(h:∀O,jas I.env (ev I.env) 65 args O=some (v,O))(rec:Task->Option Res)(O:S):jas env rec 65 args O=some (v,O):=by
 have hf:env.hook 65=some (jgt I.env 65):=rfl;unfold jas;rw[hf];simp only[jfO h,Kx]
theorem jqS {f:FuncId}{args:List V}{v:V}(hf:env.hook f=some (jgt T.env f))(h:∀O,jas T.env (ev T.env) f args O=some (v,O))(rec:Task->Option Res)(O:S):jas env rec f args O=some (v,O):=by
 unfold jas;rw[hf];simp only[jfO h,Kx]
end Go.Proofs.YtpclebdkhpapjaaGreatDoor
