/- Proved here: sums of some lengths. Conditions: those of each theorem; no statement of the seat is proved in this text. -/
import Derived.Test.YtpclebdkhpapjaaGreatDoorTkB
set_option linter.unusedSimpArgs false
set_option linter.unusedVariables false
set_option linter.unusedSectionVars false
namespace Go.Proofs.YtpclebdkhpapjaaGreatDoor.T
open Go.Ab
namespace TM
set_option maxHeartbeats 8000000
set_option maxRecDepth 100000
set_option linter.unusedSimpArgs false
set_option linter.unusedVariables false
set_option linter.unusedSectionVars false
theorem u3:env.P.underlying 3=some (.int .i64):=by kernel_rfl
theorem u9:env.P.underlying 9=some .string:=by kernel_rfl
theorem u5:env.P.underlying 5=some (.int .u8):=by kernel_rfl
theorem u97:env.P.underlying 77=some (.slice 5):=by kernel_rfl
theorem s5:sz env 5=some 1:=by kernel_rfl
theorem b5:bys env 5=some 1:=by kernel_rfl
theorem e97:je7 env 77=some 5:=by kernel_rfl
theorem z5:ji5 env 5=some 1:=by kernel_rfl
theorem zv5:∃ z,jbV env 5=some z∧z.cells.length=1:=⟨.int .u8 0,by kernel_rfl,rfl⟩
theorem tys:env.P.underlying 3=some (.int .i64)∧env.P.underlying 9=some .string∧env.P.underlying 77=some (.slice 5):=⟨u3,u9,u97⟩
theorem mb (r:Nat):env.mutb 14 r=false:=rfl
theorem stb (r:Nat):env.stab 14 r=false:=rfl
theorem at14:env.P.funcs[14]? = some Tryz.f14:=by kernel_rfl
def repS (n:Nat)(s:List UInt8):List UInt8:=(List.replicate n s).flatten
theorem repS_len (n:Nat)(s:List UInt8):(repS n s).length=n * s.length:=by
 simp [repS]
theorem jq1 (n:Nat)(s:List UInt8):repS (n+1) s=repS n s++s:=by
 unfold repS
 rw [List.replicate_succ',List.flatten_append]
 simp
theorem jb6:∀ s:List UInt8,jci (jav s)=some s
 | []=>rfl
 | b::s=>by
  have h:=jb6 s
  unfold jav at h ⊢
  simp only [Je,jci,h,Kz,Kf,Jn,and_true]
  simp
noncomputable def mkO (σ:S)(v:V):Option (V × S):=jbt env false (fun o=>match o with | .const c=>jak c | _=>some v) σ (.makeSlice 77 (.const (.int .i64 0)) (.tmp 0))
theorem jtM {T:Tm}{σ:S}(x:Operand):opT env false T σ (.makeSlice 77 (.const (.int .i64 0)) x)=(jaj env T x).bind (mkO σ):=by
 have e:opT env false T σ (.makeSlice 77 (.const (.int .i64 0)) x)=jbt env false (jaj env T) σ (.makeSlice 77 (.const (.int .i64 0)) x):=rfl
 rw [e]
 unfold mkO
 simp only [jbt]
 cases jaj env T x <;> rfl
theorem jtN {σ:S}{c:Int}(h1:0<c)(h2:c≤lim):mkO σ (.int .i64 c)=some (.row [] 0 (.tok σ.toks.length 0 1),⟨σ.heap,σ.toks++[0]⟩):=by
 obtain ⟨z,hz,hl⟩:=zv5
 have h3:¬ (0:Int)=c:=by omega
 have h4:¬ c.toNat=0:=by omega
 have h5:(0:Int)≤c:=by omega
 have h6:c * ((1:Nat):Int)≤(lim:Int):=by omega
 unfold mkO
 simp only [jbt,jak,jaf,Ko,e97,s5,b5,hz,hl,Qk,h4,h5,h2,h3,h6,Kg,Kh,and_self,true_and,or_false,Int.le_refl,Kk,Jv,Ji]
theorem ja6 {s:List UInt8}:jdG (some .string) (.str s)=some (.int .i64 s.length):=rfl
theorem jqv {hp:List AObj}{ts:List Nat}{cs:List V}{k e:Nat}(hk:ts[k]? = some e){s:List UInt8}(hn:s.length ≠ 0)(hb:cs.length+s.length≤lim) :
  appO env false ⟨hp,ts⟩ 77 9 (.row cs cs.length (.tok k e 1)) (.str s)=some (.row (cs++jav s) (cs++jav s).length (.tok k (e+1) 1),⟨hp,ts.set k (e+1)⟩):=by
 have hc:(jav s).all V.isCell=true:=by
  simp [jav,V.isCell]
 have hv:jbs hp 1 s.length (.str s)=some (jav s):=by simp [jbs,jav]
 have hl:(jav s).length=s.length:=by simp [jav]
 unfold appO
 simp only [e97,s5,b5,u9,z5,vLen,hv,Ko,Kh]
 simp only [jbT,hn,Kg,hb,hc,hk,Qk,and_self,Kh,Ks,hl]
theorem jsi {hp:List AObj}{ts:List Nat}{s:List UInt8}{c:RCap}{a b:TypeId}:jkm env ⟨hp,ts⟩ a b (some (.slice 5)) (some .string) (.row (jav s) (jav s).length c)=some (.str s,⟨hp,ts⟩):=by
 have hv:jbs hp 1 (jav s).length (.row (jav s) (jav s).length c)=some (jav s):=by simp [jbs]
 simp [jkm,jpv,jpw,u5,hv,jb6]
theorem times_ok (s:List UInt8)(n:Nat)(hs:s.length ≠ 0)(hs2:s.length≤1000)(h1:1≤n)(h2:n≤10000)(σ:S):jaC env (ev env) 14 [.str s,.int .i64 n] σ=some (.str (repS n s),σ):=by
 refine jaF rfl rfl rfl at14 rfl (by simp [Tryz.f14]) (by simp [Tryz.f14]) (jaE ?_) σ
 have c1:(n:Int) > 0:=by omega
 have hm:0<(n:Int) * (s.length:Int)∧(n:Int) * (s.length:Int)≤10000000:=by
  have h3:n * s.length≤10000 * 1000:=Nat.mul_le_mul h2 hs2
  have h4:0<n * s.length:=Nat.mul_pos (by omega) (by omega)
  have h5:((n * s.length:Nat):Int)=(n:Int) * (s.length:Int):=by simp
  omega
 have e1:IntKind.i64.wrap ((n:Int) * (s.length:Int))=(n:Int) * (s.length:Int):=Go.IntWalk.i64_in _ (by omega)
 have c2:0<(n:Int) * (s.length:Int)∧(n:Int) * (s.length:Int)≤((lim:Nat):Int):=⟨hm.1,by unfold lim; omega⟩
 simp only [Tryz.f14,Za,Zb,Zc,Zd,Ze,Zf,Zg,Zh,Zi,Zj,Zk,Zl,Zm,Zn,Zo,Zp,Zq,Zr,Zs,Zt,Zu,Zv,Zw,Zx,Zy,Zz,ZA,ZB,ZC,ZE,ZF,ZG,ZH,ZI,ZJ,ZK,ZL,ZM,ZN,ZO,ZP,ZQ,ZR,ZS,ZT,ZU,ZV,ZW,ZX,ZY,ZZ,Z0,Z1,Z2,Z3,Z4,Z5,Z6,jaj,Z7,Nat.reduceLT,Nat.reduceEqDiff,Kh,Kg,reduceIte,true_and,Z8,Z9,jeV,Ya,jd3,Yb,Yc,Yd,Ye,Yf,Yg,Yh,Yi,Yj,Yk,Yl,Ym,Yn,Yo,Yp,Yq,Yr,Ys,Yt,Yu,Yv,Yw,jak,jaf,argT,ZL1,resT,Yx,Yy,Qk,Yz,YA,YB,YC,YD,YE,YF,YG,YH,YI,YJ,setT,YK,YL,YM,YN,YO,Xw,YP,YQ,YR,YS,YT,YU,YV,YW,YX,Jc,YY,YZ,Y0,Y1,Y2,Y3,K1,Kk,Int.reduceEq,Int.reduceLT,Int.reduceLE,Int.reduceNeg,Jl,and_self,Y4,Y5,Xo,J6,not_true_eq_false,decide_true,decide_false,true_implies,false_implies,Jv,K0,K6,K4,mb,Nat.reduceBEq,Jh,Xg,Y6,tys,stb,Y7,Y8,Y9,Qa,Qb,Qc,ZB1,Qd,Qe,jtM,c1,e1,jtN hm.1 (show (n:Int) * (s.length:Int)≤((lim:Nat):Int) by unfold lim; omega),S.empty,ja6]
 have hw:∀ i:Nat,jav (repS (i+1) s)=jav (repS i s)++jav s:=by
  intro i; rw [jq1]; simp [jav]
 have hbl:∀ i:Nat,(jav (repS i s)).length=i * s.length:=by
  intro i; simp only [jav,Jo,repS_len]
 refine jcf (fun m T D σ=>D=[]∧σ.heap=[]∧∃ i k e:Nat,T 0=.str s∧T 1=.int .i64 n∧T 6=.int .i64 i∧i≤n∧m=n - i ∧
  T 5=.row (jav (repS i s)) (jav (repS i s)).length (.tok k e 1)∧σ.toks[k]? = some e) ?_ _ _ _ _ ⟨rfl,rfl,0,0,0,rfl,rfl,rfl,by omega,rfl,rfl,rfl⟩
 rintro m T D ⟨hp,ts⟩ ⟨rfl,hh,i,k,e,t0,t1,t6,hi,rfl,t5,hk⟩
 simp only at hh hk
 subst hh
 refine jaE ?_
 by_cases hlt:i<n
 ·have d1:(i:Int)<(n:Int):=by omega
  have d2:IntKind.i64.wrap ((i:Int)+1)=((i+1:Nat):Int):=by rw [wrap_i64 (by omega) (by omega)]; omega
  have hsm:i * s.length≤10000 * 1000:=Nat.mul_le_mul (by omega) hs2
  have hb:(jav (repS i s)).length+s.length≤lim:=by rw [hbl]; unfold lim; omega
  simp only [Za,Zb,Zc,Zd,Ze,Zf,Zg,Zh,Zi,Zj,Zk,Zl,Zm,Zn,Zo,Zp,Zq,Zr,Zs,Zt,Zu,Zv,Zw,Zx,Zy,Zz,ZA,ZB,ZC,ZE,ZF,ZG,ZH,ZI,ZJ,ZK,ZL,ZM,ZN,ZO,ZP,ZQ,ZR,ZS,ZT,ZU,ZV,ZW,ZX,ZY,ZZ,Z0,Z1,Z2,Z3,Z4,Z5,Z6,jaj,Z7,Nat.reduceLT,Nat.reduceEqDiff,Kh,Kg,reduceIte,true_and,Z8,Z9,jeV,Ya,jd3,Yb,Yc,Yd,Ye,Yf,Yg,Yh,Yi,Yj,Yk,Yl,Ym,Yn,Yo,Yp,Yq,Yr,Ys,Yt,Yu,Yv,Yw,jak,jaf,argT,ZL1,resT,Yx,Yy,Qk,Yz,YA,YB,YC,YD,YE,YF,YG,YH,YI,YJ,setT,YK,YL,YM,YN,YO,Xw,YP,YQ,YR,YS,YT,YU,YV,YW,YX,Jc,YY,YZ,Y0,Y1,Y2,Y3,K1,Kk,Int.reduceEq,Int.reduceLT,Int.reduceLE,Int.reduceNeg,Jl,and_self,Y4,Y5,Xo,J6,not_true_eq_false,decide_true,decide_false,true_implies,false_implies,Jv,K0,K6,K4,mb,Nat.reduceBEq,Jh,Xg,Y6,tys,stb,Y7,Y8,Y9,Qa,Qb,Qc,ZB1,Qd,Qe,t0,t1,t5,t6,d1,d2,jqv hk hs hb]
  refine ⟨n - (i+1),by omega,i+1,k,e+1,rfl,by omega,rfl,?_,?_⟩
  ·rw [hw]
  ·have:k<ts.length:=by
    rcases K7 k ts.length with h1 | h1
    ·exact h1
    ·rw [K5 h1] at hk; simp at hk
   simp [this]
 ·have d1:¬ (i:Int)<(n:Int):=by omega
  obtain rfl:i=n:=by omega
  simp only [Za,Zb,Zc,Zd,Ze,Zf,Zg,Zh,Zi,Zj,Zk,Zl,Zm,Zn,Zo,Zp,Zq,Zr,Zs,Zt,Zu,Zv,Zw,Zx,Zy,Zz,ZA,ZB,ZC,ZE,ZF,ZG,ZH,ZI,ZJ,ZK,ZL,ZM,ZN,ZO,ZP,ZQ,ZR,ZS,ZT,ZU,ZV,ZW,ZX,ZY,ZZ,Z0,Z1,Z2,Z3,Z4,Z5,Z6,jaj,Z7,Nat.reduceLT,Nat.reduceEqDiff,Kh,Kg,reduceIte,true_and,Z8,Z9,jeV,Ya,jd3,Yb,Yc,Yd,Ye,Yf,Yg,Yh,Yi,Yj,Yk,Yl,Ym,Yn,Yo,Yp,Yq,Yr,Ys,Yt,Yu,Yv,Yw,jak,jaf,argT,ZL1,resT,Yx,Yy,Qk,Yz,YA,YB,YC,YD,YE,YF,YG,YH,YI,YJ,setT,YK,YL,YM,YN,YO,Xw,YP,YQ,YR,YS,YT,YU,YV,YW,YX,Jc,YY,YZ,Y0,Y1,Y2,Y3,K1,Kk,Int.reduceEq,Int.reduceLT,Int.reduceLE,Int.reduceNeg,Jl,and_self,Y4,Y5,Xo,J6,not_true_eq_false,decide_true,decide_false,true_implies,false_implies,Jv,K0,K6,K4,mb,Nat.reduceBEq,Jh,Xg,Y6,tys,stb,Y7,Y8,Y9,Qa,Qb,Qc,ZB1,Qd,Qe,t0,t1,t5,t6,d1,jsi]
  simp [ja4,jaB,jbu,V.closed]
end TM
set_option maxHeartbeats 8000000
set_option maxRecDepth 1000000
def asc (s:String):List UInt8:=s.toList.map fun c=>UInt8.ofNat c.toNat
def rep (n:Nat)(s:List UInt8):List UInt8:=TM.repS n s
def sumT (n:Nat):List UInt8:=asc "sum a" ++ (rep (n - 1) (asc "+a")++asc " between 0 and 1 from t with factor 2 bits 8")
def batT (n:Nat):List UInt8:=asc "batch a " ++ (rep (n - 1) (asc "1..2,")++asc "1..2 using prefix from t with factor 2 bits 8")
def okSum (itoa:Int→List UInt8)(mk:Int→Int→List UInt8)(n:Nat):Bool :=
 match toksD (sumT n) with
 | (l,none)=>Nat.ble l.length 4000 && match PP.parseP (l.map tkOf) (sumT n).length itoa mk with
  | .ok q=>Nat.ble n 100 && Nat.beq q.expr.length (2 * n - 1)
  | .error e=>Nat.ble 101 n && (e == (4,4))
 | _=>false
def okBat (itoa:Int→List UInt8)(mk:Int→Int→List UInt8)(n:Nat):Bool :=
 match toksD (batT n) with
 | (l,none)=>Nat.ble l.length 4000 && match PP.parseP (l.map tkOf) (batT n).length itoa mk with
  | .ok q=>Nat.ble n 64 && Nat.beq q.ranges.length n
  | .error e=>Nat.ble 65 n && (e == (4,328))
 | _=>false
theorem at8:env.P.funcs[8]? = some Tryz.f8:=by kernel_rfl
theorem pick_call (x:Int)(n:Nat)(h1:1≤n)(h2:n≤2 ^ 40):∃ k:Nat,k<n∧∀ σ,jaC env (ev env) 8 [.int .i64 x,.int .i64 n] σ=some (.int .i64 k,σ):=by
 have hb:=Int.tmod_lt_of_pos x (show (0:Int)<(n:Int) by omega)
 have hb2 : -(n:Int)<x.tmod n:=by
  have:=Int.tmod_lt_of_pos (-x) (show (0:Int)<(n:Int) by omega)
  rw [Int.neg_tmod] at this; omega
 have hn:((n:Int)=0)=False:=eq_false (by omega)
 by_cases h0:x.tmod n<0
 ·refine ⟨(x.tmod n+n).toNat,by omega,fun σ=>jaF rfl rfl rfl at8 rfl (by simp [Tryz.f8]) (by simp [Tryz.f8]) (jaE ?_) σ⟩
  have e1:IntKind.i64.wrap (x.tmod n+n)=(((x.tmod n+n).toNat:Nat):Int):=by rw [wrap_i64 (by omega) (by omega)]; omega
  simp -implicitDefEqProofs only [Tryz.f8,Kb,jaj,Nat.reduceLT,Nat.reduceEqDiff,Kh,Kg,reduceIte,Ys,jak,jaf,argT,resT,setT,Y0,Int.reduceEq,Int.reduceLT,Int.reduceLE,Int.reduceNeg,mb,Nat.reduceBEq,tys,stb,jaU,h0,hn,e1]
  simp only [ja4,jaB,ja1]
 ·refine ⟨(x.tmod n).toNat,by omega,fun σ=>jaF rfl rfl rfl at8 rfl (by simp [Tryz.f8]) (by simp [Tryz.f8]) (jaE ?_) σ⟩
  have e1:x.tmod n=(((x.tmod n).toNat:Nat):Int):=by omega
  simp -implicitDefEqProofs only [Tryz.f8,Kb,jaj,Nat.reduceLT,Nat.reduceEqDiff,Kh,Kg,reduceIte,Ys,jak,jaf,argT,resT,setT,Y0,Int.reduceEq,Int.reduceLT,Int.reduceLE,Int.reduceNeg,mb,Nat.reduceBEq,tys,stb,jaU,h0,hn]
  simp only [ja4,jaB,ja1]
  rw [← e1]
theorem okSum_90 (itoa mk):okSum itoa mk 90=true:=by kernel_rfl
theorem okSum_91 (itoa mk):okSum itoa mk 91=true:=by kernel_rfl
theorem okSum_92 (itoa mk):okSum itoa mk 92=true:=by kernel_rfl
theorem okSum_93 (itoa mk):okSum itoa mk 93=true:=by kernel_rfl
theorem okSum_94 (itoa mk):okSum itoa mk 94=true:=by kernel_rfl
theorem okSum_95 (itoa mk):okSum itoa mk 95=true:=by kernel_rfl
theorem okSum_96 (itoa mk):okSum itoa mk 96=true:=by kernel_rfl
theorem okSum_97 (itoa mk):okSum itoa mk 97=true:=by kernel_rfl
theorem okSum_98 (itoa mk):okSum itoa mk 98=true:=by kernel_rfl
theorem okSum_99 (itoa mk):okSum itoa mk 99=true:=by kernel_rfl
theorem okSum_100 (itoa mk):okSum itoa mk 100=true:=by kernel_rfl
theorem okSum_101 (itoa mk):okSum itoa mk 101=true:=by kernel_rfl
theorem okSum_102 (itoa mk):okSum itoa mk 102=true:=by kernel_rfl
theorem okSum_103 (itoa mk):okSum itoa mk 103=true:=by kernel_rfl
theorem okSum_104 (itoa mk):okSum itoa mk 104=true:=by kernel_rfl
theorem okSum_105 (itoa mk):okSum itoa mk 105=true:=by kernel_rfl
theorem okSum_106 (itoa mk):okSum itoa mk 106=true:=by kernel_rfl
theorem okSum_107 (itoa mk):okSum itoa mk 107=true:=by kernel_rfl
theorem okSum_108 (itoa mk):okSum itoa mk 108=true:=by kernel_rfl
theorem okSum_109 (itoa mk):okSum itoa mk 109=true:=by kernel_rfl
theorem okSum_110 (itoa mk):okSum itoa mk 110=true:=by kernel_rfl
end Go.Proofs.YtpclebdkhpapjaaGreatDoor.T
