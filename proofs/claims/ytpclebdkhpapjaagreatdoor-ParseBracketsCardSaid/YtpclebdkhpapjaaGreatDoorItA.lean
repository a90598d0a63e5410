/- Proved here: numbers that are written in digits. Conditions: those of each theorem; no statement of the seat is proved in this text. -/
import Derived.Test.YtpclebdkhpapjaaGreatDoorTkA
set_option linter.unusedSimpArgs false
set_option linter.unusedVariables false
set_option linter.unusedSectionVars false
namespace Go.Proofs.YtpclebdkhpapjaaGreatDoor.I
open Go.Ab
set_option maxHeartbeats 8000000
set_option maxRecDepth 100000
def jkm:List Nat:=[177,211,65,97,133,163,164,205,189,190,191]
noncomputable def env:Env:={ P:=Tryz.prog,pure:=λf=>memN f jkm,mutb:=λf _=>f==224,gl:=glV,hook:=λ_=>none }
theorem env_ok:env.Ok:={ mixed:=by kernel_rfl,glc:=jlD,hook:=λf g h=>by simp[env]at h }
theorem jpe(h:List AObj)(v:V)(r:List V):(jai h 1 (.rptr (v::r))).bind (·[0]?)=some v:=by
 simp[jai]
theorem mb(f:FuncId)(r:Nat)(h:(f==224)=false):env.mutb f r=false:=h
theorem stb(f:FuncId)(r:Nat):env.stab f r=false:=rfl
theorem u9:env.P.underlying 9=some .string:=by kernel_rfl
theorem u3:env.P.underlying 3=some (.int .i64):=by kernel_rfl
theorem u2:env.P.underlying 2=some (.int .i64):=by kernel_rfl
theorem u5:env.P.underlying 5=some (.int .u8):=by kernel_rfl
theorem u151:env.P.underlying 159=some (.int .u64):=by kernel_rfl
theorem u174:env.P.underlying 198=some (.int .u32):=by kernel_rfl
theorem u97:env.P.underlying 77=some (.slice 5):=by kernel_rfl
theorem u140:env.P.underlying 211=some (.int .i64):=by kernel_rfl
theorem u115:env.P.underlying 194=some (.int .u64):=by kernel_rfl
theorem u173:env.P.underlying 197=some (.array 20 159):=by kernel_rfl
theorem tys:env.P.underlying 3=some (.int .i64)/\env.P.underlying 4=some .bool/\env.P.underlying 5=some (.int .u8)/\env.P.underlying 9=some .string/\env.P.underlying 2=some (.int .i64)/\env.P.underlying 159=some (.int .u64)/\env.P.underlying 198=some (.int .u32)/\env.P.underlying 77=some (.slice 5) /\
  env.P.underlying 194=some (.int .u64)/\env.P.underlying 211=some (.int .i64)/\sz env 5=some 1/\sz env 9=some 1/\sz env 3=some 1/\sz env 159=some 1:=by
 exact⟨u3,by kernel_rfl,u5,u9,u2,u151,u174,u97,u115,u140,by kernel_rfl,by kernel_rfl,by kernel_rfl,by kernel_rfl⟩
theorem Ke:type_of% (Kf @mb (Kf @stb @tys)):=Kf @mb (Kf @stb @tys)
def smX:List UInt8:=(48::48::48::49::48::50::48::51::48::52::48::53::48::54::48::55::48::56::48::57::49::48::49::49::49::50::49::51::49::52::49::53::49::54::49::55::49::56::49::57::50::48::50::49::50::50::50::51::50::52::50::53::50::54::50::55::50::56::50::57::51::48::51::49::51::50::51::51::51::52::51::53::51::54::51::55::51::56::51::57::52::48::52::49::52::50::52::51::52::52::52::53::52::54::52::55::52::56::52::57::53::48::53::49::53::50::53::51::53::52::53::53::53::54::53::55::53::56::53::57::54::48::54::49::54::50::54::51::54::52::54::53::54::54::54::55::54::56::54::57::55::48::55::49::55::50::55::51::55::52::55::53::55::54::55::55::55::56::55::57::56::48::56::49::56::50::56::51::56::52::56::53::56::54::56::55::56::56::56::57::57::48::57::49::57::50::57::51::57::52::57::53::57::54::57::55::57::56::57::57::[])
def l8X:List UInt8:=(0::1::2::2::3::3::3::3::4::4::4::4::4::4::4::4::5::5::5::5::5::5::5::5::5::5::5::5::5::5::5::5::6::6::6::6::6::6::6::6::6::6::6::6::6::6::6::6::6::6::6::6::6::6::6::6::6::6::6::6::6::6::6::6::7::7::7::7::7::7::7::7::7::7::7::7::7::7::7::7::7::7::7::7::7::7::7::7::7::7::7::7::7::7::7::7::7::7::7::7::7::7::7::7::7::7::7::7::7::7::7::7::7::7::7::7::7::7::7::7::7::7::7::7::7::7::7::7::8::8::8::8::8::8::8::8::8::8::8::8::8::8::8::8::8::8::8::8::8::8::8::8::8::8::8::8::8::8::8::8::8::8::8::8::8::8::8::8::8::8::8::8::8::8::8::8::8::8::8::8::8::8::8::8::8::8::8::8::8::8::8::8::8::8::8::8::8::8::8::8::8::8::8::8::8::8::8::8::8::8::8::8::8::8::8::8::8::8::8::8::8::8::8::8::8::8::8::8::8::8::8::8::8::8::8::8::8::8::8::8::8::8::8::8::8::8::8::8::8::8::8::8::8::8::8::8::[])
theorem smK(T:Tm):jaK env T (.const (.string ⟨(48::48::48::49::48::50::48::51::48::52::48::53::48::54::48::55::48::56::48::57::49::48::49::49::49::50::49::51::49::52::49::53::49::54::49::55::49::56::49::57::50::48::50::49::50::50::50::51::50::52::50::53::50::54::50::55::50::56::50::57::51::48::51::49::51::50::51::51::51::52::51::53::51::54::51::55::51::56::51::57::52::48::52::49::52::50::52::51::52::52::52::53::52::54::52::55::52::56::52::57::53::48::53::49::53::50::53::51::53::52::53::53::53::54::53::55::53::56::53::57::54::48::54::49::54::50::54::51::54::52::54::53::54::54::54::55::54::56::54::57::55::48::55::49::55::50::55::51::55::52::55::53::55::54::55::55::55::56::55::57::56::48::56::49::56::50::56::51::56::52::56::53::56::54::56::55::56::56::56::57::57::48::57::49::57::50::57::51::57::52::57::53::57::54::57::55::57::56::57::57::[]).toArray⟩))=some (.str smX):=rfl
theorem l8K(T:Tm):jaK env T (.const (.string ⟨(0::1::2::2::3::3::3::3::4::4::4::4::4::4::4::4::5::5::5::5::5::5::5::5::5::5::5::5::5::5::5::5::6::6::6::6::6::6::6::6::6::6::6::6::6::6::6::6::6::6::6::6::6::6::6::6::6::6::6::6::6::6::6::6::7::7::7::7::7::7::7::7::7::7::7::7::7::7::7::7::7::7::7::7::7::7::7::7::7::7::7::7::7::7::7::7::7::7::7::7::7::7::7::7::7::7::7::7::7::7::7::7::7::7::7::7::7::7::7::7::7::7::7::7::7::7::7::7::8::8::8::8::8::8::8::8::8::8::8::8::8::8::8::8::8::8::8::8::8::8::8::8::8::8::8::8::8::8::8::8::8::8::8::8::8::8::8::8::8::8::8::8::8::8::8::8::8::8::8::8::8::8::8::8::8::8::8::8::8::8::8::8::8::8::8::8::8::8::8::8::8::8::8::8::8::8::8::8::8::8::8::8::8::8::8::8::8::8::8::8::8::8::8::8::8::8::8::8::8::8::8::8::8::8::8::8::8::8::8::8::8::8::8::8::8::8::8::8::8::8::8::8::8::8::8::8::[]).toArray⟩))=some (.str l8X):=rfl
theorem jtA:smX.length=200:=by decide +kernel
theorem jyJ:∀k,k<100->smX.getD (2*k) 0=UInt8.ofNat (48+k/10)/\smX.getD (2*k+1) 0=UInt8.ofNat (48+k % 10):=by decide +kernel
theorem jyK:l8X.length=256:=by decide +kernel
theorem jAn:∀k,k<256->(l8X.getD k 0).toNat<=8/\k<2^(l8X.getD k 0).toNat/\((l8X.getD k 0).toNat=0\/2^((l8X.getD k 0).toNat-1)<=k):=by decide +kernel
theorem jnY:env.P.funcs[190]? = some Tryz.f190:=by kernel_rfl
theorem jAo:env.P.funcs[189]? = some Tryz.f189:=by kernel_rfl
theorem jAp:env.P.funcs[191]? = some Tryz.f191:=by kernel_rfl
theorem jyL:env.P.funcs[164]? = some Tryz.f164:=by kernel_rfl
theorem jAq:env.P.funcs[163]? = some Tryz.f163:=by kernel_rfl
theorem jnZ:Tryz.f190.name ≠ "runtime.NumGoroutine" := by
 have h:Tryz.f190.name = "math/bits.Len64" := rfl;rw[h];decide
theorem jn0:1<=Tryz.f190.ntmps:=by
 have h:Tryz.f190.ntmps=25:=rfl;rw[h];decide
theorem jAr(x b l:Nat)(h1:x/2^b<2^l)(h2:l=0\/2^(l-1)<=x/2^b)(h3:b=0\/0<x/2^b):x<2^(b+l)/\(b+l=0\/2^(b+l-1)<=x):=by
 have hp:0<2^b:=Nat.two_pow_pos b;have e1:x<2^l*2^b:=(Nat.div_lt_iff_lt_mul hp).1 h1;refine⟨by rw[Jv,Vt];exact e1,?_⟩
 rcases h2 with rfl|h2
 ·rcases h3 with rfl|h3
  ·exact .inl rfl
  ·rw[Vx]at h1;omega
 ·by_cases hl:l=0
  ·subst hl
   rcases h3 with rfl|h3
   ·exact .inl rfl
   ·rw[Vx]at h1;omega
  ·right;have e:b+l-1=(l-1)+b:=by omega
   rw[e,Vt];exact(Nat.le_div_iff_mul_le hp).1 h2
theorem jvb(x:Nat)(hx:x<2^64):∃n:Nat,(∀O,jas env (ev env) 190 [.int .u64 x] O=some (.int .i64 n,O))/\n<=64/\x<2^n/\(n=0\/2^(n-1)<=x):=by
 have key:∀b w:Nat,b<=56->w=x/2^b->w<256->(b=0\/0<w)->(b+(l8X.getD w 0).toNat<=64/\x<2^(b+(l8X.getD w 0).toNat)/\(b+(l8X.getD w 0).toNat=0\/2^(b+(l8X.getD w 0).toNat-1)<=x)) /\
   IntKind.u8.wrap (w:Int)=(w:Int)/\((0<=(w:Int)/\(w:Int)<(l8X.length:Int))=True)/\(w:Int).toNat=w/\IntKind.i64.wrap (((l8X.getD w 0).toNat:Nat):Int)=(((l8X.getD w 0).toNat:Nat):Int)/\IntKind.i64.wrap ((b:Int)+(((l8X.getD w 0).toNat:Nat):Int))=((b+(l8X.getD w 0).toNat:Nat):Int):=by
  intro b w hb hw hw2 hw3;obtain⟨h1,h2,h3⟩:=jAn w hw2;have hl:=jyK;refine⟨⟨by omega,jAr x b _ (by rw[<- hw];exact h2) (by rw[<- hw];exact h3) (by rw[<- hw];exact hw3)⟩,jhd (by omega) (by omega),eq_true ⟨by omega,by omega⟩,rfl,wrap_i64 (by omega) (by omega),?_⟩;rw[wrap_i64 (by omega) (by omega)];omega
 have sh:∀y k:Nat,k<64->Int.fdiv (y:Int) (2^min (Int.toNat (k:Int)) IntKind.u64.bits)=((y/2^k:Nat):Int):=λy k hk=>by
  have e:min (Int.toNat (k:Int)) IntKind.u64.bits=k:=by
   have:IntKind.u64.bits=64:=rfl;rw[this,K3];omega
  rw[e,V4 _ (Int.pow_nonneg (by omega))];simp
 have n32:((32:Nat):Int)=32:=rfl;have n16:((16:Nat):Int)=16:=rfl;have n8:((8:Nat):Int)=8:=rfl;have w16:IntKind.i64.wrap (0+16)=16:=by decide
 have w48:IntKind.i64.wrap (32+16)=48:=by decide
 have w8:IntKind.i64.wrap (0+8)=8:=by decide
 have w40:IntKind.i64.wrap (32+8)=40:=by decide
 have w24:IntKind.i64.wrap (16+8)=24:=by decide
 have w56:IntKind.i64.wrap (48+8)=56:=by decide
 have lt0:∀k:Int,0<=k->(k<0)=False:=λk h=>eq_false (by omega)
 have l32:=lt0 32 (by decide);have l16:=lt0 16 (by decide);have l8':=lt0 8 (by decide)
 -- the last step
 have fin:∀b w:Nat,b<=56->w=x/2^b->w<256->(b=0\/0<w)->∀bi:Int,bi=(b:Int) ->
   ∃n:Nat,IntKind.u8.wrap (w:Int)=(w:Int)/\((0<=(w:Int)/\(w:Int)<(l8X.length:Int))=True)/\IntKind.i64.wrap (((l8X.getD w 0).toNat:Nat):Int)=(((l8X.getD w 0).toNat:Nat):Int)/\IntKind.i64.wrap (bi+(((l8X.getD w 0).toNat:Nat):Int))=(n:Int)/\n<=64/\x<2^n/\(n=0\/2^(n-1)<=x):=by
  intro b w h1 h2 h3 h4 bi hbi;subst hbi;obtain⟨⟨k1,k2,k3⟩,k4,k5,k6,k7,k8⟩:=key b w h1 h2 h3 h4;exact⟨_,k4,k5,k7,k8,k1,k2,k3⟩
 have dd:∀a b:Nat,x/2^a/2^b=x/2^(a+b):=λa b=>by rw[Nat.div_div_eq_div_mul,<- Vt]
 by_cases h32:4294967296<=x
 ·have g32:((x:Int) >= 4294967296)=True:=eq_true (J0.2 h32)
  have s32:Int.fdiv (x:Int) (2^min (Int.toNat 32) IntKind.u64.bits)=((x/2^32:Nat):Int):=by
   have:=sh (x) 32 (by decide);exact this
  have p32:0<x/2^32:=by
   exact V5 h32 (by decide)
  have bd32:x/2^32<2^32:=by
   exact Jk hx
  by_cases h16:65536<=x/2^32
  ·have g16:(((x/2^32:Nat):Int) >= 65536)=True:=eq_true (J0.2 h16)
   have s16:Int.fdiv ((x/2^32:Nat):Int) (2^min (Int.toNat 16) IntKind.u64.bits)=((x/2^(32+16):Nat):Int):=by
    have:=sh (x/2^32) 16 (by decide);rw[dd]at this;exact this
   have p16:0<x/2^(32+16):=by
    rw[<- dd];exact V5 h16 (by decide)
   have bd16:x/2^(32+16)<2^16:=by
    rw[<- dd];exact Jk bd32
   by_cases h8:256<=x/2^(32+16)
   ·have g8:(((x/2^(32+16):Nat):Int) >= 256)=True:=eq_true (J0.2 h8)
    have s8:Int.fdiv ((x/2^(32+16):Nat):Int) (2^min (Int.toNat 8) IntKind.u64.bits)=((x/2^(32+16+8):Nat):Int):=by
     have:=sh (x/2^(32+16)) 8 (by decide);rw[dd]at this;exact this
    have p8:0<x/2^(32+16+8):=by
     rw[<- dd];exact V5 h8 (by decide)
    have bd8:x/2^(32+16+8)<2^8:=by
     rw[<- dd];exact Jk bd16
    obtain⟨n,k1,k2,k3,k4,k5,k6⟩:=fin 56 (x/2^(32+16+8)) (by decide) rfl bd8 (.inr p8) 56 rfl;refine⟨n,λO => ?_,k5,k6⟩;refine jau rfl rfl rfl jnY rfl jnZ (by exact jn0) (jar ?_) O;simp only[Tryz.f190,Ka,Nat.reduceLT,Nat.reduceEqDiff,Ku,Ks,reduceIte,Uy,Int.reduceEq,Int.reduceLT,Int.reduceLE,Int.reduceNeg,mb,Nat.reduceBEq,tys,stb,Vq,↓l8K,jap,jaG,jaE u9,jdC,Z5,g32,s32,g16,s16,g8,s8,l32,l16,l8',w16,w48,w8,w40,w24,w56,k1,k2,k3,k4];rfl
   ·have g8:(((x/2^(32+16):Nat):Int) >= 256)=False:=eq_false (λh=>h8 (J0.1 h));have bd8:x/2^(32+16)<2^8:=X4 h8;obtain⟨n,k1,k2,k3,k4,k5,k6⟩:=fin 48 (x/2^(32+16)) (by decide) rfl bd8 (.inr p16) 48 rfl;refine⟨n,λO => ?_,k5,k6⟩;refine jau rfl rfl rfl jnY rfl jnZ (by exact jn0) (jar ?_) O;simp only[Tryz.f190,Ka,Nat.reduceLT,Nat.reduceEqDiff,Ku,Ks,reduceIte,Uy,Int.reduceEq,Int.reduceLT,Int.reduceLE,Int.reduceNeg,mb,Nat.reduceBEq,tys,stb,Vq,↓l8K,jap,jaG,jaE u9,jdC,Z5,g32,s32,g16,s16,g8,l32,l16,l8',w16,w48,w8,w40,w24,w56,k1,k2,k3,k4];rfl
  ·have g16:(((x/2^32:Nat):Int) >= 65536)=False:=eq_false (λh=>h16 (J0.1 h));have bd16:x/2^32<2^16:=X4 h16;by_cases h8:256<=x/2^32
   ·have g8:(((x/2^32:Nat):Int) >= 256)=True:=eq_true (J0.2 h8)
    have s8:Int.fdiv ((x/2^32:Nat):Int) (2^min (Int.toNat 8) IntKind.u64.bits)=((x/2^(32+8):Nat):Int):=by
     have:=sh (x/2^32) 8 (by decide);rw[dd]at this;exact this
    have p8:0<x/2^(32+8):=by
     rw[<- dd];exact V5 h8 (by decide)
    have bd8:x/2^(32+8)<2^8:=by
     rw[<- dd];exact Jk bd16
    obtain⟨n,k1,k2,k3,k4,k5,k6⟩:=fin 40 (x/2^(32+8)) (by decide) rfl bd8 (.inr p8) 40 rfl;refine⟨n,λO => ?_,k5,k6⟩;refine jau rfl rfl rfl jnY rfl jnZ (by exact jn0) (jar ?_) O;simp only[Tryz.f190,Ka,Nat.reduceLT,Nat.reduceEqDiff,Ku,Ks,reduceIte,Uy,Int.reduceEq,Int.reduceLT,Int.reduceLE,Int.reduceNeg,mb,Nat.reduceBEq,tys,stb,Vq,↓l8K,jap,jaG,jaE u9,jdC,Z5,g32,s32,g16,g8,s8,l32,l16,l8',w16,w48,w8,w40,w24,w56,k1,k2,k3,k4];rfl
   ·have g8:(((x/2^32:Nat):Int) >= 256)=False:=eq_false (λh=>h8 (J0.1 h));have bd8:x/2^32<2^8:=X4 h8;obtain⟨n,k1,k2,k3,k4,k5,k6⟩:=fin 32 (x/2^32) (by decide) rfl bd8 (.inr p32) 32 rfl;refine⟨n,λO => ?_,k5,k6⟩;refine jau rfl rfl rfl jnY rfl jnZ (by exact jn0) (jar ?_) O;simp only[Tryz.f190,Ka,Nat.reduceLT,Nat.reduceEqDiff,Ku,Ks,reduceIte,Uy,Int.reduceEq,Int.reduceLT,Int.reduceLE,Int.reduceNeg,mb,Nat.reduceBEq,tys,stb,Vq,↓l8K,jap,jaG,jaE u9,jdC,Z5,g32,s32,g16,g8,l32,l16,l8',w16,w48,w8,w40,w24,w56,k1,k2,k3,k4];rfl
 ·have g32:((x:Int) >= 4294967296)=False:=eq_false (λh=>h32 (J0.1 h));have bd32:x<2^32:=X4 h32;by_cases h16:65536<=x
  ·have g16:((x:Int) >= 65536)=True:=eq_true (J0.2 h16)
   have s16:Int.fdiv (x:Int) (2^min (Int.toNat 16) IntKind.u64.bits)=((x/2^16:Nat):Int):=by
    have:=sh (x) 16 (by decide);exact this
   have p16:0<x/2^16:=by
    exact V5 h16 (by decide)
   have bd16:x/2^16<2^16:=by
    exact Jk bd32
   by_cases h8:256<=x/2^16
   ·have g8:(((x/2^16:Nat):Int) >= 256)=True:=eq_true (J0.2 h8)
    have s8:Int.fdiv ((x/2^16:Nat):Int) (2^min (Int.toNat 8) IntKind.u64.bits)=((x/2^(16+8):Nat):Int):=by
     have:=sh (x/2^16) 8 (by decide);rw[dd]at this;exact this
    have p8:0<x/2^(16+8):=by
     rw[<- dd];exact V5 h8 (by decide)
    have bd8:x/2^(16+8)<2^8:=by
     rw[<- dd];exact Jk bd16
    obtain⟨n,k1,k2,k3,k4,k5,k6⟩:=fin 24 (x/2^(16+8)) (by decide) rfl bd8 (.inr p8) 24 rfl;refine⟨n,λO => ?_,k5,k6⟩;refine jau rfl rfl rfl jnY rfl jnZ (by exact jn0) (jar ?_) O;simp only[Tryz.f190,Ka,Nat.reduceLT,Nat.reduceEqDiff,Ku,Ks,reduceIte,Uy,Int.reduceEq,Int.reduceLT,Int.reduceLE,Int.reduceNeg,mb,Nat.reduceBEq,tys,stb,Vq,↓l8K,jap,jaG,jaE u9,jdC,Z5,g32,g16,s16,g8,s8,l32,l16,l8',w16,w48,w8,w40,w24,w56,k1,k2,k3,k4];rfl
   ·have g8:(((x/2^16:Nat):Int) >= 256)=False:=eq_false (λh=>h8 (J0.1 h));have bd8:x/2^16<2^8:=X4 h8;obtain⟨n,k1,k2,k3,k4,k5,k6⟩:=fin 16 (x/2^16) (by decide) rfl bd8 (.inr p16) 16 rfl;refine⟨n,λO => ?_,k5,k6⟩;refine jau rfl rfl rfl jnY rfl jnZ (by exact jn0) (jar ?_) O;simp only[Tryz.f190,Ka,Nat.reduceLT,Nat.reduceEqDiff,Ku,Ks,reduceIte,Uy,Int.reduceEq,Int.reduceLT,Int.reduceLE,Int.reduceNeg,mb,Nat.reduceBEq,tys,stb,Vq,↓l8K,jap,jaG,jaE u9,jdC,Z5,g32,g16,s16,g8,l32,l16,l8',w16,w48,w8,w40,w24,w56,k1,k2,k3,k4];rfl
  ·have g16:((x:Int) >= 65536)=False:=eq_false (λh=>h16 (J0.1 h));have bd16:x<2^16:=X4 h16;by_cases h8:256<=x
   ·have g8:((x:Int) >= 256)=True:=eq_true (J0.2 h8)
    have s8:Int.fdiv (x:Int) (2^min (Int.toNat 8) IntKind.u64.bits)=((x/2^8:Nat):Int):=by
     have:=sh (x) 8 (by decide);exact this
    have p8:0<x/2^8:=by
     exact V5 h8 (by decide)
    have bd8:x/2^8<2^8:=by
     exact Jk bd16
    obtain⟨n,k1,k2,k3,k4,k5,k6⟩:=fin 8 (x/2^8) (by decide) rfl bd8 (.inr p8) 8 rfl;refine⟨n,λO => ?_,k5,k6⟩;refine jau rfl rfl rfl jnY rfl jnZ (by exact jn0) (jar ?_) O;simp only[Tryz.f190,Ka,Nat.reduceLT,Nat.reduceEqDiff,Ku,Ks,reduceIte,Uy,Int.reduceEq,Int.reduceLT,Int.reduceLE,Int.reduceNeg,mb,Nat.reduceBEq,tys,stb,Vq,↓l8K,jap,jaG,jaE u9,jdC,Z5,g32,g16,g8,s8,l32,l16,l8',w16,w48,w8,w40,w24,w56,k1,k2,k3,k4];rfl
   ·have g8:((x:Int) >= 256)=False:=eq_false (λh=>h8 (J0.1 h));have bd8:x<2^8:=X4 h8;obtain⟨n,k1,k2,k3,k4,k5,k6⟩:=fin 0 (x) (by decide) (by rw[Vx,Vo]) bd8 (.inl rfl) 0 rfl;refine⟨n,λO => ?_,k5,k6⟩;refine jau rfl rfl rfl jnY rfl jnZ (by exact jn0) (jar ?_) O;simp only[Tryz.f190,Ka,Nat.reduceLT,Nat.reduceEqDiff,Ku,Ks,reduceIte,Uy,Int.reduceEq,Int.reduceLT,Int.reduceLE,Int.reduceNeg,mb,Nat.reduceBEq,tys,stb,Vq,↓l8K,jap,jaG,jaE u9,jdC,Z5,g32,g16,g8,l32,l16,l8',w16,w48,w8,w40,w24,w56,k1,k2,k3,k4];rfl
theorem jvc(n:Nat)(hn:n<=64)(O:S):jas env (ev env) 189 [.int .i64 n] O=some (.int .i64 ((n*78913/2^18:Nat):Int),O):=by
 refine jau rfl rfl rfl jAo rfl (by simp[Tryz.f189]) (U4 rfl) (jar ?_) O;have e1:IntKind.i64.wrap ((n:Int)*78913)=((n*78913:Nat):Int):=by rw[wrap_i64 (by omega) (by omega)];omega
 have l18:((18:Int)<0)=False:=eq_false (by omega)
 have e2:Int.fdiv ((n*78913:Nat):Int) (2^min (Int.toNat 18) IntKind.i64.bits)=((n*78913/2^18:Nat):Int):=by
  have e:min (Int.toNat 18) IntKind.i64.bits=18:=by decide
  rw[e,V4 _ (Int.pow_nonneg (by omega))];simp
 simp only[Tryz.f189,Ka,Nat.reduceLT,Nat.reduceEqDiff,Ku,Ks,reduceIte,Uy,Int.reduceEq,Int.reduceLT,Int.reduceLE,Int.reduceNeg,mb,Nat.reduceBEq,tys,stb,U2,jdC,e1,l18,e2];rfl
theorem jn1(b:Bool)(O:S):jas env (ev env) 191 [.bool b] O=some (.int .i64 (if b then 1 else 0),O):=by
 refine jau rfl rfl rfl jAp rfl (by simp[Tryz.f191]) (U4 rfl) (jar ?_) O;cases b<;>(simp only[Tryz.f191,Ka,Nat.reduceLT,Nat.reduceEqDiff,Ku,Ks,reduceIte,Uy,Int.reduceEq,Int.reduceLT,Int.reduceLE,Int.reduceNeg,mb,Nat.reduceBEq,tys,stb,U2];rfl)
theorem jyM:∀t,t<20->jkl.drop t=.int .u64 ((10^t:Nat):Int)::jkl.drop (t+1):=by
 intro t ht
 have h:∀t,t<20->jkl[t]? = some (.int .u64 ((10^t:Nat):Int)):=by
  intro t ht;have:t=0\/t=1\/t=2\/t=3\/t=4\/t=5\/t=6\/t=7\/t=8\/t=9\/t=10\/t=11\/t=12\/t=13\/t=14\/t=15\/t=16\/t=17\/t=18\/t=19:=by omega
  rcases this with rfl|rfl|rfl|rfl|rfl|rfl|rfl|rfl|rfl|rfl|rfl|rfl|rfl|rfl|rfl|rfl|rfl|rfl|rfl|rfl<;>rfl
 have h2:=h t ht;obtain⟨h3,h4⟩:=Kz.1 h2;rw[Q8 h3,h4]
theorem lens:∀L,L<=64->L*78913/2^18<20/\2^L<=10^(L*78913/2^18+1)/\(L*78913/2^18=0\/10^(L*78913/2^18-1)<=2^(L-1)):=by decide +kernel
def NdOf(u nd:Nat):Prop:=1<=nd/\nd<=20/\u<10^nd/\10^(nd-1)<=u
theorem jdR(u:Nat)(h0:0<u)(hu:u<2^64):∃nd:Nat,(∀O,jas env (ev env) 164 [.int .u64 u] O=some (.int .i64 nd,O))/\NdOf u nd:=by
 obtain⟨L,hL,l1,l2,l3⟩:=jvb u hu;have hlg:=jvc L l1;obtain⟨k1,k2,k3⟩:=lens L l1;generalize hT:L*78913/2^18=t at *;have hp:=jyM t k1;have c0:((0:Int)<=(t:Int)/\(t:Int)<20)=True:=eq_true ⟨by omega,by omega⟩
 have hix:idxO (env.P.underlying 197) (sz env) (env.gl 1) (some (.int .i64 (t:Int)))=some (.rptr (.int .u64 ((10^t:Nat):Int)::jkl.drop (t+1))):=by
  have e:env.gl 1=some (.rptr jkl):=rfl;rw[u173,e,<- hp];simp only[idxO,Kn,tys,jdv,K3,Qm];rw[Ki ⟨by omega,by omega⟩]
 have ald:∀(h:List AObj) (p:V),jbi env h 159 p=(jai h 1 p).bind (·[0]?):=λ_ _=>jaY (by kernel_rfl)
 have c00:10^20=100000000000000000000:=by decide
 by_cases hg:10^t<=u
 ·have g:((u:Int) >= ((10^t:Nat):Int))=True:=eq_true (by omega);have hb:=jn1 true;simp only[Ku]at hb;have e1:IntKind.i64.wrap ((t:Int)+1)=((t+1:Nat):Int):=by rw[wrap_i64 (by omega) (by omega)];omega
  refine⟨t+1,λO => ?_,by omega,by omega,by omega,by simpa using hg⟩;refine jau rfl rfl rfl jyL rfl (by simp[Tryz.f164]) (U4 rfl) (jar ?_) O;simp only[Tryz.f164,Ka,Nat.reduceLT,Nat.reduceEqDiff,Ku,Ks,reduceIte,Uy,Int.reduceEq,Int.reduceLT,Int.reduceLE,Int.reduceNeg,mb,Nat.reduceBEq,tys,stb,U2,hL,hlg,hix,ald,jpe,g,hb,e1];rfl
 ·have g:((u:Int) >= ((10^t:Nat):Int))=False:=eq_false (by omega);have hb:=jn1 false;simp only[Km,Ks]at hb;have e1:IntKind.i64.wrap ((t:Int)+0)=((t:Nat):Int):=by rw[wrap_i64 (by omega) (by omega)];omega
  have ht0:t ≠ 0:=λh=>by subst h;simp at hg;omega
  refine⟨t,λO => ?_,by omega,by omega,by omega,?_⟩
  ·refine jau rfl rfl rfl jyL rfl (by simp[Tryz.f164]) (U4 rfl) (jar ?_) O;simp only[Tryz.f164,Ka,Nat.reduceLT,Nat.reduceEqDiff,Ku,Ks,reduceIte,Uy,Int.reduceEq,Int.reduceLT,Int.reduceLE,Int.reduceNeg,mb,Nat.reduceBEq,tys,stb,U2,hL,hlg,hix,ald,jpe,g,hb,e1];rfl
  ·rcases k3 with h|h
   ·exact absurd h ht0
   ·rcases l3 with rfl|l3
    ·simp at l2;omega
    ·omega
theorem jAs:env.P.funcs[165]? = some Tryz.f165:=by kernel_rfl
abbrev dV(d:Nat):V:=.int .u8 ((48+d:Nat):Int)
theorem jpo {m:Nat}(h:m<100):jnj env 9 (.str smX) (.int .u32 ((2*m:Nat):Int))=some (dV (m/10)):=by
 rw[jaE u9,Ki ⟨by omega,by rw[jtA];omega⟩,K3,(jyJ m h).1];have:(UInt8.ofNat (48+m/10)).toNat=48+m/10:=by simp[UInt8.toNat_ofNat];omega
 rw[this]
theorem jpp {m:Nat}(h:m<100):jnj env 9 (.str smX) (.int .u32 ((2*m+1:Nat):Int))=some (dV (m % 10)):=by
 rw[jaE u9,Ki ⟨by omega,by rw[jtA];omega⟩,K3,(jyJ m h).2];have:(UInt8.ofNat (48+m % 10)).toNat=48+m % 10:=by simp[UInt8.toNat_ofNat];omega
 rw[this]
theorem jcN(d:Nat):(dV d).isCell=true/\(dV d).cells=[dV d]:=⟨rfl,rfl⟩
theorem jdL {ty:TypeId}{L:List AObj}{ts:List Nat}{b k:Nat}{cells:List V}(hb:L[b]? = some (.cells cells ty))(hk:k<cells.length)(d:Nat):storeAt ⟨L,ts⟩ [dV d] b k L[b]? = some ⟨L.set b (.cells (cells.set k (dV d)) ty),ts⟩:=by
 rw[hb,YE,Ki ⟨by simp;omega,rfl⟩]
 have:jab cells k [dV d]=cells.set k (dV d):=by
  rw[Vh,Ki hk];simp[jab]
 rw[this];rfl
theorem jcF {x:Int}(h1:0<=x)(h2:x<4294967296):IntKind.wrap .u32 x=x:=by
 show(let m:=x % (2^32:Int);if false && decide (m >= 2^31)then m-2^32 else m)=x;simp only[Js,Km,Ks];omega
theorem b5:bys env 5=some 1:=by kernel_rfl
theorem jyN {ty:TypeId}{Q:Post}{ks:List Kt}{T:Tm}{L:List AObj}{ts:List Nat}{b off N cap nd m:Nat}{ex:HCap}{cells:List V}(hb:L[b]? = some (.cells cells ty))(t0:T 0=.hsl b off N cap ex)(t4:T 4=.int .i64 nd)(tx:T 9=.int .u32 ((2*m:Nat):Int))(hm:m<100)(hk:2<=nd)(hN:nd<=N)(hN2:N<=100)(hl:off+nd<=cells.length)
  (h:∀T':Tm,(∀i,i<17->T' i=T i)->G env 165 none 167 Q ks .skip T' [] ⟨L.set b (.cells ((cells.set (off+(nd-1)) (dV (m % 10))).set (off+(nd-2)) (dV (m/10))) ty),ts⟩) :
  G env 165 none 167 Q ks (regB 7 (jaz Tryz.f165)) T [] ⟨L,ts⟩:=by
 simp only[jaz,Tryz.f165,Kv,regB,regO,Option.or,Nat.reduceEqDiff,Ks,Ku,reduceIte];have e1:IntKind.i64.wrap ((nd:Int)-1)=((nd-1:Nat):Int):=by rw[wrap_i64 (by omega) (by omega)];omega
 have e2:IntKind.i64.wrap ((nd:Int)-2)=((nd-2:Nat):Int):=by rw[wrap_i64 (by omega) (by omega)];omega
 have e3:IntKind.u32.wrap (((2*m:Nat):Int)+1)=((2*m+1:Nat):Int):=by rw[jcF (by omega) (by omega)];omega
 have i1:jaJ 1 (.hsl b off N cap ex) (.int .i64 ((nd-1:Nat):Int))=some (.ptr b (off+(nd-1))):=by rw[jbJ,Ki ⟨by omega,by omega⟩,K3,Qm]
 have i2:jaJ 1 (.hsl b off N cap ex) (.int .i64 ((nd-2:Nat):Int))=some (.ptr b (off+(nd-2))):=by rw[jbJ,Ki ⟨by omega,by omega⟩,K3,Qm]
 have hs1:=jpo hm;have hs2:=jpp hm;have st1:=jdL (ts:=ts) hb (k:=off+(nd-1)) (by omega) (m % 10);have hb2:(L.set b (.cells (cells.set (off+(nd-1)) (dV (m % 10))) ty))[b]? = some (.cells (cells.set (off+(nd-1)) (dV (m % 10))) ty):=Kl (Kz.1 hb).1;have st2:=jdL (ts:=ts) hb2 (k:=off+(nd-2)) (by rw[Jh];omega) (m/10);have c1:=jcN (m % 10);have c2:=jcN (m/10);rw[Qy]at st2;generalize dV (m % 10)=v1 at *;generalize dV (m/10)=v2 at *;simp only[Ka,simprocAttr,Uy,Ke,Vq,↓smK,t0,t4,tx,jaG,e1,e2,e3,i1,i2,hs1,hs2,st1,st2,c1,c2];refine⟨by kernel_rfl,h _ λi hi => ?_⟩;have hne:∀j:Nat,17<=j->i ≠ j:=λj hj=>by omega
 simp only[upd,hne _ (show 17<=42 by decide),hne _ (show 17<=43 by decide),hne _ (show 17<=44 by decide),hne _ (show 17<=45 by decide),hne _ (show 17<=46 by decide),hne _ (show 17<=47 by decide),hne _ (show 17<=48 by decide),hne _ (show 17<=49 by decide),hne _ (show 17<=50 by decide),hne _ (show 17<=51 by decide),hne _ (show 17<=52 by decide),hne _ (show 17<=53 by decide),hne _ (show 17<=54 by decide),Ks]
theorem jyO {ty:TypeId}{Q:Post}{ks:List Kt}{T:Tm}{L:List AObj}{ts:List Nat}{b off N cap nd m:Nat}{ex:HCap}{cells:List V}(hb:L[b]? = some (.cells cells ty))(t0:T 0=.hsl b off N cap ex)(t4:T 4=.int .i64 nd)(tx:T 8=.int .u32 ((2*m:Nat):Int))(hm:m<100)(hk:4<=nd)(hN:nd<=N)(hN2:N<=100)(hl:off+nd<=cells.length)
  (h:∀T':Tm,(∀i,i<17->T' i=T i)->G env 165 none 167 Q ks .skip T' [] ⟨L.set b (.cells ((cells.set (off+(nd-3)) (dV (m % 10))).set (off+(nd-4)) (dV (m/10))) ty),ts⟩) :
  G env 165 none 167 Q ks (regB 8 (jaz Tryz.f165)) T [] ⟨L,ts⟩:=by
 simp only[jaz,Tryz.f165,Kv,regB,regO,Option.or,Nat.reduceEqDiff,Ks,Ku,reduceIte];have e1:IntKind.i64.wrap ((nd:Int)-3)=((nd-3:Nat):Int):=by rw[wrap_i64 (by omega) (by omega)];omega
 have e2:IntKind.i64.wrap ((nd:Int)-4)=((nd-4:Nat):Int):=by rw[wrap_i64 (by omega) (by omega)];omega
 have e3:IntKind.u32.wrap (((2*m:Nat):Int)+1)=((2*m+1:Nat):Int):=by rw[jcF (by omega) (by omega)];omega
 have i1:jaJ 1 (.hsl b off N cap ex) (.int .i64 ((nd-3:Nat):Int))=some (.ptr b (off+(nd-3))):=by rw[jbJ,Ki ⟨by omega,by omega⟩,K3,Qm]
 have i2:jaJ 1 (.hsl b off N cap ex) (.int .i64 ((nd-4:Nat):Int))=some (.ptr b (off+(nd-4))):=by rw[jbJ,Ki ⟨by omega,by omega⟩,K3,Qm]
 have hs1:=jpo hm;have hs2:=jpp hm;have st1:=jdL (ts:=ts) hb (k:=off+(nd-3)) (by omega) (m % 10);have hb2:(L.set b (.cells (cells.set (off+(nd-3)) (dV (m % 10))) ty))[b]? = some (.cells (cells.set (off+(nd-3)) (dV (m % 10))) ty):=Kl (Kz.1 hb).1;have st2:=jdL (ts:=ts) hb2 (k:=off+(nd-4)) (by rw[Jh];omega) (m/10);have c1:=jcN (m % 10);have c2:=jcN (m/10);rw[Qy]at st2;generalize dV (m % 10)=v1 at *;generalize dV (m/10)=v2 at *;simp only[Ka,simprocAttr,Uy,Ke,Vq,↓smK,t0,t4,tx,jaG,e1,e2,e3,i1,i2,hs1,hs2,st1,st2,c1,c2];refine⟨by kernel_rfl,h _ λi hi => ?_⟩;have hne:∀j:Nat,17<=j->i ≠ j:=λj hj=>by omega
 simp only[upd,hne _ (show 17<=55 by decide),hne _ (show 17<=56 by decide),hne _ (show 17<=57 by decide),hne _ (show 17<=58 by decide),hne _ (show 17<=59 by decide),hne _ (show 17<=60 by decide),hne _ (show 17<=61 by decide),hne _ (show 17<=62 by decide),hne _ (show 17<=63 by decide),hne _ (show 17<=64 by decide),hne _ (show 17<=65 by decide),hne _ (show 17<=66 by decide),hne _ (show 17<=67 by decide),Ks]
theorem jyP {ty:TypeId}{Q:Post}{ks:List Kt}{T:Tm}{L:List AObj}{ts:List Nat}{b off N cap nd m:Nat}{ex:HCap}{cells:List V}(hb:L[b]? = some (.cells cells ty))(t0:T 0=.hsl b off N cap ex)(t4:T 4=.int .i64 nd)(tx:T 11=.int .u32 ((2*m:Nat):Int))(hm:m<100)(hk:6<=nd)(hN:nd<=N)(hN2:N<=100)(hl:off+nd<=cells.length)
  (h:∀T':Tm,(∀i,i<17->T' i=T i)->G env 165 none 167 Q ks .skip T' [] ⟨L.set b (.cells ((cells.set (off+(nd-5)) (dV (m % 10))).set (off+(nd-6)) (dV (m/10))) ty),ts⟩) :
  G env 165 none 167 Q ks (regB 9 (jaz Tryz.f165)) T [] ⟨L,ts⟩:=by
 simp only[jaz,Tryz.f165,Kv,regB,regO,Option.or,Nat.reduceEqDiff,Ks,Ku,reduceIte];have e1:IntKind.i64.wrap ((nd:Int)-5)=((nd-5:Nat):Int):=by rw[wrap_i64 (by omega) (by omega)];omega
 have e2:IntKind.i64.wrap ((nd:Int)-6)=((nd-6:Nat):Int):=by rw[wrap_i64 (by omega) (by omega)];omega
 have e3:IntKind.u32.wrap (((2*m:Nat):Int)+1)=((2*m+1:Nat):Int):=by rw[jcF (by omega) (by omega)];omega
 have i1:jaJ 1 (.hsl b off N cap ex) (.int .i64 ((nd-5:Nat):Int))=some (.ptr b (off+(nd-5))):=by rw[jbJ,Ki ⟨by omega,by omega⟩,K3,Qm]
 have i2:jaJ 1 (.hsl b off N cap ex) (.int .i64 ((nd-6:Nat):Int))=some (.ptr b (off+(nd-6))):=by rw[jbJ,Ki ⟨by omega,by omega⟩,K3,Qm]
 have hs1:=jpo hm;have hs2:=jpp hm;have st1:=jdL (ts:=ts) hb (k:=off+(nd-5)) (by omega) (m % 10);have hb2:(L.set b (.cells (cells.set (off+(nd-5)) (dV (m % 10))) ty))[b]? = some (.cells (cells.set (off+(nd-5)) (dV (m % 10))) ty):=Kl (Kz.1 hb).1;have st2:=jdL (ts:=ts) hb2 (k:=off+(nd-6)) (by rw[Jh];omega) (m/10);have c1:=jcN (m % 10);have c2:=jcN (m/10);rw[Qy]at st2;generalize dV (m % 10)=v1 at *;generalize dV (m/10)=v2 at *;simp only[Ka,simprocAttr,Uy,Ke,Vq,↓smK,t0,t4,tx,jaG,e1,e2,e3,i1,i2,hs1,hs2,st1,st2,c1,c2];refine⟨by kernel_rfl,h _ λi hi => ?_⟩;have hne:∀j:Nat,17<=j->i ≠ j:=λj hj=>by omega
 simp only[upd,hne _ (show 17<=68 by decide),hne _ (show 17<=69 by decide),hne _ (show 17<=70 by decide),hne _ (show 17<=71 by decide),hne _ (show 17<=72 by decide),hne _ (show 17<=73 by decide),hne _ (show 17<=74 by decide),hne _ (show 17<=75 by decide),hne _ (show 17<=76 by decide),hne _ (show 17<=77 by decide),hne _ (show 17<=78 by decide),hne _ (show 17<=79 by decide),hne _ (show 17<=80 by decide),Ks]
theorem jxd {ty:TypeId}{Q:Post}{ks:List Kt}{T:Tm}{L:List AObj}{ts:List Nat}{b off N cap nd m:Nat}{ex:HCap}{cells:List V}(hb:L[b]? = some (.cells cells ty))(t0:T 0=.hsl b off N cap ex)(t4:T 4=.int .i64 nd)(tx:T 10=.int .u32 ((2*m:Nat):Int))(hm:m<100)(hk:8<=nd)(hN:nd<=N)(hN2:N<=100)(hl:off+nd<=cells.length)
  (h:∀T':Tm,(∀i,i<17->T' i=T i)->G env 165 none 167 Q ks .skip T' [] ⟨L.set b (.cells ((cells.set (off+(nd-7)) (dV (m % 10))).set (off+(nd-8)) (dV (m/10))) ty),ts⟩) :
  G env 165 none 167 Q ks (regB 10 (jaz Tryz.f165)) T [] ⟨L,ts⟩:=by
 simp only[jaz,Tryz.f165,Kv,regB,regO,Option.or,Nat.reduceEqDiff,Ks,Ku,reduceIte];have e1:IntKind.i64.wrap ((nd:Int)-7)=((nd-7:Nat):Int):=by rw[wrap_i64 (by omega) (by omega)];omega
 have e2:IntKind.i64.wrap ((nd:Int)-8)=((nd-8:Nat):Int):=by rw[wrap_i64 (by omega) (by omega)];omega
 have e3:IntKind.u32.wrap (((2*m:Nat):Int)+1)=((2*m+1:Nat):Int):=by rw[jcF (by omega) (by omega)];omega
 have i1:jaJ 1 (.hsl b off N cap ex) (.int .i64 ((nd-7:Nat):Int))=some (.ptr b (off+(nd-7))):=by rw[jbJ,Ki ⟨by omega,by omega⟩,K3,Qm]
 have i2:jaJ 1 (.hsl b off N cap ex) (.int .i64 ((nd-8:Nat):Int))=some (.ptr b (off+(nd-8))):=by rw[jbJ,Ki ⟨by omega,by omega⟩,K3,Qm]
 have hs1:=jpo hm;have hs2:=jpp hm;have st1:=jdL (ts:=ts) hb (k:=off+(nd-7)) (by omega) (m % 10);have hb2:(L.set b (.cells (cells.set (off+(nd-7)) (dV (m % 10))) ty))[b]? = some (.cells (cells.set (off+(nd-7)) (dV (m % 10))) ty):=Kl (Kz.1 hb).1;have st2:=jdL (ts:=ts) hb2 (k:=off+(nd-8)) (by rw[Jh];omega) (m/10);have c1:=jcN (m % 10);have c2:=jcN (m/10);rw[Qy]at st2;generalize dV (m % 10)=v1 at *;generalize dV (m/10)=v2 at *;simp only[Ka,simprocAttr,Uy,Ke,Vq,↓smK,t0,t4,tx,jaG,e1,e2,e3,i1,i2,hs1,hs2,st1,st2,c1,c2];refine⟨by kernel_rfl,h _ λi hi => ?_⟩;have hne:∀j:Nat,17<=j->i ≠ j:=λj hj=>by omega
 simp only[upd,hne _ (show 17<=81 by decide),hne _ (show 17<=82 by decide),hne _ (show 17<=83 by decide),hne _ (show 17<=84 by decide),hne _ (show 17<=85 by decide),hne _ (show 17<=86 by decide),hne _ (show 17<=87 by decide),hne _ (show 17<=88 by decide),hne _ (show 17<=89 by decide),hne _ (show 17<=90 by decide),hne _ (show 17<=91 by decide),hne _ (show 17<=92 by decide),hne _ (show 17<=93 by decide),Ks]
theorem jxe {ty:TypeId}{Q:Post}{ks:List Kt}{T:Tm}{L:List AObj}{ts:List Nat}{b off N cap nd m:Nat}{ex:HCap}{cells:List V}(hb:L[b]? = some (.cells cells ty))(t0:T 0=.hsl b off N cap ex)(t4:T 4=.int .i64 nd)(tx:T 15=.int .u32 ((2*m:Nat):Int))(hm:m<100)(hk:2<=nd)(hN:nd<=N)(hN2:N<=100)(hl:off+nd<=cells.length)
  (h:∀T':Tm,(∀i,i<17->T' i=T i)->G env 165 none 167 Q ks .skip T' [] ⟨L.set b (.cells ((cells.set (off+(nd-1)) (dV (m % 10))).set (off+(nd-2)) (dV (m/10))) ty),ts⟩) :
  G env 165 none 167 Q ks (regB 17 (jaz Tryz.f165)) T [] ⟨L,ts⟩:=by
 simp only[jaz,Tryz.f165,Kv,regB,regO,Option.or,Nat.reduceEqDiff,Ks,Ku,reduceIte];have e1:IntKind.i64.wrap ((nd:Int)-1)=((nd-1:Nat):Int):=by rw[wrap_i64 (by omega) (by omega)];omega
 have e2:IntKind.i64.wrap ((nd:Int)-2)=((nd-2:Nat):Int):=by rw[wrap_i64 (by omega) (by omega)];omega
 have e3:IntKind.u32.wrap (((2*m:Nat):Int)+1)=((2*m+1:Nat):Int):=by rw[jcF (by omega) (by omega)];omega
 have i1:jaJ 1 (.hsl b off N cap ex) (.int .i64 ((nd-1:Nat):Int))=some (.ptr b (off+(nd-1))):=by rw[jbJ,Ki ⟨by omega,by omega⟩,K3,Qm]
 have i2:jaJ 1 (.hsl b off N cap ex) (.int .i64 ((nd-2:Nat):Int))=some (.ptr b (off+(nd-2))):=by rw[jbJ,Ki ⟨by omega,by omega⟩,K3,Qm]
 have hs1:=jpo hm;have hs2:=jpp hm;have st1:=jdL (ts:=ts) hb (k:=off+(nd-1)) (by omega) (m % 10);have hb2:(L.set b (.cells (cells.set (off+(nd-1)) (dV (m % 10))) ty))[b]? = some (.cells (cells.set (off+(nd-1)) (dV (m % 10))) ty):=Kl (Kz.1 hb).1;have st2:=jdL (ts:=ts) hb2 (k:=off+(nd-2)) (by rw[Jh];omega) (m/10);have c1:=jcN (m % 10);have c2:=jcN (m/10);rw[Qy]at st2;generalize dV (m % 10)=v1 at *;generalize dV (m/10)=v2 at *;simp only[Ka,simprocAttr,Uy,Ke,Vq,↓smK,t0,t4,tx,jaG,e1,e2,e3,i1,i2,hs1,hs2,st1,st2,c1,c2];refine⟨by kernel_rfl,h _ λi hi => ?_⟩;have hne:∀j:Nat,17<=j->i ≠ j:=λj hj=>by omega
 simp only[upd,hne _ (show 17<=110 by decide),hne _ (show 17<=111 by decide),hne _ (show 17<=112 by decide),hne _ (show 17<=113 by decide),hne _ (show 17<=114 by decide),hne _ (show 17<=115 by decide),hne _ (show 17<=116 by decide),hne _ (show 17<=117 by decide),hne _ (show 17<=118 by decide),hne _ (show 17<=119 by decide),hne _ (show 17<=120 by decide),hne _ (show 17<=121 by decide),hne _ (show 17<=122 by decide),Ks]
theorem jxf {ty:TypeId}{Q:Post}{ks:List Kt}{T:Tm}{L:List AObj}{ts:List Nat}{b off N cap nd m:Nat}{ex:HCap}{cells:List V}(hb:L[b]? = some (.cells cells ty))(t0:T 0=.hsl b off N cap ex)(t4:T 4=.int .i64 nd)(tx:T 14=.int .u32 ((2*m:Nat):Int))(hm:m<100)(hk:4<=nd)(hN:nd<=N)(hN2:N<=100)(hl:off+nd<=cells.length)
  (h:∀T':Tm,(∀i,i<17->T' i=T i)->G env 165 none 167 Q ks .skip T' [] ⟨L.set b (.cells ((cells.set (off+(nd-3)) (dV (m % 10))).set (off+(nd-4)) (dV (m/10))) ty),ts⟩) :
  G env 165 none 167 Q ks (regB 18 (jaz Tryz.f165)) T [] ⟨L,ts⟩:=by
 simp only[jaz,Tryz.f165,Kv,regB,regO,Option.or,Nat.reduceEqDiff,Ks,Ku,reduceIte];have e1:IntKind.i64.wrap ((nd:Int)-3)=((nd-3:Nat):Int):=by rw[wrap_i64 (by omega) (by omega)];omega
 have e2:IntKind.i64.wrap ((nd:Int)-4)=((nd-4:Nat):Int):=by rw[wrap_i64 (by omega) (by omega)];omega
 have e3:IntKind.u32.wrap (((2*m:Nat):Int)+1)=((2*m+1:Nat):Int):=by rw[jcF (by omega) (by omega)];omega
 have i1:jaJ 1 (.hsl b off N cap ex) (.int .i64 ((nd-3:Nat):Int))=some (.ptr b (off+(nd-3))):=by rw[jbJ,Ki ⟨by omega,by omega⟩,K3,Qm]
 have i2:jaJ 1 (.hsl b off N cap ex) (.int .i64 ((nd-4:Nat):Int))=some (.ptr b (off+(nd-4))):=by rw[jbJ,Ki ⟨by omega,by omega⟩,K3,Qm]
 have hs1:=jpo hm;have hs2:=jpp hm;have st1:=jdL (ts:=ts) hb (k:=off+(nd-3)) (by omega) (m % 10);have hb2:(L.set b (.cells (cells.set (off+(nd-3)) (dV (m % 10))) ty))[b]? = some (.cells (cells.set (off+(nd-3)) (dV (m % 10))) ty):=Kl (Kz.1 hb).1;have st2:=jdL (ts:=ts) hb2 (k:=off+(nd-4)) (by rw[Jh];omega) (m/10);have c1:=jcN (m % 10);have c2:=jcN (m/10);rw[Qy]at st2;generalize dV (m % 10)=v1 at *;generalize dV (m/10)=v2 at *;simp only[Ka,simprocAttr,Uy,Ke,Vq,↓smK,t0,t4,tx,jaG,e1,e2,e3,i1,i2,hs1,hs2,st1,st2,c1,c2];refine⟨by kernel_rfl,h _ λi hi => ?_⟩;have hne:∀j:Nat,17<=j->i ≠ j:=λj hj=>by omega
 simp only[upd,hne _ (show 17<=123 by decide),hne _ (show 17<=124 by decide),hne _ (show 17<=125 by decide),hne _ (show 17<=126 by decide),hne _ (show 17<=127 by decide),hne _ (show 17<=128 by decide),hne _ (show 17<=129 by decide),hne _ (show 17<=130 by decide),hne _ (show 17<=131 by decide),hne _ (show 17<=132 by decide),hne _ (show 17<=133 by decide),hne _ (show 17<=134 by decide),hne _ (show 17<=135 by decide),Ks]
theorem jtB {ty:TypeId}{Q:Post}{ks:List Kt}{T:Tm}{L:List AObj}{ts:List Nat}{b off N cap nd m:Nat}{ex:HCap}{cells:List V}(hb:L[b]? = some (.cells cells ty))(t0:T 0=.hsl b off N cap ex)(t4:T 4=.int .i64 nd)(tx:T 16=.int .u32 ((2*m:Nat):Int))(hm:m<100)(hk:2<=nd)(hN:nd<=N)(hN2:N<=100)(hl:off+nd<=cells.length)
  (h:∀T':Tm,(∀i,i<17->T' i=T i)->G env 165 none 167 Q ks .skip T' [] ⟨L.set b (.cells ((cells.set (off+(nd-1)) (dV (m % 10))).set (off+(nd-2)) (dV (m/10))) ty),ts⟩) :
  G env 165 none 167 Q ks (regB 23 (jaz Tryz.f165)) T [] ⟨L,ts⟩:=by
 simp only[jaz,Tryz.f165,Kv,regB,regO,Option.or,Nat.reduceEqDiff,Ks,Ku,reduceIte];have e1:IntKind.i64.wrap ((nd:Int)-1)=((nd-1:Nat):Int):=by rw[wrap_i64 (by omega) (by omega)];omega
 have e2:IntKind.i64.wrap ((nd:Int)-2)=((nd-2:Nat):Int):=by rw[wrap_i64 (by omega) (by omega)];omega
 have e3:IntKind.u32.wrap (((2*m:Nat):Int)+1)=((2*m+1:Nat):Int):=by rw[jcF (by omega) (by omega)];omega
 have i1:jaJ 1 (.hsl b off N cap ex) (.int .i64 ((nd-1:Nat):Int))=some (.ptr b (off+(nd-1))):=by rw[jbJ,Ki ⟨by omega,by omega⟩,K3,Qm]
 have i2:jaJ 1 (.hsl b off N cap ex) (.int .i64 ((nd-2:Nat):Int))=some (.ptr b (off+(nd-2))):=by rw[jbJ,Ki ⟨by omega,by omega⟩,K3,Qm]
 have hs1:=jpo hm;have hs2:=jpp hm;have st1:=jdL (ts:=ts) hb (k:=off+(nd-1)) (by omega) (m % 10);have hb2:(L.set b (.cells (cells.set (off+(nd-1)) (dV (m % 10))) ty))[b]? = some (.cells (cells.set (off+(nd-1)) (dV (m % 10))) ty):=Kl (Kz.1 hb).1;have st2:=jdL (ts:=ts) hb2 (k:=off+(nd-2)) (by rw[Jh];omega) (m/10);have c1:=jcN (m % 10);have c2:=jcN (m/10);rw[Qy]at st2;generalize dV (m % 10)=v1 at *;generalize dV (m/10)=v2 at *;simp only[Ka,simprocAttr,Uy,Ke,Vq,↓smK,t0,t4,tx,jaG,e1,e2,e3,i1,i2,hs1,hs2,st1,st2,c1,c2];refine⟨by kernel_rfl,h _ λi hi => ?_⟩;have hne:∀j:Nat,17<=j->i ≠ j:=λj hj=>by omega
 simp only[upd,hne _ (show 17<=145 by decide),hne _ (show 17<=146 by decide),hne _ (show 17<=147 by decide),hne _ (show 17<=148 by decide),hne _ (show 17<=149 by decide),hne _ (show 17<=150 by decide),hne _ (show 17<=151 by decide),hne _ (show 17<=152 by decide),hne _ (show 17<=153 by decide),hne _ (show 17<=154 by decide),hne _ (show 17<=155 by decide),hne _ (show 17<=156 by decide),hne _ (show 17<=157 by decide),Ks]
abbrev dgt(u p:Nat):V:=dV (u/10^p % 10)
def Inv(cs0:List V)(off nd u m:Nat)(cells:List V):Prop:=cells.length=cs0.length/\∀k,cells[k]? = if off+m<=k/\k<off+nd then some (dgt u (off+nd-1-k))else cs0[k]?
theorem Inv.init(cs0:List V)(off nd u:Nat):Inv cs0 off nd u nd cs0:=⟨rfl,λk=>by rw[Kj (by omega)]⟩
theorem Inv.one {cs0 cells:List V}{off nd u m:Nat}(h:Inv cs0 off nd u m cells)(hm:1<=m)(hn:m<=nd)(hl:off+nd<=cs0.length){v:V}(hv:v=dgt u (nd-m)):Inv cs0 off nd u (m-1) (cells.set (off+(m-1)) v):=by
 refine⟨by rw[Jh];exact h.1,λk => ?_⟩;rw[Qu,h.2];have h1:=h.1;by_cases e:off+(m-1)=k
 ·subst e;rw[Ki rfl,Ki (by omega),Ki (by omega),hv]
  congr 2
  omega
 ·rw[Kj e];by_cases c:off+m<=k/\k<off+nd
  ·rw[Ki c,Ki (by omega)]
  ·rw[Kj c,Kj (by omega)]
theorem Inv.two {cs0 cells:List V}{off nd u m:Nat}(h:Inv cs0 off nd u m cells)(k:Nat)(hn:m<=nd)(hl:off+nd<=cs0.length){M:Nat}(hM:M=m+(k-1))(hk1:1<=k)(hm:2<=m){d1 d2:Nat}(h1:d1=u/10^(nd-m) % 10)(h2:d2=u/10^(nd-m+1) % 10) :
  Inv cs0 off nd u (m-2) ((cells.set (off+(M-k)) (dV d1)).set (off+(M-(k+1))) (dV d2)):=by
 have e1:M-k=m-1:=by omega
 have e2:M-(k+1)=m-1-1:=by omega
 rw[e1,e2];refine(h.one (v:=dV d1) (by omega) hn hl (by rw[h1])).one (by omega) (by omega) hl ?_;rw[h2,show nd-(m-1)=nd-m+1 by omega]
theorem Inv.len {cs0 cells:List V}{off nd u m:Nat}(h:Inv cs0 off nd u m cells):cells.length=cs0.length:=h.1
theorem dd10(u a b:Nat):u/10^a/10^b=u/10^(a+b):=by rw[Nat.div_div_eq_div_mul,<- Vt]
theorem jAt(a b:Nat)(ha:a<18446744073709551616):IntKind.u64.wrap (Int.tdiv (a:Int) (b:Int))=((a/b:Nat):Int):=by
 have e:Int.tdiv (a:Int) (b:Int)=((a/b:Nat):Int):=rfl;have:=Nat.div_le_self a b;rw[e,wrap_u64 (Xo _) (by generalize a/b=q at *;omega)]
theorem jpq(a b:Nat)(ha:a<4294967296):IntKind.u32.wrap (Int.tdiv (a:Int) (b:Int))=((a/b:Nat):Int):=by
 have e:Int.tdiv (a:Int) (b:Int)=((a/b:Nat):Int):=rfl;have:=Nat.div_le_self a b;rw[e,jcF (Xo _) (by generalize a/b=q at *;omega)]
theorem jn2(a:Nat)(ha:a<100000):IntKind.u32.wrap ((a:Int)*2)=((2*a:Nat):Int):=by rw[jcF (by omega) (by omega)];omega
theorem jvd {ty:TypeId}{Q:Post}{ks:List Kt}{T:Tm}{L:List AObj}{ts:List Nat}{b off nd cap u:Nat}{ex:HCap}{cs0:List V}(hb:L[b]? = some (.cells cs0 ty))(hl:off+nd<=cs0.length)(hn:nd<=20)(hu:u<2^64)(t0:T 0=.hsl b off nd cap ex)(t1:T 1=.int .u64 u)(t4:T 4=.int .i64 nd)
  (h:∀(T':Tm) (m:Nat) (cells:List V),m<8->m<=nd->Inv cs0 off nd u m cells->T' 0=.hsl b off nd cap ex->T' 1=.int .u64 ((u/10^(nd-m):Nat):Int)->T' 4=.int .i64 m->G env 165 none 167 Q ks .skip T' [] ⟨L.set b (.cells cells ty),ts⟩) :
  jiY env 165 none 167 (jf2 0 (jaz Tryz.f165)) T [] ⟨L,ts⟩ (Kt.post env 165 none 167 Q (.blk 0::ks)):=by
 simp only[jaz,Tryz.f165,Kv,jf2,blkC,Option.or,Nat.reduceEqDiff,Ks,Ku,reduceIte]
 have hset:L=L.set b (.cells cs0 ty):=by
  obtain⟨h1,h2⟩:=Kz.1 hb;rw[<- h2];exact(List.set_getElem_self h1).symm
 refine jbo (λM T D O=>D=[]/\T 0=.hsl b off nd cap ex/\∃(m:Nat) (cells:List V),m=M/\m<=nd/\T 1=.int .u64 ((u/10^(nd-m):Nat):Int)/\T 4=.int .i64 m/\Inv cs0 off nd u m cells/\O=⟨L.set b (.cells cells ty),ts⟩) ?_ nd _ _ _
  ⟨rfl,t0,nd,cs0,rfl,Kw _,by rw[t1,X6,Vx,Vo],t4,Inv.init _ _ _ _,congrArg (λh=>S.mk h ts) hset⟩
 clear t0 t1 t4;rintro M T D O ⟨rfl,t0,m,cells,rfl,hm,t1,t4,hI,rfl⟩;refine jar ?_;by_cases h8:8<=m
 ·have c1:((m:Int) >= 8)=True:=eq_true (by omega);obtain⟨U,hU⟩:∃U,U=u/10^(nd-m):=⟨_,rfl⟩;have hUl:U<18446744073709551616:=by have:=Nat.div_le_self u (10^(nd-m));omega
  rw[<- hU]at t1;have w1:Int.tmod (U:Int) 100000000=((U % 100000000:Nat):Int):=rfl;have w2:IntKind.u64.wrap (Int.tdiv (U:Int) 100000000)=((U/100000000:Nat):Int):=jAt U 100000000 hUl;have w3:IntKind.u32.wrap ((U % 100000000:Nat):Int)=((U % 100000000:Nat):Int):=jcF (by omega) (by omega);obtain⟨X,hX⟩:∃X,X=U % 100000000:=⟨_,rfl⟩;rw[<- hX]at w1 w3;have w4:IntKind.u32.wrap (Int.tdiv (X:Int) 10000)=((X/10000:Nat):Int):=jpq X 10000 (by omega);have w5:Int.tmod (X:Int) 10000=((X % 10000:Nat):Int):=rfl;obtain⟨A,hA⟩:∃A,A=X/10000:=⟨_,rfl⟩;obtain⟨B,hB⟩:∃B,B=X % 10000:=⟨_,rfl⟩;rw[<- hA]at w4;rw[<- hB]at w5;have w6:IntKind.u32.wrap (Int.tdiv (B:Int) 100)=((B/100:Nat):Int):=jpq B 100 (by omega);have w7:Int.tmod (B:Int) 100=((B % 100:Nat):Int):=rfl;have w8:IntKind.u32.wrap (Int.tdiv (A:Int) 100)=((A/100:Nat):Int):=jpq A 100 (by omega);have w9:Int.tmod (A:Int) 100=((A % 100:Nat):Int):=rfl;have x1:=jn2 (B/100) (by omega);have x2:=jn2 (B % 100) (by omega);have x3:=jn2 (A/100) (by omega);have x4:=jn2 (A % 100) (by omega);have e8:IntKind.i64.wrap ((m:Int)-8)=((m-8:Nat):Int):=by rw[wrap_i64 (by omega) (by omega)];omega
  have pw:∀j,U/10^j % 10=u/10^(nd-m+j) % 10:=λj=>by rw[hU,dd10]
  have p0:=pw 0;have p1:=pw 1;have p2:=pw 2;have p3:=pw 3;have p4:=pw 4;have p5:=pw 5;have p6:=pw 6;have p7:=pw 7;simp only[Nat.reducePow,Vo,Q5]at p0 p1 p2 p3 p4 p5 p6 p7
  have p8:U/100000000=u/10^(nd-(m-8)):=by
   rw[show nd-(m-8)=nd-m+8 by omega,<- dd10,hU]
  have hbl:=(Kz.1 hb).1;have hg:∀c:List V,(L.set b (.cells c ty))[b]? = some (.cells c ty):=λc=>Kl hbl
  have hlen:=hI.len;have hlo:off+m<=cs0.length:=by omega
  have i1:=hI.two 1 (M:=m) hm hl (by omega) (by omega) (by omega) (d1:=B % 100 % 10) (d2:=B % 100/10) (by rw[<- p0];omega) (by rw[<- p1];omega);have l1:=i1.len;have i2:=i1.two 3 (M:=m) (by omega) hl (by omega) (by omega) (by omega) (d1:=B/100 % 10) (d2:=B/100/10) (by rw[show nd-(m-2)=nd-m+2 by omega,<- p2];omega) (by rw[show nd-(m-2)+1=nd-m+3 by omega,<- p3];omega);have l2:=i2.len;have i3:=i2.two 5 (M:=m) (by omega) hl (by omega) (by omega) (by omega) (d1:=A % 100 % 10) (d2:=A % 100/10) (by rw[show nd-(m-2-2)=nd-m+4 by omega,<- p4];omega) (by rw[show nd-(m-2-2)+1=nd-m+5 by omega,<- p5];omega);have l3:=i3.len;have i4:=i3.two 7 (M:=m) (by omega) hl (by omega) (by omega) (by omega) (d1:=A/100 % 10) (d2:=A/100/10) (by rw[show nd-(m-2-2-2)=nd-m+6 by omega,<- p6];omega) (by rw[show nd-(m-2-2-2)+1=nd-m+7 by omega,<- p7];omega);simp only[Kd,simprocAttr,Uy,Ke,Vq,t0,t1,t4,c1,w1,w2,w3,w4,w5,w6,w7,w8,w9,x1,x2,x3,x4,Z5,tys];refine jyN (m:=B % 100) (hg _) t0 t4 rfl (by omega) (by omega) hm (by omega) (Qs hlo (Jm hlen.symm)) λT1 u1 => ?_
  have a0:T1 0=.hsl b off nd cap ex:=(u1 0 (by decide)).trans t0;have a1:T1 1=.int .u64 ((U/100000000:Nat):Int):=u1 1 (by decide);have a4:T1 4=.int .i64 m:=(u1 4 (by decide)).trans t4;have a8:T1 8=.int .u32 ((2*(B/100):Nat):Int):=u1 8 (by decide);have a10:T1 10=.int .u32 ((2*(A/100):Nat):Int):=u1 10 (by decide);have a11:T1 11=.int .u32 ((2*(A % 100):Nat):Int):=u1 11 (by decide);clear u1;simp only[Kd,simprocAttr,Uy,Ke,Vq,Qy];refine jyO (hg _) a0 a4 a8 (by omega) (by omega) hm (by omega) (Qs hlo (Jm l1.symm)) λT2 u2 => ?_
  have b0:=(u2 0 (by decide)).trans a0;have b1:=(u2 1 (by decide)).trans a1;have b4:=(u2 4 (by decide)).trans a4;have b10:=(u2 10 (by decide)).trans a10;have b11:=(u2 11 (by decide)).trans a11;clear u2;simp only[Kd,simprocAttr,Uy,Ke,Vq,Qy];refine jyP (hg _) b0 b4 b11 (by omega) (by omega) hm (by omega) (Qs hlo (Jm l2.symm)) λT3 u3 => ?_
  have c0:=(u3 0 (by decide)).trans b0;have c1:=(u3 1 (by decide)).trans b1;have c4:=(u3 4 (by decide)).trans b4;have c10:=(u3 10 (by decide)).trans b10;clear u3;simp only[Kd,simprocAttr,Uy,Ke,Vq,Qy];refine jxd (hg _) c0 c4 c10 (by omega) (by omega) hm (by omega) (Qs hlo (Jm l3.symm)) λT4 u4 => ?_
  have d0:=(u4 0 (by decide)).trans c0;have d1:=(u4 1 (by decide)).trans c1;have d4:=(u4 4 (by decide)).trans c4;clear u4;simp only[Kd,simprocAttr,Uy,Ke,Vq,Qy,d0,d1,d4,e8];exact⟨m-8,by omega,m-8,_,rfl,by omega,by rw[p8],rfl,i4,rfl⟩
 ·have c1:((m:Int) >= 8)=False:=eq_false (by omega);simp only[Kd,simprocAttr,Uy,Ke,Vq,t0,t1,t4,c1];exact h _ m cells (by omega) hm hI t0 t1 t4
theorem jfN {ty:TypeId}{L:List AObj}{ts:List Nat}{b off nd cap u:Nat}{ex:HCap}{cs0:List V}(hb:L[b]? = some (.cells cs0 ty))(hl:off+nd<=cs0.length)(hu:u<2^64)(hN:NdOf u nd) :
  ∃v O',jas env (ev env) 165 [.hsl b off nd cap ex,.int .u64 u] ⟨L,ts⟩=some (v,O')/\∃cells,O'=⟨L.set b (.cells cells ty),ts⟩/\Inv cs0 off nd u 0 cells:=by
 obtain⟨n1,n2,n3,n4⟩:=hN;refine jcv rfl rfl jAs rfl (by simp[Tryz.f165]) (U4 rfl) (jar ?_);have hl0:∀e,jes (some (.slice e)) (V.hsl b off nd cap ex)=some (.int .i64 nd):=λe=>rfl
 simp only[Tryz.f165,Kd,simprocAttr,Uy,Ke,Vq,hl0];refine jvd hb hl n2 hu rfl rfl rfl λT m cells hm hmn hI t0 t1 t4 => ?_
 have hbl:=(Kz.1 hb).1;have hg:∀c:List V,(L.set b (.cells c ty))[b]? = some (.cells c ty):=λc=>Kl hbl
 obtain⟨U,hU⟩:∃U,U=u/10^(nd-m):=⟨_,rfl⟩
 have hUm:U<10^m:=by
  rw[hU];refine Jk ?_;rw[<- Vt,show nd-m+m=nd by omega];exact n3
 have hU7:U<10000000:=Vn hUm (Qs (Xe (by decide) (show m<=7 by omega)) (by decide));rw[<- hU]at t1;have v1:IntKind.u32.wrap ((U:Nat):Int)=((U:Nat):Int):=jcF (Xo _) (by omega);have pw:∀j,U/10^j % 10=u/10^(nd-m+j) % 10:=λj=>by rw[hU,dd10]
 have hlen:=hI.len;have hlo:off+m<=cs0.length:=by omega
 by_cases h4:4<=m
 ·have c4:((m:Int) >= 4)=True:=eq_true (by omega);have w4:IntKind.u32.wrap (Int.tdiv (U:Int) 10000)=((U/10000:Nat):Int):=jpq U 10000 (by omega);have w5:Int.tmod (U:Int) 10000=((U % 10000:Nat):Int):=rfl;obtain⟨B,hB⟩:∃B,B=U % 10000:=⟨_,rfl⟩;rw[<- hB]at w5;have w6:IntKind.u32.wrap (Int.tdiv (B:Int) 100)=((B/100:Nat):Int):=jpq B 100 (by omega);have w7:Int.tmod (B:Int) 100=((B % 100:Nat):Int):=rfl;have x1:=jn2 (B/100) (by omega);have x2:=jn2 (B % 100) (by omega);have e4:IntKind.i64.wrap ((m:Int)-4)=((m-4:Nat):Int):=by rw[wrap_i64 (by omega) (by omega)];omega
  have p0:=pw 0;have p1:=pw 1;have p2:=pw 2;have p3:=pw 3;simp only[Nat.reducePow,Vo,Q5]at p0 p1 p2 p3;have i1:=hI.two 1 (M:=m) hmn hl (by omega) (by omega) (by omega) (d1:=B % 100 % 10) (d2:=B % 100/10) (by rw[<- p0];omega) (by rw[<- p1];omega);have l1:=i1.len;have i2:=i1.two 3 (M:=m) (by omega) hl (by omega) (by omega) (by omega) (d1:=B/100 % 10) (d2:=B/100/10) (by rw[show nd-(m-2)=nd-m+2 by omega,<- p2];omega) (by rw[show nd-(m-2)+1=nd-m+3 by omega,<- p3];omega);simp only[Kd,simprocAttr,Uy,Ke,Vq,t0,t1,t4,v1,Z5,tys,c4,w4,w5,w6,w7,x1,x2];refine jxe (m:=B % 100) (hg _) t0 t4 rfl (by omega) (by omega) hmn (by omega) (Qs hlo (Jm hlen.symm)) λT1 u1 => ?_
  have a0:T1 0=.hsl b off nd cap ex:=(u1 0 (by decide)).trans t0;have a4:T1 4=.int .i64 m:=(u1 4 (by decide)).trans t4;have a12:T1 12=.int .u32 ((U/10000:Nat):Int):=u1 12 (by decide);have a14:T1 14=.int .u32 ((2*(B/100):Nat):Int):=u1 14 (by decide);clear u1;simp only[Kd,simprocAttr,Uy,Ke,Vq,Qy];refine jxf (hg _) a0 a4 a14 (by omega) (by omega) hmn (by omega) (Qs hlo (Jm l1.symm)) λT2 u2 => ?_
  have b0:=(u2 0 (by decide)).trans a0;have b4:=(u2 4 (by decide)).trans a4;have b12:=(u2 12 (by decide)).trans a12;clear u2;have hV:U/10000=u/10^(nd-(m-4)):=by rw[show nd-(m-4)=nd-m+4 by omega,<- dd10,hU]
  have hVm:U/10000<10^(m-4):=by
   refine Jk ?_;rw[show(10000:Nat)=10^4 by rfl,<- Vt,show 4+(m-4)=m by omega];exact hUm
  obtain⟨M,hM⟩:∃M,M=m-4:=⟨_,rfl⟩;obtain⟨V,hVV⟩:∃V,V=U/10000:=⟨_,rfl⟩;have hV7:V<10000000:=by omega
  rw[<- hVV]at hV hVm b12;rw[<- hM]at hV hVm e4
  have i3:Inv cs0 off nd u M ((((cells.set (off+(m-1)) (dV (B % 100 % 10))).set (off+(m-2)) (dV (B % 100/10))).set (off+(m-3)) (dV (B/100 % 10))).set (off+(m-4)) (dV (B/100/10))):=by
   have e:M=m-2-2:=by omega
   rw[e];exact i2
  have hM4:M<4:=by omega
  have hMn:M<=nd:=by omega
  simp only[Qy];generalize (((cells.set (off+(m-1)) (dV (B % 100 % 10))).set (off+(m-2)) (dV (B % 100/10))).set (off+(m-3)) (dV (B/100 % 10))).set (off+(m-4)) (dV (B/100/10))=C at *;clear pw v1 p0 p1 p2 p3 w4 w5 w6 w7 x1 x2 hI i1 l1 i2 t0 t1 t4 a0 a4 a12 a14;by_cases h2:2<=M
  ·have c2:((M:Int) >= 2)=True:=eq_true (by omega);have y4:IntKind.u32.wrap (Int.tdiv (V:Int) 100)=((V/100:Nat):Int):=jpq V 100 (by omega);have y5:Int.tmod (V:Int) 100=((V % 100:Nat):Int):=rfl;have y6:=jn2 (V % 100) (by omega);have f2:IntKind.i64.wrap ((M:Int)-2)=((M-2:Nat):Int):=by rw[wrap_i64 (by omega) (by omega)];omega
   have pv:∀j,V/10^j % 10=u/10^(nd-M+j) % 10:=λj=>by rw[hV,dd10]
   have q0:=pv 0;have q1:=pv 1;simp only[Nat.reducePow,Vo,Q5]at q0 q1;have j1:=i3.two 1 (M:=M) hMn hl (by omega) (by omega) (by omega) (d1:=V % 100 % 10) (d2:=V % 100/10) (by rw[<- q0];omega) (by rw[<- q1];omega);have jl:=i3.len;simp only[Kd,simprocAttr,Uy,Ke,Vq,Qy,b0,b4,b12,e4,Z5,tys,c2,y4,y5,y6];refine jtB (m:=V % 100) (hg _) b0 rfl rfl (by omega) (by omega) hMn (by omega) (Qs (show off+M<=cs0.length by omega) (Jm jl.symm)) λT5 u5 => ?_
   have k0:T5 0=.hsl b off nd cap ex:=(u5 0 (by decide)).trans b0;have k4:T5 4=.int .i64 M:=(u5 4 (by decide)).trans rfl;have k12:T5 12=.int .u32 ((V/100:Nat):Int):=u5 12 (by decide);clear u5;have hW:V/100=u/10^(nd-(M-2)):=by rw[show nd-(M-2)=nd-M+2 by omega,<- dd10,hV]
   have hWm:V/100<10^(M-2):=by
    refine Jk ?_;rw[show(100:Nat)=10^2 by rfl,<- Vt,show 2+(M-2)=M by omega];exact hVm
   obtain⟨N,hN⟩:∃N,N=M-2:=⟨_,rfl⟩;obtain⟨W,hWW⟩:∃W,W=V/100:=⟨_,rfl⟩;rw[<- hWW]at hW hWm k12;rw[<- hN]at hW hWm f2;have j2:Inv cs0 off nd u N ((C.set (off+(M-1)) (dV (V % 100 % 10))).set (off+(M-2)) (dV (V % 100/10))):=by rw[hN];exact j1
   simp only[Qy];generalize (C.set (off+(M-1)) (dV (V % 100 % 10))).set (off+(M-2)) (dV (V % 100/10))=C2 at *;have hN2:N<2:=by omega
   have hNn:N<=nd:=by omega
   by_cases h0:0<N
   ·have g0:((N:Int)>0)=True:=eq_true (by omega);have hM1:N=1:=by omega
    subst hM1;have hV1:W<10:=by have:=hWm;simpa using this
    have z1:IntKind.u32.wrap (48+(W:Int))=((48+W:Nat):Int):=by rw[jcF (by omega) (by omega)];omega
    have z2:IntKind.u8.wrap ((48+W:Nat):Int)=((48+W:Nat):Int):=jhd (Xo _) (by omega);have ix:jaJ 1 (.hsl b off nd cap ex) (.int .i64 0)=some (.ptr b off):=by rw[jbJ,Ki ⟨by omega,by omega⟩];rfl
    have st:=jdL (L:=L.set b (.cells _ ty)) (ts:=ts) (hg _) (k:=off) (by rw[j2.len];omega) W;have cl:=jcN W;have i9:=j2.one (v:=dV W) (Kw _) (by omega) hl (by unfold dgt;rw[<- hW,Xk hV1]);rw[Qy]at st;simp only[Kd,simprocAttr,Uy,Ke,Vq,Qy,k0,k4,k12,f2,Z5,tys,g0,z1,z2,ix,st,cl];exact⟨_,rfl,i9⟩
   ·have g0:((N:Int)>0)=False:=eq_false (by omega);have hM0:N=0:=by omega
    subst hM0;simp only[Kd,simprocAttr,Uy,Ke,Vq,Qy,k0,k4,k12,f2,Z5,tys,g0];exact⟨_,rfl,j2⟩
  ·have c2:((M:Int) >= 2)=False:=eq_false (by omega);by_cases h0:0<M
   ·have g0:((M:Int)>0)=True:=eq_true (by omega);have hM1:M=1:=by omega
    subst hM1;have hV1:V<10:=by have:=hVm;simpa using this
    have z1:IntKind.u32.wrap (48+(V:Int))=((48+V:Nat):Int):=by rw[jcF (by omega) (by omega)];omega
    have z2:IntKind.u8.wrap ((48+V:Nat):Int)=((48+V:Nat):Int):=jhd (Xo _) (by omega);have ix:jaJ 1 (.hsl b off nd cap ex) (.int .i64 0)=some (.ptr b off):=by rw[jbJ,Ki ⟨by omega,by omega⟩];rfl
    have st:=jdL (L:=L.set b (.cells _ ty)) (ts:=ts) (hg _) (k:=off) (by rw[i3.len];omega) V;have cl:=jcN V;have i9:=i3.one (v:=dV V) (Kw _) (by omega) hl (by unfold dgt;rw[<- hV,Xk hV1]);rw[Qy]at st;simp only[Kd,simprocAttr,Uy,Ke,Vq,Qy,b0,b4,b12,e4,Z5,tys,c2,g0,z1,z2,ix,st,cl];exact⟨_,rfl,i9⟩
   ·have g0:((M:Int)>0)=False:=eq_false (by omega);have hM0:M=0:=by omega
    subst hM0;simp only[Kd,simprocAttr,Uy,Ke,Vq,Qy,b0,b4,b12,e4,Z5,tys,c2,g0];exact⟨_,rfl,i3⟩
 ·have c4:((m:Int) >= 4)=False:=eq_false (by omega);by_cases h2:2<=m
  ·have c2:((m:Int) >= 2)=True:=eq_true (by omega);have y4:IntKind.u32.wrap (Int.tdiv (U:Int) 100)=((U/100:Nat):Int):=jpq U 100 (by omega);have y5:Int.tmod (U:Int) 100=((U % 100:Nat):Int):=rfl;have y6:=jn2 (U % 100) (by omega);have f2:IntKind.i64.wrap ((m:Int)-2)=((m-2:Nat):Int):=by rw[wrap_i64 (by omega) (by omega)];omega
   have pv:∀j,U/10^j % 10=u/10^(nd-m+j) % 10:=λj=>by rw[hU,dd10]
   have q0:=pv 0;have q1:=pv 1;simp only[Nat.reducePow,Vo,Q5]at q0 q1;have j1:=hI.two 1 (M:=m) hmn hl (by omega) (by omega) (by omega) (d1:=U % 100 % 10) (d2:=U % 100/10) (by rw[<- q0];omega) (by rw[<- q1];omega);have jl:=hI.len;simp only[Kd,simprocAttr,Uy,Ke,Vq,t0,t1,t4,v1,Z5,tys,c4,c2,y4,y5,y6];refine jtB (m:=U % 100) (hg _) t0 t4 rfl (by omega) (by omega) hmn (by omega) (Qs (show off+m<=cs0.length by omega) (Jm jl.symm)) λT5 u5 => ?_
   have k0:T5 0=.hsl b off nd cap ex:=(u5 0 (by decide)).trans t0;have k4:T5 4=.int .i64 m:=(u5 4 (by decide)).trans t4;have k12:T5 12=.int .u32 ((U/100:Nat):Int):=u5 12 (by decide);clear u5;have hW:U/100=u/10^(nd-(m-2)):=by rw[show nd-(m-2)=nd-m+2 by omega,<- dd10,hU]
   have hWm:U/100<10^(m-2):=by
    refine Jk ?_;rw[show(100:Nat)=10^2 by rfl,<- Vt,show 2+(m-2)=m by omega];exact hUm
   obtain⟨N,hN⟩:∃N,N=m-2:=⟨_,rfl⟩;obtain⟨W,hWW⟩:∃W,W=U/100:=⟨_,rfl⟩;rw[<- hWW]at hW hWm k12;rw[<- hN]at hW hWm f2;have j2:Inv cs0 off nd u N ((cells.set (off+(m-1)) (dV (U % 100 % 10))).set (off+(m-2)) (dV (U % 100/10))):=by rw[hN];exact j1
   simp only[Qy];generalize (cells.set (off+(m-1)) (dV (U % 100 % 10))).set (off+(m-2)) (dV (U % 100/10))=C2 at *;have hN2:N<2:=by omega
   have hNn:N<=nd:=by omega
   by_cases h0:0<N
   ·have g0:((N:Int)>0)=True:=eq_true (by omega);have hM1:N=1:=by omega
    subst hM1;have hV1:W<10:=by have:=hWm;simpa using this
    have z1:IntKind.u32.wrap (48+(W:Int))=((48+W:Nat):Int):=by rw[jcF (by omega) (by omega)];omega
    have z2:IntKind.u8.wrap ((48+W:Nat):Int)=((48+W:Nat):Int):=jhd (Xo _) (by omega);have ix:jaJ 1 (.hsl b off nd cap ex) (.int .i64 0)=some (.ptr b off):=by rw[jbJ,Ki ⟨by omega,by omega⟩];rfl
    have st:=jdL (L:=L.set b (.cells _ ty)) (ts:=ts) (hg _) (k:=off) (by rw[j2.len];omega) W;have cl:=jcN W;have i9:=j2.one (v:=dV W) (Kw _) (by omega) hl (by unfold dgt;rw[<- hW,Xk hV1]);rw[Qy]at st;simp only[Kd,simprocAttr,Uy,Ke,Vq,Qy,k0,k4,k12,f2,Z5,tys,g0,z1,z2,ix,st,cl];exact⟨_,rfl,i9⟩
   ·have g0:((N:Int)>0)=False:=eq_false (by omega);have hM0:N=0:=by omega
    subst hM0;simp only[Kd,simprocAttr,Uy,Ke,Vq,Qy,k0,k4,k12,f2,Z5,tys,g0];exact⟨_,rfl,j2⟩
  ·have c2:((m:Int) >= 2)=False:=eq_false (by omega);by_cases h0:0<m
   ·have g0:((m:Int)>0)=True:=eq_true (by omega);have hM1:m=1:=by omega
    subst hM1;have hV1:U<10:=by have:=hUm;simpa using this
    have z1:IntKind.u32.wrap (48+(U:Int))=((48+U:Nat):Int):=by rw[jcF (by omega) (by omega)];omega
    have z2:IntKind.u8.wrap ((48+U:Nat):Int)=((48+U:Nat):Int):=jhd (Xo _) (by omega);have ix:jaJ 1 (.hsl b off nd cap ex) (.int .i64 0)=some (.ptr b off):=by rw[jbJ,Ki ⟨by omega,by omega⟩];rfl
    have st:=jdL (L:=L.set b (.cells _ ty)) (ts:=ts) (hg _) (k:=off) (by rw[hI.len];omega) U;have cl:=jcN U;have i9:=hI.one (v:=dV U) (Kw _) (by omega) hl (by unfold dgt;rw[<- hU,Xk hV1]);rw[Qy]at st;simp only[Kd,simprocAttr,Uy,Ke,Vq,t0,t1,t4,v1,Z5,tys,c4,c2,g0,z1,z2,ix,st,cl];exact⟨_,rfl,i9⟩
   ·have g0:((m:Int)>0)=False:=eq_false (by omega);have hM0:m=0:=by omega
    subst hM0;simp only[Kd,simprocAttr,Uy,Ke,Vq,t0,t1,t4,v1,Z5,tys,c4,c2,g0];exact⟨_,rfl,hI⟩
def IsDg(c:UInt8):Prop:=48<=c.toNat/\c.toNat<=57
def decV:Nat->List UInt8->Nat
 |a,[]=>a
 |a,c::r=>decV (a*10+(c.toNat-48)) r
theorem decV_app(l r:List UInt8):∀a:Nat,decV a (l++r)=decV (decV a l) r:=by
 induction l with
 |nil=>exact λa=>rfl
 |cons c l ih=>exact λa=>ih _
theorem jpf(l:List UInt8):∀a:Nat,a<=decV a l:=by
 induction l with
 |nil=>exact λa=>Kw _
 |cons c l ih =>
  intro a;show a<=decV (a*10+(c.toNat-48)) l;generalize c.toNat-48=x;have h1:a<=a*10+x:=by omega
  exact Qs h1 (ih (a*10+x))
theorem jkq {s:List UInt8}{i:Nat}(h:i<s.length):s.take (i+1)=s.take i++[s.getD i 0]:=by
 rw[Vv];simp[List.getD,h]
theorem jh2 {s:List UInt8}{i:Nat}(h:i<s.length):decV 0 (s.take (i+1))=decV 0 (s.take i)*10+((s.getD i 0).toNat-48):=by
 rw[jkq h,decV_app];rfl
theorem jnN(s:List UInt8)(i:Nat):decV 0 (s.take i)<=decV 0 s:=by
 conv=>rhs;rw[<- J9 i s,decV_app]
 exact jpf _ _
def decS(u nd:Nat):List UInt8:=(List.range nd).map λk=>UInt8.ofNat (48+u/10^(nd-1-k) % 10)
theorem jjz(u nd:Nat):(decS u nd).length=nd:=by simp[decS]
theorem jtC(u nd:Nat):decS u (nd+1)=decS (u/10) nd++[UInt8.ofNat (48+u % 10)]:=by
 unfold decS;rw[List.range_succ,Ua,List.map_singleton,Nat.add_sub_cancel,X6,Vx,Vo]
 congr 1
 refine List.map_congr_left λk hk => ?_
 have hk:=Q3.1 hk;rw[show nd-k=1+(nd-1-k) by omega,<- dd10,Nat.pow_one]
theorem jgO(d:Nat)(h:d<10):(UInt8.ofNat (48+d)).toNat=48+d:=by simp[UInt8.toNat_ofNat];omega
theorem jqJ:∀(nd u:Nat),u<10^nd->decV 0 (decS u nd)=u
 |0,u,h=>by
  have h0:u=0:=by rw[Vx]at h;omega
  subst h0;rfl
 | nd+1,u,h=>by
  have hq:u/10<10^nd:=by
   rw[Uc,Us]at h;exact Jk h
  have ih:=jqJ nd (u/10) hq;have e:decV 0 (decS u (nd+1))=decV (decV 0 (decS (u/10) nd)) [UInt8.ofNat (48+u % 10)]:=by rw[jtC,decV_app]
  have e2:∀a,decV a [UInt8.ofNat (48+u % 10)]=a*10+((UInt8.ofNat (48+u % 10)).toNat-48):=λa=>rfl
  rw[e,ih,e2,jgO _ (J8 _ (by decide))];omega
theorem jxg(u nd i:Nat)(h:i<(decS u nd).length):IsDg ((decS u nd).getD i 0):=by
 have hn:i<nd:=by rwa[jjz]at h
 have:(decS u nd).getD i 0=UInt8.ofNat (48+u/10^(nd-1-i) % 10):=by simp[decS,List.getD,hn]
 rw[this];unfold IsDg;rw[jgO _ (J8 _ (by decide))];omega
theorem Inv.read {cs0 cells:List V}{off nd u:Nat}(h:Inv cs0 off nd u 0 cells)(hl:off+nd<=cs0.length):(cells.drop off).take nd=jaw (decS u nd):=by
 apply Xw;intro k;by_cases hk:k<nd
 ·rw[Xb hk,Jo,h.2,Ki ⟨by omega,by omega⟩];simp only[jaw,decS,Jy,List.getElem?_range hk,Kx,Kg];rw[jgO _ (J8 _ (by decide)),show off+nd-1-(off+k)=nd-1-k by omega]
 ·rw[Qf (by simp;omega),Qf (by simp[jaw,decS];omega)]
theorem Inv.low {cs0 cells:List V}{off nd u m:Nat}(h:Inv cs0 off nd u m cells){k:Nat}(hk:k<off):cells[k]? = cs0[k]? := by
 rw[h.2,Kj (by omega)]
theorem jcm:∀s:List UInt8,jcA (jaw s)=some s
 | []=>rfl
 |c::s=>by
  have h:=jcm s;unfold jaw at h ⊢;simp only[Jf,jcA,h,Kx,Kg,J2,and_true];simp
theorem jqK {O:S}{b off n cap:Nat}{ex:HCap}{cs:List V}{ty:TypeId}{s:List UInt8}(hb:O.heap[b]? = some (.cells cs ty))(hl:off+n<=cs.length)(hs:(cs.drop off).take n=jaw s) :
  jiA env O 77 9 (some (.slice 5)) (some .string) (.hsl b off n cap ex)=some (.str s,O):=by
 have hv:jbv O.heap 1 n (.hsl b off n cap ex)=some (jaw s):=by
  simp only[jbv,hb];rw[Ki ⟨Kw _,by omega⟩,Qm,hs]
 simp[jiA,joY,joZ,u5,hv,jcm]
def jyQ(n:Int)(s:List UInt8):Prop:=∃ds:List UInt8,(∀i,i<ds.length->IsDg (ds.getD i 0))/\ds ≠ []/\ds.length<=20/\(decV 0 ds<10^17->ds.length<=17)/\((0<=n/\s=ds/\(decV 0 ds:Int)=n)\/(n<0/\s=45::ds/\(decV 0 ds:Int) = -n))
theorem jmx {u nd:Nat}(h:NdOf u nd):(∀i,i<(decS u nd).length->IsDg ((decS u nd).getD i 0))/\decS u nd ≠ []/\(decS u nd).length<=20/\(decV 0 (decS u nd)<10^17->(decS u nd).length<=17)/\decV 0 (decS u nd)=u:=by
 obtain⟨h1,h2,h3,h4⟩:=h;have hv:=jqJ nd u h3;have hl:=jjz u nd;refine⟨jxg u nd,λe=>by rw[e]at hl;simp at hl;omega,by omega,λhlt => ?_,hv⟩;rw[hv]at hlt;rw[hl];by_cases h:nd<=17
 ·exact h
 ·have:=Xe (n:=10) (by decide) (show 17<=nd-1 by omega);omega
theorem jtD:env.P.funcs[133]? = some Tryz.f133:=by kernel_rfl
theorem at97:env.P.funcs[97]? = some Tryz.f97:=by kernel_rfl
theorem at65:env.P.funcs[65]? = some Tryz.f65:=by kernel_rfl
def jeE(k:Nat):List UInt8:=if k<10 then [UInt8.ofNat (48+k)]else [UInt8.ofNat (48+k/10),UInt8.ofNat (48+k % 10)]
theorem jru:∀k,k<100->(smX.drop (2*k)).take 2=[UInt8.ofNat (48+k/10),UInt8.ofNat (48+k % 10)]:=by decide +kernel
def dgX:List UInt8:=(48::49::50::51::52::53::54::55::56::57::97::98::99::100::101::102::103::104::105::106::107::108::109::110::111::112::113::114::115::116::117::118::119::120::121::122::[])
theorem dgK(T:Tm):jaK env T (.const (.string ⟨(48::49::50::51::52::53::54::55::56::57::97::98::99::100::101::102::103::104::105::106::107::108::109::110::111::112::113::114::115::116::117::118::119::120::121::122::[]).toArray⟩))=some (.str dgX):=rfl
theorem jxh:∀k,k<10->(dgX.drop k).take 1=[UInt8.ofNat (48+k)]:=by decide +kernel
theorem jn3(s:List UInt8)(i j:Nat)(h:i<=j)(h2:j<=s.length):jb0 env 9 (.str s) (some (.int .i64 (i:Int))) (some (.int .i64 (j:Int))) none=some (.str ((s.drop i).take (j-i))):=by
 simp only[jb0,u9,jcT,jbl,K3];rw[Ki ⟨by omega,by omega⟩];simp only;rw[Ki ⟨by omega,by omega⟩]
theorem jfp(k:Nat)(hk:k<100)(O:S):jas env (ev env) 163 [.int .i64 k] O=some (.str (jeE k),O):=by
 refine jau rfl rfl rfl jAq rfl (by simp[Tryz.f163]) (U4 rfl) (jar ?_) O;unfold jeE;by_cases h:k<10
 ·rw[Ki h];have c:((k:Int)<10)=True:=eq_true (by omega);have e:IntKind.i64.wrap ((k:Int)+1)=((k+1:Nat):Int):=by rw[wrap_i64 (by omega) (by omega)];omega
  have hs:=jn3 dgX k (k+1) (by omega) (by simp[dgX];omega);rw[show k+1-k=1 by omega,jxh k h]at hs;simp only[Tryz.f163,Ka,simprocAttr,Uy,Ke,Vq,↓dgK,↓smK,jap,c,e,jbb,jbc,jbg,hs];rfl
 ·rw[Kj h];have c:((k:Int)<10)=False:=eq_false (by omega);have e:IntKind.i64.wrap ((k:Int)*2)=((2*k:Nat):Int):=by rw[wrap_i64 (by omega) (by omega)];omega
  have e2:IntKind.i64.wrap (((2*k:Nat):Int)+2)=((2*k+2:Nat):Int):=by rw[wrap_i64 (by omega) (by omega)];omega
  have hs:=jn3 smX (2*k) (2*k+2) (by omega) (by rw[jtA];omega);rw[show 2*k+2-2*k=2 by omega,jru k hk]at hs;simp only[Tryz.f163,Ka,simprocAttr,Uy,Ke,Vq,↓dgK,↓smK,jap,c,e,e2,jbb,jbc,jbg,hs];rfl
theorem jkz:∀k,k<100->(∀i,i<(jeE k).length->IsDg ((jeE k).getD i 0))/\jeE k ≠ []/\(jeE k).length<=2/\decV 0 (jeE k)=k:=by
 intro k hk;unfold jeE;split
 ·rename_i h;have h1:=jgO k h;refine⟨λi hi => ?_,by simp,by simp,?_⟩
  ·obtain rfl:i=0:=by simp at hi;omega
   show IsDg (UInt8.ofNat (48+k));unfold IsDg;omega
  ·show 0*10+((UInt8.ofNat (48+k)).toNat-48)=k;omega
 ·rename_i h;have h1:=jgO (k/10) (by omega);have h2:=jgO (k % 10) (by omega);refine⟨λi hi => ?_,by simp,by simp,?_⟩
  ·have:i=0\/i=1:=by simp at hi;omega
   rcases this with rfl|rfl
   ·show IsDg (UInt8.ofNat (48+k/10));unfold IsDg;omega
   ·show IsDg (UInt8.ofNat (48+k % 10));unfold IsDg;omega
  ·show(0*10+((UInt8.ofNat (48+k/10)).toNat-48))*10+((UInt8.ofNat (48+k % 10)).toNat-48)=k;omega
def zs:List V:=List.replicate 24 (.int .u8 0)
theorem jlM:zs.length=24:=rfl
theorem u158:env.P.underlying 174=some (.array 24 5):=by kernel_rfl
theorem z158:jbG env 174=some (.agg zs):=by kernel_rfl
theorem s5:sz env 5=some 1:=tys.2.2.2.2.2.2.2.2.2.2.1
theorem jqL(l h:Option V)(i j:Nat)(hl:jbl l 0 j=some i)(hh:jbl h 24 24=some j)(hi:i<24):jb0 env 174 (.ptr 0 0) l h none=some (.hsl 0 i (j-i) (24-i) .exact):=by
 simp only[jb0,u158,s5,Kn,je6,hh,hl];rw[Kj (by omega)];simp
def In64(x:Int):Prop := -9223372036854775808<=x/\x<=9223372036854775807
theorem jpr(n:Int)(hn:In64 n):∃s,(∀O,jas env (ev env) 133 [.int .i64 n,.int .i64 10] O=some (.str s,O))/\jyQ n s:=by
 unfold In64 at hn;by_cases hs:0<=n/\n<100
 ·obtain⟨k,rfl⟩:∃k:Nat,n=(k:Int):=⟨n.toNat,by omega⟩;have hk:k<100:=by omega
  have hS:=jfp k hk;obtain⟨a1,a2,a3,a4⟩:=jkz k hk;refine⟨jeE k,λO => ?_,jeE k,a1,a2,by omega,λ_=>by omega,.inl ⟨by omega,rfl,by rw[a4]⟩⟩;refine jau rfl rfl rfl jtD rfl (by simp[Tryz.f133]) (U4 rfl) (jar ?_) O;have c1:((0:Int)<=(k:Int))=True:=eq_true (by omega);have c2:((k:Int)<100)=True:=eq_true (by omega);simp only[Tryz.f133,Ka,simprocAttr,Uy,Ke,U2,c1,c2,hS];rfl
 ·have hg:n.natAbs<2^64:=by omega
  obtain⟨nd,hD,hN⟩:=jdR n.natAbs (by omega) hg;obtain⟨n1,n2,n3,n4⟩:=hN;have hN:NdOf n.natAbs nd:=⟨n1,n2,n3,n4⟩;obtain⟨a1,a2,a3,a4,a5⟩:=jmx hN;obtain⟨v,_,hF,cells,rfl,hI⟩:=jfN (L:=[.cells zs 174]) (ts:=[]) (b:=0) (off:=1) (nd:=nd) (cap:=23) (ex:=.exact) (u:=n.natAbs) rfl (by rw[jlM];omega) hg hN;have hl:cells.length=24:=hI.len;have hr:=hI.read (by rw[jlM];omega);have e1:IntKind.i64.wrap (1+(nd:Int))=((1+nd:Nat):Int):=by rw[wrap_i64 (by omega) (by omega)];omega
  have sl1:=jqL (some (.int .i64 1)) (some (.int .i64 ((1+nd:Nat):Int))) 1 (1+nd) (by simp only[jbl];rw[Ki ⟨by omega,by omega⟩];rfl) (by simp only[jbl];rw[Ki ⟨by omega,by omega⟩,K3]) (by omega);have sl0:=jqL none (some (.int .i64 ((1+nd:Nat):Int))) 0 (1+nd) rfl (by simp only[jbl];rw[Ki ⟨by omega,by omega⟩,K3]) (by omega);rw[show 1+nd-1=nd by omega]at sl1;have c10:((10:Int)=10)=True:=eq_true rfl;have zc:(V.agg zs).cells=zs:=rfl;have hset:∀o:AObj,[AObj.cells zs 174].set 0 o=[o]:=λo=>rfl
  rw[hset]at hF;by_cases h0:n<0
  ·have c1:((0:Int)<=n)=False:=eq_false (by omega);have c2:(n<0)=True:=eq_true h0
   have w1:IntKind.u64.wrap n=n+18446744073709551616:=by
    show(let m:=n % (2^64:Int);if false && decide (m >= 2^63)then m-2^64 else m)=_;simp only[Js,Km,Ks];omega
   have w2:IntKind.u64.wrap (0-(n+18446744073709551616))=((n.natAbs:Nat):Int):=by
    show(let m:=(0-(n+18446744073709551616)) % (2^64:Int);if false && decide (m >= 2^63)then m-2^64 else m)=_;simp only[Js,Km,Ks];omega
   have ix:idxO (env.P.underlying 174) (sz env) (some (.ptr 0 0)) (some (.int .i64 0))=some (.ptr 0 0):=by rw[u158];simp[idxO,s5,jdv]
   have e5:jab cells 0 [.int .u8 45]=cells.set 0 (.int .u8 45):=by
    rw[Vh,Ki (by omega)];simp[jab]
   have c5:(1<=cells.length)=True:=eq_true (by omega);have hs2:∀o:AObj,[AObj.cells cells 174].set 0 o=[o]:=λo=>rfl
   have ac:[V.int .u8 45].all V.isCell=true:=rfl
   have hr2:((cells.set 0 (.int .u8 45)).drop 0).take (1+nd)=jaw (45::decS n.natAbs nd):=by
    cases hc:cells with
    |nil=>rw[hc]at hl;simp at hl
    |cons x r =>
     rw[hc]at hr;simp only[Ue,Jn,Xi]at hr ⊢;rw[show 1+nd=nd+1 by omega,Q7,hr];rfl
   have cv:=jqK (O:=⟨[.cells (cells.set 0 (.int .u8 45)) 174],[]⟩) (b:=0) (off:=0) (n:=1+nd) (cap:=24) (ex:=.exact) (ty:=174) (cs:=cells.set 0 (.int .u8 45)) rfl (by rw[Jh];omega) hr2;refine⟨45::decS n.natAbs nd,λO => ?_,decS n.natAbs nd,a1,a2,a3,a4,.inr ⟨h0,rfl,by rw[a5];omega⟩⟩;refine jau rfl rfl rfl jtD rfl (by simp[Tryz.f133]) (U4 rfl) (jar ?_) O;simp only[Tryz.f133,Ka,simprocAttr,Uy,Ke,U2,c1,c2,z158,zc,Z5,w1,w2,hD,e1,jbb,jbc,jbg,sl1,sl0,hF,cv,ix,e5,c5,hs2,ac,Nat.sub_zero];rfl
  ·have c1:((0:Int)<=n)=True:=eq_true (by omega);have c3:(n<100)=False:=eq_false (by omega);have c2:(n<0)=False:=eq_false h0;have w1:IntKind.u64.wrap n=((n.natAbs:Nat):Int):=by rw[wrap_u64 (by omega) (by omega)];omega
   have cv:=jqK (O:=⟨[.cells cells 174],[]⟩) (b:=0) (off:=1) (n:=nd) (cap:=23) (ex:=.exact) (ty:=174) (cs:=cells) rfl (by omega) hr;refine⟨decS n.natAbs nd,λO => ?_,decS n.natAbs nd,a1,a2,a3,a4,.inl ⟨by omega,rfl,by rw[a5];omega⟩⟩;refine jau rfl rfl rfl jtD rfl (by simp[Tryz.f133]) (U4 rfl) (jar ?_) O;simp only[Tryz.f133,Ka,simprocAttr,Uy,Ke,U2,c1,c2,c3,z158,zc,Z5,w1,hD,e1,jbb,jbc,jbg,sl1,hF,cv];rfl
theorem jlN(n:Int)(s:List UInt8)(h:∀O,jas env (ev env) 133 [.int .i64 n,.int .i64 10] O=some (.str s,O))(O:S):jas env (ev env) 97 [.int .i64 n] O=some (.str s,O):=by
 refine jau rfl rfl rfl at97 rfl (by simp[Tryz.f97]) (U4 rfl) (jar ?_) O;simp only[Tryz.f97,Ka,simprocAttr,Uy,Ke,U2,h];rfl
theorem itoa_call(n:Int)(hn:In64 n):∃s,(∀O,jas env (ev env) 65 [.int .i64 n] O=some (.str s,O))/\jyQ n s:=by
 obtain⟨s,h,ht⟩:=jpr n hn;have h2:=jlN n s h;refine⟨s,λO => ?_,ht⟩;refine jau rfl rfl rfl at65 rfl (by simp[Tryz.f65]) (U4 rfl) (jar ?_) O;simp only[Tryz.f65,Ka,simprocAttr,Uy,Ke,U2,h2];rfl
theorem jyR:env.P.funcs[211]? = some Tryz.f211:=by kernel_rfl
theorem jAu:env.P.funcs[177]? = some Tryz.f177:=by kernel_rfl
def DgsOf(n:Nat)(s:List UInt8):Prop:=(∀i,i<s.length->IsDg (s.getD i 0))/\s ≠ []/\s.length<=20/\decV 0 s=n/\(1<s.length->10^(s.length-1)<=n)
theorem jlO(k:Nat)(h:k<100):1<(jeE k).length->10^((jeE k).length-1)<=k:=by
 unfold jeE;split
 ·simp
 ·simp;omega
theorem jrv(n:Nat)(hn:n<2^64):∃s,(∀O,jas env (ev env) 211 [.int .u64 n,.int .i64 10] O=some (.str s,O))/\DgsOf n s:=by
 by_cases hs:n<100
 ·have hS:=jfp n hs;obtain⟨a1,a2,a3,a4⟩:=jkz n hs;refine⟨jeE n,λO => ?_,a1,a2,by omega,a4,jlO n hs⟩;refine jau rfl rfl rfl jyR rfl (by simp[Tryz.f211]) (U4 rfl) (jar ?_) O;have c2:((n:Int)<100)=True:=eq_true (by omega);have w1:IntKind.i64.wrap (n:Int)=(n:Int):=wrap_i64 (by omega) (by omega);simp only[Tryz.f211,Ka,simprocAttr,Uy,Ke,U2,c2,Z5,w1,hS];rfl
 ·obtain⟨nd,hD,hN⟩:=jdR n (by omega) hn;obtain⟨n1,n2,n3,n4⟩:=hN;have hN:NdOf n nd:=⟨n1,n2,n3,n4⟩;obtain⟨a1,a2,a3,a4,a5⟩:=jmx hN;have hsl:=jjz n nd;obtain⟨v,_,hF,cells,rfl,hI⟩:=jfN (L:=[.cells zs 174]) (ts:=[]) (b:=0) (off:=0) (nd:=nd) (cap:=24) (ex:=.exact) (u:=n) rfl (by rw[jlM];omega) hn hN;have hl:cells.length=24:=hI.len;have hr:=hI.read (by rw[jlM];omega);have sl0:=jqL none (some (.int .i64 ((nd:Nat):Int))) 0 nd rfl (by simp only[jbl];rw[Ki ⟨by omega,by omega⟩,K3]) (by omega);have zc:(V.agg zs).cells=zs:=rfl;have hset:∀o:AObj,[AObj.cells zs 174].set 0 o=[o]:=λo=>rfl
  rw[hset]at hF;have c2:((n:Int)<100)=False:=eq_false (by omega);have cv:=jqK (O:=⟨[.cells cells 174],[]⟩) (b:=0) (off:=0) (n:=nd) (cap:=24) (ex:=.exact) (ty:=174) (cs:=cells) rfl (by omega) hr;refine⟨decS n nd,λO => ?_,a1,a2,a3,a5,λ_=>by rw[hsl];exact n4⟩;refine jau rfl rfl rfl jyR rfl (by simp[Tryz.f211]) (U4 rfl) (jar ?_) O;simp only[Tryz.f211,Ka,simprocAttr,Uy,Ke,U2,c2,z158,zc,hD,jbb,jbc,jbg,sl0,hF,cv,Nat.sub_zero];rfl
theorem sfuint_call(n:Nat)(hn:n<2^64):∃s,(∀O,jas env (ev env) 177 [.int .u64 n,.int .i64 10] O=some (.str s,O))/\DgsOf n s:=by
 obtain⟨s,h,hs⟩:=jrv n hn;refine⟨s,λO => ?_,hs⟩;refine jau rfl rfl rfl jAu rfl (by simp[Tryz.f177]) (U4 rfl) (jar ?_) O;simp only[Tryz.f177,Ka,simprocAttr,Uy,Ke,U2,h];rfl
theorem jrw(n:Nat)(hn:n<2^62):∃s,(∀O,jas env (ev env) 133 [.int .i64 n,.int .i64 10] O=some (.str s,O))/\DgsOf n s:=by
 by_cases hs:n<100
 ·have hS:=jfp n hs;obtain⟨a1,a2,a3,a4⟩:=jkz n hs;refine⟨jeE n,λO => ?_,a1,a2,by omega,a4,jlO n hs⟩;refine jau rfl rfl rfl jtD rfl (by simp[Tryz.f133]) (U4 rfl) (jar ?_) O;have c1:((0:Int)<=(n:Int))=True:=eq_true (by omega);have c2:((n:Int)<100)=True:=eq_true (by omega);simp only[Tryz.f133,Ka,simprocAttr,Uy,Ke,U2,c1,c2,hS];rfl
 ·have hg:n<2^64:=by omega
  obtain⟨nd,hD,hN⟩:=jdR n (by omega) hg;obtain⟨n1,n2,n3,n4⟩:=hN;have hN:NdOf n nd:=⟨n1,n2,n3,n4⟩;obtain⟨a1,a2,a3,a4,a5⟩:=jmx hN;have hsl:=jjz n nd;obtain⟨v,_,hF,cells,rfl,hI⟩:=jfN (L:=[.cells zs 174]) (ts:=[]) (b:=0) (off:=1) (nd:=nd) (cap:=23) (ex:=.exact) (u:=n) rfl (by rw[jlM];omega) hg hN;have hl:cells.length=24:=hI.len;have hr:=hI.read (by rw[jlM];omega);have e1:IntKind.i64.wrap (1+(nd:Int))=((1+nd:Nat):Int):=by rw[wrap_i64 (by omega) (by omega)];omega
  have sl1:=jqL (some (.int .i64 1)) (some (.int .i64 ((1+nd:Nat):Int))) 1 (1+nd) (by simp only[jbl];rw[Ki ⟨by omega,by omega⟩];rfl) (by simp only[jbl];rw[Ki ⟨by omega,by omega⟩,K3]) (by omega);rw[show 1+nd-1=nd by omega]at sl1;have zc:(V.agg zs).cells=zs:=rfl;have hset:∀o:AObj,[AObj.cells zs 174].set 0 o=[o]:=λo=>rfl
  rw[hset]at hF;have c1:((0:Int)<=(n:Int))=True:=eq_true (by omega);have c3:((n:Int)<100)=False:=eq_false (by omega);have c2:((n:Int)<0)=False:=eq_false (by omega);have w1:IntKind.u64.wrap (n:Int)=((n:Nat):Int):=wrap_u64 (by omega) (by omega);have cv:=jqK (O:=⟨[.cells cells 174],[]⟩) (b:=0) (off:=1) (n:=nd) (cap:=23) (ex:=.exact) (ty:=174) (cs:=cells) rfl (by omega) hr;refine⟨decS n nd,λO => ?_,a1,a2,a3,a5,λ_=>by rw[hsl];exact n4⟩;refine jau rfl rfl rfl jtD rfl (by simp[Tryz.f133]) (U4 rfl) (jar ?_) O;simp only[Tryz.f133,Ka,simprocAttr,Uy,Ke,U2,c1,c2,c3,z158,zc,Z5,w1,hD,e1,jbb,jbc,jbg,sl1,hF,cv];rfl
theorem itoa_dgs(n:Nat)(hn:n<2^62):∃s,(∀O,jas env (ev env) 65 [.int .i64 n] O=some (.str s,O))/\DgsOf n s:=by
 obtain⟨s,h,hs⟩:=jrw n hn;have h2:=jlN n s h;refine⟨s,λO => ?_,hs⟩;refine jau rfl rfl rfl at65 rfl (by simp[Tryz.f65]) (U4 rfl) (jar ?_) O;simp only[Tryz.f65,Ka,simprocAttr,Uy,Ke,U2,h2];rfl
end Go.Proofs.YtpclebdkhpapjaaGreatDoor.I
