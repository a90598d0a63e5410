/- Proved here: values of expressions. Conditions: each theorem's own. -/
import Derived.Test.YtajaampgajieeaaGreatDoorCkA
set_option linter.unusedSimpArgs false
set_option maxHeartbeats 16000000
set_option maxRecDepth 1000000
set_option linter.unusedVariables false
set_option linter.unusedSectionVars false
namespace Go.Proofs.YtajaampgajieeaaGreatDoor.W
open Go.Ab
theorem mb(f:FuncId)(r:Nat):env.mutb f r=(f==194 ||f==214):=rfl
theorem stb(f:FuncId)(r:Nat)(h:(f==194 && r==7)=false):env.stab f r=false:=h
theorem tys:env.P.underlying 3=some (.int .i64)/\env.P.underlying 4=some .bool/\env.P.underlying 9=some .string/\env.P.underlying 39=some (.slice 9)/\env.P.underlying 26=some (.slice 84)/\env.P.underlying 36=some (.slice 41)/\env.P.underlying 22=some (.slice 3) /\
  sz env 9=some 1/\sz env 39=some 1/\sz env 3=some 1/\sz env 4=some 1/\sz env 26=some 1/\sz env 36=some 1/\sz env 22=some 1/\sz env 41=some 4/\sz env 84=some 3/\sz env 93=some 2 /\
  jar env 93 0=some 0/\jar env 93 1=some 1/\jar env 41 0=some 0/\jar env 41 1=some 1/\jar env 41 2=some 2/\jar env 41 3=some 3/\jar env 84 0=some 0/\jar env 84 1=some 1/\jar env 84 2=some 2 /\
  (∀h p,jaH env h 9 p=(jab h 1 p).bind (·[0]?))/\(∀h p,jaH env h 39 p=(jab h 1 p).bind (·[0]?))/\(∀h p,jaH env h 3 p=(jab h 1 p).bind (·[0]?))/\(∀h p,jaH env h 4 p=(jab h 1 p).bind (·[0]?)) /\
  (∀h p,jaH env h 22 p=(jab h 1 p).bind (·[0]?))/\(∀h p,jaH env h 36 p=(jab h 1 p).bind (·[0]?))/\(∀h p,jaH env h 84 p=(jab h 3 p).map .agg)/\(∀h p,jaH env h 41 p=(jab h 4 p).map .agg) /\
  ja4 env 84=some (.agg [.int .i64 0,.int .i64 0,.str []])/\ja4 env 41=some (.agg [.str [],.int .i64 0,.int .i64 0,.nilsl]):=by
 have g9:aggT env 9=some false:=by kernel_rfl
 have g44:aggT env 39=some false:=by kernel_rfl
 have g3:aggT env 3=some false:=by kernel_rfl
 have g4:aggT env 4=some false:=by kernel_rfl
 have g24:aggT env 22=some false:=by kernel_rfl
 have g23:aggT env 36=some false:=by kernel_rfl
 have g52:aggT env 84=some true:=by kernel_rfl
 have g46:aggT env 41=some true:=by kernel_rfl
 have s52:sz env 84=some 3:=by kernel_rfl
 have s46:sz env 41=some 4:=by kernel_rfl
 exact(by refine ⟨?_,?_,?_,?_,?_,?_,?_,?_,?_,?_,?_,?_,?_,?_,?_,?_,?_,?_,?_,?_,?_,?_,?_,?_,?_,?_,
  λ_ _=>jav g9,λ_ _=>jav g44,λ_ _=>jav g3,λ_ _=>jav g4,λ_ _=>jav g24,λ_ _=>jav g23,λh p=>by unfold jaH;rw[g52,s52];rfl,λh p=>by unfold jaH;rw[g46,s46];rfl,?_,?_⟩<;>kernel_rfl)
theorem Kc:type_of% (Kd @mb (Kd @stb @tys)):=Kd @mb (Kd @stb @tys)
theorem zK:type_of% (Kd @Ka (Kd @Ys (Kd @Y0 @Kc))):=Kd @Ka (Kd @Ys (Kd @Y0 @Kc))
theorem yK:type_of% (Kd @Ka (Kd @Y0 @Kc)):=Kd @Ka (Kd @Y0 @Kc)
theorem tys2:env.P.underlying 36=some (.slice 41)/\env.P.underlying 32=some (.int .i64)/\sz env 36=some 1/\sz env 41=some 4/\sz env 38=some 4/\sz env 4=some 1/\jar env 38 0=some 0/\jar env 38 1=some 1/\jar env 38 2=some 2/\jar env 38 3=some 3 /\
  jar env 41 0=some 0/\jar env 41 1=some 1/\jar env 41 2=some 2/\jar env 41 3=some 3/\(∀h p,jaH env h 36 p=(jab h 1 p).bind (·[0]?))/\(∀h p,jaH env h 4 p=(jab h 1 p).bind (·[0]?)):=by
 have g27:aggT env 36=some false:=by kernel_rfl
 have g4:aggT env 4=some false:=by kernel_rfl
 exact(by refine ⟨?_,?_,?_,?_,?_,?_,?_,?_,?_,?_,?_,?_,?_,?_,λ_ _=>jav g27,λ_ _=>jav g4⟩<;>kernel_rfl)
theorem jdc(h:List AObj)(p:V):jaH env h 41 p=(jab h 4 p).map .agg:=by
 unfold jaH;rw[show aggT env 41=some true by kernel_rfl,show sz env 41=some 4 by kernel_rfl];rfl
theorem jen(h:List AObj)(p:V):jaH env h 38 p=(jab h 4 p).map .agg:=by
 unfold jaH;rw[show aggT env 38=some true by kernel_rfl,show sz env 38=some 4 by kernel_rfl];rfl
theorem tysn:env.P.underlying 26=some (.slice 84)/\env.P.underlying 32=some (.int .i64)/\env.P.underlying 162=some (.slice 163)/\env.P.underlying 163=some (.int .i64)/\env.P.underlying 166=some (.array 18 165)/\env.P.underlying 22=some (.slice 3) /\
  sz env 84=some 3/\sz env 163=some 1/\sz env 165=some 2/\sz env 166=some 36/\sz env 170=some 1/\sz env 162=some 1/\sz env 32=some 1 /\
  jar env 84 0=some 0/\jar env 84 1=some 1/\jar env 84 2=some 2/\jar env 165 0=some 0/\jar env 165 1=some 1/\jar env 170 0=some 0 /\
  (∀h p,jaH env h 162 p=(jab h 1 p).bind (·[0]?))/\(∀h p,jaH env h 163 p=(jab h 1 p).bind (·[0]?))/\(∀h p,jaH env h 39 p=(jab h 1 p).bind (·[0]?))/\(∀h p,jaH env h 3 p=(jab h 1 p).bind (·[0]?))/\(∀h p,jaH env h 9 p=(jab h 1 p).bind (·[0]?)) /\
  (∀h p,jaH env h 84 p=(jab h 3 p).map .agg)/\(∀h p,jaH env h 165 p=(jab h 2 p).map .agg)/\ja4 env 84=some (.agg [.int .i64 0,.int .i64 0,.str []])/\ja4 env 165=some (.agg [.nilsl,.int .i64 0]):=by
 have g103:aggT env 162=some false:=by kernel_rfl
 have g104:aggT env 163=some false:=by kernel_rfl
 have g44:aggT env 39=some false:=by kernel_rfl
 have g3:aggT env 3=some false:=by kernel_rfl
 have g9:aggT env 9=some false:=by kernel_rfl
 have g52:aggT env 84=some true:=by kernel_rfl
 have g106:aggT env 165=some true:=by kernel_rfl
 have s52:sz env 84=some 3:=by kernel_rfl
 have s106:sz env 165=some 2:=by kernel_rfl
 exact(by refine ⟨u22,u63,u103,u104,u107,?_,?_,?_,?_,?_,?_,?_,?_,?_,?_,?_,?_,?_,?_,
  λ_ _=>jav g103,λ_ _=>jav g104,λ_ _=>jav g44,λ_ _=>jav g3,λ_ _=>jav g9,λh p=>by unfold jaH;rw[g52,s52];rfl,λh p=>by unfold jaH;rw[g106,s106];rfl,?_,?_⟩<;>kernel_rfl)
theorem jwm:env.P.funcs[208]? = some Tryz.f208:=by kernel_rfl
theorem jwn:env.P.funcs[133]? = some Tryz.f133:=by kernel_rfl
theorem jyN:env.P.funcs[232]? = some Tryz.f232:=by kernel_rfl
theorem jyO:env.P.funcs[192]? = some Tryz.f192:=by kernel_rfl
theorem jyP:env.P.funcs[193]? = some Tryz.f193:=by kernel_rfl
abbrev jnD(c:Col):Prop:=Ok1 c
theorem jhy {c:Col}(h:jnD c)(hs:jdC c):c.lo<=c.hi /\ -1000000<=c.lo/\c.hi<=1000000:=by
 obtain⟨_,h⟩:=h;have:=hs.2.1;unfold colE at h;split at h
 ·split at h
  ·simp at h
  ·rename_i h1;omega
 ·split at h
  ·simp at h
  ·split at h
   ·simp at h
   ·split at h
    ·simp at h
    ·split at h
     ·simp at h
     ·rename_i h1;omega
open Classical in
theorem width_call(c:Col)(h:IsW c.w c.ws)(hs:jdC c)(U:S):jah env (ev env) 133 [aggC c] U=some (.int .i64 (if jnD c then c.hi-c.lo+1 else 0),U):=by
 have e:jde c=if jnD c then c.hi-c.lo+1 else 0:=by
  unfold jde;by_cases ho:Ok1 c
  ·obtain⟨b1,b2,b3⟩:=jhy ho hs;rw[Kh ho,Kh ho,wrap_i64 (x:=c.hi-c.lo) (by omega) (by omega),wrap_i64 (by omega) (by omega)]
  ·rw[Ke ho,Ke ho]
 rw[<- e];exact jcm rfl (YtajaampgajieeaaGreatDoor.width_call c h hs) _ U
open Classical in
theorem js7(c:Col)(h:IsW c.w c.ws)(hs:jdC c)(U:S):jah env (ev env) 232 [aggC c] U=some (.bool (decide (¬jnD c)),U):=by
 refine jak (by simp[V.closed,V.closed.closedL,jcu h]) jyN rfl ?_ U;have hV:=width_call c h hs;simp only[aggC]at hV ⊢;by_cases ho:jnD c
 ·obtain⟨b1,b2,b3⟩:=jhy ho hs;rw[Kh ho]at hV;have e1:((c.hi-c.lo+1:Int)=0)=False:=eq_false (by omega);rw[decide_eq_false (λh=>h ho)];simp only[Tryz.f232,simprocAttr,zK,K1,jaa,tysn,tys2,jaj,YW,jdc,jcb (show([AObj.cells [V.str c.name,V.int IntKind.i64 c.lo,V.int IntKind.i64 c.hi,c.w] 41]:List AObj)[0]? = some _ from rfl),hV,e1];simp[jaz,jai,jaB]
 ·rw[Ke ho]at hV;rw[decide_eq_true ho];simp only[Tryz.f232,simprocAttr,zK,K1,jaa,tysn,tys2,jaj,YW,jdc,jcb (show([AObj.cells [V.str c.name,V.int IntKind.i64 c.lo,V.int IntKind.i64 c.hi,c.w] 41]:List AObj)[0]? = some _ from rfl),hV];simp[jaz,jai,jaB]
open Classical in
noncomputable def jl0(cs:List Col)(i:Nat):Bool:=decide (¬jnD (cs.getD i Col.none))
theorem jrS {f:Nat->Bool}{n i:Nat}(h:i<n):jbN f (n-i) i=if f i=true then(i:Int)else jbN f (n-(i+1)) (i+1):=jd7 h
theorem jnE(cv:V)(cs:List Col)(hc:IsC cv cs)(ok:OkC cs)(hl:cs.length<=1000)(hs:∀i,i<cs.length->jdC (cs.getD i Col.none))(L:List AObj)(ts:List Nat) :
  jah env (ev env) 200 [cv,.func 232 [] []] ⟨L,ts⟩=some (.int .i64 (jbN (jl0 cs) cs.length 0),⟨L,ts⟩):=by
 refine jaK jsM rfl ?_;simp only[Tryz.f200,simprocAttr,zK,Vq,tys2,jfu hc];generalize hR:jbN (jl0 cs) cs.length 0=R;refine jax (λm T D U=>D=[]/\U=⟨L,ts⟩/\T 0=cv/\T 1=.func 232 [] []/\T 7=.int .i64 cs.length/\∃(i:Nat),T 8=.int .i64 i/\i<=cs.length/\m=cs.length-i/\jbN (jl0 cs) (cs.length-i) i=R) ?_ (cs.length-0) _ _ _ ⟨rfl,rfl,rfl,rfl,rfl,0,rfl,by omega,rfl,hR⟩;clear hR;rintro m T D U ⟨rfl,rfl,t0,t1,t7,i,t8,hi,rfl,hf⟩;refine jaC ?_;by_cases hlt:i<cs.length
 ·have c1:(i:Int)<(cs.length:Int):=by omega
  have e1:=wS i (by omega)
  have hx:=jeb hc hlt;have hB:=js7 (cs.getD i Col.none) (ok.at hlt) (hs i hlt);rw[jrS hlt]at hf
  change ∀U,jah env (ev env) 232 _ U=some (.bool (jl0 cs i),U)at hB
  simp only[aggC]at hB;cases hb:jl0 cs i with
  |true =>
   rw[hb]at hB hf;simp only[Kl]at hf;subst hf;simp only[simprocAttr,zK,Vq,tys2,t0,t1,t7,t8,c1,hx,jdc,jaL,hB,Jb];simp[jaz]
  |false =>
   rw[hb]at hB hf;simp only[Kr,Km]at hf;simp only[simprocAttr,zK,Vq,tys2,t0,t1,t7,t8,c1,e1,hx,jdc,jaL,hB,Jb];exact⟨cs.length-(i+1),by omega,i+1,rfl,by omega,rfl,hf⟩
 ·have hi2:i=cs.length:=by omega
  subst hi2;have c1:¬(cs.length:Int)<(cs.length:Int):=by omega
  rw[Xk]at hf;simp only[jbN]at hf;subst hf;simp only[simprocAttr,zK,Vq,t0,t1,t7,t8,c1];simp[jaz]
def jl1(cs:List Col):Prop:=∀i,i<cs.length->jnD (cs.getD i Col.none)
open Classical in
theorem jl2(cs:List Col):0<=jbN (jl0 cs) cs.length 0↔¬jl1 cs:=by
 rw[jdh];constructor
 ·rintro⟨j,_,h2,h3⟩ hP;exact(of_decide_eq_true h3) (hP j (by omega))
 ·intro hP;apply Jj;intro hn;refine hP λi hi=>Jj λhb=>hn ⟨i,by omega,by omega,decide_eq_true hb⟩
open Classical in
theorem jnF(cv:V)(cs:List Col)(hc:IsC cv cs)(ok:OkC cs)(hl:cs.length<=1000)(hs:∀i,i<cs.length->jdC (cs.getD i Col.none))(L:List AObj)(ts:List Nat) :
  jah env (ev env) 231 [cv,.func 232 [] []] ⟨L,ts⟩=some (.bool (decide (¬jl1 cs)),⟨L,ts⟩):=by
 refine jaK (by kernel_rfl:env.P.funcs[231]? = some Tryz.f231) rfl ?_;have hI:=jnE cv cs hc ok hl hs L ts;have hiff:=jl2 cs;by_cases hp:jl1 cs
 ·have h1:¬(0:Int)<=jbN (jl0 cs) cs.length 0:=λh=>(hiff.1 h) hp
  rw[decide_eq_false (λh=>h hp)];simp only[Tryz.f231,simprocAttr,zK,Vq,hI,h1];simp[jaz]
 ·have h1:(0:Int)<=jbN (jl0 cs) cs.length 0:=hiff.2 hp;rw[decide_eq_true hp];simp only[Tryz.f231,simprocAttr,zK,Vq,hI,h1];simp[jaz]
def Acc(l:List Nd)(cs:List Col)(cond:Bool):Prop:=jfa l cs cond=0/\jl1 cs
open Classical in
theorem jgK(v:V)(l:List Nd)(hv:IsN v l)(hl:l.length<=4000)(cv:V)(cs:List Col)(hc:IsC cv cs)(ok:OkC cs)(hcl:cs.length<=1000)(hs:∀i,i<cs.length->jdC (cs.getD i Col.none))(cond:Bool)(U:S) :
  jah env (ev env) 192 [v,cv,.bool cond] U=some (.bool (decide (Acc l cs cond)),U):=by
 refine jak (by simp[V.closed,V.closed.closedL,ja3 hc ok,jdQ hv]) jyO rfl ?_ U;have hE:=λU=>jcm (f:=75) rfl (expr_call v l hv hl cv cs hc ok hcl (λi hi=>(hs i hi).2.1) cond) (ev env) U
 have hB:=jnF cv cs hc ok hcl hs [] [];by_cases he:jfa l cs cond=0
 ·rw[he]at hE;by_cases hp:jl1 cs
  ·rw[decide_eq_false (λh=>h hp)]at hB;rw[decide_eq_true (show Acc l cs cond from⟨he,hp⟩)];simp only[Tryz.f192,simprocAttr,zK,Vq,tysn,jaj,hE,hB,Jy];simp[jaz,jai,jaB]
  ·rw[decide_eq_true hp]at hB;rw[decide_eq_false (show ¬Acc l cs cond from λh=>hp h.2)];simp only[Tryz.f192,simprocAttr,zK,Vq,tysn,jaj,hE,hB,Jg];simp[jaz,jai,jaB]
 ·have hne:((jfa l cs cond:Int)=0)=False:=eq_false he;rw[decide_eq_false (show ¬Acc l cs cond from λh=>he h.1)];simp only[Tryz.f192,simprocAttr,zK,Vq,tysn,jaj,hE,hne];simp[jaz,jai,jaB]
def IsI(v:V)(xs:List Int):Prop:=(v=.nilsl/\xs=[])\/v=.row (xs.map (V.int .i64)) xs.length .unk\/v=.row (xs.map (V.int .i64)) xs.length .full
theorem u24i:env.P.underlying 22=some (.slice 3):=by kernel_rfl
theorem len_I {v:V}{xs:List Int}(h:IsI v xs):ja9 (some (.slice 3)) v=some (.int .i64 xs.length):=by
 rcases h with⟨rfl,rfl⟩|rfl|rfl<;>rfl
theorem idx_I {v:V}{xs:List Int}(h:IsI v xs){i:Nat}(hi:i<xs.length):jaw 1 v (.int .i64 (i:Int))=some (.rptr (.int .i64 (xs.getD i 0)::(xs.map (V.int .i64)).drop (i+1))):=by
 rcases h with⟨rfl,rfl⟩|rfl|rfl
 ·simp at hi
 ·rw[Ys,Kh (by omega),Qj,Xe,Qn (by simpa using hi)];simp[List.getD,hi]
 ·rw[Ys,Kh (by omega),Qj,Xe,Qn (by simpa using hi)];simp[List.getD,hi]
theorem closed_I {v:V}{xs:List Int}(h:IsI v xs):v.closed=true:=by
 rcases h with⟨rfl,rfl⟩|h
 ·rfl
 ·have:∀ws:List Int,V.closed.closedL (ws.map (V.int .i64))=true:=by
   intro ws
   induction ws with
   |nil=>rfl
   |cons w ws ih=>simp only[K9,V.closed.closedL,V.closed,Xh];exact ih
  rcases h with rfl|rfl<;>simp only[V.closed,this,K8]
def Fits(cs:List Col)(xs:List Int):Prop:=xs.length=cs.length/\∀i,i<cs.length->(cs.getD i Col.none).lo<=xs.getD i 0/\xs.getD i 0<=(cs.getD i Col.none).hi
open Classical in
theorem jl3(cv:V)(cs:List Col)(hc:IsC cv cs)(ok:OkC cs)(hcl:cs.length<=1000)(v:V)(xs:List Int)(hv:IsI v xs)(hxl:xs.length<=4000)(U:S) :
  jah env (ev env) 193 [cv,v] U=some (.bool (decide (Fits cs xs)),U):=by
 refine jak (by simp[V.closed,V.closed.closedL,ja3 hc ok,closed_I hv]) jyP rfl ?_ U;by_cases h1:xs.length=cs.length
 case neg =>
  have c1:¬(xs.length:Int)=(cs.length:Int):=by omega
  rw[decide_eq_false (show ¬Fits cs xs from λh=>h1 h.1)];simp only[Tryz.f193,simprocAttr,zK,Vq,tysn,tys2,jaj,jfu hc,len_I hv,c1];simp[jaz,jai,jaB]
 have c1:(xs.length:Int)=(cs.length:Int):=by omega
 simp only[Tryz.f193,simprocAttr,zK,Vq,tysn,tys2,jaj,jfu hc,len_I hv,c1]
 refine jax (λm T D U=>D=[]/\T 0=cv/\T 1=v/\T 12=cv/\T 13=.int .i64 cs.length/\∃(L:List AObj) (i:Nat),U=⟨L,[]⟩/\T 14=.int .i64 i/\i<=cs.length/\m=cs.length-i/\∀j,j<i->(cs.getD j Col.none).lo<=xs.getD j 0/\xs.getD j 0<=(cs.getD j Col.none).hi) ?_ (cs.length-0) _ _ _
  ⟨rfl,rfl,rfl,rfl,rfl,_,0,rfl,rfl,by omega,rfl,λj h=>by omega⟩
 rintro m T D U ⟨rfl,t0,t1,t12,t13,L,i,rfl,t14,hi,rfl,hno⟩;refine jaC ?_;by_cases hlt:i<cs.length
 ·have c2:(i:Int)<(cs.length:Int):=by omega
  have e1:=wS i (by omega)
  have hx:=jeb hc hlt;have hy:=idx_I hv (show i<xs.length by omega);have hic:=jbd (ok.at hlt);have hnot:∀P:Prop,((cs.getD i Col.none).lo<=xs.getD i 0/\xs.getD i 0<=(cs.getD i Col.none).hi->P)->(¬P)->¬Fits cs xs:=λP h hn hF=>hn (h (hF.2 i hlt))
  have hstep:(cs.getD i Col.none).lo<=xs.getD i 0->xs.getD i 0<=(cs.getD i Col.none).hi->∀j,j<i+1->(cs.getD j Col.none).lo<=xs.getD j 0/\xs.getD j 0<=(cs.getD j Col.none).hi:=λa b j hj=>by
   rcases Ql j i with h2|h2
   ·exact hno j h2
   ·have:j=i:=by omega
    subst this;exact⟨a,b⟩
  have hf:¬((cs.getD i Col.none).lo<=xs.getD i 0/\xs.getD i 0<=(cs.getD i Col.none).hi)->decide (Fits cs xs)=false:=λh=>decide_eq_false (λhF=>h (hF.2 i hlt))
  generalize cs.getD i Col.none=c at *;generalize xs.getD i 0=x at *;by_cases h2:x<c.lo
  ·rw[hf (by omega)];simp only[simprocAttr,zK,K1,jaa,tysn,tys2,t0,t1,t12,t13,t14,c2,e1,hx,hy,jdc,jaL,z44,K2,jae,jac,hic,jas,h2];exact⟨by kernel_rfl,by simp[jaz,jai,jaB]⟩
  by_cases h3:c.hi<x
  ·rw[hf (by omega)];simp only[simprocAttr,zK,K1,jaa,tysn,tys2,t0,t1,t12,t13,t14,c2,e1,hx,hy,jdc,jaL,z44,K2,jae,jac,hic,jas,h2,h3];exact⟨by kernel_rfl,by simp[jaz,jai,jaB]⟩
  ·simp only[simprocAttr,zK,K1,jaa,tysn,tys2,t0,t1,t12,t13,t14,c2,e1,hx,hy,jdc,jaL,z44,K2,jae,jac,hic,jas,h2,h3];exact⟨by kernel_rfl,cs.length-(i+1),by omega,_,i+1,rfl,rfl,by omega,rfl,hstep (by omega) (by omega)⟩
 ·have hi2:i=cs.length:=by omega
  subst hi2;have c2:¬(cs.length:Int)<(cs.length:Int):=by omega
  rw[decide_eq_true (show Fits cs xs from⟨h1,hno⟩)];simp only[simprocAttr,zK,Vq,tys2,t0,t1,t12,t13,t14,c2];simp[jaz,jai,jaB]
theorem jyQ:env.P.funcs[386]? = some Tryz.f386:=by kernel_rfl
theorem jyR:env.P.funcs[387]? = some Tryz.f387:=by kernel_rfl
theorem jyS:env.P.funcs[388]? = some Tryz.f388:=by kernel_rfl
theorem juY:env.P.funcs[383]? = some Tryz.f383:=by kernel_rfl
def minI(a b:Int):Int:=if b<a then b else a
def maxI(a b:Int):Int:=if b>a then b else a
def wr(x:Int):Int:=IntKind.i64.wrap x
def limI(n:Int):Int:=maxI (-1000000000000000) (minI n 1000000000000000)
def jl4(a b:Int):Int :=
 if a=0\/b=0 then 0
 else if maxI a (wr (0-a))<=wr (Int.tdiv 1000000000000000 (maxI b (wr (0-b))))then wr (a*b)
 else if decide (a<0)=decide (b<0)then 1000000000000000 else -1000000000000000
def bitI(p:Bool):Int:=if p=true then 1 else 0
theorem jpQ(n:Int)(U:S):jah env (ev env) 386 [.int .i64 n] U=some (.int .i64 (limI n),U):=by
 refine jak rfl jyQ rfl ?_ U;simp only[Tryz.f386,simprocAttr,zK,Vq,jaj];rfl
theorem js8(p:Bool)(U:S):jah env (ev env) 388 [.bool p] U=some (.int .i64 (bitI p),U):=by
 refine jak rfl jyS rfl ?_ U;cases p
 ·simp only[Tryz.f388,simprocAttr,zK,Vq,jaj];rfl
 ·simp only[Tryz.f388,simprocAttr,zK,Vq,jaj];rfl
theorem juZ {b:Int}(h:¬b=0)(h1 : -9223372036854775808<=b)(h2:b<=9223372036854775807):¬maxI b (wr (0-b))=0:=by
 unfold maxI wr;rw[IntKind.wrap_i64];split<;>omega
def In64(x:Int):Prop := -9223372036854775808<=x/\x<=9223372036854775807
theorem jwF(x:Int):In64 (wr x):=by
 unfold wr In64;rw[IntKind.wrap_i64];omega
theorem jpR(a b:Int)(hb:In64 b)(U:S):jah env (ev env) 387 [.int .i64 a,.int .i64 b] U=some (.int .i64 (jl4 a b),U):=by
 refine jak rfl jyR rfl ?_ U;unfold jl4;by_cases h1:a=0
 ·rw[Kh (.inl h1)];have g1:((a:Int)=0)=True:=eq_true h1;simp only[Tryz.f387,simprocAttr,zK,Vq,jaj,g1];rfl
 have g1:((a:Int)=0)=False:=eq_false h1;by_cases h2:b=0
 ·rw[Kh (.inr h2)];have g2:((b:Int)=0)=True:=eq_true h2;simp only[Tryz.f387,simprocAttr,zK,Vq,jaj,g1,g2];rfl
 have g2:((b:Int)=0)=False:=eq_false h2;rw[Ke (by rintro(h|h)<;>contradiction)];have hsz:=juZ h2 hb.1 hb.2;have hm1:(if IntKind.i64.wrap (0-b)>b then IntKind.i64.wrap (0-b)else b)=maxI b (wr (0-b)):=rfl;have hm2:(if IntKind.i64.wrap (0-a)>a then IntKind.i64.wrap (0-a)else a)=maxI a (wr (0-a)):=rfl;have g3:((maxI b (wr (0-b)):Int)=0)=False:=eq_false hsz;by_cases h3:maxI a (wr (0-a))<=wr (Int.tdiv 1000000000000000 (maxI b (wr (0-b))))
 ·rw[Kh h3];have h3':maxI a (wr (0-a))<=IntKind.i64.wrap (Int.tdiv 1000000000000000 (maxI b (wr (0-b)))):=h3;simp only[Tryz.f387,simprocAttr,zK,Vq,jaj,g1,g2,hm1,hm2,g3,h3'];rfl
 rw[Ke h3];have h3':¬maxI a (wr (0-a))<=IntKind.i64.wrap (Int.tdiv 1000000000000000 (maxI b (wr (0-b)))):=h3;by_cases h4:a<0<;>by_cases h5:b<0
 ·rw[decide_eq_true h4,decide_eq_true h5];simp only[Tryz.f387,simprocAttr,zK,Vq,jaj,g1,g2,hm1,hm2,g3,h3',h4,h5]
  first|rfl|simp[jaz,jai,jau]
 ·rw[decide_eq_true h4,decide_eq_false h5];simp only[Tryz.f387,simprocAttr,zK,Vq,jaj,g1,g2,hm1,hm2,g3,h3',h4,h5]
  first|rfl|simp[jaz,jai,jau]
 ·rw[decide_eq_false h4,decide_eq_true h5];simp only[Tryz.f387,simprocAttr,zK,Vq,jaj,g1,g2,hm1,hm2,g3,h3',h4,h5]
  first|rfl|simp[jaz,jai,jau]
 ·rw[decide_eq_false h4,decide_eq_false h5];simp only[Tryz.f387,simprocAttr,zK,Vq,jaj,g1,g2,hm1,hm2,g3,h3',h4,h5]
  first|rfl|simp[jaz,jai,jau]
def opV(op:Int)(xs:List Int):Int :=
 if op=4 then limI (wr (xs.getD 0 0+xs.getD 1 0))
 else if op=5 then limI (wr (xs.getD 0 0-xs.getD 1 0))
 else if op=6 then jl4 (xs.getD 0 0) (xs.getD 1 0)
 else if op=7 then wr (0-xs.getD 0 0)
 else if op=8 then(if xs.getD 0 0=1 then xs.getD 1 0 else xs.getD 2 0)
 else if op=9 then bitI (decide (xs.getD 0 0=xs.getD 1 0))
 else if op=10 then bitI (decide (¬xs.getD 0 0=xs.getD 1 0))
 else if op=11 then bitI (decide (xs.getD 0 0<xs.getD 1 0))
 else if op=12 then bitI (decide (xs.getD 0 0<=xs.getD 1 0))
 else if op=13 then bitI (decide (xs.getD 1 0<xs.getD 0 0))
 else if op=14 then bitI (decide (xs.getD 1 0<=xs.getD 0 0))
 else if op=15 then minI (xs.getD 0 0) (xs.getD 1 0)
 else if op=16 then maxI (xs.getD 0 0) (xs.getD 1 0)
 else wr (1-xs.getD 0 0)
theorem jpS(us:Option TypeDesc)(cc:Bool){a b:Int}(ha:Bit a)(hb:Bit b):jbU us cc .and (.int .i64 a) (.int .i64 b)=some (.int .i64 (minI a b)):=by
 have h:vBin .and (.int .i64 a) (.int .i64 b)=some (.int .i64 (minI a b)):=by
  rcases ha with rfl|rfl<;>rcases hb with rfl|rfl<;>rfl
 unfold jbU;rw[h]
theorem jrT(us:Option TypeDesc)(cc:Bool){a b:Int}(ha:Bit a)(hb:Bit b):jbU us cc .or (.int .i64 a) (.int .i64 b)=some (.int .i64 (maxI a b)):=by
 have h:vBin .or (.int .i64 a) (.int .i64 b)=some (.int .i64 (maxI a b)):=by
  rcases ha with rfl|rfl<;>rcases hb with rfl|rfl<;>rfl
 unfold jbU;rw[h]
theorem jrU(xs:List Int):(V.row (xs.map (V.int .i64)) xs.length .unk).closed=true:=closed_I (.inr (.inl rfl))
def Ops2(op:Int):Prop:=4<=op/\op<=17/\op ≠ 7/\op ≠ 8/\op ≠ 17
theorem jnG(a:V)(ha:a.closed=true)(op:Int)(ho:Ops2 op)(x y:Int)(hy:In64 y)(hbit:op=15\/op=16->Bit x/\Bit y)(U:S):jah env (ev env) 383 [a,.int .i64 op,.row [.int .i64 x,.int .i64 y] 2 .unk] U=some (.int .i64 (opV op [x,y]),U):=by
 refine jak (by simp[ha,V.closed,V.closed.closedL]) juY rfl ?_ U;have i0:jaw 1 (.row [.int .i64 x,.int .i64 y] 2 .unk) (.int .i64 0)=some (.rptr [.int .i64 x,.int .i64 y]):=rfl;have i1:jaw 1 (.row [.int .i64 x,.int .i64 y] 2 .unk) (.int .i64 1)=some (.rptr [.int .i64 y]):=rfl;have hL:=jpQ;have hT:=jpR x y hy;have hB:=js8;obtain⟨h1,h2,h3,h4,h5⟩:=ho;have h:op=4\/op=5\/op=6\/op=9\/op=10\/op=11\/op=12\/op=13\/op=14\/op=15\/op=16:=by omega
 rcases h with rfl|rfl|rfl|rfl|rfl|rfl|rfl|rfl|rfl|rfl|rfl
 ·simp only[Tryz.f383,Ka,simprocAttr,Kc,Vq,tysn,jaj,i0,i1,jas,hL,hT,hB];rfl
 ·simp only[Tryz.f383,Ka,simprocAttr,Kc,Vq,tysn,jaj,i0,i1,jas,hL,hT,hB];rfl
 ·simp only[Tryz.f383,Ka,simprocAttr,Kc,Vq,tysn,jaj,i0,i1,jas,hL,hT,hB];rfl
 ·simp only[Tryz.f383,Ka,simprocAttr,Kc,Vq,tysn,jaj,i0,i1,jas,hL,hT,hB];rfl
 ·simp only[Tryz.f383,Ka,simprocAttr,Kc,Vq,tysn,jaj,i0,i1,jas,hL,hT,hB];rfl
 ·simp only[Tryz.f383,Ka,simprocAttr,Kc,Vq,tysn,jaj,i0,i1,jas,hL,hT,hB];rfl
 ·simp only[Tryz.f383,Ka,simprocAttr,Kc,Vq,tysn,jaj,i0,i1,jas,hL,hT,hB];rfl
 ·simp only[Tryz.f383,Ka,simprocAttr,Kc,Vq,tysn,jaj,i0,i1,jas,hL,hT,hB];rfl
 ·simp only[Tryz.f383,Ka,simprocAttr,Kc,Vq,tysn,jaj,i0,i1,jas,hL,hT,hB];rfl
 ·obtain⟨bx,by'⟩:=hbit (by decide);simp only[Tryz.f383,Ka,simprocAttr,Kc,Vq,tysn,jaj,i0,i1,jas,hL,hT,hB,jpS _ _ bx by'];rfl
 ·obtain⟨bx,by'⟩:=hbit (by decide);simp only[Tryz.f383,Ka,simprocAttr,Kc,Vq,tysn,jaj,i0,i1,jas,hL,hT,hB,jrT _ _ bx by'];rfl
theorem jiL(a:V)(ha:a.closed=true)(op:Int)(ho:op=7\/op=17)(x:Int)(U:S):jah env (ev env) 383 [a,.int .i64 op,.row [.int .i64 x] 1 .unk] U=some (.int .i64 (opV op [x]),U):=by
 refine jak (by simp[ha,V.closed,V.closed.closedL]) juY rfl ?_ U;have i0:jaw 1 (.row [.int .i64 x] 1 .unk) (.int .i64 0)=some (.rptr [.int .i64 x]):=rfl
 rcases ho with rfl|rfl
 ·simp only[Tryz.f383,Ka,simprocAttr,Kc,Vq,tysn,jaj,i0,jas];rfl
 ·simp only[Tryz.f383,Ka,simprocAttr,Kc,Vq,tysn,jaj,i0,jas];rfl
theorem jnH(a:V)(ha:a.closed=true)(x y z:Int)(hx:Bit x)(U:S):jah env (ev env) 383 [a,.int .i64 8,.row [.int .i64 x,.int .i64 y,.int .i64 z] 3 .unk] U=some (.int .i64 (opV 8 [x,y,z]),U):=by
 refine jak (by simp[ha,V.closed,V.closed.closedL]) juY rfl ?_ U;have i0:jaw 1 (.row [.int .i64 x,.int .i64 y,.int .i64 z] 3 .unk) (.int .i64 0)=some (.rptr [.int .i64 x,.int .i64 y,.int .i64 z]):=rfl;have i1:jaw 1 (.row [.int .i64 x,.int .i64 y,.int .i64 z] 3 .unk) (.int .i64 1)=some (.rptr [.int .i64 y,.int .i64 z]):=rfl;have i2:jaw 1 (.row [.int .i64 x,.int .i64 y,.int .i64 z] 3 .unk) (.int .i64 2)=some (.rptr [.int .i64 z]):=rfl
 rcases hx with rfl|rfl
 ·have e1:IntKind.i64.wrap (2-0)=2:=by decide
  simp only[Nat.reduceGcd,Tryz.f383,Ka,Nat.reduceLT,Nat.reduceEqDiff,Kl,Km,reduceIte,Ys,Y0,Int.reduceEq,Int.reduceLT,Int.reduceLE,Int.reduceNeg,mb,Nat.reduceBEq,tys,stb,Vq,tysn,jaj,-Ys,-Y0,i0,e1,i2,jas];rfl
 ·have e1:IntKind.i64.wrap (2-1)=1:=by decide
  simp only[Nat.reduceGcd,Tryz.f383,Ka,Nat.reduceLT,Nat.reduceEqDiff,Kl,Km,reduceIte,Ys,Y0,Int.reduceEq,Int.reduceLT,Int.reduceLE,Int.reduceNeg,mb,Nat.reduceBEq,tys,stb,Vq,tysn,jaj,-Ys,-Y0,i0,e1,i1,jas];rfl
theorem jyT:env.P.funcs[268]? = some Tryz.f268:=by kernel_rfl
theorem jnI(nm:List UInt8)(d:Col)(L:List AObj)(ts:List Nat)(p:Nat)(hp:L[p]? = some (.cells [.str nm] 9)) :
  jah env (ev env) 268 [.agg [.str d.name,.int .i64 d.lo,.int .i64 d.hi,d.w],.ptr p 0] ⟨L,ts⟩=some (.bool (decide (d.name=nm)),⟨L++[.cells [.str d.name,.int .i64 d.lo,.int .i64 d.hi,d.w] 41],ts⟩):=by
 refine jbZ rfl rfl jyT rfl (by simp[Tryz.f268]) (by simp[Tryz.f268]) ?_;refine jaC ?_;by_cases h:d.name=nm<;>
 ·simp only[Tryz.f268,simprocAttr,zK,Vq,tys2,YW,jad,jaG hp,jay,h];simp[jaz,h]
theorem jnJ(nm:List UInt8)(dv:V)(ds:List Col)(hd:IsC dv ds)(ok:OkC ds)(hl:ds.length<=1000)(L:List AObj)(ts:List Nat)(p:Nat)(hp:L[p]? = some (.cells [.str nm] 9)) :
  ∃X,jah env (ev env) 200 [dv,.func 268 [] [.ptr p 0]] ⟨L,ts⟩=some (.int .i64 (jgC ds nm ds.length 0),⟨L++X,ts⟩):=by
 suffices h:∃v U',jah env (ev env) 200 [dv,.func 268 [] [.ptr p 0]] ⟨L,ts⟩=some (v,U')/\(v=.int .i64 (jgC ds nm ds.length 0)/\∃X,U'=⟨L++X,ts⟩) by
  obtain⟨v,U',h1,rfl,X,rfl⟩:=h;exact⟨X,h1⟩
 refine jaF jsM rfl ?_;simp only[Tryz.f200,simprocAttr,zK,Vq,tys2,jfu hd];refine jax (λm T D U=>D=[]/\T 0=dv/\T 1=.func 268 [] [.ptr p 0]/\T 7=.int .i64 ds.length/\∃(i:Nat) (X:List AObj),U=⟨L++X,ts⟩/\T 8=.int .i64 i/\i<=ds.length/\m=ds.length-i/\jgC ds nm ds.length 0=jgC ds nm (ds.length-i) i) ?_ _ _ _ _ ⟨rfl,rfl,rfl,rfl,0,[],by simp,rfl,by omega,rfl,rfl⟩;rintro m T D U ⟨rfl,t0,t1,t7,i,X,rfl,t8,hi,rfl,hf⟩;refine jaC ?_;by_cases hlt:i<ds.length
 ·have c1:(i:Int)<(ds.length:Int):=by omega
  have e1:=wS i (by omega)
  have hx:=jeb hd hlt;have hN:=jnI nm (ds.getD i Col.none) (L++X) ts p (jaG hp X);unfold jgC at hf;rw[jd7 hlt]at hf;by_cases hn:(ds.getD i Col.none).name=nm
  ·rw[Kh (decide_eq_true hn)]at hf;simp only[hn,decide_true]at hN;simp only[simprocAttr,zK,Vq,tys2,t0,t1,t7,t8,c1,e1,hx,jdc,jaL,hn,hN];exact⟨by rw[jgC,hf];rfl,_,by rw[K6]⟩
  ·rw[Ke (by simp only[Jh];exact hn)]at hf;simp only[hn,decide_false]at hN;simp only[simprocAttr,zK,Vq,tys2,t0,t1,t7,t8,c1,e1,hx,jdc,jaL,hN];exact⟨ds.length-(i+1),by omega,i+1,_,by rw[K6],rfl,by omega,rfl,hf⟩
 ·have hi2:i=ds.length:=by omega
  subst hi2;have c1:¬(ds.length:Int)<(ds.length:Int):=by omega
  rw[Xk]at hf;simp only[simprocAttr,zK,Vq,t0,t1,t7,t8,c1];exact⟨by rw[hf];rfl,X,rfl⟩
theorem jyU:env.P.funcs[233]? = some Tryz.f233:=by kernel_rfl
theorem je3(cv:V)(cs:List Col)(hc:IsC cv cs)(ok:OkC cs)(hl:cs.length<=1000)(nm:List UInt8)(U:S):jah env (ev env) 233 [cv,.str nm] U=some (.int .i64 (ja6 cs nm),U):=by
 refine jak (by simp[V.closed,V.closed.closedL,ja3 hc ok]) jyU rfl ?_ U;obtain⟨X,hX⟩:=jnJ nm cv cs hc ok hl [.cells [.str nm] 9] [] 0 rfl;simp only[Tryz.f233,simprocAttr,zK,Vq,tys2,jaj,hX,show(V.str nm).cells=[.str nm]from rfl];rfl
theorem jyV:env.P.funcs[235]? = some Tryz.f235:=by kernel_rfl
def arI(op:Int):Int:=if op=7\/op=17 then 1 else if op=8 then 3 else 2
theorem jpT(op:Int)(U:S):jah env (ev env) 235 [.int .i64 op] U=some (.int .i64 (arI op),U):=by
 refine jak rfl jyV rfl ?_ U;unfold arI;by_cases h1:op=7
 ·subst h1;simp only[Tryz.f235,simprocAttr,zK,Vq,jaj];rfl
 by_cases h2:op=17
 ·subst h2;simp only[Tryz.f235,simprocAttr,zK,Vq,jaj];rfl
 rw[Ke (by rintro(h|h)<;>contradiction)];have g1:((op:Int)=7)=False:=eq_false h1;have g2:((op:Int)=17)=False:=eq_false h2;by_cases h3:op=8
 ·subst h3;simp only[Tryz.f235,simprocAttr,zK,Vq,jaj];rfl
 ·have g3:((op:Int)=8)=False:=eq_false h3;simp only[Tryz.f235,simprocAttr,zK,Vq,jaj,g1,g2,g3];rfl
theorem jyW:env.P.funcs[384]? = some Tryz.f384:=by kernel_rfl
theorem jyX:env.P.funcs[385]? = some Tryz.f385:=by kernel_rfl
theorem u62:env.P.underlying 201=some (.slice 3):=by kernel_rfl
theorem jnK(xv:V)(xs:List Int)(hx:IsI xv xs)(i:Nat)(hi:i<xs.length)(U:S):jah env (ev env) 384 [xv,.int .i64 i] U=some (.int .i64 (xs.getD i 0),U):=by
 refine jak (by simp[V.closed,V.closed.closedL,closed_I hx]) jyW rfl ?_ U;have hi2:=idx_I hx hi;simp only[Tryz.f384,simprocAttr,zK,Vq,tysn,u62,jaj,hi2,jas];rfl
theorem jiM(xv:V)(hc:xv.closed=true)(n:Int)(U:S):jah env (ev env) 385 [xv,.int .i64 n] U=some (.int .i64 n,U):=by
 refine jak (by simp[V.closed,V.closed.closedL,hc]) jyX rfl ?_ U;simp only[Tryz.f385,simprocAttr,zK,Vq,jaj];rfl
theorem joL(xv:V):jgd env (.iface 201 xv) "privhouse/span.number" = some (385,xv):=by kernel_rfl
theorem js9(xv:V):jgd env (.iface 201 xv) "privhouse/span.column" = some (384,xv):=by kernel_rfl
theorem jta(xv:V):jgd env (.iface 201 xv) "privhouse/span.apply" = some (383,xv):=by kernel_rfl
theorem ju0:env.P.funcs[197]? = some Tryz.f197:=by kernel_rfl
theorem jhd(b off n cap:Nat)(ex:HCap)(l:List Int)(L:List AObj)(ts:List Nat)(hn:l.length=n)(h0:0<n)(hlim:n<=4000)(hc:jaW L 1 n (.hsl b off n cap ex)=some (l.map (V.int .i64))) :
  jah env (ev env) 197 [.hsl b off n cap ex] ⟨L,ts⟩=some (.row (l.map (V.int .i64)) n (.tok ts.length 0 1),⟨L,ts++[0]⟩):=by
 refine jaK ju0 rfl ?_
 have ha:appO env false ⟨L,ts⟩ 22 22 (.row [] 0 .full) (.hsl b off n cap ex)=some (.row (l.map (V.int .i64)) n (.tok ts.length 0 1),⟨L,ts++[0]⟩):=by
  have e24:jfZ env 22=some 3:=by kernel_rfl
  have s3:sz env 3=some 1:=by kernel_rfl
  have b3:bys env 3=some 8:=by kernel_rfl
  have z3:jh2 env 3=some 1:=by kernel_rfl
  have hlim2:n*8<=lim/\n<=lim:=by have:lim=2^40:=rfl;rw[this];omega
  have hcell:(l.map (V.int .i64)).all V.isCell=true:=by rw[Qm];intro x hx;obtain⟨y,_,rfl⟩:=Jm.1 hx;rfl
  unfold appO;simp only[e24,s3,b3,z3,u24i,Kn,vLen,hc,Kl,jbr];rw[Ke (by omega),Kh ⟨by omega,by omega,by simp,hcell⟩];simp
 have hq:∀c,binO env 22 c .eql (some (.hsl b off n cap ex)) (some .nilsl)=some (.bool false):=λc=>by kernel_rfl
 have hr:rowO env 22 0 []=some (.row [] 0 .full):=by kernel_rfl
 simp only[Tryz.f197,simprocAttr,zK,K1,jaa,tysn,jap,hr,ha,hq];exact⟨rfl,trivial⟩
end Go.Proofs.YtajaampgajieeaaGreatDoor.W
