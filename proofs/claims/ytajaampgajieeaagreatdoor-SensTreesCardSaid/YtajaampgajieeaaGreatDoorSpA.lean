/- Proved here: values of expressions. Conditions: each theorem's own. -/
import Derived.Test.YtajaampgajieeaaGreatDoorCkA
set_option linter.unusedSimpArgs false
set_option maxHeartbeats 16000000
set_option maxRecDepth 1000000
set_option linter.unusedVariables false
set_option linter.unusedSectionVars false
namespace Go.Proofs.YtajaampgajieeaaGreatDoor.W
open Go.Ab
theorem mb(f:FuncId)(r:Nat):env.mutb f r=(f==194 ||f==214):=rfl
theorem stb(f:FuncId)(r:Nat)(h:(f==194 && r==7)=false):env.stab f r=false:=h
theorem tys:env.P.underlying 3=some (.int .i64)/\env.P.underlying 4=some .bool/\env.P.underlying 9=some .string/\env.P.underlying 39=some (.slice 9)/\env.P.underlying 26=some (.slice 84)/\env.P.underlying 36=some (.slice 41)/\env.P.underlying 22=some (.slice 3) /\
  sz env 9=some 1/\sz env 39=some 1/\sz env 3=some 1/\sz env 4=some 1/\sz env 26=some 1/\sz env 36=some 1/\sz env 22=some 1/\sz env 41=some 4/\sz env 84=some 3/\sz env 93=some 2 /\
  jas env 93 0=some 0/\jas env 93 1=some 1/\jas env 41 0=some 0/\jas env 41 1=some 1/\jas env 41 2=some 2/\jas env 41 3=some 3/\jas env 84 0=some 0/\jas env 84 1=some 1/\jas env 84 2=some 2 /\
  (∀h p,jaH env h 9 p=(jab h 1 p).bind (·[0]?))/\(∀h p,jaH env h 39 p=(jab h 1 p).bind (·[0]?))/\(∀h p,jaH env h 3 p=(jab h 1 p).bind (·[0]?))/\(∀h p,jaH env h 4 p=(jab h 1 p).bind (·[0]?)) /\
  (∀h p,jaH env h 22 p=(jab h 1 p).bind (·[0]?))/\(∀h p,jaH env h 36 p=(jab h 1 p).bind (·[0]?))/\(∀h p,jaH env h 84 p=(jab h 3 p).map .agg)/\(∀h p,jaH env h 41 p=(jab h 4 p).map .agg) /\
  jba env 84=some (.agg [.int .i64 0,.int .i64 0,.str []])/\jba env 41=some (.agg [.str [],.int .i64 0,.int .i64 0,.nilsl]):=by
 have g9:aggT env 9=some false:=ac;have g44:aggT env 39=some false:=ac;have g3:aggT env 3=some false:=ac;have g4:aggT env 4=some false:=ac;have g24:aggT env 22=some false:=ac;have g23:aggT env 36=some false:=ac;have g52:aggT env 84=some true:=ac;have g46:aggT env 41=some true:=ac;have s52:sz env 84=some 3:=ac;have s46:sz env 41=some 4:=ac
 exact⟨ac,ac,ac,ac,ac,ac,ac,ac,ac,ac,ac,ac,ac,ac,ac,ac,ac,ac,ac,ac,ac,ac,ac,ac,ac,ac,
  λ_ _=>jay g9,λ_ _=>jay g44,λ_ _=>jay g3,λ_ _=>jay g4,λ_ _=>jay g24,λ_ _=>jay g23,λh p=>by unfold jaH;rw[g52,s52];rfl,λh p=>by unfold jaH;rw[g46,s46];rfl,ac,ac⟩
theorem Kc:type_of% (Kd @mb (Kd @stb @tys)):=Kd @mb (Kd @stb @tys)
theorem zK:type_of% (Kd @Ka (Kd @Ys (Kd @Y0 @Kc))):=Kd @Ka (Kd @Ys (Kd @Y0 @Kc))
theorem yK:type_of% (Kd @Ka (Kd @Y0 @Kc)):=Kd @Ka (Kd @Y0 @Kc)
theorem tys2:env.P.underlying 36=some (.slice 41)/\env.P.underlying 32=some (.int .i64)/\sz env 36=some 1/\sz env 41=some 4/\sz env 38=some 4/\sz env 4=some 1/\jas env 38 0=some 0/\jas env 38 1=some 1/\jas env 38 2=some 2/\jas env 38 3=some 3 /\
  jas env 41 0=some 0/\jas env 41 1=some 1/\jas env 41 2=some 2/\jas env 41 3=some 3/\(∀h p,jaH env h 36 p=(jab h 1 p).bind (·[0]?))/\(∀h p,jaH env h 4 p=(jab h 1 p).bind (·[0]?)):=by
 have g27:aggT env 36=some false:=ac;have g4:aggT env 4=some false:=ac;exact⟨ac,ac,ac,ac,ac,ac,ac,ac,ac,ac,ac,ac,ac,ac,λ_ _=>jay g27,λ_ _=>jay g4⟩
theorem jdg(h:List AObj)(p:V):jaH env h 41 p=(jab h 4 p).map .agg:=by
 unfold jaH;rw[show aggT env 41=some true by kernel_rfl,show sz env 41=some 4 by kernel_rfl];rfl
theorem jem(h:List AObj)(p:V):jaH env h 38 p=(jab h 4 p).map .agg:=by
 unfold jaH;rw[show aggT env 38=some true by kernel_rfl,show sz env 38=some 4 by kernel_rfl];rfl
theorem tysn:env.P.underlying 26=some (.slice 84)/\env.P.underlying 32=some (.int .i64)/\env.P.underlying 162=some (.slice 163)/\env.P.underlying 163=some (.int .i64)/\env.P.underlying 166=some (.array 18 165)/\env.P.underlying 22=some (.slice 3) /\
  sz env 84=some 3/\sz env 163=some 1/\sz env 165=some 2/\sz env 166=some 36/\sz env 170=some 1/\sz env 162=some 1/\sz env 32=some 1 /\
  jas env 84 0=some 0/\jas env 84 1=some 1/\jas env 84 2=some 2/\jas env 165 0=some 0/\jas env 165 1=some 1/\jas env 170 0=some 0 /\
  (∀h p,jaH env h 162 p=(jab h 1 p).bind (·[0]?))/\(∀h p,jaH env h 163 p=(jab h 1 p).bind (·[0]?))/\(∀h p,jaH env h 39 p=(jab h 1 p).bind (·[0]?))/\(∀h p,jaH env h 3 p=(jab h 1 p).bind (·[0]?))/\(∀h p,jaH env h 9 p=(jab h 1 p).bind (·[0]?)) /\
  (∀h p,jaH env h 84 p=(jab h 3 p).map .agg)/\(∀h p,jaH env h 165 p=(jab h 2 p).map .agg)/\jba env 84=some (.agg [.int .i64 0,.int .i64 0,.str []])/\jba env 165=some (.agg [.nilsl,.int .i64 0]):=by
 have g103:aggT env 162=some false:=ac;have g104:aggT env 163=some false:=ac;have g44:aggT env 39=some false:=ac;have g3:aggT env 3=some false:=ac;have g9:aggT env 9=some false:=ac;have g52:aggT env 84=some true:=ac;have g106:aggT env 165=some true:=ac;have s52:sz env 84=some 3:=ac;have s106:sz env 165=some 2:=ac
 exact⟨u22,u63,u103,u104,u107,ac,ac,ac,ac,ac,ac,ac,ac,ac,ac,ac,ac,ac,ac,
  λ_ _=>jay g103,λ_ _=>jay g104,λ_ _=>jay g44,λ_ _=>jay g3,λ_ _=>jay g9,λh p=>by unfold jaH;rw[g52,s52];rfl,λh p=>by unfold jaH;rw[g106,s106];rfl,ac,ac⟩
theorem jw2:env.P.funcs[208]? = some Tryz.f208:=ac
theorem jw3:env.P.funcs[133]? = some Tryz.f133:=ac
theorem jzs:env.P.funcs[232]? = some Tryz.f232:=ac
theorem jzt:env.P.funcs[192]? = some Tryz.f192:=ac
theorem jzu:env.P.funcs[193]? = some Tryz.f193:=ac
abbrev jnK(c:Col):Prop:=Ok1 c
theorem jhB {c:Col}(h:jnK c)(hs:jdL c):c.lo<=c.hi /\ -1000000<=c.lo/\c.hi<=1000000:=by
 obtain⟨_,h⟩:=h;have:=hs.2.1;unfold colE at h;split at h
 ·split at h
  ·simp at h
  ·rename_i h1;omega
 ·split at h
  ·simp at h
  ·split at h
   ·simp at h
   ·split at h
    ·simp at h
    ·split at h
     ·simp at h
     ·rename_i h1;omega
open Classical in
theorem width_call(c:Col)(h:IsW c.w c.ws)(hs:jdL c)(U:S):jah env (ev env) 133 [aggC c] U=some (.int .i64 (if jnK c then c.hi-c.lo+1 else 0),U):=by
 have e:jcU c=if jnK c then c.hi-c.lo+1 else 0:=by
  unfold jcU;by_cases ho:Ok1 c
  ·obtain⟨b1,b2,b3⟩:=jhB ho hs;rw[Kg ho,Kg ho,wrap_i64 (x:=c.hi-c.lo) aa aa,wrap_i64 aa aa]
  ·rw[Ke ho,Ke ho]
 rw[<- e];exact jb6 rfl (YtajaampgajieeaaGreatDoor.width_call c h hs) _ U
open Classical in
theorem jtS(c:Col)(h:IsW c.w c.ws)(hs:jdL c)(U:S):jah env (ev env) 232 [aggC c] U=some (.bool (decide (¬jnK c)),U):=by
 refine jaj (by simp[V.closed,V.closed.closedL,jct h]) jzs rfl ?_ U;have hV:=width_call c h hs;simp only[aggC]at hV ⊢;by_cases ho:jnK c
 ·obtain⟨b1,b2,b3⟩:=jhB ho hs;rw[Kg ho]at hV;have e1:((c.hi-c.lo+1:Int)=0)=False:=eq_false aa;rw[decide_eq_false (λh=>h ho)];simp only[Tryz.f232,simprocAttr,zK,K0,jaa,tysn,tys2,jai,YW,jdg,jb7 (show([AObj.cells [V.str c.name,V.int IntKind.i64 c.lo,V.int IntKind.i64 c.hi,c.w] 41]:List AObj)[0]? = some _ from rfl),hV,e1];simp[jaB,jak,jaA]
 ·rw[Ke ho]at hV;rw[decide_eq_true ho];simp only[Tryz.f232,simprocAttr,zK,K0,jaa,tysn,tys2,jai,YW,jdg,jb7 (show([AObj.cells [V.str c.name,V.int IntKind.i64 c.lo,V.int IntKind.i64 c.hi,c.w] 41]:List AObj)[0]? = some _ from rfl),hV];simp[jaB,jak,jaA]
open Classical in
noncomputable def jmd(cs:List Col)(i:Nat):Bool:=decide (¬jnK (cs.getD i Col.none))
theorem jsg {f:Nat->Bool}{n i:Nat}(h:i<n):jbR f (n-i) i=if f i=true then(i:Int)else jbR f (n-(i+1)) (i+1):=jd9 h
theorem jnL(cv:V)(cs:List Col)(hc:IsC cv cs)(ok:OkC cs)(hl:cs.length<=1000)(hs:∀i,i<cs.length->jdL (cs.getD i Col.none))(L:List AObj)(ts:List Nat) :
  jah env (ev env) 200 [cv,.func 232 [] []] ⟨L,ts⟩=some (.int .i64 (jbR (jmd cs) cs.length 0),⟨L,ts⟩):=by
 refine jaL jtx rfl ?_;simp only[Tryz.f200,simprocAttr,zK,Vq,tys2,jfs hc];generalize hR:jbR (jmd cs) cs.length 0=R;refine jau (λm T D U=>D=[]/\U=⟨L,ts⟩/\T 0=cv/\T 1=.func 232 [] []/\T 7=.int .i64 cs.length/\∃(i:Nat),T 8=.int .i64 i/\i<=cs.length/\m=cs.length-i/\jbR (jmd cs) (cs.length-i) i=R) ?_ (cs.length-0) _ _ _ ⟨rfl,rfl,rfl,rfl,rfl,0,rfl,aa,rfl,hR⟩;clear hR;rintro m T D U ⟨rfl,rfl,t0,t1,t7,i,t8,hi,rfl,hf⟩;refine jaC ?_;by_cases hlt:i<cs.length
 ·have c1:(i:Int)<(cs.length:Int):=by omega
  have e1:IntKind.i64.wrap ((i:Int)+1)=((i+1:Nat):Int):=by rw[wrap_i64 aa aa];omega
  have hx:=jel hc hlt;have hB:=jtS (cs.getD i Col.none) (ok.at hlt) (hs i hlt);rw[jsg hlt]at hf
  change ∀U,jah env (ev env) 232 _ U=some (.bool (jmd cs i),U)at hB
  simp only[aggC]at hB;cases hb:jmd cs i with
  |true =>
   rw[hb]at hB hf;simp only[Kl]at hf;subst hf;simp only[simprocAttr,zK,Vq,tys2,t0,t1,t7,t8,c1,hx,jdg,jaM,hB,Jb];simp[jaB]
  |false =>
   rw[hb]at hB hf;simp only[Ku,Kn]at hf;simp only[simprocAttr,zK,Vq,tys2,t0,t1,t7,t8,c1,e1,hx,jdg,jaM,hB,Jb];exact⟨cs.length-(i+1),aa,i+1,rfl,aa,rfl,hf⟩
 ·have hi2:i=cs.length:=by omega
  subst hi2;have c1:¬(cs.length:Int)<(cs.length:Int):=aa;rw[Xn]at hf;simp only[jbR]at hf;subst hf;simp only[simprocAttr,zK,Vq,t0,t1,t7,t8,c1];simp[jaB]
def jme(cs:List Col):Prop:=∀i,i<cs.length->jnK (cs.getD i Col.none)
open Classical in
theorem jmf(cs:List Col):0<=jbR (jmd cs) cs.length 0↔¬jme cs:=by
 rw[jdn];constructor
 ·rintro⟨j,_,h2,h3⟩ hP;exact(of_decide_eq_true h3) (hP j aa)
 ·intro hP;apply Jo;intro hn;refine hP λi hi=>Jo λhb=>hn ⟨i,aa,aa,decide_eq_true hb⟩
open Classical in
theorem jnM(cv:V)(cs:List Col)(hc:IsC cv cs)(ok:OkC cs)(hl:cs.length<=1000)(hs:∀i,i<cs.length->jdL (cs.getD i Col.none))(L:List AObj)(ts:List Nat) :
  jah env (ev env) 231 [cv,.func 232 [] []] ⟨L,ts⟩=some (.bool (decide (¬jme cs)),⟨L,ts⟩):=by
 refine jaL (by kernel_rfl:env.P.funcs[231]? = some Tryz.f231) rfl ?_;have hI:=jnL cv cs hc ok hl hs L ts;have hiff:=jmf cs;by_cases hp:jme cs
 ·have h1:¬(0:Int)<=jbR (jmd cs) cs.length 0:=λh=>(hiff.1 h) hp
  rw[decide_eq_false (λh=>h hp)];simp only[Tryz.f231,simprocAttr,zK,Vq,hI,h1];simp[jaB]
 ·have h1:(0:Int)<=jbR (jmd cs) cs.length 0:=hiff.2 hp;rw[decide_eq_true hp];simp only[Tryz.f231,simprocAttr,zK,Vq,hI,h1];simp[jaB]
def Acc(l:List Nd)(cs:List Col)(cond:Bool):Prop:=jfv l cs cond=0/\jme cs
open Classical in
theorem jkW(v:V)(l:List Nd)(hv:IsN v l)(hl:l.length<=4000)(cv:V)(cs:List Col)(hc:IsC cv cs)(ok:OkC cs)(hcl:cs.length<=1000)(hs:∀i,i<cs.length->jdL (cs.getD i Col.none))(cond:Bool)(U:S) :
  jah env (ev env) 192 [v,cv,.bool cond] U=some (.bool (decide (Acc l cs cond)),U):=by
 refine jaj (by simp[V.closed,V.closed.closedL,ja9 hc ok,jei hv]) jzt rfl ?_ U;have hE:=λU=>jb6 (f:=75) rfl (expr_call v l hv hl cv cs hc ok hcl (λi hi=>(hs i hi).2.1) cond) (ev env) U
 have hB:=jnM cv cs hc ok hcl hs [] [];by_cases he:jfv l cs cond=0
 ·rw[he]at hE;by_cases hp:jme cs
  ·rw[decide_eq_false (λh=>h hp)]at hB;rw[decide_eq_true (show Acc l cs cond from⟨he,hp⟩)];simp only[Tryz.f192,simprocAttr,zK,Vq,tysn,jai,hE,hB,Ji];simp[jaB,jak,jaA]
  ·rw[decide_eq_true hp]at hB;rw[decide_eq_false (show ¬Acc l cs cond from λh=>hp h.2)];simp only[Tryz.f192,simprocAttr,zK,Vq,tysn,jai,hE,hB,Q8];simp[jaB,jak,jaA]
 ·have hne:((jfv l cs cond:Int)=0)=False:=eq_false he;rw[decide_eq_false (show ¬Acc l cs cond from λh=>he h.1)];simp only[Tryz.f192,simprocAttr,zK,Vq,tysn,jai,hE,hne];simp[jaB,jak,jaA]
def IsI(v:V)(xs:List Int):Prop:=(v=.nilsl/\xs=[])\/v=.row (xs.map (V.int .i64)) xs.length .unk\/v=.row (xs.map (V.int .i64)) xs.length .full
theorem u24i:env.P.underlying 22=some (.slice 3):=ac
theorem len_I {v:V}{xs:List Int}(h:IsI v xs):jbb (some (.slice 3)) v=some (.int .i64 xs.length):=by
 rcases h with⟨rfl,rfl⟩|rfl|rfl<;>rfl
theorem idx_I {v:V}{xs:List Int}(h:IsI v xs){i:Nat}(hi:i<xs.length):jaw 1 v (.int .i64 (i:Int))=some (.rptr (.int .i64 (xs.getD i 0)::(xs.map (V.int .i64)).drop (i+1))):=by
 rcases h with⟨rfl,rfl⟩|rfl|rfl
 ·simp at hi
 ·rw[Ys,Kg aa,Qj,Xc,Qk (by simpa using hi)];simp[List.getD,hi]
 ·rw[Ys,Kg aa,Qj,Xc,Qk (by simpa using hi)];simp[List.getD,hi]
theorem closed_I {v:V}{xs:List Int}(h:IsI v xs):v.closed=true:=by
 rcases h with⟨rfl,rfl⟩|h
 ·rfl
 ·have:∀ws:List Int,V.closed.closedL (ws.map (V.int .i64))=true:=by
   intro ws
   induction ws with
   |nil=>rfl
   |cons w ws ih=>simp only[K6,V.closed.closedL,V.closed,Xh];exact ih
  rcases h with rfl|rfl<;>simp only[V.closed,this,K8]
def Fits(cs:List Col)(xs:List Int):Prop:=xs.length=cs.length/\∀i,i<cs.length->(cs.getD i Col.none).lo<=xs.getD i 0/\xs.getD i 0<=(cs.getD i Col.none).hi
open Classical in
theorem jsh(cv:V)(cs:List Col)(hc:IsC cv cs)(ok:OkC cs)(hcl:cs.length<=1000)(v:V)(xs:List Int)(hv:IsI v xs)(hxl:xs.length<=4000)(U:S) :
  jah env (ev env) 193 [cv,v] U=some (.bool (decide (Fits cs xs)),U):=by
 refine jaj (by simp[V.closed,V.closed.closedL,ja9 hc ok,closed_I hv]) jzu rfl ?_ U;by_cases h1:xs.length=cs.length
 case neg =>
  have c1:¬(xs.length:Int)=(cs.length:Int):=aa;rw[decide_eq_false (show ¬Fits cs xs from λh=>h1 h.1)];simp only[Tryz.f193,simprocAttr,zK,Vq,tysn,tys2,jai,jfs hc,len_I hv,c1];simp[jaB,jak,jaA]
 have c1:(xs.length:Int)=(cs.length:Int):=aa;simp only[Tryz.f193,simprocAttr,zK,Vq,tysn,tys2,jai,jfs hc,len_I hv,c1]
 refine jau (λm T D U=>D=[]/\T 0=cv/\T 1=v/\T 12=cv/\T 13=.int .i64 cs.length/\∃(L:List AObj) (i:Nat),U=⟨L,[]⟩/\T 14=.int .i64 i/\i<=cs.length/\m=cs.length-i/\∀j,j<i->(cs.getD j Col.none).lo<=xs.getD j 0/\xs.getD j 0<=(cs.getD j Col.none).hi) ?_ (cs.length-0) _ _ _
  ⟨rfl,rfl,rfl,rfl,rfl,_,0,rfl,rfl,aa,rfl,λj h=>aa⟩
 rintro m T D U ⟨rfl,t0,t1,t12,t13,L,i,rfl,t14,hi,rfl,hno⟩;refine jaC ?_;by_cases hlt:i<cs.length
 ·have c2:(i:Int)<(cs.length:Int):=by omega
  have e1:IntKind.i64.wrap ((i:Int)+1)=((i+1:Nat):Int):=by rw[wrap_i64 aa aa];omega
  have hx:=jel hc hlt;have hy:=idx_I hv (show i<xs.length by omega);have hic:=jbf (ok.at hlt);have hnot:∀P:Prop,((cs.getD i Col.none).lo<=xs.getD i 0/\xs.getD i 0<=(cs.getD i Col.none).hi->P)->(¬P)->¬Fits cs xs:=λP h hn hF=>hn (h (hF.2 i hlt))
  have hstep:(cs.getD i Col.none).lo<=xs.getD i 0->xs.getD i 0<=(cs.getD i Col.none).hi->∀j,j<i+1->(cs.getD j Col.none).lo<=xs.getD j 0/\xs.getD j 0<=(cs.getD j Col.none).hi:=λa b j hj=>by
   rcases Ql j i with h2|h2
   ·exact hno j h2
   ·have:j=i:=by omega
    subst this;exact⟨a,b⟩
  have hf:¬((cs.getD i Col.none).lo<=xs.getD i 0/\xs.getD i 0<=(cs.getD i Col.none).hi)->decide (Fits cs xs)=false:=λh=>decide_eq_false (λhF=>h (hF.2 i hlt))
  generalize cs.getD i Col.none=c at *;generalize xs.getD i 0=x at *;by_cases h2:x<c.lo
  ·rw[hf aa];simp only[simprocAttr,zK,K0,jaa,tysn,tys2,t0,t1,t12,t13,t14,c2,e1,hx,hy,jdg,jaM,z44,K2,jae,jac,hic,jaq,h2];exact⟨ac,by simp[jaB,jak,jaA]⟩
  by_cases h3:c.hi<x
  ·rw[hf aa];simp only[simprocAttr,zK,K0,jaa,tysn,tys2,t0,t1,t12,t13,t14,c2,e1,hx,hy,jdg,jaM,z44,K2,jae,jac,hic,jaq,h2,h3];exact⟨ac,by simp[jaB,jak,jaA]⟩
  ·simp only[simprocAttr,zK,K0,jaa,tysn,tys2,t0,t1,t12,t13,t14,c2,e1,hx,hy,jdg,jaM,z44,K2,jae,jac,hic,jaq,h2,h3];exact⟨ac,cs.length-(i+1),aa,_,i+1,rfl,rfl,aa,rfl,hstep aa aa⟩
 ·have hi2:i=cs.length:=by omega
  subst hi2;have c2:¬(cs.length:Int)<(cs.length:Int):=aa;rw[decide_eq_true (show Fits cs xs from⟨h1,hno⟩)];simp only[simprocAttr,zK,Vq,tys2,t0,t1,t12,t13,t14,c2];simp[jaB,jak,jaA]
theorem jzv:env.P.funcs[386]? = some Tryz.f386:=ac
theorem jzw:env.P.funcs[387]? = some Tryz.f387:=ac
theorem jzx:env.P.funcs[388]? = some Tryz.f388:=ac
theorem jvK:env.P.funcs[383]? = some Tryz.f383:=ac
def minI(a b:Int):Int:=if b<a then b else a
def maxI(a b:Int):Int:=if b>a then b else a
def wr(x:Int):Int:=IntKind.i64.wrap x
def limI(n:Int):Int:=maxI (-1000000000000000) (minI n 1000000000000000)
def jmg(a b:Int):Int :=
 if a=0\/b=0 then 0
 else if maxI a (wr (0-a))<=wr (Int.tdiv 1000000000000000 (maxI b (wr (0-b))))then wr (a*b)
 else if decide (a<0)=decide (b<0)then 1000000000000000 else -1000000000000000
def bitI(p:Bool):Int:=if p=true then 1 else 0
theorem jp5(n:Int)(U:S):jah env (ev env) 386 [.int .i64 n] U=some (.int .i64 (limI n),U):=by
 refine jaj rfl jzv rfl ?_ U;simp only[Tryz.f386,simprocAttr,zK,Vq,jai];rfl
theorem jtT(p:Bool)(U:S):jah env (ev env) 388 [.bool p] U=some (.int .i64 (bitI p),U):=by
 refine jaj rfl jzx rfl ?_ U;cases p
 ·simp only[Tryz.f388,simprocAttr,zK,Vq,jai];rfl
 ·simp only[Tryz.f388,simprocAttr,zK,Vq,jai];rfl
theorem jvL {b:Int}(h:¬b=0)(h1 : -9223372036854775808<=b)(h2:b<=9223372036854775807):¬maxI b (wr (0-b))=0:=by
 unfold maxI wr;rw[IntKind.wrap_i64];split<;>omega
def In64(x:Int):Prop := -9223372036854775808<=x/\x<=9223372036854775807
theorem jxl(x:Int):In64 (wr x):=by
 unfold wr In64;rw[IntKind.wrap_i64];omega
theorem jp6(a b:Int)(hb:In64 b)(U:S):jah env (ev env) 387 [.int .i64 a,.int .i64 b] U=some (.int .i64 (jmg a b),U):=by
 refine jaj rfl jzw rfl ?_ U;unfold jmg;by_cases h1:a=0
 ·rw[Kg (.inl h1)];have g1:((a:Int)=0)=True:=eq_true h1;simp only[Tryz.f387,simprocAttr,zK,Vq,jai,g1];rfl
 have g1:((a:Int)=0)=False:=eq_false h1;by_cases h2:b=0
 ·rw[Kg (.inr h2)];have g2:((b:Int)=0)=True:=eq_true h2;simp only[Tryz.f387,simprocAttr,zK,Vq,jai,g1,g2];rfl
 have g2:((b:Int)=0)=False:=eq_false h2;rw[Ke (by rintro(h|h)<;>contradiction)];have hsz:=jvL h2 hb.1 hb.2;have hm1:(if IntKind.i64.wrap (0-b)>b then IntKind.i64.wrap (0-b)else b)=maxI b (wr (0-b)):=rfl;have hm2:(if IntKind.i64.wrap (0-a)>a then IntKind.i64.wrap (0-a)else a)=maxI a (wr (0-a)):=rfl;have g3:((maxI b (wr (0-b)):Int)=0)=False:=eq_false hsz;by_cases h3:maxI a (wr (0-a))<=wr (Int.tdiv 1000000000000000 (maxI b (wr (0-b))))
 ·rw[Kg h3];have h3':maxI a (wr (0-a))<=IntKind.i64.wrap (Int.tdiv 1000000000000000 (maxI b (wr (0-b)))):=h3;simp only[Tryz.f387,simprocAttr,zK,Vq,jai,g1,g2,hm1,hm2,g3,h3'];rfl
 rw[Ke h3];have h3':¬maxI a (wr (0-a))<=IntKind.i64.wrap (Int.tdiv 1000000000000000 (maxI b (wr (0-b)))):=h3;by_cases h4:a<0<;>by_cases h5:b<0
 ·rw[decide_eq_true h4,decide_eq_true h5];simp only[Tryz.f387,simprocAttr,zK,Vq,jai,g1,g2,hm1,hm2,g3,h3',h4,h5]
  first|rfl|simp[jaB,jak,jav]
 ·rw[decide_eq_true h4,decide_eq_false h5];simp only[Tryz.f387,simprocAttr,zK,Vq,jai,g1,g2,hm1,hm2,g3,h3',h4,h5]
  first|rfl|simp[jaB,jak,jav]
 ·rw[decide_eq_false h4,decide_eq_true h5];simp only[Tryz.f387,simprocAttr,zK,Vq,jai,g1,g2,hm1,hm2,g3,h3',h4,h5]
  first|rfl|simp[jaB,jak,jav]
 ·rw[decide_eq_false h4,decide_eq_false h5];simp only[Tryz.f387,simprocAttr,zK,Vq,jai,g1,g2,hm1,hm2,g3,h3',h4,h5]
  first|rfl|simp[jaB,jak,jav]
def opV(op:Int)(xs:List Int):Int :=
 if op=4 then limI (wr (xs.getD 0 0+xs.getD 1 0))
 else if op=5 then limI (wr (xs.getD 0 0-xs.getD 1 0))
 else if op=6 then jmg (xs.getD 0 0) (xs.getD 1 0)
 else if op=7 then wr (0-xs.getD 0 0)
 else if op=8 then(if xs.getD 0 0=1 then xs.getD 1 0 else xs.getD 2 0)
 else if op=9 then bitI (decide (xs.getD 0 0=xs.getD 1 0))
 else if op=10 then bitI (decide (¬xs.getD 0 0=xs.getD 1 0))
 else if op=11 then bitI (decide (xs.getD 0 0<xs.getD 1 0))
 else if op=12 then bitI (decide (xs.getD 0 0<=xs.getD 1 0))
 else if op=13 then bitI (decide (xs.getD 1 0<xs.getD 0 0))
 else if op=14 then bitI (decide (xs.getD 1 0<=xs.getD 0 0))
 else if op=15 then minI (xs.getD 0 0) (xs.getD 1 0)
 else if op=16 then maxI (xs.getD 0 0) (xs.getD 1 0)
 else wr (1-xs.getD 0 0)
theorem jp7(us:Option TypeDesc)(cc:Bool){a b:Int}(ha:Bit a)(hb:Bit b):jbV us cc .and (.int .i64 a) (.int .i64 b)=some (.int .i64 (minI a b)):=by
 have h:vBin .and (.int .i64 a) (.int .i64 b)=some (.int .i64 (minI a b)):=by
  rcases ha with rfl|rfl<;>rcases hb with rfl|rfl<;>rfl
 unfold jbV;rw[h]
theorem jsi(us:Option TypeDesc)(cc:Bool){a b:Int}(ha:Bit a)(hb:Bit b):jbV us cc .or (.int .i64 a) (.int .i64 b)=some (.int .i64 (maxI a b)):=by
 have h:vBin .or (.int .i64 a) (.int .i64 b)=some (.int .i64 (maxI a b)):=by
  rcases ha with rfl|rfl<;>rcases hb with rfl|rfl<;>rfl
 unfold jbV;rw[h]
theorem jsj(xs:List Int):(V.row (xs.map (V.int .i64)) xs.length .unk).closed=true:=closed_I (.inr (.inl rfl))
def Ops2(op:Int):Prop:=4<=op/\op<=17/\op ≠ 7/\op ≠ 8/\op ≠ 17
theorem jnO(a:V)(ha:a.closed=true)(op:Int)(ho:Ops2 op)(x y:Int)(hy:In64 y)(hbit:op=15\/op=16->Bit x/\Bit y)(U:S):jah env (ev env) 383 [a,.int .i64 op,.row [.int .i64 x,.int .i64 y] 2 .unk] U=some (.int .i64 (opV op [x,y]),U):=by
 refine jaj (by simp[ha,V.closed,V.closed.closedL]) jvK rfl ?_ U;have i0:jaw 1 (.row [.int .i64 x,.int .i64 y] 2 .unk) (.int .i64 0)=some (.rptr [.int .i64 x,.int .i64 y]):=rfl;have i1:jaw 1 (.row [.int .i64 x,.int .i64 y] 2 .unk) (.int .i64 1)=some (.rptr [.int .i64 y]):=rfl;have hL:=jp5;have hT:=jp6 x y hy;have hB:=jtT;obtain⟨h1,h2,h3,h4,h5⟩:=ho;have h:op=4\/op=5\/op=6\/op=9\/op=10\/op=11\/op=12\/op=13\/op=14\/op=15\/op=16:=aa
 rcases h with rfl|rfl|rfl|rfl|rfl|rfl|rfl|rfl|rfl|rfl|rfl
 ·simp only[Tryz.f383,Ka,simprocAttr,Kc,Vq,tysn,jai,i0,i1,jaq,hL,hT,hB];rfl
 ·simp only[Tryz.f383,Ka,simprocAttr,Kc,Vq,tysn,jai,i0,i1,jaq,hL,hT,hB];rfl
 ·simp only[Tryz.f383,Ka,simprocAttr,Kc,Vq,tysn,jai,i0,i1,jaq,hL,hT,hB];rfl
 ·simp only[Tryz.f383,Ka,simprocAttr,Kc,Vq,tysn,jai,i0,i1,jaq,hL,hT,hB];rfl
 ·simp only[Tryz.f383,Ka,simprocAttr,Kc,Vq,tysn,jai,i0,i1,jaq,hL,hT,hB];rfl
 ·simp only[Tryz.f383,Ka,simprocAttr,Kc,Vq,tysn,jai,i0,i1,jaq,hL,hT,hB];rfl
 ·simp only[Tryz.f383,Ka,simprocAttr,Kc,Vq,tysn,jai,i0,i1,jaq,hL,hT,hB];rfl
 ·simp only[Tryz.f383,Ka,simprocAttr,Kc,Vq,tysn,jai,i0,i1,jaq,hL,hT,hB];rfl
 ·simp only[Tryz.f383,Ka,simprocAttr,Kc,Vq,tysn,jai,i0,i1,jaq,hL,hT,hB];rfl
 ·obtain⟨bx,by'⟩:=hbit af;simp only[Tryz.f383,Ka,simprocAttr,Kc,Vq,tysn,jai,i0,i1,jaq,hL,hT,hB,jp7 _ _ bx by'];rfl
 ·obtain⟨bx,by'⟩:=hbit af;simp only[Tryz.f383,Ka,simprocAttr,Kc,Vq,tysn,jai,i0,i1,jaq,hL,hT,hB,jsi _ _ bx by'];rfl
theorem jiS(a:V)(ha:a.closed=true)(op:Int)(ho:op=7\/op=17)(x:Int)(U:S):jah env (ev env) 383 [a,.int .i64 op,.row [.int .i64 x] 1 .unk] U=some (.int .i64 (opV op [x]),U):=by
 refine jaj (by simp[ha,V.closed,V.closed.closedL]) jvK rfl ?_ U;have i0:jaw 1 (.row [.int .i64 x] 1 .unk) (.int .i64 0)=some (.rptr [.int .i64 x]):=rfl
 rcases ho with rfl|rfl
 ·simp only[Tryz.f383,Ka,simprocAttr,Kc,Vq,tysn,jai,i0,jaq];rfl
 ·simp only[Tryz.f383,Ka,simprocAttr,Kc,Vq,tysn,jai,i0,jaq];rfl
theorem jnP(a:V)(ha:a.closed=true)(x y z:Int)(hx:Bit x)(U:S):jah env (ev env) 383 [a,.int .i64 8,.row [.int .i64 x,.int .i64 y,.int .i64 z] 3 .unk] U=some (.int .i64 (opV 8 [x,y,z]),U):=by
 refine jaj (by simp[ha,V.closed,V.closed.closedL]) jvK rfl ?_ U;have i0:jaw 1 (.row [.int .i64 x,.int .i64 y,.int .i64 z] 3 .unk) (.int .i64 0)=some (.rptr [.int .i64 x,.int .i64 y,.int .i64 z]):=rfl;have i1:jaw 1 (.row [.int .i64 x,.int .i64 y,.int .i64 z] 3 .unk) (.int .i64 1)=some (.rptr [.int .i64 y,.int .i64 z]):=rfl;have i2:jaw 1 (.row [.int .i64 x,.int .i64 y,.int .i64 z] 3 .unk) (.int .i64 2)=some (.rptr [.int .i64 z]):=rfl
 rcases hx with rfl|rfl
 ·have e1:IntKind.i64.wrap (2-0)=2:=by decide
  simp only[Nat.reduceGcd,Tryz.f383,Ka,Nat.reduceLT,Nat.reduceEqDiff,Kl,Kn,reduceIte,Ys,Y0,Int.reduceEq,Int.reduceLT,Int.reduceLE,Int.reduceNeg,mb,Nat.reduceBEq,tys,stb,Vq,tysn,jai,-Ys,-Y0,i0,e1,i2,jaq];rfl
 ·have e1:IntKind.i64.wrap (2-1)=1:=by decide
  simp only[Nat.reduceGcd,Tryz.f383,Ka,Nat.reduceLT,Nat.reduceEqDiff,Kl,Kn,reduceIte,Ys,Y0,Int.reduceEq,Int.reduceLT,Int.reduceLE,Int.reduceNeg,mb,Nat.reduceBEq,tys,stb,Vq,tysn,jai,-Ys,-Y0,i0,e1,i1,jaq];rfl
theorem jzy:env.P.funcs[268]? = some Tryz.f268:=ac
theorem jnQ(nm:List UInt8)(d:Col)(L:List AObj)(ts:List Nat)(p:Nat)(hp:L[p]? = some (.cells [.str nm] 9)) :
  jah env (ev env) 268 [.agg [.str d.name,.int .i64 d.lo,.int .i64 d.hi,d.w],.ptr p 0] ⟨L,ts⟩=some (.bool (decide (d.name=nm)),⟨L++[.cells [.str d.name,.int .i64 d.lo,.int .i64 d.hi,d.w] 41],ts⟩):=by
 refine jb0 rfl rfl jzy rfl (by simp[Tryz.f268]) (by simp[Tryz.f268]) ?_;refine jaC ?_;by_cases h:d.name=nm<;>
 ·simp only[Tryz.f268,simprocAttr,zK,Vq,tys2,YW,jad,jaE hp,jax,h];simp[jaB,h]
theorem jnS(nm:List UInt8)(dv:V)(ds:List Col)(hd:IsC dv ds)(ok:OkC ds)(hl:ds.length<=1000)(L:List AObj)(ts:List Nat)(p:Nat)(hp:L[p]? = some (.cells [.str nm] 9)) :
  ∃X,jah env (ev env) 200 [dv,.func 268 [] [.ptr p 0]] ⟨L,ts⟩=some (.int .i64 (jgH ds nm ds.length 0),⟨L++X,ts⟩):=by
 suffices h:∃v U',jah env (ev env) 200 [dv,.func 268 [] [.ptr p 0]] ⟨L,ts⟩=some (v,U')/\(v=.int .i64 (jgH ds nm ds.length 0)/\∃X,U'=⟨L++X,ts⟩) by
  obtain⟨v,U',h1,rfl,X,rfl⟩:=h;exact⟨X,h1⟩
 refine jaD jtx rfl ?_;simp only[Tryz.f200,simprocAttr,zK,Vq,tys2,jfs hd];refine jau (λm T D U=>D=[]/\T 0=dv/\T 1=.func 268 [] [.ptr p 0]/\T 7=.int .i64 ds.length/\∃(i:Nat) (X:List AObj),U=⟨L++X,ts⟩/\T 8=.int .i64 i/\i<=ds.length/\m=ds.length-i/\jgH ds nm ds.length 0=jgH ds nm (ds.length-i) i) ?_ _ _ _ _ ⟨rfl,rfl,rfl,rfl,0,[],ae,rfl,aa,rfl,rfl⟩;rintro m T D U ⟨rfl,t0,t1,t7,i,X,rfl,t8,hi,rfl,hf⟩;refine jaC ?_;by_cases hlt:i<ds.length
 ·have c1:(i:Int)<(ds.length:Int):=by omega
  have e1:IntKind.i64.wrap ((i:Int)+1)=((i+1:Nat):Int):=by rw[wrap_i64 aa aa];omega
  have hx:=jel hd hlt;have hN:=jnQ nm (ds.getD i Col.none) (L++X) ts p (jaE hp X);unfold jgH at hf;rw[jd9 hlt]at hf;by_cases hn:(ds.getD i Col.none).name=nm
  ·rw[Kg (decide_eq_true hn)]at hf;simp only[hn,decide_true]at hN;simp only[simprocAttr,zK,Vq,tys2,t0,t1,t7,t8,c1,e1,hx,jdg,jaM,hn,hN];exact⟨by rw[jgH,hf];rfl,_,by rw[K7]⟩
  ·rw[Ke (by simp only[Jq];exact hn)]at hf;simp only[hn,decide_false]at hN;simp only[simprocAttr,zK,Vq,tys2,t0,t1,t7,t8,c1,e1,hx,jdg,jaM,hN];exact⟨ds.length-(i+1),aa,i+1,_,by rw[K7],rfl,aa,rfl,hf⟩
 ·have hi2:i=ds.length:=by omega
  subst hi2;have c1:¬(ds.length:Int)<(ds.length:Int):=aa;rw[Xn]at hf;simp only[simprocAttr,zK,Vq,t0,t1,t7,t8,c1];exact⟨by rw[hf];rfl,X,rfl⟩
theorem jzz:env.P.funcs[233]? = some Tryz.f233:=ac
theorem jeY(cv:V)(cs:List Col)(hc:IsC cv cs)(ok:OkC cs)(hl:cs.length<=1000)(nm:List UInt8)(U:S):jah env (ev env) 233 [cv,.str nm] U=some (.int .i64 (jbg cs nm),U):=by
 refine jaj (by simp[V.closed,V.closed.closedL,ja9 hc ok]) jzz rfl ?_ U;obtain⟨X,hX⟩:=jnS nm cv cs hc ok hl [.cells [.str nm] 9] [] 0 rfl;simp only[Tryz.f233,simprocAttr,zK,Vq,tys2,jai,hX,show(V.str nm).cells=[.str nm]from rfl];rfl
theorem jzA:env.P.funcs[235]? = some Tryz.f235:=ac
def arI(op:Int):Int:=if op=7\/op=17 then 1 else if op=8 then 3 else 2
theorem jp8(op:Int)(U:S):jah env (ev env) 235 [.int .i64 op] U=some (.int .i64 (arI op),U):=by
 refine jaj rfl jzA rfl ?_ U;unfold arI;by_cases h1:op=7
 ·subst h1;simp only[Tryz.f235,simprocAttr,zK,Vq,jai];rfl
 by_cases h2:op=17
 ·subst h2;simp only[Tryz.f235,simprocAttr,zK,Vq,jai];rfl
 rw[Ke (by rintro(h|h)<;>contradiction)];have g1:((op:Int)=7)=False:=eq_false h1;have g2:((op:Int)=17)=False:=eq_false h2;by_cases h3:op=8
 ·subst h3;simp only[Tryz.f235,simprocAttr,zK,Vq,jai];rfl
 ·have g3:((op:Int)=8)=False:=eq_false h3;simp only[Tryz.f235,simprocAttr,zK,Vq,jai,g1,g2,g3];rfl
theorem jzB:env.P.funcs[384]? = some Tryz.f384:=ac
theorem jzC:env.P.funcs[385]? = some Tryz.f385:=ac
theorem u62:env.P.underlying 201=some (.slice 3):=ac
theorem jnT(xv:V)(xs:List Int)(hx:IsI xv xs)(i:Nat)(hi:i<xs.length)(U:S):jah env (ev env) 384 [xv,.int .i64 i] U=some (.int .i64 (xs.getD i 0),U):=by
 refine jaj (by simp[V.closed,V.closed.closedL,closed_I hx]) jzB rfl ?_ U;have hi2:=idx_I hx hi;simp only[Tryz.f384,simprocAttr,zK,Vq,tysn,u62,jai,hi2,jaq];rfl
theorem jiT(xv:V)(hc:xv.closed=true)(n:Int)(U:S):jah env (ev env) 385 [xv,.int .i64 n] U=some (.int .i64 n,U):=by
 refine jaj (by simp[V.closed,V.closed.closedL,hc]) jzC rfl ?_ U;simp only[Tryz.f385,simprocAttr,zK,Vq,jai];rfl
theorem jo0(xv:V):jgV env (.iface 201 xv) "privhouse/span.number" = some (385,xv):=ac
theorem jtU(xv:V):jgV env (.iface 201 xv) "privhouse/span.column" = some (384,xv):=ac
theorem jtV(xv:V):jgV env (.iface 201 xv) "privhouse/span.apply" = some (383,xv):=ac
theorem jvM:env.P.funcs[197]? = some Tryz.f197:=ac
theorem jhf(b off n cap:Nat)(ex:HCap)(l:List Int)(L:List AObj)(ts:List Nat)(hn:l.length=n)(h0:0<n)(hlim:n<=4000)(hc:jaV L 1 n (.hsl b off n cap ex)=some (l.map (V.int .i64))) :
  jah env (ev env) 197 [.hsl b off n cap ex] ⟨L,ts⟩=some (.row (l.map (V.int .i64)) n (.tok ts.length 0 1),⟨L,ts++[0]⟩):=by
 refine jaL jvM rfl ?_
 have ha:appO env false ⟨L,ts⟩ 22 22 (.row [] 0 .full) (.hsl b off n cap ex)=some (.row (l.map (V.int .i64)) n (.tok ts.length 0 1),⟨L,ts++[0]⟩):=by
  have e24:jf1 env 22=some 3:=ac;have s3:sz env 3=some 1:=ac;have b3:bys env 3=some 8:=ac;have z3:jhG env 3=some 1:=ac;have hlim2:n*8<=lim/\n<=lim:=by have:lim=2^40:=rfl;rw[this];omega
  have hcell:(l.map (V.int .i64)).all V.isCell=true:=by rw[Qq];intro x hx;obtain⟨y,_,rfl⟩:=Jd.1 hx;rfl
  unfold appO;simp only[e24,s3,b3,z3,u24i,Kq,vLen,hc,Kl,jbk];rw[Ke aa,Kg ⟨aa,aa,ae,hcell⟩];simp
 have hq:∀c,binO env 22 c .eql (some (.hsl b off n cap ex)) (some .nilsl)=some (.bool false):=λc=>ac
 have hr:rowO env 22 0 []=some (.row [] 0 .full):=ac;simp only[Tryz.f197,simprocAttr,zK,K0,jaa,tysn,jar,hr,ha,hq];exact⟨rfl,trivial⟩
end Go.Proofs.YtajaampgajieeaaGreatDoor.W
