/- Proved here: rules for objects of one's own, and for calls that end. Conditions: each theorem's own. -/
import Derived.Test.YtajaampgajieeaaGreatDoorAbE
set_option linter.unusedSimpArgs false
set_option linter.unusedVariables false
namespace Go.Ab
theorem jsP(E:Env)(x:Operand):scOp E (.nilCheck x)=false:=rfl
theorem jsQ(x:Operand):jaO (.nilCheck x)=false:=rfl
theorem jnG(E:Env)(t:TypeId):scOp E (.alloc t)=true:=rfl
theorem jnH(t:TypeId):jaO (.alloc t)=false:=rfl
theorem jsR(E:Env)(t:TypeId)(x:Operand):scOp E (.box t x)=true:=rfl
theorem jsS(t:TypeId)(x:Operand):jaO (.box t x)=false:=rfl
theorem jnI(E:Env)(t:TypeId)(ps:Array (Nat × Operand)):scOp E (.build t ps)=false:=rfl
theorem jnJ(t:TypeId)(ps:Array (Nat × Operand)):jaO (.build t ps)=false:=rfl
theorem ju5(t:TypeId)(n:Nat)(ps:Array (Nat × Operand)):jaO (.buildSlice t n ps)=false:=rfl
theorem jnK(E:Env)(t:TypeId)(x:Operand)(lo hi mx:Option Operand):scOp E (.slice t x lo hi mx)=false:=rfl
theorem jnL(t:TypeId)(x:Operand)(lo hi mx:Option Operand):jaO (.slice t x lo hi mx)=false:=rfl
theorem jsT(E:Env)(f:Fn)(a b:Array Operand):scOp E (.makeFunc f a b)=false:=rfl
theorem jsU(f:Fn)(a b:Array Operand):jaO (.makeFunc f a b)=false:=rfl
theorem jsV(E:Env)(t:TypeId)(x:Operand):scOp E (.makeInterface t x)=false:=rfl
theorem jsW(t:TypeId)(x:Operand):jaO (.makeInterface t x)=false:=rfl
theorem jsX(E:Env)(ag:Array Operand)(ts:Array TypeId):scOp E (.call ⟨.builtin .append,ag,ts⟩)=true:=rfl
theorem jsY(E:Env)(t:TypeId)(x:Option Operand):scOp E (.makeMap t x)=true:=rfl
theorem jsZ(t:TypeId)(x:Option Operand):jaO (.makeMap t x)=false:=rfl
theorem js0(E:Env)(t:TypeId)(x y z:Operand):scOp E (.insert t x y z)=true:=rfl
theorem js1(t:TypeId)(x y z:Operand):jaO (.insert t x y z)=false:=rfl
theorem jqk(E:Env)(t:TypeId)(x y:Operand)(b:Bool):scOp E (.lookup t x y b)=false:=rfl
theorem jql(t:TypeId)(x y:Operand)(b:Bool):jaO (.lookup t x y b)=true:=rfl
theorem jnM(E:Env)(t:TypeId)(x:Operand)(n:Nat):scOp E (.field t x n)=false:=rfl
theorem jnO(t:TypeId)(x:Operand)(n:Nat):jaO (.field t x n)=false:=rfl
theorem jnP(E:Env)(f:FuncId)(ag:Array Operand)(ts:Array TypeId):scOp E (.call ⟨.value (.func f),ag,ts⟩) = !(E.pure f ||(E.hook f).isSome):=rfl
def AllM(K:Nat->S->Prop)(P:S->Prop):List Nat->Prop
 | []=>True
 |m::ms=>(∀U',K m U'->P U')/\AllM K P ms
theorem AllM.mem {K:Nat->S->Prop}{P:S->Prop}:∀{ms:List Nat},AllM K P ms->∀m∈ms,∀U',K m U'->P U'
 | [],_,m,hm=>by simp at hm
 |a::ms,⟨h1,h2⟩,m,hm=>by
  rcases Jh.1 hm with rfl|h
  ·exact h1
  ·exact h2.mem m h
section
variable (E:Env)
end
section
variable {E:Env}{fn:FuncId}{rnd:Option Nat}{n:Nat}{Q:Post}{ks:List Kt}{m:Bool}{ops:Array Oper}{l:List Oper}{T:Tm}{D:List DE}{U:S}{ws:List (Bool × List Nat)}{c:Nat}
end
section
variable {E:Env}{fn:FuncId}{rnd:Option Nat}{n:Nat}{Q:Post}{ks:List Kt}{m:Bool}{ops:Array Oper}{l:List Oper}{T:Tm}{D:List DE}{f:FuncId}{args:List V}{U:S}
theorem jfM {d:Nat}{K:V->S->Prop}(h:∃v U',jaf E (ev E) f args U=some (v,U')/\K v U')(k:∀v U',K v U'->GL E fn rnd n Q ks m ops l (upd T d v) D U') :
  GS E fn rnd n Q ks m ops l T D d (jaf E (ev E) f args U):=by
 obtain⟨v,U',h1,h2⟩:=h;rw[h1,Zu];exact k v U' h2
end
theorem jmA {E:Env}{f:FuncId}{args:List V}{F:Go.Func}{body:Code}(hp:E.pure f=true)(hk:E.hook f=none)(hc:args.all V.closed=true)(hf:E.P.funcs[f]? = some F)(hb:F.body=some body)
  (hn:F.name ≠ "runtime.NumGoroutine") (hl:args.length<=F.ntmps) (P:V->Prop)
  (hw:wpC E f none F.ntmps body (argT args) [] S.empty ⟨wpR E F.results.toList λv' U'=>∃v,jaL U'.heap jai v'=some v/\P v,λ_ _ _ _=>False,wpR E F.results.toList λv' U'=>∃v,jaL U'.heap jai v'=some v/\P v⟩) :
  ∃v,P v/\∀U,jaf E (ev E) f args U=some (v,U):=by
 obtain⟨v',U',h1,v,h2,h3⟩:=jj6 hf hb hn hl hw;refine⟨v,h3,λU => ?_⟩;unfold jaf;simp only[hk,hp,jd3 hc,hc,h1,h2,Km,Kw]
theorem hhWa:type_of% (Kd @jds (Kd @jdt (Kd @jcb (Kd @jp4 (Kd @jc0 (Kd @jp5 (Kd @jbC (Kd @jbm (Kd @jjb (Kd @jc1 (Kd @jnz (@jdu)))))))))))):=Kd @jds (Kd @jdt (Kd @jcb (Kd @jp4 (Kd @jc0 (Kd @jp5 (Kd @jbC (Kd @jbm (Kd @jjb (Kd @jc1 (Kd @jnz (@jdu)))))))))))
theorem hhWb:type_of% (Kd @jdv (Kd @jcc (Kd @jp6 (Kd @jc2 (Kd @jp7 (Kd @jbD (Kd @jbn (Kd @jjc (Kd @jc3 (Kd @jdw (Kd @jbS (@jsP)))))))))))):=Kd @jdv (Kd @jcc (Kd @jp6 (Kd @jc2 (Kd @jp7 (Kd @jbD (Kd @jbn (Kd @jjc (Kd @jc3 (Kd @jdw (Kd @jbS (@jsP)))))))))))
theorem hhWc:type_of% (Kd @jsQ (Kd @jnG (Kd @jnH (Kd @jsR (Kd @jsS (Kd @jnI (Kd @jnJ (Kd @ju5 (Kd @jnK (Kd @jnL (Kd @jsT (@jsU)))))))))))):=Kd @jsQ (Kd @jnG (Kd @jnH (Kd @jsR (Kd @jsS (Kd @jnI (Kd @jnJ (Kd @ju5 (Kd @jnK (Kd @jnL (Kd @jsT (@jsU)))))))))))
theorem hhWd:type_of% (Kd @jsV (Kd @jsW (Kd @jsX (Kd @jsY (Kd @jsZ (Kd @js0 (Kd @js1 (Kd @jqk (Kd @jql (Kd @jnM (Kd @jnO (@jnP)))))))))))):=Kd @jsV (Kd @jsW (Kd @jsX (Kd @jsY (Kd @jsZ (Kd @js0 (Kd @js1 (Kd @jqk (Kd @jql (Kd @jnM (Kd @jnO (@jnP)))))))))))
theorem Kf:type_of% (And.intro @hhWa (And.intro @hhWb (And.intro @hhWc (@hhWd)))):=And.intro @hhWa (And.intro @hhWb (And.intro @hhWc (@hhWd)))
theorem jld {E:Env}{f:FuncId}{args:List V}{F:Go.Func}{body:Code}(hc:args.all V.closed=true)(hf:E.P.funcs[f]? = some F)(hb:F.body=some body)(P:V->Prop)(hw:G E f none F.ntmps ⟨wpR E F.results.toList λv' U'=>∃v,jaL U'.heap jai v'=some v/\P v,λ_ _ _ _=>False,wpR E F.results.toList λv' U'=>∃v,jaL U'.heap jai v'=some v/\P v⟩ [] body (argT args) [] S.empty)(hp:E.pure f=true:=by rfl)(hk:E.hook f=none:=by rfl)(ho:okN F args.length=true:=by kernel_rfl):∃v,P v/\∀U,jaf E (ev E) f args U=some (v,U):=jmA hp hk hc hf hb (jqi ho) (jqj ho) P hw
end Go.Ab
