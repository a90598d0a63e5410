/- Proved here: rules for objects of one's own, and for calls that end. Conditions: those of each theorem; no statement of the seat is proved in this text. -/
import Derived.Test.YtajaampgajieeaaGreatDoorAbE
set_option linter.unusedSimpArgs false
set_option linter.unusedVariables false
namespace Go.Ab
theorem js1(E:Env)(x:Operand):scOp E (.nilCheck x)=false:=rfl
theorem js2(x:Operand):jaN (.nilCheck x)=false:=rfl
theorem jnX(E:Env)(t:TypeId):scOp E (.alloc t)=true:=rfl
theorem jnY(t:TypeId):jaN (.alloc t)=false:=rfl
theorem js3(E:Env)(t:TypeId)(x:Operand):scOp E (.box t x)=true:=rfl
theorem js4(t:TypeId)(x:Operand):jaN (.box t x)=false:=rfl
theorem jnZ(E:Env)(t:TypeId)(ps:Array (Nat × Operand)):scOp E (.build t ps)=false:=rfl
theorem jn0(t:TypeId)(ps:Array (Nat × Operand)):jaN (.build t ps)=false:=rfl
theorem jve(t:TypeId)(n:Nat)(ps:Array (Nat × Operand)):jaN (.buildSlice t n ps)=false:=rfl
theorem jn1(E:Env)(t:TypeId)(x:Operand)(lo hi mx:Option Operand):scOp E (.slice t x lo hi mx)=false:=rfl
theorem jn2(t:TypeId)(x:Operand)(lo hi mx:Option Operand):jaN (.slice t x lo hi mx)=false:=rfl
theorem js5(E:Env)(f:Fn)(a b:Array Operand):scOp E (.makeFunc f a b)=false:=rfl
theorem js6(f:Fn)(a b:Array Operand):jaN (.makeFunc f a b)=false:=rfl
theorem js7(E:Env)(t:TypeId)(x:Operand):scOp E (.makeInterface t x)=false:=rfl
theorem js8(t:TypeId)(x:Operand):jaN (.makeInterface t x)=false:=rfl
theorem js9(E:Env)(ag:Array Operand)(ts:Array TypeId):scOp E (.call ⟨.builtin .append,ag,ts⟩)=true:=rfl
theorem jta(E:Env)(t:TypeId)(x:Option Operand):scOp E (.makeMap t x)=true:=rfl
theorem jtb(t:TypeId)(x:Option Operand):jaN (.makeMap t x)=false:=rfl
theorem jtc(E:Env)(t:TypeId)(x y z:Operand):scOp E (.insert t x y z)=true:=rfl
theorem jtd(t:TypeId)(x y z:Operand):jaN (.insert t x y z)=false:=rfl
theorem jqE(E:Env)(t:TypeId)(x y:Operand)(b:Bool):scOp E (.lookup t x y b)=false:=rfl
theorem jqF(t:TypeId)(x y:Operand)(b:Bool):jaN (.lookup t x y b)=true:=rfl
theorem jn3(E:Env)(t:TypeId)(x:Operand)(n:Nat):scOp E (.field t x n)=false:=rfl
theorem jn4(t:TypeId)(x:Operand)(n:Nat):jaN (.field t x n)=false:=rfl
theorem jn5(E:Env)(f:FuncId)(ag:Array Operand)(ts:Array TypeId):scOp E (.call ⟨.value (.func f),ag,ts⟩) = !(E.pure f ||(E.hook f).isSome):=rfl
def AllM(K:Nat->S->Prop)(P:S->Prop):List Nat->Prop
 | []=>True
 |m::ms=>(∀U',K m U'->P U')/\AllM K P ms
theorem AllM.mem {K:Nat->S->Prop}{P:S->Prop}:∀{ms:List Nat},AllM K P ms->∀m∈ms,∀U',K m U'->P U'
 | [],_,m,hm=>by simp at hm
 |a::ms,⟨h1,h2⟩,m,hm=>by
  rcases Q9.1 hm with rfl|h
  ·exact h1
  ·exact h2.mem m h
section
variable (E:Env)
end
section
variable {E:Env}{fn:FuncId}{rnd:Option Nat}{n:Nat}{Q:Post}{ks:List Kt}{m:Bool}{ops:Array Oper}{l:List Oper}{T:Tm}{D:List DE}{U:S}{ws:List (Bool × List Nat)}{c:Nat}
end
section
variable {E:Env}{fn:FuncId}{rnd:Option Nat}{n:Nat}{Q:Post}{ks:List Kt}{m:Bool}{ops:Array Oper}{l:List Oper}{T:Tm}{D:List DE}{f:FuncId}{args:List V}{U:S}
theorem jfQ {d:Nat}{K:V->S->Prop}(h:∃v U',jai E (ev E) f args U=some (v,U')/\K v U')(k:∀v U',K v U'->GL E fn rnd n Q ks m ops l (upd T d v) D U') :
  GS E fn rnd n Q ks m ops l T D d (jai E (ev E) f args U):=by
 obtain⟨v,U',h1,h2⟩:=h;rw[h1,Zu];exact k v U' h2
end
theorem jmI {E:Env}{f:FuncId}{args:List V}{F:Go.Func}{body:Code}(hp:E.pure f=true)(hk:E.hook f=none)(hc:args.all V.closed=true)(hf:E.P.funcs[f]? = some F)(hb:F.body=some body)
  (hn:F.name ≠ "runtime.NumGoroutine") (hl:args.length<=F.ntmps) (P:V->Prop)
  (hw:wpC E f none F.ntmps body (argT args) [] S.empty ⟨wpR E F.results.toList λv' U'=>∃v,jaO U'.heap jaj v'=some v/\P v,λ_ _ _ _=>False,wpR E F.results.toList λv' U'=>∃v,jaO U'.heap jaj v'=some v/\P v⟩) :
  ∃v,P v/\∀U,jai E (ev E) f args U=some (v,U):=by
 obtain⟨v',U',h1,v,h2,h3⟩:=jka hf hb hn hl hw;refine⟨v,h3,λU => ?_⟩;unfold jai;simp only[hk,hp,jd1 hc,hc,h1,h2,Kk,K6]
theorem hhWa:type_of% (Kd @jdp (Kd @jdq (Kd @jcb (Kd @jqs (Kd @jcX (Kd @jqt (Kd @jbA (Kd @jbj (Kd @jjd (Kd @jcY (Kd @jnQ (@jdr)))))))))))):=Kd @jdp (Kd @jdq (Kd @jcb (Kd @jqs (Kd @jcX (Kd @jqt (Kd @jbA (Kd @jbj (Kd @jjd (Kd @jcY (Kd @jnQ (@jdr)))))))))))
theorem hhWb:type_of% (Kd @jds (Kd @jcc (Kd @jqu (Kd @jcZ (Kd @jqv (Kd @jbB (Kd @jbk (Kd @jje (Kd @jc0 (Kd @jdt (Kd @jbT (@js1)))))))))))):=Kd @jds (Kd @jcc (Kd @jqu (Kd @jcZ (Kd @jqv (Kd @jbB (Kd @jbk (Kd @jje (Kd @jc0 (Kd @jdt (Kd @jbT (@js1)))))))))))
theorem hhWc:type_of% (Kd @js2 (Kd @jnX (Kd @jnY (Kd @js3 (Kd @js4 (Kd @jnZ (Kd @jn0 (Kd @jve (Kd @jn1 (Kd @jn2 (Kd @js5 (@js6)))))))))))):=Kd @js2 (Kd @jnX (Kd @jnY (Kd @js3 (Kd @js4 (Kd @jnZ (Kd @jn0 (Kd @jve (Kd @jn1 (Kd @jn2 (Kd @js5 (@js6)))))))))))
theorem hhWd:type_of% (Kd @js7 (Kd @js8 (Kd @js9 (Kd @jta (Kd @jtb (Kd @jtc (Kd @jtd (Kd @jqE (Kd @jqF (Kd @jn3 (Kd @jn4 (@jn5)))))))))))):=Kd @js7 (Kd @js8 (Kd @js9 (Kd @jta (Kd @jtb (Kd @jtc (Kd @jtd (Kd @jqE (Kd @jqF (Kd @jn3 (Kd @jn4 (@jn5)))))))))))
theorem Ua:type_of% (And.intro @hhWa (And.intro @hhWb (And.intro @hhWc (@hhWd)))):=And.intro @hhWa (And.intro @hhWb (And.intro @hhWc (@hhWd)))
end Go.Ab
