/- Proved here: rules for objects of one's own, and for calls that end. Conditions: those of each theorem; no statement of the seat is proved in this text. -/
import Derived.Test.YtajaampgajieeaaGreatDoorAbE
set_option linter.unusedSimpArgs false
namespace Go.Ab
set_option linter.unusedVariables false
theorem jqM (E:Env)(x:Operand):scOp E (.nilCheck x)=false:=rfl
theorem jqN (x:Operand):jaJ (.nilCheck x)=false:=rfl
theorem jmT (E:Env)(t:TypeId):scOp E (.alloc t)=true:=rfl
theorem jmU (t:TypeId):jaJ (.alloc t)=false:=rfl
theorem jqO (E:Env)(t:TypeId)(x:Operand):scOp E (.box t x)=true:=rfl
theorem jqP (t:TypeId)(x:Operand):jaJ (.box t x)=false:=rfl
theorem jmV (E:Env)(t:TypeId)(ps:Array (Nat × Operand)):scOp E (.build t ps)=false:=rfl
theorem jmW (t:TypeId)(ps:Array (Nat × Operand)):jaJ (.build t ps)=false:=rfl
theorem jsA (t:TypeId)(n:Nat)(ps:Array (Nat × Operand)):jaJ (.buildSlice t n ps)=false:=rfl
theorem jmX (E:Env)(t:TypeId)(x:Operand)(lo hi mx:Option Operand):scOp E (.slice t x lo hi mx)=false:=rfl
theorem jmY (t:TypeId)(x:Operand)(lo hi mx:Option Operand):jaJ (.slice t x lo hi mx)=false:=rfl
theorem jqQ (E:Env)(f:Fn)(a b:Array Operand):scOp E (.makeFunc f a b)=false:=rfl
theorem jqR (f:Fn)(a b:Array Operand):jaJ (.makeFunc f a b)=false:=rfl
theorem jqS (E:Env)(t:TypeId)(x:Operand):scOp E (.makeInterface t x)=false:=rfl
theorem jqT (t:TypeId)(x:Operand):jaJ (.makeInterface t x)=false:=rfl
theorem jqU (E:Env)(ag:Array Operand)(ts:Array TypeId):scOp E (.call ⟨.builtin .append,ag,ts⟩)=true:=rfl
theorem jqV (E:Env)(t:TypeId)(x:Option Operand):scOp E (.makeMap t x)=true:=rfl
theorem jqW (t:TypeId)(x:Option Operand):jaJ (.makeMap t x)=false:=rfl
theorem jqX (E:Env)(t:TypeId)(x y z:Operand):scOp E (.insert t x y z)=true:=rfl
theorem jqY (t:TypeId)(x y z:Operand):jaJ (.insert t x y z)=false:=rfl
theorem jo2 (E:Env)(t:TypeId)(x y:Operand)(b:Bool):scOp E (.lookup t x y b)=false:=rfl
theorem jo3 (t:TypeId)(x y:Operand)(b:Bool):jaJ (.lookup t x y b)=true:=rfl
theorem jmZ (E:Env)(t:TypeId)(x:Operand)(n:Nat):scOp E (.field t x n)=false:=rfl
theorem jm0 (t:TypeId)(x:Operand)(n:Nat):jaJ (.field t x n)=false:=rfl
theorem jm1 (E:Env)(f:FuncId)(ag:Array Operand)(ts:Array TypeId):scOp E (.call ⟨.value (.func f),ag,ts⟩) = !(E.pure f || (E.hook f).isSome):=rfl
def AllM (K:Nat→S→Prop)(P:S→Prop):List Nat→Prop
 | []=>True
 | m::ms=>(∀ σ',K m σ'→P σ')∧AllM K P ms
theorem AllM.mem {K:Nat→S→Prop}{P:S→Prop}:∀ {ms:List Nat},AllM K P ms→∀ m∈ms,∀ σ',K m σ'→P σ'
 | [],_,m,hm=>by simp at hm
 | a::ms,⟨h1,h2⟩,m,hm=>by
  rcases Jf.1 hm with rfl | h
  ·exact h1
  ·exact h2.mem m h
section
variable (E:Env)
end
section
variable {E:Env}{fn:FuncId}{rnd:Option Nat}{n:Nat}{Q:Post}{ks:List Kt}{m:Bool}{ops:Array Oper}{l:List Oper}{T:Tm}{D:List DE}{σ:S}{ws:List (Bool × List Nat)}{c:Nat}
end
def Post.ofP (n:Nat)(Q:Post)(X:V→List V→List DE→S→Prop)(r:Res):Prop :=
 match r.ex with
 | .pan v=>X v r.vals r.dfs r.st
 | _=>Q.of n r
def wpP (E:Env)(fn:FuncId)(rnd:Option Nat)(n:Nat)(X:V→List V→List DE→S→Prop)(c:Code)(T:Tm)(D:List DE)(σ:S)(Q:Post):Prop :=
 ∀ tmps,Rep n T tmps→∃ r,jaY E (ev E) fn rnd c tmps D σ=some r∧Post.ofP n Q X r
def PanC (E:Env)(T:Tm)(op:Op)(σ:S)(K:V→S→Prop):Prop :=
 match op with
 | .call { callee:=.value g,args,.. }=>∃ f first captured as v σ',jaM E T g=some (.func f first captured)∧jbn (jaM E T) args.toList=some as∧E.pure f=false∧E.hook f=none∧E.frz f=false∧E.hookS f=none ∧
   ev E (.call f (first++as++captured) σ)=some ⟨.pan v,[],[],σ'⟩∧K v σ'
 | _=>False
def PanO (E:Env)(T:Tm)(op:Op)(σ:S)(K:V→S→Prop):Prop :=
 match op with
 | .panic x=>∃ t v,jaM E T x=some (.iface t v)∧K (.iface t v) σ
 | op=>PanC E T op σ K
section
variable {E:Env}{fn:FuncId}{rnd:Option Nat}{n:Nat}{X:V→List V→List DE→S→Prop}{T:Tm}{D:List DE}{σ:S}{Q:Post}
theorem PanO.opP {op:Op}{K:V→S→Prop}{tmps:List V}(hr:Rep n T tmps)(h:PanO E T op σ K):∃ v σ',opP E (ev E) tmps σ op=some (v,σ')∧K v σ':=by
 unfold PanO at h
 split at h
 ·obtain ⟨t,v,h1,h2⟩:=h
  exact ⟨_,_,by simp only [Go.Ab.opP,hr.eval,h1],h2⟩
 ·unfold PanC at h
  split at h
  ·obtain ⟨f,first,captured,as,v,σ',h1,h2,h3,h4,h5,h6,h7,h8⟩:=h
   exact ⟨v,σ',by simp only [Go.Ab.opP,hr.eval,h1,h2,jiC,h3,h4,h5,h6,h7,Xo,Kj,Kc],h8⟩
  ·exact h.elim
end
section
variable (E:Env)
noncomputable def jtF (f:FuncId)(args:List V)(σ:S):Option (Sum V V × S) :=
 match jah E (ev E) f args σ with
 | some (v,s)=>some (.inl v,s)
 | none=>(jiC E (ev E) f args σ).map fun p=>(.inr p.1,p.2)
noncomputable def jsB (g:V)(args:List V)(σ:S):Option (Sum V V × S) :=
 match g with
 | .func f first captured=>jtF E f (first++args++captured) σ
 | g=>(jgx E (ev E) g args σ).map fun p=>(.inl p.1,p.2)
def panV (v:V)(σ:S):Option (Sum V V × S) :=
 match v with
 | .iface t u=>some (.inr (.iface t u),σ)
 | _=>none
noncomputable def opKX (mutb:Bool)(T:Tm)(σ:S)(op:Op):Option (Sum V V × S) :=
 match op with
 | .panic x=>(jaM E T x).bind fun v=>panV v σ
 | .call { callee:=.value g,args,.. }=>(jaM E T g).bind fun gv=>(jbn (jaM E T) args.toList).bind fun as=>jsB E gv as σ
 | op=>(opT E mutb T σ op).map fun p=>(.inl p.1,p.2)
def KX (X:V→S→Prop)(k:V→S→Prop)(p:Sum V V × S):Prop :=
 match p.1 with
 | .inl v=>k v p.2
 | .inr v=>X v p.2
def wpOX (X:V→S→Prop)(mutb:Bool)(T:Tm)(σ:S)(op:Op)(k:V→S→Prop):Prop:=V1 (opKX E mutb T σ op) (KX X k)
def wpLX (X:V→S→Prop) (mutb:Bool) (n:Nat) (ops:Array Oper):List Oper→Tm→S→(Tm→S→Prop)→Prop
  | [],T,σ,k=>k T σ
  | ⟨dst,op,_,_,_,none⟩::l,T,σ,k =>
    match dst with
    | none=>wpOX E X mutb T σ op fun _ σ'=>wpLX X mutb n ops l T σ' k
    | some d=>d<n∧wpOX E X mutb T σ op fun v σ'=>wpLX X mutb n ops l (upd T d v) σ' k
  | ⟨dst,op,_,_,_,some (j,b)⟩::l,T,σ,k =>
    V1 ((ops[j]?).bind (·.dst)) fun dj=>dj<n∧Br3 (T dj)
      (match b with
        | true=>(match dst with
          | none=>wpOX E X mutb (upd T dj (.bool true)) σ op fun _ σ'=>wpLX X mutb n ops l (upd T dj (.bool true)) σ' k
          | some d=>d<n∧wpOX E X mutb (upd T dj (.bool true)) σ op fun v σ'=>wpLX X mutb n ops l (upd (upd T dj (.bool true)) d v) σ' k)
        | false=>(match dst with
          | none=>wpLX X mutb n ops l (upd T dj (.bool true)) σ k
          | some d=>d<n∧wpLX X mutb n ops l (upd (upd T dj (.bool true)) d (.tup [])) σ k))
      (match b with
        | false=>(match dst with
          | none=>wpOX E X mutb (upd T dj (.bool false)) σ op fun _ σ'=>wpLX X mutb n ops l (upd T dj (.bool false)) σ' k
          | some d=>d<n∧wpOX E X mutb (upd T dj (.bool false)) σ op fun v σ'=>wpLX X mutb n ops l (upd (upd T dj (.bool false)) d v) σ' k)
        | true=>(match dst with
          | none=>wpLX X mutb n ops l (upd T dj (.bool false)) σ k
          | some d=>d<n∧wpLX X mutb n ops l (upd (upd T dj (.bool false)) d (.tup [])) σ k))
      (match dst with
        | none=>wpLX X mutb n ops l T σ k
        | some d=>d<n∧wpLX X mutb n ops l (upd T d (.tup [])) σ k)
variable {E}
end
section
variable (E:Env)(fn:FuncId)(rnd:Option Nat)(n:Nat)(X:V→List DE→S→Prop)
def jrz (c:Code)(T:Tm)(D:List DE)(σ:S)(Q:Post):Prop :=
 ∀ tmps,Rep n T tmps→∃ r,ev E (.loop fn rnd c tmps D σ)=some r∧Post.ofP n Q (fun v _ D σ=>X v D σ) r
def wpCX:Code→Tm→List DE→S→Post→Prop
 | .skip,T,D,σ,Q=>Q.norm T D σ
 | .exit i,T,D,σ,Q=>Q.exit i T D σ
 | .ret,T,D,σ,Q=>Q.ret T D σ
 | .seq a b,T,D,σ,Q=>wpCX a T D σ ⟨fun T D σ=>wpCX b T D σ Q,Q.exit,Q.ret⟩
 | .cond (.tmp t) a b,T,D,σ,Q=>t<n∧Br (T t) (wpCX a (upd T t (.bool true)) D σ Q) (wpCX b (upd T t (.bool false)) D σ Q)
 | .block id c,T,D,σ,Q=>wpCX c T D σ ⟨Q.norm,fun i T D σ=>if i=id then Q.norm T D σ else Q.exit i T D σ,Q.ret⟩
 | .loop c,T,D,σ,Q=>jrz E fn rnd n X c T D σ Q
 | .scope c,T,D,σ,Q=>wpCX c T D σ Q
 | .label _,T,D,σ,Q=>Q.norm T D σ
 | .region id ops false,T,D,σ,Q=>wpLX E (fun v σ=>X v D σ) (E.mutb fn id) n ops ops.toList T σ fun T σ=>Q.norm T D σ
 | .region id ops true,T,D,σ,Q =>
  match E.stab fn id with
  | false=>jgd E ops=true∧wpLX E (fun _ _=>False) (E.mutb fn id) n ops ops.toList T σ fun T σ=>Q.norm T D σ
  | true=>wpP E fn rnd n (fun v _ D σ=>X v D σ) (.region id ops true) T D σ Q
 | c,T,D,σ,Q=>wpP E fn rnd n (fun v _ D σ=>X v D σ) c T D σ Q
variable {E}
variable {fn rnd n X}
end
section
variable (E:Env)(fn:FuncId)(rnd:Option Nat)(n:Nat)(X:V→List DE→S→Prop)
def Kt.postX (Q:Post):List Kt→Post
 | []=>Q
 | .code b::r=>⟨fun T D σ=>wpCX E fn rnd n X b T D σ (Kt.postX Q r),(Kt.postX Q r).exit,(Kt.postX Q r).ret⟩
 | .blk id::r=>⟨(Kt.postX Q r).norm,fun i T D σ=>if i=id then (Kt.postX Q r).norm T D σ else (Kt.postX Q r).exit i T D σ,(Kt.postX Q r).ret⟩
def H (Q:Post)(ks:List Kt)(c:Code)(T:Tm)(D:List DE)(σ:S):Prop:=wpCX E fn rnd n X c T D σ (Kt.postX E fn rnd n X Q ks)
end
section
variable {E:Env}{fn:FuncId}{rnd:Option Nat}{n:Nat}{X:V→List DE→S→Prop}{Q:Post}{ks:List Kt}{Y:V→S→Prop}{m:Bool}{ops:Array Oper}{l:List Oper}{T:Tm}{D:List DE}{σ:S}
end
section
variable {E:Env}
end
section
variable {E:Env}{fn:FuncId}{rnd:Option Nat}{n:Nat}{Q:Post}{ks:List Kt}{m:Bool}{ops:Array Oper}{l:List Oper}{T:Tm}{D:List DE}{f:FuncId}{args:List V}{σ:S}
theorem jie {d:Nat}{K:V→S→Prop}(h:∃ v σ',jah E (ev E) f args σ=some (v,σ')∧K v σ')(k:∀ v σ',K v σ'→GL E fn rnd n Q ks m ops l (upd T d v) D σ') :
  GS E fn rnd n Q ks m ops l T D d (jah E (ev E) f args σ):=by
 obtain ⟨v,σ',h1,h2⟩:=h
 rw [h1,Zu]
 exact k v σ' h2
end
theorem hhWa:type_of% (Kd @jdU (Kd @jdV (Kd @jcl (Kd @joT (Kd @jcU (Kd @joU (Kd @jbx (Kd @jby (Kd @ji8 (Kd @jcV (Kd @jmN (@jdW)))))))))))):=Kd @jdU (Kd @jdV (Kd @jcl (Kd @joT (Kd @jcU (Kd @joU (Kd @jbx (Kd @jby (Kd @ji8 (Kd @jcV (Kd @jmN (@jdW)))))))))))
theorem hhWb:type_of% (Kd @jdX (Kd @jcm (Kd @joV (Kd @jcW (Kd @joW (Kd @jbz (Kd @jbA (Kd @ji9 (Kd @jcX (Kd @jdY (Kd @jbX (@jqM)))))))))))):=Kd @jdX (Kd @jcm (Kd @joV (Kd @jcW (Kd @joW (Kd @jbz (Kd @jbA (Kd @ji9 (Kd @jcX (Kd @jdY (Kd @jbX (@jqM)))))))))))
theorem hhWc:type_of% (Kd @jqN (Kd @jmT (Kd @jmU (Kd @jqO (Kd @jqP (Kd @jmV (Kd @jmW (Kd @jsA (Kd @jmX (Kd @jmY (Kd @jqQ (@jqR)))))))))))):=Kd @jqN (Kd @jmT (Kd @jmU (Kd @jqO (Kd @jqP (Kd @jmV (Kd @jmW (Kd @jsA (Kd @jmX (Kd @jmY (Kd @jqQ (@jqR)))))))))))
theorem hhWd:type_of% (Kd @jqS (Kd @jqT (Kd @jqU (Kd @jqV (Kd @jqW (Kd @jqX (Kd @jqY (Kd @jo2 (Kd @jo3 (Kd @jmZ (Kd @jm0 (@jm1)))))))))))):=Kd @jqS (Kd @jqT (Kd @jqU (Kd @jqV (Kd @jqW (Kd @jqX (Kd @jqY (Kd @jo2 (Kd @jo3 (Kd @jmZ (Kd @jm0 (@jm1)))))))))))
end Go.Ab
