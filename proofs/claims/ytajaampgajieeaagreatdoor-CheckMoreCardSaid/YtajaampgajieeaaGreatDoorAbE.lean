/- Proved here: more rules for stepping. Conditions: those of each theorem; no statement of the seat is proved in this text. -/
import Derived.Test.YtajaampgajieeaaGreatDoorAbD
import Derived.IntWalk
set_option linter.unusedSimpArgs false
namespace Go.Ab
inductive Kt where
 | code (c:Code)
 | blk (id:Nat)
section
variable (E:Env)(fn:FuncId)(rnd:Option Nat)(n:Nat)
def Kt.post (Q:Post):List Kt→Post
 | []=>Q
 | .code b::r=>⟨fun T D σ=>wpC E fn rnd n b T D σ (Kt.post Q r),(Kt.post Q r).exit,(Kt.post Q r).ret⟩
 | .blk id::r=>⟨(Kt.post Q r).norm,fun i T D σ=>if i=id then (Kt.post Q r).norm T D σ else (Kt.post Q r).exit i T D σ,(Kt.post Q r).ret⟩
def G (Q:Post)(ks:List Kt)(c:Code)(T:Tm)(D:List DE)(σ:S):Prop:=wpC E fn rnd n c T D σ (Kt.post E fn rnd n Q ks)
def GL (Q:Post)(ks:List Kt)(m:Bool)(ops:Array Oper)(l:List Oper)(T:Tm)(D:List DE)(σ:S):Prop :=
 wpL E m n ops l T σ fun T σ=>(Kt.post E fn rnd n Q ks).norm T D σ
def GS (Q:Post)(ks:List Kt)(m:Bool)(ops:Array Oper)(l:List Oper)(T:Tm)(D:List DE)(d:Nat)(o:Option (V × S)):Prop :=
 V1 o fun p=>GL E fn rnd n Q ks m ops l (upd T d p.1) D p.2
def GN (Q:Post)(ks:List Kt)(m:Bool)(ops:Array Oper)(l:List Oper)(T:Tm)(D:List DE)(o:Option (V × S)):Prop :=
 V1 o fun p=>GL E fn rnd n Q ks m ops l T D p.2
def GB (Q:Post)(ks:List Kt)(a b:Code)(T:Tm)(D:List DE)(σ:S)(t:Nat)(v:V):Prop :=
 Br v (G E fn rnd n Q ks a (upd T t (.bool true)) D σ) (G E fn rnd n Q ks b (upd T t (.bool false)) D σ)
def GG (Q:Post)(ks:List Kt)(m:Bool)(ops:Array Oper)(l:List Oper)(T:Tm)(D:List DE)(σ:S)(d:Nat)(op:Op)(b:Bool)(g:Nat)(v:V):Prop :=
 Br3 v
  (match b with
   | true=>GS E fn rnd n Q ks m ops l (upd T g (.bool true)) D d (opT E m (upd T g (.bool true)) σ op)
   | false=>GL E fn rnd n Q ks m ops l (upd (upd T g (.bool true)) d (.tup [])) D σ)
  (match b with
   | true=>GL E fn rnd n Q ks m ops l (upd (upd T g (.bool false)) d (.tup [])) D σ
   | false=>GS E fn rnd n Q ks m ops l (upd T g (.bool false)) D d (opT E m (upd T g (.bool false)) σ op))
  (GL E fn rnd n Q ks m ops l (upd T d (.tup [])) D σ)
end
section
variable {E:Env}{fn:FuncId}{rnd:Option Nat}{n:Nat}{Q:Post}{ks:List Kt}{m:Bool}{ops:Array Oper}{l:List Oper}{T:Tm}{D:List DE}{σ:S}
theorem jaj {c:Code}(h:G E fn rnd n Q [] c T D σ):wpC E fn rnd n c T D σ Q:=h
theorem Za (a b:Code):G E fn rnd n Q ks (.seq a b) T D σ=G E fn rnd n Q (.code b::ks) a T D σ:=rfl
theorem Zb (id:Nat)(c:Code):G E fn rnd n Q ks (.block id c) T D σ=G E fn rnd n Q (.blk id::ks) c T D σ:=rfl
theorem Zc (c:Code):G E fn rnd n Q (.code c::ks) .skip T D σ=G E fn rnd n Q ks c T D σ:=rfl
theorem Zd (id:Nat):G E fn rnd n Q (.blk id::ks) .skip T D σ=G E fn rnd n Q ks .skip T D σ:=rfl
theorem Ze:G E fn rnd n Q [] .skip T D σ=Q.norm T D σ:=rfl
theorem Zf (c:Code)(i:Nat):G E fn rnd n Q (.code c::ks) (.exit i) T D σ=G E fn rnd n Q ks (.exit i) T D σ:=rfl
theorem Zg (id i:Nat):G E fn rnd n Q (.blk id::ks) (.exit i) T D σ=if i=id then G E fn rnd n Q ks .skip T D σ else G E fn rnd n Q ks (.exit i) T D σ:=rfl
theorem Zh (i:Nat):G E fn rnd n Q [] (.exit i) T D σ=Q.exit i T D σ:=rfl
theorem Zi (c:Code):G E fn rnd n Q (.code c::ks) .ret T D σ=G E fn rnd n Q ks .ret T D σ:=rfl
theorem Zj (id:Nat):G E fn rnd n Q (.blk id::ks) .ret T D σ=G E fn rnd n Q ks .ret T D σ:=rfl
theorem Zk:G E fn rnd n Q [] .ret T D σ=Q.ret T D σ:=rfl
theorem Zl (t:Nat)(a b:Code):G E fn rnd n Q ks (.cond (.tmp t) a b) T D σ=(t<n∧GB E fn rnd n Q ks a b T D σ t (T t)):=rfl
theorem Zm (v:Bool)(a b:Code):G E fn rnd n Q ks (.cond (.const (.bool v)) a b) T D σ=if v then G E fn rnd n Q ks a T D σ else G E fn rnd n Q ks b T D σ:=by
 show V1 (some (V.bool v)) _=_
 rw [Yy]
 cases v
 ·exact jjS _ _
 ·exact jlY _ _
theorem Zn (c:Code):G E fn rnd n Q ks (.loop c) T D σ=jia E fn rnd n c T D σ (Kt.post E fn rnd n Q ks):=rfl
theorem Qd (c:Code):G E fn rnd n Q ks (.scope c) T D σ=G E fn rnd n Q ks c T D σ:=rfl
theorem Qe (l:Nat):G E fn rnd n Q ks (.label l) T D σ=G E fn rnd n Q ks .skip T D σ:=rfl
theorem Zo (id:Nat)(l:List Oper):G E fn rnd n Q ks (.region id l.toArray false) T D σ=GL E fn rnd n Q ks (E.mutb fn id) l.toArray l T D σ:=rfl
theorem Zp (id:Nat)(l:List Oper)(hs:E.stab fn id=false):G E fn rnd n Q ks (.region id l.toArray true) T D σ=(jgd E l.toArray=true∧GL E fn rnd n Q ks (E.mutb fn id) l.toArray l T D σ):=by
 unfold G wpC
 simp only [hs]
 rfl
def GK (E:Env)(fn:FuncId)(rnd:Option Nat)(n:Nat)(Q:Post)(ks:List Kt)(m:Bool)(K:S→Prop)(l:List Oper)(T:Tm)(D:List DE)(σ:S):Prop :=
 wpS E m n K l T σ fun T σ=>(Kt.post E fn rnd n Q ks).norm T D σ
def GKS (E:Env)(fn:FuncId)(rnd:Option Nat)(n:Nat)(Q:Post)(ks:List Kt)(m:Bool)(K:S→Prop)(l:List Oper)(T:Tm)(D:List DE)(d:Option Nat)(op:Op)(o:Option (V × S)):Prop :=
 V1 o fun p=>(scOp E op=true→K p.2)∧(jaJ op=true→∀ σ',K σ'→ja8 E (jaM E T) σ' op=some p.1) ∧
  (match d with
   | none=>GK E fn rnd n Q ks m K l T D p.2
   | some d=>d<n∧GK E fn rnd n Q ks m K l (upd T d p.1) D p.2)
theorem jcS {id:Nat}{l:List Oper}(hs:E.stab fn id=true)(K:S→Prop)(hK:K σ)(hp:jcg E l.toArray (jai [] l)=true)(h:GK E fn rnd n Q ks (E.mutb fn id) K l T D σ) :
  G E fn rnd n Q ks (.region id l.toArray true) T D σ:=by
 unfold G wpC
 simp only [hs]
 exact jnC E fn rnd n K hK hp h
theorem Y7 (K:S→Prop):GK E fn rnd n Q ks m K [] T D σ=G E fn rnd n Q ks .skip T D σ:=rfl
theorem Y8 (K:S→Prop)(d:Option Nat)(op:Op)(t:TypeId)(p:String)(a:Array Edge):GK E fn rnd n Q ks m K (⟨d,op,t,p,a,none⟩::l) T D σ=GKS E fn rnd n Q ks m K l T D d op (opT E m T σ op):=rfl
theorem Y9 (K:S→Prop)(d:Nat)(op:Op)(v:V)(σ':S):GKS E fn rnd n Q ks m K l T D (some d) op (some (v,σ'))=((scOp E op=true→K σ')∧(jaJ op=true→∀ s,K s→ja8 E (jaM E T) s op=some v)∧d<n∧GK E fn rnd n Q ks m K l (upd T d v) D σ'):=by
 simp only [GKS,Yy]
theorem Qa (K:S→Prop)(op:Op)(v:V)(σ':S):GKS E fn rnd n Q ks m K l T D none op (some (v,σ'))=((scOp E op=true→K σ')∧(jaJ op=true→∀ s,K s→ja8 E (jaM E T) s op=some v)∧GK E fn rnd n Q ks m K l T D σ'):=by
 simp only [GKS,Yy]
theorem Qb (K:S→Prop)(d:Option Nat)(op:Op)(c:Prop)[Decidable c](o:Option (V × S)):GKS E fn rnd n Q ks m K l T D d op (if c then o else none)=(c∧GKS E fn rnd n Q ks m K l T D d op o):=by simp only [GKS,jkJ]
theorem Qc (K:S→Prop)(d:Option Nat)(op:Op)(c:Prop)[Decidable c](o:Option (V × S)):GKS E fn rnd n Q ks m K l T D d op (if c then none else o)=(¬ c∧GKS E fn rnd n Q ks m K l T D d op o):=by simp only [GKS,jh7]
theorem Zq:GL E fn rnd n Q ks m ops [] T D σ=G E fn rnd n Q ks .skip T D σ:=rfl
theorem Zr (d:Nat)(op:Op)(t:TypeId)(p:String)(a:Array Edge):GL E fn rnd n Q ks m ops (⟨some d,op,t,p,a,none⟩::l) T D σ=(d<n∧GS E fn rnd n Q ks m ops l T D d (opT E m T σ op)):=rfl
theorem Zs (op:Op)(t:TypeId)(p:String)(a:Array Edge):GL E fn rnd n Q ks m ops (⟨none,op,t,p,a,none⟩::l) T D σ=GN E fn rnd n Q ks m ops l T D (opT E m T σ op):=rfl
theorem Zt (d:Nat)(op:Op)(t:TypeId)(p:String)(a:Array Edge)(j:Nat)(b:Bool):GL E fn rnd n Q ks m ops (⟨some d,op,t,p,a,some (j,b)⟩::l) T D σ =
  V1 ((ops[j]?).bind (·.dst)) fun g=>g<n∧d<n∧GG E fn rnd n Q ks m ops l T D σ d op b g (T g):=by
 unfold GL GG GS
 refine congrArg (V1 _) (funext fun g => ?_)
 by_cases hd:d<n
 ·cases b <;> simp only [hd,true_and] <;> rfl
 ·cases b <;> simp only [hd,false_and,and_false,jp6]
theorem Y1:(Kt.post E fn rnd n Q ks).norm T D σ=G E fn rnd n Q ks .skip T D σ:=rfl
theorem Y2 (i:Nat):(Kt.post E fn rnd n Q ks).exit i T D σ=G E fn rnd n Q ks (.exit i) T D σ:=rfl
theorem Y3:(Kt.post E fn rnd n Q ks).ret T D σ=G E fn rnd n Q ks .ret T D σ:=rfl
theorem Zu (d:Nat)(v:V)(σ':S):GS E fn rnd n Q ks m ops l T D d (some (v,σ'))=GL E fn rnd n Q ks m ops l (upd T d v) D σ':=by simp only [GS,Yy]
theorem Zv (d:Nat)(c:Prop)[Decidable c](o:Option (V × S)):GS E fn rnd n Q ks m ops l T D d (if c then o else none)=(c∧GS E fn rnd n Q ks m ops l T D d o):=by simp only [GS,jkJ]
theorem Zw (d:Nat)(c:Prop)[Decidable c](o:Option (V × S)):GS E fn rnd n Q ks m ops l T D d (if c then none else o)=(¬ c∧GS E fn rnd n Q ks m ops l T D d o):=by simp only [GS,jh7]
theorem Zx (v:V)(σ':S):GN E fn rnd n Q ks m ops l T D (some (v,σ'))=GL E fn rnd n Q ks m ops l T D σ':=by simp only [GN,Yy]
theorem Zy (c:Prop)[Decidable c](o:Option (V × S)):GN E fn rnd n Q ks m ops l T D (if c then o else none)=(c∧GN E fn rnd n Q ks m ops l T D o):=by simp only [GN,jkJ]
theorem Zz (c:Prop)[Decidable c](o:Option (V × S)):GN E fn rnd n Q ks m ops l T D (if c then none else o)=(¬ c∧GN E fn rnd n Q ks m ops l T D o):=by simp only [GN,jh7]
theorem ZA (a b:Code)(t:Nat):GB E fn rnd n Q ks a b T D σ t (.bool true)=G E fn rnd n Q ks a (upd T t (.bool true)) D σ:=jlY _ _
theorem ZB (a b:Code)(t:Nat):GB E fn rnd n Q ks a b T D σ t (.bool false)=G E fn rnd n Q ks b (upd T t (.bool false)) D σ:=jjS _ _
theorem ZC (a b:Code)(t:Nat)(p:Prop)[Decidable p]:GB E fn rnd n Q ks a b T D σ t (.bool (decide p))=((p→G E fn rnd n Q ks a (upd T t (.bool true)) D σ)∧(¬ p→G E fn rnd n Q ks b (upd T t (.bool false)) D σ)):=by
 simp only [GB,joG,Qm,decide_eq_false_iff_not]
theorem ZD (d:Nat)(op:Op)(b:Bool)(g:Nat):GG E fn rnd n Q ks m ops l T D σ d op b g (.tup [])=GL E fn rnd n Q ks m ops l (upd T d (.tup [])) D σ:=jrr _ _ _
theorem ZE (d:Nat)(op:Op)(g:Nat):GG E fn rnd n Q ks m ops l T D σ d op true g (.bool true)=GS E fn rnd n Q ks m ops l (upd T g (.bool true)) D d (opT E m (upd T g (.bool true)) σ op):=jmJ _ _ _
theorem ZF (d:Nat)(op:Op)(g:Nat):GG E fn rnd n Q ks m ops l T D σ d op true g (.bool false)=GL E fn rnd n Q ks m ops l (upd (upd T g (.bool false)) d (.tup [])) D σ:=jkK _ _ _
theorem ZG (d:Nat)(op:Op)(g:Nat):GG E fn rnd n Q ks m ops l T D σ d op false g (.bool true)=GL E fn rnd n Q ks m ops l (upd (upd T g (.bool true)) d (.tup [])) D σ:=jmJ _ _ _
theorem ZH (d:Nat)(op:Op)(g:Nat):GG E fn rnd n Q ks m ops l T D σ d op false g (.bool false)=GS E fn rnd n Q ks m ops l (upd T g (.bool false)) D d (opT E m (upd T g (.bool false)) σ op):=jkK _ _ _
theorem ZI (d:Nat)(op:Op)(g:Nat)(p:Prop)[Decidable p]:GG E fn rnd n Q ks m ops l T D σ d op true g (.bool (decide p))=((p→GS E fn rnd n Q ks m ops l (upd T g (.bool true)) D d (opT E m (upd T g (.bool true)) σ op))∧(¬ p→GL E fn rnd n Q ks m ops l (upd (upd T g (.bool false)) d (.tup [])) D σ)):=by
 simp only [GG,jmK,Qm,decide_eq_false_iff_not]
theorem ZJ (d:Nat)(op:Op)(g:Nat)(p:Prop)[Decidable p]:GG E fn rnd n Q ks m ops l T D σ d op false g (.bool (decide p))=((p→GL E fn rnd n Q ks m ops l (upd (upd T g (.bool true)) d (.tup [])) D σ)∧(¬ p→GS E fn rnd n Q ks m ops l (upd T g (.bool false)) D d (opT E m (upd T g (.bool false)) σ op))):=by
 simp only [GG,jmK,Qm,decide_eq_false_iff_not]
end
section
variable {E:Env}{m:Bool}{T:Tm}{σ:S}
theorem jbq {op:Op}(h:ja8 E (jaM E T) σ op=none)(h2:jbo E m (jaM E T) σ op=none)(h3:∀ c,op ≠ .call c):opT E m T σ op=(ja3 E (jaM E T) op).map fun v=>(v,σ):=by
 unfold opT
 cases hp:ja3 E (jaM E T) op with
 | some v=>rfl
 | none =>
  simp only [h,Option.map_none]
  split
  ·exact absurd rfl (h3 _)
  ·exact absurd rfl (h3 _)
  ·exact h2
theorem ZK (x:Operand):opT E m T σ (.move x)=(jaM E T x).map fun v=>(v,σ):=jbq rfl rfl (fun _ h=>by cases h)
theorem ZL (x:Operand):opT E m T σ (.assign x)=(jaM E T x).map fun v=>(v,σ):=jbq rfl rfl (fun _ h=>by cases h)
def jp7 (c a b:Option V):Option V:=match c with | some (.bool t)=>a.bind fun x=>b.bind fun y=>some (if t then x else y) | _=>none
theorem ZN (a b:V):jp7 (some (.bool true)) (some a) (some b)=some a:=rfl
theorem ZO (a b:V):jp7 (some (.bool false)) (some a) (some b)=some b:=rfl
theorem ZM (c a b:Operand):opT E m T σ (.pick c a b)=(jp7 (jaM E T c) (jaM E T a) (jaM E T b)).map fun v=>(v,σ):=by
 rw [jbq rfl rfl (fun _ h=>by cases h)]
 simp only [ja3,jp7]
 cases jaM E T c with
 | none=>rfl
 | some u=>cases u <;> rfl
def binO (E:Env)(t:TypeId)(c:Bool)(op:BinOp)(x y:Option V):Option V:=x.bind fun a=>y.bind fun b=>jhE E t c op a b
theorem jjT {E:Env}{t:TypeId}{c:Bool}{op:BinOp}{a b:V}(h:jod E t op a b=none):jhE E t c op a b=jbR (E.P.underlying t) c op a b:=by
 unfold jhE
 rw [h]
 cases jbR (E.P.underlying t) c op a b <;> rfl
theorem ZQ (E:Env)(t:TypeId)(c:Bool)(op:BinOp)(k k':IntKind)(a b:Int):binO E t c op (some (.int k a)) (some (.int k' b))=jbR (E.P.underlying t) c op (.int k a) (.int k' b):=jjT (by cases op <;> rfl)
theorem ZR (E:Env)(t:TypeId)(c:Bool)(op:BinOp)(a b:List UInt8):binO E t c op (some (.str a)) (some (.str b))=jbR (E.P.underlying t) c op (.str a) (.str b):=jjT (by cases op <;> rfl)
theorem ZS (E:Env)(t:TypeId)(c:Bool)(op:BinOp)(a b:Bool):binO E t c op (some (.bool a)) (some (.bool b))=jbR (E.P.underlying t) c op (.bool a) (.bool b):=jjT (by cases op <;> rfl)
theorem ZP (op:BinOp)(t u:TypeId)(x y:Operand):opT E m T σ (.binOp op t x y u)=(binO E t (jcf x || jcf y) op (jaM E T x) (jaM E T y)).map fun v=>(v,σ) :=
 jbq rfl rfl (fun _ h=>by cases h)
theorem ZT (op:UnOp)(t:TypeId)(x:Operand):opT E m T σ (.unOp op t x)=((jaM E T x).bind (vUn op)).map fun v=>(v,σ) :=
 jbq rfl rfl (fun _ h=>by cases h)
def jsr (i:Nat):V→Option V
 | .tup vs=>vs[i]?
 | _=>none
theorem ZV (i:Nat)(vs:List V):jsr i (.tup vs)=vs[i]? := rfl
theorem ZU (x:Operand)(i:Nat):opT E m T σ (.extract x i)=((jaM E T x).bind (jsr i)).map fun v=>(v,σ) :=
 jbq rfl rfl (fun _ h=>by cases h)
def idxO (d:Option TypeDesc)(s:TypeId→Option Nat)(v i:Option V):Option V:=v.bind fun v=>i.bind fun i=>match d with
  | some (.slice e)=>(s e).bind fun s=>jaC s v i
  | some (.array n e)=>(s e).bind fun s=>jen n s v i
  | _=>none
theorem ZX (e:TypeId)(s:TypeId→Option Nat)(v i:V):idxO (some (.slice e)) s (some v) (some i)=(s e).bind fun s=>jaC s v i:=rfl
theorem ZW (t:TypeId)(x ix:Operand):opT E m T σ (.indexAddr t x ix)=(idxO (E.P.underlying t) (sz E) (jaM E T x) (jaM E T ix)).map fun v=>(v,σ) :=
 jbq rfl rfl (fun _ h=>by cases h)
theorem ZY (t:TypeId)(x:Operand):opT E m T σ (.load t x)=((jaM E T x).bind (jaS E σ.heap t)).map fun v=>(v,σ):=by
 unfold opT
 simp only [ja3,ja8,jbo]
 cases jaM E T x with
 | none=>rfl
 | some p=>cases h:jaS E σ.heap t p <;> simp only [Ko,Qh,Option.map_none,h]
theorem YZ (t:TypeId):opT E m T σ (.alloc t)=(jbr E t).map fun z=>(.ptr σ.heap.length 0,σ.push (.cells z.cells t)):=rfl
theorem YY (t:TypeId)(x:Operand):opT E m T σ (.box t x)=(jaM E T x).map fun v=>(.ptr σ.heap.length 0,σ.push (.cells v.cells t)):=rfl
theorem YC (t:TypeId)(a x:Operand):opT E m T σ (.store t a x)=(jaM E T a).bind fun p=>(jaM E T x).bind fun v=>(sz E t).bind fun s =>
      if v.cells.length=s then (jbd σ v.cells p).map fun σ'=>(.tup [],σ') else none:=rfl
theorem YP (f:FuncId)(a c:Array Operand):opT E m T σ (.makeFunc (.func f) a c)=((jbn (jaM E T) a.toList).bind fun a=>(jbn (jaM E T) c.toList).map fun c=>.func f a c).map fun v=>(v,σ) :=
 jbq rfl rfl (fun _ h=>by cases h)
theorem ZZ (g:Operand)(as:Array Operand)(ts:Array TypeId):opT E m T σ (.call ⟨.value g,as,ts⟩)=(jaM E T g).bind fun gv=>(jbn (jaM E T) as.toList).bind fun vs=>jgx E (ev E) gv vs σ:=rfl
def lenM (σ:S)(d:Option TypeDesc)(v:V):Option (V × S) :=
 match d,v with
 | some (.map _ _),.nilmap=>some (.int .i64 0,σ)
 | some (.map _ _),.map b =>
  match σ.heap[b]? with
  | some (.map es _)=>some (.int .i64 es.length,σ)
  | _=>none
 | _,_=>none
def lenO (σ:S)(d:Option TypeDesc)(v:V):Option (V × S) :=
 match jbE d v with
 | some r=>some (r,σ)
 | none=>lenM σ d v
theorem Z1 (σ:S)(e:TypeId)(v:V):lenO σ (some (.slice e)) v=(jbE (some (.slice e)) v).map fun r=>(r,σ):=by
 unfold lenO
 cases jbE (some (.slice e)) v <;> rfl
theorem Z2 (σ:S)(v:V):lenO σ (some .string) v=(jbE (some .string) v).map fun r=>(r,σ):=by
 unfold lenO
 cases jbE (some .string) v <;> rfl
theorem jp8 (σ:S)(k e:TypeId)(b:Nat){es:List (V × V × Nat)}{c:Nat}(h:σ.heap[b]? = some (.map es c)):lenO σ (some (.map k e)) (.map b)=some (.int .i64 es.length,σ):=by
 simp only [lenO,jbE,lenM,h]
theorem Z0 (x:Operand)(t:TypeId):opT E m T σ (.call ⟨.builtin .len,#[x],#[t]⟩)=(jaM E T x).bind (lenO σ (E.P.underlying t)):=by
 unfold opT
 simp only [ja3,ja8,jbo,jbn,Qh]
 cases jaM E T x with
 | none=>rfl
 | some v =>
  simp only [Ko,J1,Qw]
  unfold lenO lenM
  cases h:jbE (E.P.underlying t) v <;> rfl
theorem YL (as:Array Operand)(ts:Array TypeId):opT E m T σ (.call ⟨.builtin .max,as,ts⟩)=((jbn (jaM E T) as.toList).bind (jdx true)).map fun v=>(v,σ):=by
 unfold opT
 simp only [ja3,ja8,jbo]
 cases (jbn (jaM E T) as.toList).bind (jdx true) <;> rfl
theorem YM (as:Array Operand)(ts:Array TypeId):opT E m T σ (.call ⟨.builtin .min,as,ts⟩)=((jbn (jaM E T) as.toList).bind (jdx false)).map fun v=>(v,σ):=by
 unfold opT
 simp only [ja3,ja8,jbo]
 cases (jbn (jaM E T) as.toList).bind (jdx false) <;> rfl
theorem YN (k:IntKind)(a b:Int):jdx true [.int k a,.int k b]=some (.int k (if b > a then b else a)):=rfl
theorem YO (k:IntKind)(a b:Int):jdx false [.int k a,.int k b]=some (.int k (if b<a then b else a)):=rfl
def jav (E:Env)(t:TypeId)(f:Nat):Option Nat :=
 match E.P.underlying t with
 | some (.struct fields)=>(fields[f]?).bind fun fd=>(sz E fd.type).bind fun s=>if s=0 then none else some fd.offset
 | _=>none
theorem YQ (t:TypeId)(x:Operand)(f:Nat):opT E m T σ (.fieldAddr t x f)=(jaM E T x).bind fun v=>(jav E t f).bind fun off=>(jcH off v).map fun v=>(v,σ):=by
 rw [jbq rfl rfl (fun _ h=>by cases h)]
 simp only [ja3,jav]
 cases jaM E T x with
 | none=>rfl
 | some v =>
  simp only [Ko]
  cases E.P.underlying t with
  | none=>rfl
  | some d =>
   cases d <;> try rfl
   rename_i fields
   simp only
   cases fields[f]? with
   | none=>rfl
   | some fd =>
    simp only [Ko]
    cases sz E fd.type with
    | none=>rfl
    | some s =>
     simp only [Ko]
     by_cases hs:s=0 <;> simp [hs]
def jcd (E:Env)(t:TypeId)(ps:List (Nat × V)):Option V:=(jbr E t).bind fun z=>(jf1 E t).bind fun pl=>(jfE pl z.cells ps).map .agg
theorem YR (t:TypeId)(parts:Array (Nat × Operand)):opT E m T σ (.build t parts)=(jcI (jaM E T) parts.toList).bind fun ps=>(jcd E t ps).map fun v=>(v,σ):=by
 rw [jbq rfl rfl (fun _ h=>by cases h)]
 simp only [ja3,jcd]
 cases jcI (jaM E T) parts.toList <;> rfl
theorem YS (ρ:Operand→Option V):jcI ρ []=some []:=rfl
theorem YT (ρ:Operand→Option V)(i:Nat)(x:Operand)(r:List (Nat × Operand)):jcI ρ ((i,x)::r)=(ρ x).bind fun v=>(jcI ρ r).map fun l=>(i,v)::l:=rfl
theorem YU (off b o:Nat):jcH off (.ptr b o)=some (.ptr b (o+off)):=rfl
theorem YV (off:Nat)(cs:List V):jcH off (.rptr cs)=some (.rptr (cs.drop off)):=rfl
theorem YW (cs:List V):(V.agg cs).cells=cs:=rfl
theorem YX (σ:S)(o:AObj):(σ.push o).heap[σ.heap.length]? = some o:=by simp [S.push]
def jss (us ud:Option TypeDesc)(v:V):Option V :=
 match us,ud,v with
 | some _,some (.int k),.int _ n=>some (.int k (k.wrap n))
 | some _,some .string,.str s=>some (.str s)
 | some _,some .string,.int _ n=>if 0≤n∧n<128 then some (.str [UInt8.ofNat n.toNat]) else none
 | _,_,_=>none
def jst (E:Env)(h:List AObj)(us ud:Option TypeDesc)(v:V):Option V :=
 match us,ud with
 | some (.slice e),some .string =>
  match E.P.underlying e,v with
  | some (.int .u8),.row cells len cap=>(ja5 h 1 len (.row cells len cap)).bind fun cs=>(jc4 cs).map .str
  | some (.int .u8),.hsl b off len cap ex=>(ja5 h 1 len (.hsl b off len cap ex)).bind fun cs=>(jc4 cs).map .str
  | some (.int .u8),.nilsl=>some (.str [])
  | _,_=>none
 | some us,some ud=>jhG E h us ud v
 | _,_=>none
def jsu (E:Env)(σ:S)(src dst:TypeId)(us ud:Option TypeDesc)(v:V):Option (V × S) :=
 match us,ud,v with
 | some _,some (.slice e),.str s =>
  match E.P.underlying e with
  | some (.int .u8)=>some (.row (jdg s) s.length .unk,σ)
  | _=>none
 | some (.slice _),some (.slice e),.hsl b off len cap _ =>
  if src=dst then
   match E.P.underlying e,σ.heap[b]? with
   | some (.int .u8),some (.cells cs t)=>if len≤cap∧off+len≤cs.length then some (.row ((cs.drop off).take len) len .unk,σ.set b (.ro cs t)) else none
   | _,_=>none
  else none
 | _,_,_=>none
def jrv (E:Env)(σ:S)(src dst:TypeId)(us ud:Option TypeDesc)(v:V):Option (V × S) :=
 match jss us ud v with
 | some u=>some (u,σ)
 | none =>
  match jst E σ.heap us ud v with
  | some u=>some (u,σ)
  | none=>jsu E σ src dst us ud v
theorem Z5 (E:Env)(σ:S)(src dst:TypeId)(d:TypeDesc)(k k':IntKind)(n:Int):jrv E σ src dst (some d) (some (.int k)) (.int k' n)=some (.int k (k.wrap n),σ):=rfl
theorem Z4 (s d:TypeId)(x:Operand):opT E m T σ (.convert s d x)=(jaM E T x).bind fun v=>jrv E σ s d (E.P.underlying s) (E.P.underlying d) v:=by
 unfold opT
 simp only [ja3,ja8,jbo]
 cases jaM E T x with
 | none=>rfl
 | some v =>
  simp only [Ko]
  show (match jss (E.P.underlying s) (E.P.underlying d) v with
   | some v=>some (v,σ)
   | none=>match jst E σ.heap (E.P.underlying s) (E.P.underlying d) v with
    | some v=>some (v,σ)
    | none=>jsu E σ s d (E.P.underlying s) (E.P.underlying d) v)=_
  unfold jrv
  rfl
def appO (E:Env)(m:Bool)(σ:S)(t t2:TypeId)(a b:V):Option (V × S) :=
 (jf0 E t).bind fun e=>(sz E e).bind fun s=>(bys E e).bind fun by' =>
  match E.P.underlying t2 with
  | some (.int _)=>jpQ E m s by' e a b σ
  | some _=>(vLen b).bind fun mm=>(ja5 σ.heap s mm b).bind fun new=>if jjx E e=some s then jbJ m s by' mm e new a σ else none
  | none=>none
theorem Z3 (x y:Operand)(t t2:TypeId):opT E m T σ (.call ⟨.builtin .append,#[x,y],#[t,t2]⟩)=(jaM E T x).bind fun a=>(jaM E T y).bind fun b=>appO E m σ t t2 a b:=by
 unfold opT appO
 simp only [ja3,ja8,jbo,jbn,Qh]
 cases jaM E T x with
 | none=>rfl
 | some a =>
  cases jaM E T y with
  | none=>rfl
  | some b=>rfl
end
theorem jmL {α β:Type}(f:α→β)(c:Prop)[Decidable c](o:Option α):(if c then o else none).map f=if c then o.map f else none:=by by_cases h:c <;> simp [h]
theorem Ya {α β:Type}(f:α→β)(c:Prop)[Decidable c](o:Option α):(if c then none else o).map f=if c then none else o.map f:=by by_cases h:c <;> simp [h]
theorem jkP {α β:Type}(f:α→Option β)(c:Prop)[Decidable c](o:Option α):(if c then o else none).bind f=if c then o.bind f else none:=by by_cases h:c <;> simp [h]
theorem Yb {α β:Type}(f:α→Option β)(c:Prop)[Decidable c](o:Option α):(if c then none else o).bind f=if c then none else o.bind f:=by by_cases h:c <;> simp [h]
theorem Z8 {α β:Type}(f:α→β)(v:α):(some v).map f=some (f v):=rfl
theorem Y4 {α β:Type}(f:α→β):(none:Option α).map f=none:=rfl
theorem Y5 {α β:Type}(f:α→Option β):(none:Option α).bind f=none:=rfl
theorem Z9 {α β:Type}(f:α→Option β)(v:α):(some v).bind f=f v:=rfl
theorem joH (k:IntKind)(a b:Int):vBin .add (.int k a) (.int k b)=some (.int k (k.wrap (a+b))):=by simp [vBin,jb2]
theorem Yc (us:Option TypeDesc)(cc:Bool)(k:IntKind)(a b:Int):jbR us cc .add (.int k a) (.int k b)=some (.int k (k.wrap (a+b))):=by
 unfold jbR
 rw [joH]
theorem joI (k:IntKind)(a b:Int):vBin .sub (.int k a) (.int k b)=some (.int k (k.wrap (a - b))):=by simp [vBin,jb2]
theorem Yd (us:Option TypeDesc)(cc:Bool)(k:IntKind)(a b:Int):jbR us cc .sub (.int k a) (.int k b)=some (.int k (k.wrap (a - b))):=by
 unfold jbR
 rw [joI]
theorem joJ (k:IntKind)(a b:Int):vBin .mul (.int k a) (.int k b)=some (.int k (k.wrap (a * b))):=by simp [vBin,jb2]
theorem Ye (us:Option TypeDesc)(cc:Bool)(k:IntKind)(a b:Int):jbR us cc .mul (.int k a) (.int k b)=some (.int k (k.wrap (a * b))):=by
 unfold jbR
 rw [joJ]
theorem joK (k:IntKind)(a b:Int):vBin .quo (.int k a) (.int k b)=if b=0 then none else some (.int k (k.wrap (a.tdiv b))):=by simp [vBin,jb2]
theorem Ym (us:Option TypeDesc)(cc:Bool)(k:IntKind)(a b:Int):jbR us cc .quo (.int k a) (.int k b)=if b=0 then none else some (.int k (k.wrap (a.tdiv b))):=by
 unfold jbR
 rw [joK]
 split <;> split at * <;> simp_all
theorem joL (k:IntKind)(a b:Int):vBin .rem (.int k a) (.int k b)=if b=0 then none else some (.int k (a.tmod b)):=by simp [vBin,jb2]
theorem Yl (us:Option TypeDesc)(cc:Bool)(k:IntKind)(a b:Int):jbR us cc .rem (.int k a) (.int k b)=if b=0 then none else some (.int k (a.tmod b)):=by
 unfold jbR
 rw [joL]
 split <;> split at * <;> simp_all
theorem joM (k:IntKind)(a b:Int):vBin .eql (.int k a) (.int k b)=some (.bool (decide (a=b))):=by simp [vBin,jb2]; rfl
theorem Yf (us:Option TypeDesc)(cc:Bool)(k:IntKind)(a b:Int):jbR us cc .eql (.int k a) (.int k b)=some (.bool (decide (a=b))):=by
 unfold jbR
 rw [joM]
theorem joN (k:IntKind)(a b:Int):vBin .neq (.int k a) (.int k b)=some (.bool (decide (¬ a=b))):=by simp [vBin,jb2]; rfl
theorem Yg (us:Option TypeDesc)(cc:Bool)(k:IntKind)(a b:Int):jbR us cc .neq (.int k a) (.int k b)=some (.bool (decide (¬ a=b))):=by
 unfold jbR
 rw [joN]
theorem joO (k:IntKind)(a b:Int):vBin .lss (.int k a) (.int k b)=some (.bool (decide (a<b))):=by simp [vBin,jb2]
theorem Yh (us:Option TypeDesc)(cc:Bool)(k:IntKind)(a b:Int):jbR us cc .lss (.int k a) (.int k b)=some (.bool (decide (a<b))):=by
 unfold jbR
 rw [joO]
theorem joP (k:IntKind)(a b:Int):vBin .leq (.int k a) (.int k b)=some (.bool (decide (a≤b))):=by simp [vBin,jb2]
theorem Yi (us:Option TypeDesc)(cc:Bool)(k:IntKind)(a b:Int):jbR us cc .leq (.int k a) (.int k b)=some (.bool (decide (a≤b))):=by
 unfold jbR
 rw [joP]
theorem joQ (k:IntKind)(a b:Int):vBin .gtr (.int k a) (.int k b)=some (.bool (decide (b<a))):=by simp [vBin,jb2]
theorem Yj (us:Option TypeDesc)(cc:Bool)(k:IntKind)(a b:Int):jbR us cc .gtr (.int k a) (.int k b)=some (.bool (decide (b<a))):=by
 unfold jbR
 rw [joQ]
theorem joR (k:IntKind)(a b:Int):vBin .geq (.int k a) (.int k b)=some (.bool (decide (b≤a))):=by simp [vBin,jb2]
theorem Yk (us:Option TypeDesc)(cc:Bool)(k:IntKind)(a b:Int):jbR us cc .geq (.int k a) (.int k b)=some (.bool (decide (b≤a))):=by
 unfold jbR
 rw [joR]
theorem joS (k k':IntKind)(a b:Int):vBin .shr (.int k a) (.int k' b)=if b<0 then none else some (.int k (a.fdiv (2 ^ min b.toNat k.bits))):=by simp [vBin,jkb]
theorem jmM (us:Option TypeDesc)(cc:Bool)(k k':IntKind)(a b:Int):jbR us cc .shr (.int k a) (.int k' b)=if b<0 then none else some (.int k (a.fdiv (2 ^ min b.toNat k.bits))):=by
 unfold jbR
 rw [joS]
 split <;> split at * <;> simp_all
theorem jnE (a b:List UInt8):vBin .eql (.str a) (.str b)=some (.bool (decide (a=b))):=by simp only [vBin,jkc]; rw [show (a == b)=decide (a=b) from Vu.2 (by simp)]
theorem jas (us:Option TypeDesc)(cc:Bool)(a b:List UInt8):jbR us cc .eql (.str a) (.str b)=some (.bool (decide (a=b))):=by
 unfold jbR
 rw [jnE]
theorem jnF (a b:List UInt8):vBin .neq (.str a) (.str b)=some (.bool (decide (¬ a=b))):=by simp only [vBin,jkc]; rw [show (a == b)=decide (a=b) from Vu.2 (by simp)]; simp
theorem jax (us:Option TypeDesc)(cc:Bool)(a b:List UInt8):jbR us cc .neq (.str a) (.str b)=some (.bool (decide (¬ a=b))):=by
 unfold jbR
 rw [jnF]
theorem Yn (cc:Bool)(a b:Bool):jbR (some .bool) cc .eql (.bool a) (.bool b)=some (.bool (decide (a=b))):=by cases a <;> cases b <;> rfl
theorem Yo (cc:Bool)(a b:Bool):jbR (some .bool) cc .neq (.bool a) (.bool b)=some (.bool (decide (¬ a=b))):=by cases a <;> cases b <;> rfl
theorem Yp (p:Prop)[Decidable p]:vUn .not (.bool (decide p))=some (.bool (decide (¬ p))):=by simp [vUn]
theorem YK (k:IntKind)(a:Int):vUn .neg (.int k a)=some (.int k (k.wrap (0 - a))):=rfl
theorem Yq:vUn .not (.bool true)=some (.bool false):=rfl
theorem Yr:vUn .not (.bool false)=some (.bool true):=rfl
theorem Ys (s:Nat)(cells:List V)(len:Nat)(c:RCap)(k:IntKind)(i:Int):jaC s (.row cells len c) (.int k i)=if 0≤i∧i<len then some (.rptr (cells.drop (i.toNat * s))) else none:=rfl
theorem Yt (e:TypeId)(cells:List V)(len:Nat)(c:RCap):jbE (some (.slice e)) (.row cells len c)=some (.int .i64 len):=rfl
theorem Yu (e:TypeId):jbE (some (.slice e)) .nilsl=some (.int .i64 0):=rfl
theorem jaX (b:List UInt8):jbE (some .string) (.str b)=some (.int .i64 b.length):=rfl
theorem Z6 {E:Env}{rec:Task→Option Res}(f:FuncId)(a c:List V)(as:List V)(σ:S):jgx E rec (.func f a c) as σ=jah E rec f (a++as++c) σ:=rfl
theorem Yv (ρ:Operand→Option V):jbn ρ []=some []:=rfl
theorem Yw (ρ:Operand→Option V)(x:Operand)(l:List Operand):jbn ρ (x::l)=(ρ x).bind fun v=>(jbn ρ l).map fun r=>v::r:=rfl
theorem jaG {E:Env}{h:List AObj}{t:TypeId}{p:V}(ha:aggT E t=some false):jaS E h t p=(jag h 1 p).bind (·[0]?):=by
 simp only [jaS,ha]; rfl
theorem Yz (h:List AObj)(cells:List V)(i:Nat):(jag h 1 (.rptr (cells.drop i))).bind (·[0]?)=cells[i]? := by
 simp only [jag,Ja]
 by_cases hi:1≤cells.length - i
 ·simp only [hi,Ke,Ko]
  rw [Q9,Xn]
  simp
 ·simp only [hi,Kc,Option.bind_none]
  rw [K8 (by omega)]
theorem Y0 (k:IntKind)(zs:List Int)(i:Nat):(zs.map (V.int k))[i]? = if i<zs.length then some (V.int k (zs.getD i 0)) else none:=by
 rw [X7]
 by_cases h:i<zs.length
 ·simp [h]
 ·simp [h]
theorem wrap_i64 {x:Int}(h1 : -9223372036854775808≤x)(h2:x≤9223372036854775807):IntKind.i64.wrap x=x:=by
 rw [IntKind.wrap_i64]; omega
def setT (T:Tm):List (Tmp × V)→Tm
 | []=>T
 | (t,v)::r=>setT (upd T t v) r
theorem Rep.sets {n:Nat}:∀ (l:List (Tmp × V)) {T:Tm} {tmps:List V},Rep n T tmps→(∀ p∈l,p.1<n)→Rep n (setT T l) (l.foldl (fun ts (x:Tmp × V)=>ts.set x.1 x.2) tmps)
 | [],T,tmps,h,_=>h
 | (t,v)::r,T,tmps,h,hl=>by
  simp only [Vt,setT]
  exact Rep.sets r (h.upd (hl (t,v) (by simp)) v) fun p hp=>hl p (by simp [hp])
section
variable {E:Env}{fn:FuncId}{rnd:Option Nat}{n:Nat}{Q:Post}{ks:List Kt}{T:Tm}{D:List DE}{σ:S}
end
theorem jaO {E:Env}{f:FuncId}{args:List V}{σ σ':S}{v:V}{F:Go.Func}{body:Code}(hp:E.pure f=false)(hk:E.hook f=none)(hf:E.P.funcs[f]? = some F)(hb:F.body=some body)
  (hn:F.name ≠ "runtime.NumGoroutine") (hl:args.length≤F.ntmps)
  (hw:G E f none F.ntmps ⟨wpR E F.results.toList fun v' σ''=>v'=v∧σ''=σ',fun _ _ _ _=>False,wpR E F.results.toList fun v' σ''=>v'=v∧σ''=σ'⟩ [] body (argT args) [] σ) (hz:E.frz f=false:=by rfl) (hs:E.hookS f=none:=by rfl) :
  jah E (ev E) f args σ=some (v,σ'):=by
 obtain ⟨v',σ'',h1,rfl,rfl⟩:=jaE hp hk hf hb hn hl hw hz hs
 exact h1
def jcT (o:Option AObj)(off:Nat):Option V :=
 match o with
 | some (.cells cs _)=>cs[off]?
 | some (.ro cs _)=>cs[off]?
 | _=>none
theorem YB (cs:List V)(t:TypeId)(off:Nat):jcT (some (.cells cs t)) off=cs[off]? := rfl
theorem YA (h:List AObj)(b off:Nat):(jag h 1 (.ptr b off)).bind (·[0]?)=jcT h[b]? off:=by
 simp only [jag,jcT]
 cases h[b]? with
 | none=>rfl
 | some o =>
  cases o with
  | cells cs t =>
   simp only
   by_cases hi:off+1≤cs.length
   ·simp only [hi,Ke,Ko]
    rw [Q9,Xn]
    simp
   ·simp only [hi,Kc,Option.bind_none]
    rw [K8 (by omega)]
  | ro cs t =>
   simp only
   by_cases hi:off+1≤cs.length
   ·simp only [hi,Ke,Ko]
    rw [Q9,Xn]
    simp
   ·simp only [hi,Kc,Option.bind_none]
    rw [K8 (by omega)]
  | _=>rfl
def storeAt (σ:S)(new:List V)(b off:Nat)(o:Option AObj):Option S :=
 match o with
 | some (.cells cs t)=>if off+new.length≤cs.length∧new.all V.isCell then some (σ.set b (.cells (jaa cs off new) t)) else none
 | _=>none
theorem YE (σ:S)(new:List V)(b off:Nat)(cs:List V)(t:TypeId):storeAt σ new b off (some (.cells cs t))=if off+new.length≤cs.length∧new.all V.isCell then some (σ.set b (.cells (jaa cs off new) t)) else none:=rfl
theorem YD (σ:S)(new:List V)(b off:Nat):jbd σ new (.ptr b off)=storeAt σ new b off σ.heap[b]? := by
 simp only [jbd,storeAt]
 cases σ.heap[b]? with
 | none=>rfl
 | some o=>cases o <;> rfl
theorem YI (h:List AObj)(t:List Nat)(o:AObj):S.push ⟨h,t⟩ o=⟨h++[o],t⟩:=rfl
theorem YJ (h:List AObj)(t:List Nat)(b:Nat)(o:AObj):S.set ⟨h,t⟩ b o=⟨h.set b o,t⟩:=rfl
theorem jay:S.empty=⟨[],[]⟩:=rfl
theorem YF (cs:List V)(n:Nat)(c:RCap):(V.row cs n c).cells=[.row cs n c]:=rfl
theorem YH:V.nilsl.cells=[.nilsl]:=rfl
theorem YG (cs:List V)(n:Nat)(c:RCap):(V.row cs n c).isCell=true:=rfl
theorem Y6 (k:IntKind)(x:Int):(V.int k x).cells=[.int k x]:=rfl
theorem jad (k:IntKind)(x:Int):(V.int k x).isCell=true:=rfl
structure One (E:Env) (t e:TypeId) (by':Nat):Prop where
 elem:jf0 E t=some e
 size:sz E e=some 1
 bytes:bys E e=some by'
 zeros:jjx E e=some 1
 slice:E.P.underlying t=some (.slice e)
 zero:∃ z,jbr E e=some z∧z.cells.length=1
section
variable {E:Env}{t e:TypeId}{by':Nat}{T:Tm}{σ:S}{x:Operand}
theorem jnG (h:One E t e by'):opT E false T σ (.buildSlice t 0 #[])=some (.row [] 0 .full,σ):=by
 unfold opT
 simp [ja3,ja8,jbo,jcI,h.elem,h.size,jfE]
inductive Grow (ts:List Nat):V→List V→Prop where
 | nil:Grow ts .nilsl []
 | full (cs:List V):Grow ts (.row cs cs.length .full) cs
 | tok (cs:List V) (k e:Nat) (h:ts[k]? = some e):Grow ts (.row cs cs.length (.tok k e 1)) cs
theorem Grow.len (h:One E t e by'){ts:List Nat}{v:V}{cs:List V}(g:Grow ts v cs):jbE (E.P.underlying t) v=some (.int .i64 cs.length):=by
 rw [h.slice]
 cases g with
 | nil=>rfl
 | full=>rfl
 | tok=>rfl
theorem Grow.append (h:One E t e by'){hp:List AObj}{ts:List Nat}{v:V}{cs:List V}(g:Grow ts v cs){new:List V}{c:RCap}(hn:new.length ≠ 0)(hc:new.all V.isCell=true)
  (hb:(cs.length+new.length) * by'≤lim) (hb2:cs.length+new.length≤lim) :
  ∃ k e' ts',appO E false ⟨hp,ts⟩ t t v (.row new new.length c)=some (.row (cs++new) (cs++new).length (.tok k e' 1),⟨hp,ts'⟩)∧ts'[k]? = some e':=by
 have hnew:ja5 hp 1 new.length (.row new new.length c)=some new:=by simp [ja5]
 have hn0:new ≠ []:=fun e=>hn (by rw [e]; rfl)
 unfold appO
 simp only [h.elem,h.size,h.bytes,h.slice,h.zeros,vLen,hnew,Ko,Ke]
 cases g with
 | nil =>
  simp only [Qg,Qx] at hb hb2
  refine ⟨ts.length,0,ts++[0],?_,by simp⟩
  simp [jbJ,hn0,hb,hb2]
 | full =>
  refine ⟨ts.length,0,ts++[0],?_,by simp⟩
  simp only [jbJ,hn,Kc,hb,hb2,hc,J3,and_self,Ke,Kj,Kk]
 | tok _ k e' hk =>
  refine ⟨k,e'+1,ts.set k (e'+1),?_,?_⟩
  ·simp only [jbJ,hn,Kc,hb,hb2,hc,J3,and_self,Ke,hk,Kk]
  ·have:k<ts.length:=by
    rcases K1 k ts.length with h1 | h1
    ·exact h1
    ·rw [K8 h1] at hk; simp at hk
   simp [this]
structure GrowN (N:Nat) (ts:List Nat) (v:V) (cs:List V):Prop where
 grow:Grow ts v cs
 low:∀ k,(∃ cs n e s,v=.row cs n (.tok k e s))→N≤k
theorem GrowN.keep {N:Nat}{ts ts':List Nat}{v:V}{cs:List V}(g:GrowN N ts v cs)(h:∀ k e,N≤k→ts[k]? = some e→ts'[k]? = some e):GrowN N ts' v cs:=by
 refine ⟨?_,g.low⟩
 have hl:=g.low
 cases g.grow with
 | nil=>exact .nil
 | full=>exact .full _
 | tok _ k e hk=>exact .tok _ k e (h k e (hl k ⟨_,_,_,_,rfl⟩) hk)
theorem GrowN.append (h:One E t e by'){N:Nat}{hp:List AObj}{ts:List Nat}{v v2:V}{cs cs2:List V}(g:GrowN N ts v cs)(hN:N≤ts.length)(g2:Grow ts v2 cs2)(hc:cs2.all V.isCell=true)
  (hb:(cs.length+cs2.length) * by'≤lim) (hb2:cs.length+cs2.length≤lim) :
  ∃ v' ts',appO E false ⟨hp,ts⟩ t t v v2=some (v',⟨hp,ts'⟩)∧GrowN N ts' v' (cs++cs2)∧ts.length≤ts'.length∧(∀ k,k<N→ts'[k]? = ts[k]?)∧(v'=.nilsl→v=.nilsl∧cs2=[]):=by
 by_cases hn:cs2=[]
 ·subst hn
  refine ⟨v,ts,?_,by rw [Jk]; exact g,Ku _,fun _ _=>rfl,fun h=>⟨h,rfl⟩⟩
  have hlen:vLen v2=some 0:=by cases g2 <;> rfl
  have hcell:ja5 hp 1 0 v2=some []:=by cases g2 <;> simp [ja5]
  unfold appO
  simp only [h.elem,h.size,h.bytes,h.slice,h.zeros,hlen,hcell,Ko,Ke]
  cases g.grow <;> simp [jbJ]
 ·have hn2:cs2.length ≠ 0:=fun e=>hn (Qt e)
  have key:∃ c,v2=.row cs2 cs2.length c:=by cases g2 <;> first | exact absurd rfl hn | exact ⟨_,rfl⟩
  obtain ⟨c,rfl⟩:=key
  have hnew:ja5 hp 1 cs2.length (.row cs2 cs2.length c)=some cs2:=by simp [ja5]
  have hl:=g.low
  unfold appO
  simp only [h.elem,h.size,h.bytes,h.slice,h.zeros,vLen,hnew,Ko,Ke]
  have hge:=g.grow
  generalize hv:v=v0 at hge
  cases hge with
  | nil =>
   simp only [Qg,Qx] at hb hb2
   refine ⟨.row cs2 cs2.length (.tok ts.length 0 1),⟨ts++[0],?_,⟨.tok cs2 ts.length 0 (by simp),?_⟩,by simp,?_,by simp⟩⟩
   ·simp [jbJ,hn,hb,hb2]
   ·rintro k ⟨_,_,_,_,he⟩; cases he; exact hN
   ·intro k hk; exact Kn (by omega)
  | full =>
   refine ⟨.row (cs++cs2) (cs++cs2).length (.tok ts.length 0 1),⟨ts++[0],?_,⟨.tok _ ts.length 0 (by simp),?_⟩,by simp,?_,by simp⟩⟩
   ·simp only [jbJ,hn2,Kc,hb,hb2,hc,J3,and_self,Ke,Kj,Kk]
   ·rintro k ⟨_,_,_,_,he⟩; cases he; exact hN
   ·intro k hk; exact Kn (by omega)
  | tok _ k e' hk =>
   have hkN:N≤k:=hl k ⟨_,_,_,_,hv⟩
   have hkl:k<ts.length:=by
    rcases K1 k ts.length with h1 | h1
    ·exact h1
    ·rw [K8 h1] at hk; simp at hk
   refine ⟨.row (cs++cs2) (cs++cs2).length (.tok k (e'+1) 1),⟨ts.set k (e'+1),?_,⟨.tok _ k (e'+1) (by simp [hkl]),?_⟩,by simp,?_,by simp⟩⟩
   ·simp only [jbJ,hn2,Kc,hb,hb2,hc,J3,and_self,Ke,hk,Kk]
   ·rintro k' ⟨_,_,_,_,he⟩; cases he; exact hkN
   ·intro k' hk'; exact K0 (by omega)
end
section
variable {E:Env}{m:Bool}{T:Tm}{σ:S}
def jct (E:Env)(t:TypeId)(v:V)(l h mx:Option V):Option V :=
  match E.P.underlying t with
  | some .string=>(match v with | .str b=>jde 0 (.str b) l h mx | _=>none)
  | some (.slice e)=>(sz E e).bind fun s =>
   match v with
   | .str _=>none
   | v=>jde s v l h mx
  | some (.array n e)=>(sz E e).bind fun s=>jeV n s v l h mx
  | _=>none
theorem jb3 (t:TypeId)(x:Operand)(lo hi mx:Option Operand):opT E m T σ (.slice t x lo hi mx)=(jaM E T x).bind fun v=>(optO (jaM E T) lo).bind fun l=>(optO (jaM E T) hi).bind fun h=>(optO (jaM E T) mx).bind fun mm=>(jct E t v l h mm).map fun u=>(u,σ):=by
 rw [jbq rfl rfl (fun _ h=>by cases h)]
 simp only [ja3,jct]
 cases jaM E T x with
 | none=>rfl
 | some v =>
  simp only [Ko]
  cases optO (jaM E T) lo with
  | none=>rfl
  | some l =>
   simp only [Ko]
   cases optO (jaM E T) hi with
   | none=>rfl
   | some h =>
    simp only [Ko]
    cases optO (jaM E T) mx with
    | none=>rfl
    | some mm=>rfl
theorem jb4 (ρ:Operand→Option V):optO ρ none=some none:=rfl
theorem jck (ρ:Operand→Option V)(x:Operand):optO ρ (some x)=(ρ x).map some:=rfl
end
theorem jdU (E:Env)(t:TypeId)(x:Operand):scOp E (.load t x)=false:=rfl
theorem jdV (E:Env)(x:Operand):scOp E (.move x)=false:=rfl
theorem jcl (E:Env)(x:Operand):scOp E (.assign x)=false:=rfl
theorem joT (E:Env)(c x y:Operand):scOp E (.pick c x y)=false:=rfl
theorem jcU (E:Env)(o:BinOp)(t u:TypeId)(x y:Operand):scOp E (.binOp o t x y u)=false:=rfl
theorem joU (E:Env)(o:UnOp)(t:TypeId)(x:Operand):scOp E (.unOp o t x)=false:=rfl
theorem jbx (E:Env)(t:TypeId)(x y:Operand):scOp E (.indexAddr t x y)=false:=rfl
theorem jby (E:Env)(t:TypeId)(x:Operand)(f:Nat):scOp E (.fieldAddr t x f)=false:=rfl
theorem ji8 (E:Env)(x:Operand)(i:Nat):scOp E (.extract x i)=false:=rfl
theorem jcV (E:Env)(t:TypeId)(x y:Operand):scOp E (.store t x y)=true:=rfl
theorem jmN (E:Env)(t:Tmp)(as:Array Operand)(ts:Array TypeId):scOp E (.call ⟨.value (.tmp t),as,ts⟩)=true:=rfl
theorem jdW (t:TypeId)(x:Operand):jaJ (.load t x)=true:=rfl
theorem jdX (x:Operand):jaJ (.move x)=false:=rfl
theorem jcm (x:Operand):jaJ (.assign x)=false:=rfl
theorem joV (c x y:Operand):jaJ (.pick c x y)=false:=rfl
theorem jcW (o:BinOp)(t u:TypeId)(x y:Operand):jaJ (.binOp o t x y u)=false:=rfl
theorem joW (o:UnOp)(t:TypeId)(x:Operand):jaJ (.unOp o t x)=false:=rfl
theorem jbz (t:TypeId)(x y:Operand):jaJ (.indexAddr t x y)=false:=rfl
theorem jbA (t:TypeId)(x:Operand)(f:Nat):jaJ (.fieldAddr t x f)=false:=rfl
theorem ji9 (x:Operand)(i:Nat):jaJ (.extract x i)=false:=rfl
theorem jcX (t:TypeId)(x y:Operand):jaJ (.store t x y)=false:=rfl
theorem jdY (c:Call):jaJ (.call c)=false:=rfl
theorem jbX (E:Env)(T:Tm)(s:S)(t:TypeId)(x:Operand):ja8 E (jaM E T) s (.load t x)=(jaM E T x).bind (jaS E s.heap t):=rfl
def jcy:Nat→Code→Code
 | 0,c=>c
 | k+1,.seq _ b=>jcy k b
 | _+1,_=>.skip
def jaK (F:Go.Func):Code:=F.body.getD .skip
section
variable {E:Env}{m:Bool}{T:Tm}{σ:S}
def joX (E:Env)(t:TypeId)(v i:V):Option V :=
  match E.P.underlying t,v,i with
  | some .string,.str s,.int _ n=>if 0≤n∧n<s.length then some (.int .u8 (s.getD n.toNat 0).toNat) else none
  | some (.array len e),.agg cs,.int _ n=>if 0≤n∧n<len then (sz E e).bind fun s=>(aggT E e).bind fun g=>jhb g s cs (n.toNat * s) else none
  | _,_,_=>none
theorem jb5 (t:TypeId)(x ix:Operand):opT E m T σ (.index t x ix)=((jaM E T x).bind fun v=>(jaM E T ix).bind fun i=>joX E t v i).map fun v=>(v,σ) :=
 jbq rfl rfl (fun _ h=>by cases h)
theorem jbM {t:TypeId}(h:E.P.underlying t=some .string)(s:List UInt8)(k:IntKind)(n:Int):joX E t (.str s) (.int k n)=if 0≤n∧n<s.length then some (.int .u8 (s.getD n.toNat 0).toNat) else none:=by
 simp only [joX,h]
theorem jnH (a b:List UInt8):vBin .lss (.str a) (.str b)=some (.bool (Op.bytesLess a b)):=rfl
theorem jkQ (us:Option TypeDesc)(cc:Bool)(a b:List UInt8):jbR us cc .lss (.str a) (.str b)=some (.bool (Op.bytesLess a b)):=by
 unfold jbR
 rw [jnH]
theorem joY {t e:TypeId}{n s:Nat}{cells:List V}(hu:E.P.underlying t=some (.array n e))(hs:sz E e=some s)(hl:cells.length=n * s):jct E t (.rptr cells) none none none=some (.row cells n .full):=by
 simp only [jct,hu,hs,Ko,jeV,ja4,Nat.zero_mul,Qq,Nat.sub_zero,Ke]
 rw [← hl,Xe]
def nilO (E:Env):V→Option V
 | .ptr b o=>some (.ptr b o)
 | .rptr cs=>some (.rptr cs)
 | .meth name r=>(jhH E r name).map fun _=>.meth name r
 | _=>none
theorem jac (x:Operand):opT E m T σ (.nilCheck x)=((jaM E T x).bind (nilO E)).map fun v=>(v,σ) :=
 jbq rfl rfl (fun _ h=>by cases h)
theorem jal (b o:Nat):nilO E (.ptr b o)=some (.ptr b o):=rfl
theorem jkR (a:List UInt8):Op.bytesLess a a=false:=by
 induction a with
 | nil=>rfl
 | cons x r ih=>simp [Op.bytesLess,ih]
end
theorem jeK:∀ ws:List (List UInt8),V.closed.closedL (ws.map V.str)=true
 | []=>rfl
 | w::ws=>by simp only [Qz,V.closed.closedL,V.closed,Jz]; exact jeK ws
theorem jdd (ws:List (List UInt8))(i:Nat):(ws.map V.str)[i]? = if i<ws.length then some (V.str (ws.getD i [])) else none:=by
 rw [X7]
 by_cases h:i<ws.length
 ·simp [h]
 ·simp [h]
section
variable {E:Env}{T:Tm}{σ:S}
def rowO (E:Env)(t:TypeId)(len:Nat)(ps:List (Nat × V)):Option V:=(jf0 E t).bind fun e=>(sz E e).bind fun s =>
      (if len * s=0 then some (.agg []) else jbr E e).bind fun z =>
      if len * s≤2 ^ 24∧(z.cells.length=s∨len * s=0) then
        (jfE (fun i=>some (i * s,s)) (List.replicate len z.cells).flatten ps).map fun cs=>.row cs len .full
      else none
theorem jan (t:TypeId)(len:Nat)(parts:Array (Nat × Operand)):opT E false T σ (.buildSlice t len parts)=(jcI (jaM E T) parts.toList).bind fun ps=>(rowO E t len ps).map fun v=>(v,σ):=by
 unfold opT rowO
 simp only [ja3,ja8,jbo,Bool.false_and,Kj,Kc]
 cases jcI (jaM E T) parts.toList with
 | none=>rfl
 | some ps =>
  simp only [Ko]
  cases jf0 E t with
  | none=>rfl
  | some e =>
   simp only [Ko]
   cases sz E e with
   | none=>rfl
   | some s =>
    simp only [Ko]
    generalize (if len * s=0 then some (V.agg []) else jbr E e)=oz
    cases oz with
    | none=>rfl
    | some z =>
     simp only [Ko]
     split
     ·cases jfE (fun i=>some (i * s,s)) (List.replicate len z.cells).flatten ps <;> rfl
     ·rfl
end
theorem jao {L:List AObj}{p:Nat}{x:AObj}(hp:L[p]? = some x):p<L.length:=by
 rcases K1 p L.length with h | h
 ·exact h
 ·rw [K8 h] at hp; simp at hp
theorem ja7 {L:List AObj}{p:Nat}{x:AObj}(hp:L[p]? = some x)(X:List AObj):(L++X)[p]? = some x:=by
 rw [Kn (jao hp)]; exact hp
theorem jhq {L:List AObj}{p:Nat}{x:V}{t:TypeId}(hp:L[p]? = some (.cells [x] t)):(jag L 1 (.ptr p 0)).bind (·[0]?)=some x:=by
 rw [YA,hp]; rfl
theorem jnI (f:FuncId)(a b:List V):(V.func f a b).cells=[.func f a b]:=rfl
theorem Qp (t:TypeId)(x:Operand):jaA (.load t x)=false:=rfl
theorem Qs (t:TypeId)(x y:Operand):jaA (.store t x y)=false:=rfl
theorem Qv (x:Operand):jaA (.move x)=false:=rfl
theorem Qy (N:Nat)(al:List Nat)(mask:Nat)(ρ:Operand→Option V)(x:Operand):jeO N al mask ρ (.move x)=true:=rfl
theorem QH (o:BinOp)(t u:TypeId)(x y:Operand):jaA (.binOp o t x y u)=false:=rfl
theorem QI (o:BinOp)(t u:TypeId)(x y:Operand):jaT (.binOp o t x y u)=false:=rfl
theorem QO (N:Nat)(al:List Nat)(mask:Nat)(ρ:Operand→Option V)(o:UnOp)(t:TypeId)(x:Operand):jeO N al mask ρ (.unOp o t x)=true:=rfl
theorem QP (t:TypeId)(x y:Operand):jaA (.indexAddr t x y)=false:=rfl
theorem QR (t:TypeId)(x y:Operand):jhL (.indexAddr t x y)=false:=rfl
theorem QT (t:TypeId)(x:Operand)(f:Nat):jaA (.fieldAddr t x f)=false:=rfl
theorem QV (t:TypeId)(x:Operand)(f:Nat):jhL (.fieldAddr t x f)=false:=rfl
theorem Q0 (N:Nat)(al:List Nat)(mask:Nat)(ρ:Operand→Option V)(x:Operand)(i:Nat):jeO N al mask ρ (.extract x i)=true:=rfl
theorem Q2 (c:Call):jaT (.call c)=false:=rfl
theorem Q3 (c:Call):jhL (.call c)=false:=rfl
theorem Q4 (N:Nat)(al:List Nat)(mask:Nat)(ρ:Operand→Option V)(c:Call):jeO N al mask ρ (.call c)=true:=rfl
def regO (id:Nat):Code→Option (Array Oper)
 | .region i ops true=>if i=id then some ops else none
 | .seq a b=>(regO id a).or (regO id b)
 | .cond _ a b=>(regO id a).or (regO id b)
 | .block _ c=>regO id c
 | .loop c=>regO id c
 | .scope c=>regO id c
 | _=>none
def regB (id:Nat)(c:Code):Code:=.region id ((regO id c).getD #[]) true
theorem jkS (b off len cap:Nat)(q:HCap):(V.hsl b off len cap q).cells=[.hsl b off len cap q]:=rfl
theorem jja (b off len cap:Nat)(q:HCap):(V.hsl b off len cap q).isCell=true:=rfl
def regA (id:Nat):Code→Option Code
 | .region i ops d=>if i=id then some (.region i ops d) else none
 | .seq a b=>(regA id a).or (regA id b)
 | .cond _ a b=>(regA id a).or (regA id b)
 | .block _ c=>regA id c
 | .loop c=>regA id c
 | .scope c=>regA id c
 | _=>none
def regZ (id:Nat)(c:Code):Code:=(regA id c).getD .skip
theorem wrap_u64 {x:Int}(h1:0≤x)(h2:x<18446744073709551616):IntKind.u64.wrap x=x:=by
 show (let m:=x % (2 ^ 64:Int); if false && decide (m ≥ 2 ^ 63) then m - 2 ^ 64 else m)=x
 simp only [Bool.false_and,Kj,Kc]
 omega
def blkC (id:Nat):Code→Option Code
 | .block i c=>if i=id then some c else blkC id c
 | .seq a b=>(blkC id a).or (blkC id b)
 | .cond _ a b=>(blkC id a).or (blkC id b)
 | .loop c=>blkC id c
 | .scope c=>blkC id c
 | _=>none
def jkT (id:Nat)(c:Code):Code:=match blkC id c with
 | some (.loop c)=>c
 | _=>.skip
set_option linter.unusedVariables false
theorem jfU {E:Env}{fn:FuncId}{rnd:Option Nat}{n:Nat}{Q:Post}{ks:List Kt}{T:Tm}{D:List DE}{σ:S}(stop:Nat)(id:Nat)(l:List Oper)(h:(id == stop)=false):G E fn rnd n Q ks (.region id l.toArray false) T D σ=GL E fn rnd n Q ks (E.mutb fn id) l.toArray l T D σ:=rfl
def jeS:V→Option Nat
 | .hsl b _ _ _ _=>some b
 | _=>none
def StkV (h:List AObj)(t:TypeId)(w:Nat)(v:V)(n:Nat)(xs:List V):Prop :=
 xs.length=n * w∧((v=.nilsl∧n=0)∨∃ b cap cs,v=.hsl b 0 n cap (.grow w)∧h[b]? = some (.cells cs t)∧n≤cap∧cap * w≤cs.length∧cs.take (n * w)=xs)
theorem StkV.nil (h:List AObj)(t:TypeId)(w:Nat):StkV h t w .nilsl 0 []:=⟨by simp,.inl ⟨rfl,rfl⟩⟩
theorem StkV.move {h h':List AObj}{t:TypeId}{w n:Nat}{v:V}{xs:List V}(s:StkV h t w v n xs)(hq:∀ b,jeS v=some b→h'[b]? = h[b]?):StkV h' t w v n xs:=by
 obtain ⟨hl,⟨rfl,rfl⟩ | ⟨b,cap,cs,rfl,hb,h1,h2,h3⟩⟩:=s
 ·exact ⟨hl,.inl ⟨rfl,rfl⟩⟩
 ·exact ⟨hl,.inr ⟨b,cap,cs,rfl,by rw [hq b rfl]; exact hb,h1,h2,h3⟩⟩
theorem StkV.lt {h:List AObj}{t:TypeId}{w n:Nat}{v:V}{xs:List V}(s:StkV h t w v n xs){b:Nat}(hb:jeS v=some b):b<h.length:=by
 obtain ⟨hl,⟨rfl,rfl⟩ | ⟨b',cap,cs,rfl,hb',h1,h2,h3⟩⟩:=s
 ·simp [jeS] at hb
 ·simp only [jeS,Kf] at hb
  subst hb
  exact (Kr.1 hb').1
theorem StkV.cells {h:List AObj}{t:TypeId}{w n:Nat}{v:V}{xs:List V}(s:StkV h t w v n xs):v.cells=[v]∧v.isCell=true:=by
 obtain ⟨hl,⟨rfl,rfl⟩ | ⟨b',cap,cs,rfl,hb',h1,h2,h3⟩⟩:=s <;> exact ⟨rfl,rfl⟩
theorem StkV.len {h:List AObj}{t:TypeId}{w n:Nat}{v:V}{xs:List V}(s:StkV h t w v n xs)(e:TypeId):jbE (some (.slice e)) v=some (.int .i64 n):=by
 obtain ⟨hl,⟨rfl,rfl⟩ | ⟨b',cap,cs,rfl,hb',h1,h2,h3⟩⟩:=s <;> rfl
theorem StkV.push {E:Env}{L:List AObj}{ts:List Nat}{t ty ty2:TypeId}{w n nb:Nat}{v y:V}{xs new:List V}(s:StkV L t w v n xs)(he:jf0 E ty=some t)(hs:sz E t=some w)(hz:jjx E t=some w)(hb:bys E t=some nb)(hu:∃ e2,E.P.underlying ty2=some (.slice e2))
  (hw:0<w) (hlim:(n+1) * nb≤lim∧n+1≤lim) (hy:vLen y=some 1) (hc:ja5 L w 1 y=some new) (hnl:new.length=w) (hcell:new.all V.isCell=true) :
  ∃ v' L',appO E true ⟨L,ts⟩ ty ty2 v y=some (v',⟨L',ts⟩)∧StkV L' t w v' (n+1) (xs++new)∧(∀ q,q<L.length→jeS v ≠ some q→L'[q]? = L[q]?)∧L.length≤L'.length∧(jeS v'=jeS v∨jeS v'=some L.length):=by
 obtain ⟨e2,hu⟩:=hu
 obtain ⟨hl,hcase⟩:=s
 have hlen:(xs++new).length=(n+1) * w:=by rw [Kk,hl,hnl,Jg,X4]
 unfold appO
 simp only [he,hs,hb,hu,hz,hy,hc,Ko,Ke]
 rcases hcase with ⟨rfl,rfl⟩ | ⟨b,cap,cs,rfl,hbk,h1,h2,h3⟩
 ·have hx:xs=[]:=Qt (by simpa using hl)
  subst hx
  refine ⟨.hsl L.length 0 1 1 (.grow w),L++[.cells new t],?_,⟨hlen,.inr ⟨L.length,1,new,rfl,by simp,by omega,by omega,?_⟩⟩,fun q hq _=>by rw [Kn hq],by simp,.inr rfl⟩
  ·have h1:(1:Nat) * nb≤lim∧1≤lim:=by simpa using hlim
   simp [jbJ,S.push,by simpa using h1]
  ·rw [Q8]; exact Ql (by simp [hnl])
 ·have hblt:=(Kr.1 hbk).1
  by_cases hfit:n+1≤cap
  ·have hn1:(n+1) * w≤cap * w:=Qk w hfit
   have hn2:n * w+w≤cs.length:=by rw [Jg,X4] at hn1; omega
   refine ⟨.hsl b 0 (n+1) cap (.grow w),L.set b (.cells (jaa cs (n * w) new) t),?_,⟨hlen,.inr ⟨b,cap,jaa cs (n * w) new,rfl,by simp [hblt],hfit,?_,?_⟩⟩,fun q hq hne=>by rw [K0 (fun e=>hne (by simp [jeS,e]))],by simp,.inl rfl⟩
   ·simp [jbJ,hfit,jbd,hbk,hnl,hn2,hcell,S.set]
   ·simp only [jaa,Kk,Qi,Ja,hnl]; omega
   ·rw [jaa,h3,Jg,X4]
    have:(xs++new).length=n * w+w:=by rw [Kk,hl,hnl]
    rw [List.take_append_of_le_length (by omega)]
    exact Ql (by omega)
  ·have hcl:n * w≤cs.length:=by
    have:n * w≤cap * w:=Qk w h1
    omega
   refine ⟨.hsl L.length 0 (n+1) (n+1) (.grow w),(L.set b .dead)++[.cells (cs.take (n * w)++new) t],?_,⟨hlen,.inr ⟨L.length,n+1,cs.take (n * w)++new,rfl,by simp,Ku _,?_,?_⟩⟩,fun q hq hne => ?_,by simp,.inr rfl⟩
   ·simp [jbJ,hfit,hbk,hcl,hlim,hcell,S.push,S.set]
   ·rw [h3,hlen]; exact Ku _
   ·rw [h3]; exact Ql (by omega)
   ·rw [Kn (by simpa using hq),K0 (fun e=>hne (by simp [jeS,e]))]
theorem StkV.cut {E:Env}{h:List AObj}{t ty:TypeId}{w n:Nat}{v:V}{xs:List V}(s:StkV h t w v n xs)(hu:E.P.underlying ty=some (.slice t))(hs:sz E t=some w)(k:Nat)(hk:k≤n)(lo:Option V)(hlo:lo=none∨lo=some (.int .i64 0)) :
  ∃ v',jct E ty v lo (some (.int .i64 k)) none=some v'∧StkV h t w v' k (xs.take (k * w))∧jeS v'=jeS v:=by
 obtain ⟨hl,hcase⟩:=s
 have hkw:k * w≤n * w:=Qk w hk
 have hlen:(xs.take (k * w)).length=k * w:=by rw [Qi]; omega
 have hlo2:∀ m,ja4 lo 0 m=some 0:=by
  intro m
  rcases hlo with rfl | rfl <;> simp [ja4]
 rcases hcase with ⟨rfl,rfl⟩ | ⟨b,cap,cs,rfl,hbk,h1,h2,h3⟩
 ·have:k=0:=by omega
  subst this
  exact ⟨.nilsl,by rcases hlo with rfl | rfl <;> simp [jct,hu,hs,jde,ja4],⟨hlen,.inl ⟨rfl,rfl⟩⟩,rfl⟩
 ·refine ⟨.hsl b 0 k cap (.grow w),?_,⟨hlen,.inr ⟨b,cap,cs,rfl,hbk,by omega,h2,?_⟩⟩,rfl⟩
  ·have h5:((k:Nat):Int)≤(cap:Int):=by omega
   rcases hlo with rfl | rfl <;> simp [jct,hu,hs,jde,ja4,h5,HCap.cut]
  ·rw [← h3,List.take_take,J9 hkw]
def RdS (h:List AObj)(w:Nat)(u:V)(n:Nat)(xs:List V):Prop :=
 xs.length=n * w∧(∀ e,jbE (some (.slice e)) u=some (.int .i64 n))∧vLen u=some n∧∀ i,i<n→∃ p,jaC w u (.int .i64 i)=some p∧jag h w p=some ((xs.drop (i * w)).take w)
theorem RdS.row (h:List AObj)(w:Nat)(xs:List V)(n:Nat)(c:RCap)(hl:xs.length=n * w):RdS h w (.row xs n c) n xs:=by
 refine ⟨hl,fun e=>rfl,rfl,fun i hi=>⟨.rptr (xs.drop (i * w)),?_,?_⟩⟩
 ·have h1:(i:Int)<(n:Int):=by omega
  simp [jaC,hi]
 ·have:(i+1) * w≤n * w:=Qk w hi
  rw [Jg,X4] at this
  simp only [jag,Ja]
  rw [Kh (by omega)]
theorem RdS.nil (h:List AObj)(w:Nat):RdS h w .nilsl 0 []:=⟨by simp,fun e=>rfl,rfl,fun i hi=>by omega⟩
theorem RdS.hsl {h:List AObj}{w b off n cap:Nat}{ex:HCap}{cs:List V}{t:TypeId}(hb:h[b]? = some (.cells cs t))(hl:off+n * w≤cs.length):RdS h w (.hsl b off n cap ex) n ((cs.drop off).take (n * w)):=by
 refine ⟨by rw [Qi,Ja]; omega,fun e=>rfl,rfl,fun i hi=>⟨.ptr b (off+i * w),?_,?_⟩⟩
 ·simp [jaC,hi]
 ·have:(i+1) * w≤n * w:=Qk w hi
  rw [Jg,X4] at this
  simp only [jag,hb]
  rw [Kh (by omega),List.drop_take,List.take_take,List.drop_drop,J9 (by omega)]
theorem StkV.rd {h:List AObj}{t:TypeId}{w n:Nat}{v:V}{xs:List V}(s:StkV h t w v n xs):RdS h w v n xs:=by
 obtain ⟨hl,⟨rfl,rfl⟩ | ⟨b,cap,cs,rfl,hbk,h1,h2,h3⟩⟩:=s
 ·have hx:xs=[]:=Qt (by simpa using hl)
  subst hx; exact .nil h w
 ·have:n * w≤cap * w:=Qk w h1
  have:=RdS.hsl (w:=w) (n:=n) (cap:=cap) (ex:=.grow w) (off:=0) hbk (by omega)
  rw [Qq,h3] at this; exact this
theorem StkV.tail {E:Env}{h:List AObj}{t ty:TypeId}{w n:Nat}{v:V}{xs:List V}(s:StkV h t w v n xs)(hu:E.P.underlying ty=some (.slice t))(hs:sz E t=some w)(k:Nat)(hk:k≤n) :
  ∃ u,jct E ty v (some (.int .i64 k)) none none=some u∧RdS h w u (n - k) (xs.drop (k * w)):=by
 obtain ⟨hl,hcase⟩:=s
 have hkw:k * w≤n * w:=Qk w hk
 rcases hcase with ⟨rfl,rfl⟩ | ⟨b,cap,cs,rfl,hbk,h1,h2,h3⟩
 ·have:k=0:=by omega
  subst this
  have hx:xs=[]:=Qt (by simpa using hl)
  subst hx
  exact ⟨.nilsl,by simp [jct,hu,hs,jde,ja4],by simpa using RdS.nil h w⟩
 ·have hncw:n * w≤cap * w:=Qk w h1
  have hnk:(n - k) * w=n * w - k * w:=Ve n k w
  by_cases hc:k<cap∨k=0
  ·refine ⟨.hsl b (0+k * w) (n - k) (cap - k) ((HCap.grow w).cut w),?_,?_⟩
   ·have h5:(k:Int)≤(n:Int):=by omega
    simp [jct,hu,hs,jde,ja4,hk,hc]
   ·have:=RdS.hsl (w:=w) (n:=n - k) (cap:=cap - k) (ex:=(HCap.grow w).cut w) (off:=0+k * w) hbk (by rw [hnk]; omega)
    have e:(cs.drop (0+k * w)).take ((n - k) * w)=xs.drop (k * w):=by
     rw [← h3,List.drop_take,hnk,Qx]
    rw [e] at this; exact this
  ·have hkn:k=n:=by omega
   have hcn:cap=n:=by omega
   subst hkn
   refine ⟨.row [] 0 .unk,?_,?_⟩
   ·simp [jct,hu,hs,jde,ja4,hc]
   ·have:=RdS.row h w [] 0 .unk (by simp)
    rw [J5,List.drop_of_length_le (by omega)]; exact this
def wpB (v:V)(b:Bool)(run skip:Prop):Prop :=
 match v with
 | .tup []=>skip
 | .bool c=>if c=b then run else skip
 | _=>False
theorem jbK (b:Bool)(r s:Prop):wpB (.tup []) b r s=s:=rfl
theorem jcu (r s:Prop):wpB (.bool true) true r s=r:=by simp [wpB]
theorem jcv (r s:Prop):wpB (.bool true) false r s=s:=by simp [wpB]
theorem jcw (r s:Prop):wpB (.bool false) true r s=s:=by simp [wpB]
theorem jcx (r s:Prop):wpB (.bool false) false r s=r:=by simp [wpB]
section
variable (E:Env)
def wpS2 (mutb:Bool)(ops:Array Oper)(n:Nat)(K:S→Prop):List Oper→Tm→S→(Tm→S→Prop)→Prop
 | [],T,σ,k=>k T σ
 | ⟨dst,op,_,_,_,none⟩::l,T,σ,k=>V1 (opT E mutb T σ op) fun p=>(scOp E op=true→K p.2)∧(jaJ op=true→∀ σ',K σ'→ja8 E (jaM E T) σ' op=some p.1) ∧
  (match dst with
   | none=>wpS2 mutb ops n K l T p.2 k
   | some d=>d<n∧wpS2 mutb ops n K l (upd T d p.1) p.2 k)
 | ⟨some d,op,_,_,_,some (j,b)⟩::l,T,σ,k=>V1 ((ops[j]?).bind (·.dst)) fun dj=>d<n∧wpB (T dj) b
   (V1 (opT E mutb T σ op) fun p=>(scOp E op=true→K p.2)∧(jaJ op=true→∀ σ',K σ'→ja8 E (jaM E T) σ' op=some p.1)∧wpS2 mutb ops n K l (upd T d p.1) p.2 k)
   ((scOp E op=true→K σ)∧wpS2 mutb ops n K l (upd T d (.tup [])) σ k)
 | ⟨none,_,_,_,_,some _⟩::_,_,_,_=>False
theorem joZ {rec:Task→Option Res}{mutb:Bool}{ops:Array Oper}{tmps:List V}{σ σ1:S}{o:Oper}{l:List Oper}{v:V}(h:(if Region.wanted o (jaq ops tmps) then opV E rec mutb tmps σ o.op else some (.tup [],σ))=some (v,σ1)) :
  dRun E rec mutb ops (o::l) tmps σ=(match dRun E rec mutb ops l (putT tmps o.dst v) σ1 with
   | some (tr,ss,tf,σf)=>some ((tmps,v)::tr,if scOp E o.op then σ1::ss else ss,tf,σf)
   | none=>none):=by
 simp only [dRun,h]
 cases dRun E rec mutb ops l (putT tmps o.dst v) σ1 <;> rfl
def Made (ops:Array Oper)(mutb:Bool)(K:S→Prop)(o:Oper)(t:List V)(v:V):Prop :=
 Region.wanted o (jaq ops t)=false∨∃ (σ0 σ1:S),opV E (ev E) mutb t σ0 o.op=some (v,σ1)∧(jaJ o.op=true→∀ σ',K σ'→ja8 E (jaU E t) σ' o.op=some v)
theorem jjb {mutb:Bool}{n:Nat}{ops:Array Oper}{K:S→Prop}:∀ (l:List Oper) {T:Tm} {tmps:List V} {σ:S} {k:Tm→S→Prop},Rep n T tmps→wpS2 E mutb ops n K l T σ k →
  ∃ (tr:List (List V × V)) (ss:List S) (tf:List V) (σf:S) (T':Tm),dRun E (ev E) mutb ops l tmps σ=some (tr,ss,tf,σf)∧Rep n T' tf∧k T' σf∧(∀ s∈ss,K s) ∧
   ∀ (j:Nat) (o:Oper),l[j]? = some o→∃ (t:List V) (v:V),tr[j]? = some (t,v)∧Made E ops mutb K o t v
 | [],T,tmps,σ,k,h,hw=>⟨[],[],tmps,σ,T,rfl,h,hw,fun s hs=>by simp at hs,fun j o hj=>by simp at hj⟩
 | o::l,T,tmps,σ,k,h,hw=>by
  have key:∃ v σ1 T1,(if Region.wanted o (jaq ops tmps) then opV E (ev E) mutb tmps σ o.op else some (.tup [],σ))=some (v,σ1)∧(scOp E o.op=true→K σ1)∧Rep n T1 (putT tmps o.dst v)∧wpS2 E mutb ops n K l T1 σ1 k∧Made E ops mutb K o tmps v:=by
   obtain ⟨dst,op,t,p,a,g⟩:=o
   cases g with
   | none =>
    simp only [wpS2] at hw
    obtain ⟨⟨v,σ1⟩,hop,hK,hR,hw⟩:=hw
    rw [jgM E h] at hop
    simp only at hK hR hw
    have hm:Made E ops mutb K ⟨dst,op,t,p,a,none⟩ tmps v:=.inr ⟨σ,σ1,hop,fun hrd σ' hσ'=>by rw [h.eval]; exact hR hrd σ' hσ'⟩
    have hwant:Region.wanted ⟨dst,op,t,p,a,none⟩ (jaq ops tmps)=true:=rfl
    cases dst with
    | none=>exact ⟨v,σ1,T,by rw [Kh hwant]; exact hop,hK,h,hw,hm⟩
    | some d=>exact ⟨v,σ1,_,by rw [Kh hwant]; exact hop,hK,h.upd hw.1 v,hw.2,hm⟩
   | some jb =>
    obtain ⟨j,b⟩:=jb
    cases dst with
    | none=>exact hw.elim
    | some d =>
     simp only [wpS2] at hw
     obtain ⟨dj,hdj,hd,hw⟩:=hw
     have skip:(scOp E op=true→K σ)∧wpS2 E mutb ops n K l (upd T d (.tup [])) σ k→Region.wanted ⟨some d,op,t,p,a,some (j,b)⟩ (jaq ops tmps)=false →
       ∃ v σ1 T1,(if Region.wanted ⟨some d,op,t,p,a,some (j,b)⟩ (jaq ops tmps) then opV E (ev E) mutb tmps σ op else some (.tup [],σ))=some (v,σ1)∧(scOp E op=true→K σ1)∧Rep n T1 (putT tmps (some d) v)∧wpS2 E mutb ops n K l T1 σ1 k∧Made E ops mutb K ⟨some d,op,t,p,a,some (j,b)⟩ tmps v:=fun hs hn =>
      ⟨.tup [],σ,_,by rw [hn]; rfl,hs.1,h.upd hd _,hs.2,.inl hn⟩
     unfold wpB at hw
     split at hw
     ·rename_i htup
      refine skip hw ?_
      simp only [Region.wanted,jh9 h hdj htup]
      rfl
     ·rename_i c hc
      have hy:=jh8 (ops:=ops) h hdj hc
      by_cases hcb:c=b
      ·rw [Kh hcb] at hw
       obtain ⟨⟨v,σ1⟩,hop,hK,hR,hw⟩:=hw
       rw [jgM E h] at hop
       simp only at hK hR hw
       have hwant:Region.wanted ⟨some d,op,t,p,a,some (j,b)⟩ (jaq ops tmps)=true:=by
        simp only [Region.wanted,hy,hcb]; simp
       exact ⟨v,σ1,_,by rw [Kh hwant]; exact hop,hK,h.upd hd v,hw,.inr ⟨σ,σ1,hop,fun hrd σ' hσ'=>by rw [h.eval]; exact hR hrd σ' hσ'⟩⟩
      ·rw [Kg hcb] at hw
       refine skip hw ?_
       simp only [Region.wanted,hy]
       simp [hcb]
     ·exact hw.elim
  obtain ⟨v,σ1,T1,hstep,hK,hr1,hw1,hm⟩:=key
  obtain ⟨tr,ss,tf,σf,T',h1,h2,h3,h4,h5⟩:=jjb l hr1 hw1
  refine ⟨(tmps,v)::tr,if scOp E o.op then σ1::ss else ss,tf,σf,T',by rw [joZ E hstep,h1],h2,h3,?_,?_⟩
  ·intro s hs
   by_cases hsc:scOp E o.op=true
   ·simp only [hsc,Ke,Jf] at hs
    rcases hs with rfl | hs
    ·exact hK hsc
    ·exact h4 s hs
   ·simp only [hsc,Kj,Kc] at hs
    exact h4 s hs
  ·intro j o' hj
   cases j with
   | zero =>
    simp only [Qw,Kf] at hj
    subst hj
    exact ⟨tmps,v,rfl,hm⟩
   | succ j =>
    simp only [K9] at hj ⊢
    exact h5 j o' hj
theorem jjU {fn:FuncId}{rnd:Option Nat}{id:Nat}{ops:Array Oper}{K:S→Prop}{n:Nat}{T:Tm}{tmps:List V}{dfs:List DE}{σ:S}{k:Tm→S→Prop}(hp:jcg E ops (jai [] ops.toList)=true)(hK:K σ)
  (hr:Rep n T tmps) (hw:wpS2 E (E.mutb fn id) ops n K ops.toList T σ k) :
  ∃ tf σf T',jaY E (ev E) fn rnd (.region id ops true) tmps dfs σ=some ⟨.normal,tf,dfs,σf⟩∧Rep n T' tf∧k T' σf:=by
 obtain ⟨tr,ss,tf,σf,T',h1,h2,h3,h4,h5⟩:=jjb E (ops:=ops) ops.toList hr hw
 refine ⟨tf,σf,T',?_,h2,h3⟩
 have hc:jeN E ops (jai [] ops.toList) tr (σ::ss)=true:=by
  unfold jeN
  rw [Kz]
  intro j hj
  have hj:j<ops.size:=by simpa using hj
  have hoj:ops[j]? = some ops[j]:=Jj hj
  have hoj2:ops.toList[j]? = some ops[j]:=by rw [Jd]; exact hoj
  obtain ⟨t,v,ht,hmade⟩:=h5 j ops[j] hoj2
  simp only [hoj,ht]
  by_cases hs:scOp E ops[j].op=true
  ·simp [hs]
  by_cases hpc:jbc E ops[j].op=true
  ·simp [hpc]
  rcases hmade with hun | ⟨σ0,σ1,hop,hrd⟩
  ·simp [hun]
  by_cases ha:(ja3 E (jaU E t) ops[j].op).isSome=true
  ·simp [ha]
  have ha':ja3 E (jaU E t) ops[j].op=none:=by simpa using ha
  have hread:=jho (by simpa using hs) (by simpa using hpc) ha' hop
  have hreads:jaJ ops[j].op=true:=by
   cases hx:jaJ ops[j].op with
   | true=>rfl
   | false=>rw [jfv hx] at hread; simp at hread
  rw [Je]
  right
  rw [Kz]
  intro m hm
  have hm:m<(σ::ss).length:=by simpa using hm
  have hKm:K (σ::ss)[m]:=by
   have:(σ::ss)[m]∈σ::ss:=Jo hm
   rcases Jf.1 this with h | h
   ·rw [h]; exact hK
   ·exact h4 _ h
  rw [Kw hm]
  simp only [hrd hreads _ hKm,V.beq_refl,J2]
 simp only [jaY,hp,Ke,h1,hc]
end
section
variable {E:Env}{fn:FuncId}{rnd:Option Nat}{n:Nat}{Q:Post}{ks:List Kt}{m:Bool}{ops:Array Oper}{l:List Oper}{T:Tm}{D:List DE}{σ:S}
def GQ (E:Env)(fn:FuncId)(rnd:Option Nat)(n:Nat)(Q:Post)(ks:List Kt)(m:Bool)(K:S→Prop)(ops:Array Oper)(l:List Oper)(T:Tm)(D:List DE)(σ:S):Prop :=
 wpS2 E m ops n K l T σ fun T σ=>(Kt.post E fn rnd n Q ks).norm T D σ
def GQS (E:Env)(fn:FuncId)(rnd:Option Nat)(n:Nat)(Q:Post)(ks:List Kt)(m:Bool)(K:S→Prop)(ops:Array Oper)(l:List Oper)(T:Tm)(D:List DE)(d:Option Nat)(op:Op)(o:Option (V × S)):Prop :=
 V1 o fun p=>(scOp E op=true→K p.2)∧(jaJ op=true→∀ σ',K σ'→ja8 E (jaM E T) σ' op=some p.1) ∧
  (match d with
   | none=>GQ E fn rnd n Q ks m K ops l T D p.2
   | some d=>d<n∧GQ E fn rnd n Q ks m K ops l (upd T d p.1) D p.2)
theorem jrw {id:Nat}{l:List Oper}(hs:E.stab fn id=true)(K:S→Prop)(hK:K σ)(hp:jcg E l.toArray (jai [] l)=true)(h:GQ E fn rnd n Q ks (E.mutb fn id) K l.toArray l T D σ) :
  G E fn rnd n Q ks (.region id l.toArray true) T D σ:=by
 unfold G wpC
 simp only [hs]
 intro tmps hr
 obtain ⟨tf,σf,T',h1,h2,h3⟩:=jjU E (rnd:=rnd) (dfs:=D) hp hK hr h
 exact ⟨_,h1,T',h2,h3⟩
theorem jsv (K:S→Prop):GQ E fn rnd n Q ks m K ops [] T D σ=G E fn rnd n Q ks .skip T D σ:=rfl
theorem jdZ (K:S→Prop)(d:Option Nat)(op:Op)(t:TypeId)(p:String)(a:Array Edge):GQ E fn rnd n Q ks m K ops (⟨d,op,t,p,a,none⟩::l) T D σ=GQS E fn rnd n Q ks m K ops l T D d op (opT E m T σ op):=rfl
theorem jbl (K:S→Prop)(d:Nat)(op:Op)(t:TypeId)(p:String)(a:Array Edge)(j:Nat)(b:Bool):GQ E fn rnd n Q ks m K ops (⟨some d,op,t,p,a,some (j,b)⟩::l) T D σ =
  V1 ((ops[j]?).bind (·.dst)) fun dj=>d<n∧wpB (T dj) b (GQS E fn rnd n Q ks m K ops l (T) D (some d) op (opT E m T σ op)) ((scOp E op=true→K σ)∧GQ E fn rnd n Q ks m K ops l (upd T d (.tup [])) D σ):=by
 unfold GQ GQS
 simp only [wpS2]
 refine congrArg (V1 _) (funext fun dj => ?_)
 by_cases hd:d<n
 ·simp only [hd,true_and]; rfl
 ·simp only [hd,false_and]
theorem jbf (K:S→Prop)(d:Nat)(op:Op)(v:V)(σ':S):GQS E fn rnd n Q ks m K ops l T D (some d) op (some (v,σ'))=((scOp E op=true→K σ')∧(jaJ op=true→∀ s,K s→ja8 E (jaM E T) s op=some v)∧d<n∧GQ E fn rnd n Q ks m K ops l (upd T d v) D σ'):=by
 simp only [GQS,Yy]
theorem jbg (K:S→Prop)(op:Op)(v:V)(σ':S):GQS E fn rnd n Q ks m K ops l T D none op (some (v,σ'))=((scOp E op=true→K σ')∧(jaJ op=true→∀ s,K s→ja8 E (jaM E T) s op=some v)∧GQ E fn rnd n Q ks m K ops l T D σ'):=by
 simp only [GQS,Yy]
theorem jbL (K:S→Prop)(d:Option Nat)(op:Op)(c:Prop)[Decidable c](o:Option (V × S)):GQS E fn rnd n Q ks m K ops l T D d op (if c then o else none)=(c∧GQS E fn rnd n Q ks m K ops l T D d op o):=by simp only [GQS,jkJ]
theorem jbm (K:S→Prop)(d:Option Nat)(op:Op)(c:Prop)[Decidable c](o:Option (V × S)):GQS E fn rnd n Q ks m K ops l T D d op (if c then none else o)=(¬ c∧GQS E fn rnd n Q ks m K ops l T D d op o):=by simp only [GQS,jh7]
end
section
variable (E:Env)(n:Nat)
def wpG (m:Bool)(masks:List Nat)(N sz:Nat)(St:Nat→S):List Oper→Nat→Nat→Tm→S→(Tm→S→Prop)→Prop
 | [],_,_,T,σ,k=>k T σ
 | ⟨dst,op,_,_,_,none⟩::l,j,r,T,σ,k =>
  match jaA op with
  | true=>(∀ c,c<2 ^ sz→jcP masks j c→∃ ty z,op=.alloc ty∧jbr E ty=some z∧(St c).heap[N+r]? = some .resv∧St (c ||| 2 ^ j)=(St c).set (N+r) (.cells z.cells ty)) ∧
   (match dst with
    | none=>wpG m masks N sz St l (j+1) (r+1) T σ k
    | some d=>d<n∧wpG m masks N sz St l (j+1) (r+1) (upd T d (.ptr (N+r) 0)) σ k)
  | false=>V1 (opT E m T σ op) fun p=>(∀ c,c<2 ^ sz→jcP masks j c→opT E m T (St c) op=some (p.1,St (c ||| 2 ^ j))) ∧
   (match dst with
    | none=>wpG m masks N sz St l (j+1) r T p.2 k
    | some d=>d<n∧wpG m masks N sz St l (j+1) r (upd T d p.1) p.2 k)
 | ⟨_,_,_,_,_,some _⟩::_,_,_,_,_,_=>False
theorem jid {m:Bool}{ops:Array Oper}{masks:List Nat}{N sz:Nat}{St:Nat→S}:∀ (l:List Oper) (j r:Nat) {T:Tm} {tmps:List V} {σ:S} {k:Tm→S→Prop},Rep n T tmps→wpG E n m masks N sz St l j r T σ k →
  ∃ (tr:List (List V × V)) (tf:List V) (σf:S) (T':Tm),jfF E (ev E) m ops N l r tmps σ=some (tr,tf,σf)∧Rep n T' tf∧k T' σf ∧
   ∀ (i:Nat) (o:Oper) (t:List V) (v:V),l[i]? = some o→tr[i]? = some (t,v)→∀ c,c<2 ^ sz→jcP masks (j+i) c→Region.wanted o (jaq ops t)=true ∧
    (jaA o.op=true→∃ n ty z,o.op=.alloc ty∧v=.ptr n 0∧(St c).heap[n]? = some .resv∧jbr E ty=some z∧St (c ||| 2 ^ (j+i))=(St c).set n (.cells z.cells ty)) ∧
    (jaA o.op=false→opV E (ev E) m t (St c) o.op=some (v,St (c ||| 2 ^ (j+i))))
 | [],j,r,T,tmps,σ,k,h,hw=>⟨[],tmps,σ,T,rfl,h,hw,fun i o t v hi=>by simp at hi⟩
 | ⟨dst,op,ty,p,a,none⟩::l,j,r,T,tmps,σ,k,h,hw=>by
  simp only [wpG] at hw
  have hjk:∀ i,j+1+i=j+(i+1):=fun i=>by omega
  cases hal:jaA op with
  | true =>
   simp only [hal] at hw
   obtain ⟨hc,hw⟩:=hw
   have hput:∃ T1,Rep n T1 (putT tmps dst (.ptr (N+r) 0))∧wpG E n m masks N sz St l (j+1) (r+1) T1 σ k:=by
    cases dst with
    | none=>exact ⟨T,h,hw⟩
    | some d=>exact ⟨_,h.upd hw.1 _,hw.2⟩
   obtain ⟨T1,hr1,hw1⟩:=hput
   obtain ⟨tr,tf,σf,T',h1,h2,h3,h4⟩:=jid (ops:=ops) l (j+1) (r+1) hr1 hw1
   refine ⟨(tmps,.ptr (N+r) 0)::tr,tf,σf,T',by simp only [jfF,Region.wanted,Ke,hal,h1],h2,h3,fun i o t v hi ht c hcl hall => ?_⟩
   cases i with
   | zero =>
    simp only [Qw,Kf,Km] at hi ht
    subst hi
    obtain ⟨rfl,rfl⟩:=ht
    obtain ⟨ty,z,e1,e2,e3,e4⟩:=hc c hcl hall
    refine ⟨rfl,fun _=>⟨N+r,ty,z,e1,rfl,e3,e2,e4⟩,?_⟩
    intro hf
    have hf:jaA op=false:=hf
    rw [hal] at hf; cases hf
   | succ i =>
    simp only [K9] at hi ht
    have:=h4 i o t v hi ht c hcl (by rw [hjk]; exact hall)
    rw [hjk] at this; exact this
  | false =>
   simp only [hal] at hw
   obtain ⟨⟨v0,σ1⟩,hop,hc,hw⟩:=hw
   rw [jgM E h] at hop
   simp only at hc hw
   have hput:∃ T1,Rep n T1 (putT tmps dst v0)∧wpG E n m masks N sz St l (j+1) r T1 σ1 k:=by
    cases dst with
    | none=>exact ⟨T,h,hw⟩
    | some d=>exact ⟨_,h.upd hw.1 v0,hw.2⟩
   obtain ⟨T1,hr1,hw1⟩:=hput
   obtain ⟨tr,tf,σf,T',h1,h2,h3,h4⟩:=jid (ops:=ops) l (j+1) r hr1 hw1
   refine ⟨(tmps,v0)::tr,tf,σf,T',by simp only [jfF,Region.wanted,Ke,hal,Kj,Kc,hop,h1],h2,h3,fun i o t v hi ht c hcl hall => ?_⟩
   cases i with
   | zero =>
    simp only [Qw,Kf,Km] at hi ht
    subst hi
    obtain ⟨rfl,rfl⟩:=ht
    have hal:jaA op=false:=hal
    refine ⟨rfl,?_,fun _ => ?_⟩
    ·intro hf
     have hf:jaA op=true:=hf
     rw [hal] at hf; cases hf
    have:=hc c hcl hall
    rw [jgM E h] at this
    exact this
   | succ i =>
    simp only [K9] at hi ht
    have:=h4 i o t v hi ht c hcl (by rw [hjk]; exact hall)
    rw [hjk] at this; exact this
 | ⟨_,_,_,_,_,some _⟩::_,j,r,T,tmps,σ,k,h,hw=>hw.elim
theorem jrx {fn:FuncId}{rnd:Option Nat}{id:Nat}{ops:Array Oper}{T:Tm}{D:List DE}{σ:S}{Q:Post}(St:Nat→S){L:List AObj}{masks:List Nat}(hnp:jcg E ops (jai [] ops.toList)=false)(hnf:jjA E ops (jai [] ops.toList)=false)
  (hs:jpR ops (jai [] ops.toList)=true) (hL:preL E ops.toList=some L) (hm:jai [] ops.toList=masks) (h0:St 0=⟨σ.heap++List.replicate L.length .resv,σ.toks⟩)
  (h:wpG E n (E.mutb fn id) masks σ.heap.length ops.size St ops.toList 0 0 T ⟨σ.heap++L,σ.toks⟩ fun T σ'=>(∀ c,(∀ i,i<ops.size→c.testBit i=true)→St c=σ')∧Q.norm T D σ'):wpX E fn rnd n (.region id ops true) T D σ Q:=fun tmps hr=>by
 subst hm
 obtain ⟨tr,tf,σf,T',h1,h2,⟨h3,h4⟩,h5⟩:=jid E n (ops:=ops) ops.toList 0 0 hr h
 have hsets:jmx E (ev E) (E.mutb fn id) ops (jai [] ops.toList) L.length σ σf tr St:=by
  refine ⟨h0,fun c hc _=>h3 c hc,fun i o t v ho ht c hcl hall => ?_⟩
  have:=h5 i o t v (by simpa using ho) ht c hcl (by rw [Qx]; exact hall)
  rw [Qx] at this
  rw [Kh this.1]
  exact this.2
 have hx:jdB E (ev E) (E.mutb fn id) ops tmps σ=some (tf,σf):=by
  unfold jdB
  simp only [hnf,Kj,Kc]
  unfold jhM
  simp only [hs,Ke,hL,h1]
  rw [Kh ⟨St,hsets⟩]
 refine ⟨⟨.normal,tf,D,σf⟩,?_,T',h2,h4⟩
 simp only [jaY,hnp,Kj,Kc,hx,Qh]
end
section
variable {E:Env}{fn:FuncId}{rnd:Option Nat}{n:Nat}{Q:Post}{ks:List Kt}{T:Tm}{D:List DE}{σ:S}{m:Bool}
def GZ (E:Env)(fn:FuncId)(rnd:Option Nat)(n:Nat)(Q:Post)(ks:List Kt)(m:Bool)(masks:List Nat)(N sz:Nat)(St:Nat→S)(l:List Oper)(j r:Nat)(T:Tm)(D:List DE)(σ:S):Prop :=
 wpG E n m masks N sz St l j r T σ fun T σ=>(∀ c,(∀ i,i<sz→c.testBit i=true)→St c=σ)∧(Kt.post E fn rnd n Q ks).norm T D σ
theorem jsw {id:Nat}{l:List Oper}(hs:E.stab fn id=true)(St:Nat→S){L:List AObj}{masks:List Nat}(hnp:jcg E l.toArray (jai [] l)=false)(hnf:jjA E l.toArray (jai [] l)=false)(hso:jpR l.toArray (jai [] l)=true)
  (hL:preL E l=some L) (hm:jai [] l=masks) (h0:St 0=⟨σ.heap++List.replicate L.length .resv,σ.toks⟩) (h:GZ E fn rnd n Q ks (E.mutb fn id) masks σ.heap.length l.length St l 0 0 T D ⟨σ.heap++L,σ.toks⟩) :
  G E fn rnd n Q ks (.region id l.toArray true) T D σ:=by
 unfold G wpC
 simp only [hs]
 exact jrx E n St hnp hnf hso hL hm h0 h
def GZS (E:Env)(fn:FuncId)(rnd:Option Nat)(n:Nat)(Q:Post)(ks:List Kt)(m:Bool)(masks:List Nat)(N sz:Nat)(St:Nat→S)(l:List Oper)(j r:Nat)(T:Tm)(D:List DE)(d:Option Nat)(op:Op)(o:Option (V × S)):Prop :=
 V1 o fun p=>(∀ c,c<2 ^ sz→jcP masks j c→opT E m T (St c) op=some (p.1,St (c ||| 2 ^ j))) ∧
  (match d with
   | none=>GZ E fn rnd n Q ks m masks N sz St l (j+1) r T D p.2
   | some d=>d<n∧GZ E fn rnd n Q ks m masks N sz St l (j+1) r (upd T d p.1) D p.2)
theorem jqL (masks:List Nat)(N sz:Nat)(St:Nat→S)(j r:Nat):GZ E fn rnd n Q ks m masks N sz St [] j r T D σ=((∀ c,(∀ i,i<sz→c.testBit i=true)→St c=σ)∧G E fn rnd n Q ks .skip T D σ):=rfl
theorem jmO (masks:List Nat)(N sz:Nat)(St:Nat→S)(l:List Oper)(j r:Nat)(d:Nat)(ty t:TypeId)(p:String)(a:Array Edge):GZ E fn rnd n Q ks m masks N sz St (⟨some d,.alloc ty,t,p,a,none⟩::l) j r T D σ =
  ((∀ c,c<2 ^ sz→jcP masks j c→∃ ty' z,Op.alloc ty=.alloc ty'∧jbr E ty'=some z∧(St c).heap[N+r]? = some .resv∧St (c ||| 2 ^ j)=(St c).set (N+r) (.cells z.cells ty'))∧d<n∧GZ E fn rnd n Q ks m masks N sz St l (j+1) (r+1) (upd T d (.ptr (N+r) 0)) D σ):=rfl
theorem jsx (masks:List Nat)(N sz:Nat)(St:Nat→S)(l:List Oper)(j r:Nat)(d:Option Nat)(op:Op)(t:TypeId)(p:String)(a:Array Edge)(ho:jaA op=false):GZ E fn rnd n Q ks m masks N sz St (⟨d,op,t,p,a,none⟩::l) j r T D σ =
  GZS E fn rnd n Q ks m masks N sz St l j r T D d op (opT E m T σ op):=by
 unfold GZ GZS
 simp only [wpG,ho]
 rfl
theorem jmP (masks:List Nat)(N sz:Nat)(St:Nat→S)(l:List Oper)(j r:Nat)(d:Nat)(op:Op)(v:V)(σ':S):GZS E fn rnd n Q ks m masks N sz St l j r T D (some d) op (some (v,σ'))=((∀ c,c<2 ^ sz→jcP masks j c→opT E m T (St c) op=some (v,St (c ||| 2 ^ j)))∧d<n∧GZ E fn rnd n Q ks m masks N sz St l (j+1) r (upd T d v) D σ'):=by
 simp only [GZS,Yy]
theorem jmQ (masks:List Nat)(N sz:Nat)(St:Nat→S)(l:List Oper)(j r:Nat)(op:Op)(v:V)(σ':S):GZS E fn rnd n Q ks m masks N sz St l j r T D none op (some (v,σ'))=((∀ c,c<2 ^ sz→jcP masks j c→opT E m T (St c) op=some (v,St (c ||| 2 ^ j)))∧GZ E fn rnd n Q ks m masks N sz St l (j+1) r T D σ'):=by
 simp only [GZS,Yy]
theorem jo0 (masks:List Nat)(N sz:Nat)(St:Nat→S)(l:List Oper)(j r:Nat)(d:Option Nat)(op:Op)(c:Prop)[Decidable c](o:Option (V × S)):GZS E fn rnd n Q ks m masks N sz St l j r T D d op (if c then o else none)=(c∧GZS E fn rnd n Q ks m masks N sz St l j r T D d op o):=by simp only [GZS,jkJ]
theorem jmR (masks:List Nat)(N sz:Nat)(St:Nat→S)(l:List Oper)(j r:Nat)(d:Option Nat)(op:Op)(c:Prop)[Decidable c](o:Option (V × S)):GZS E fn rnd n Q ks m masks N sz St l j r T D d op (if c then none else o)=(¬ c∧GZS E fn rnd n Q ks m masks N sz St l j r T D d op o):=by simp only [GZS,jh7]
theorem jiH (c i j:Nat):(c ||| 2 ^ j).testBit i=(c.testBit i || decide (j=i)):=by rw [Nat.testBit_or,Nat.testBit_two_pow]
end
open Go
section
variable (E:Env)
def wpM (mutb:Bool)(n:Nat)(K:S→Prop)(M:Nat):List Oper→Nat→Tm→S→(Tm→S→Prop)→Prop
 | [],_,T,σ,k=>k T σ
 | ⟨dst,op,_,_,_,none⟩::l,m,T,σ,k=>V1 (opT E mutb T σ op) fun p=>(scOp E op=true→m+1<M→K p.2)∧(jaJ op=true→∀ σ',K σ'→ja8 E (jaM E T) σ' op=some p.1) ∧
  (match dst with
   | none=>wpM mutb n K M l (if scOp E op then m+1 else m) T p.2 k
   | some d=>d<n∧wpM mutb n K M l (if scOp E op then m+1 else m) (upd T d p.1) p.2 k)
 | ⟨_,_,_,_,_,some _⟩::_,_,_,_,_=>False
theorem jkU {mutb:Bool}{n:Nat}{ops:Array Oper}{K:S→Prop}{M:Nat}:∀ (l:List Oper) (m:Nat) {T:Tm} {tmps:List V} {σ:S} {k:Tm→S→Prop},Rep n T tmps→wpM E mutb n K M l m T σ k →
  ∃ (tr:List (List V × V)) (ss:List S) (tf:List V) (σf:S) (T':Tm),dRun E (ev E) mutb ops l tmps σ=some (tr,ss,tf,σf)∧Rep n T' tf∧k T' σf∧(∀ i s,ss[i]? = some s→m+i+1<M→K s) ∧
   ∀ (j:Nat) (o:Oper),l[j]? = some o→∃ (t:List V) (v:V) (σ0 σ1:S),tr[j]? = some (t,v)∧opV E (ev E) mutb t σ0 o.op=some (v,σ1)∧(jaJ o.op=true→∀ σ',K σ'→ja8 E (jaU E t) σ' o.op=some v)
 | [],m,T,tmps,σ,k,h,hw=>⟨[],[],tmps,σ,T,rfl,h,hw,fun i s hs=>by simp at hs,fun j o hj=>by simp at hj⟩
 | ⟨dst,op,t,p,a,none⟩::l,m,T,tmps,σ,k,h,hw=>by
  simp only [wpM] at hw
  obtain ⟨⟨v,σ1⟩,hop,hK,hR,hw⟩:=hw
  rw [jgM E h] at hop
  simp only at hK hR hw
  have hput:∃ T1,Rep n T1 (putT tmps dst v)∧wpM E mutb n K M l (if scOp E op then m+1 else m) T1 σ1 k:=by
   cases dst with
   | none=>exact ⟨T,h,hw⟩
   | some d=>exact ⟨_,h.upd hw.1 v,hw.2⟩
  obtain ⟨T1,hr1,hw1⟩:=hput
  obtain ⟨tr,ss,tf,σf,T',h1,h2,h3,h4,h5⟩:=jkU l _ hr1 hw1
  refine ⟨(tmps,v)::tr,if scOp E op then σ1::ss else ss,tf,σf,T',by rw [jkL E hop,h1],h2,h3,?_,?_⟩
  ·intro i s hs hM
   by_cases hsc:scOp E op=true
   ·simp only [hsc,Ke] at hs h4
    cases i with
    | zero =>
     simp only [Qw,Kf] at hs
     subst hs
     exact hK hsc (by omega)
    | succ i =>
     simp only [K9] at hs
     exact h4 i s hs (by omega)
   ·simp only [hsc,Kj,Kc] at hs h4
    exact h4 i s hs hM
  ·intro j o hj
   cases j with
   | zero =>
    simp only [Qw,Kf] at hj
    subst hj
    exact ⟨tmps,v,σ,σ1,rfl,hop,fun hrd σ' hσ'=>by rw [h.eval]; exact hR hrd σ' hσ'⟩
   | succ j =>
    simp only [K9] at hj ⊢
    exact h5 j o hj
 | ⟨_,_,_,_,_,some _⟩::_,m,T,tmps,σ,k,h,hw=>hw.elim
def jo1 (ops:Array Oper)(masks:List Nat)(M:Nat):Bool :=
 (List.range ops.size).all fun j=>match ops[j]? with
  | some o=>scOp E o.op || !jaJ o.op || (List.range (ops.size+1)).all fun m=>decide (m<M) || !jeW E ops masks j m
  | none=>true
theorem jmS {rec:Task→Option Res}{mutb:Bool}{ops:Array Oper}:∀ (l:List Oper) {tmps:List V} {σ:S} {tr:List (List V × V)} {ss:List S} {tf:List V} {σf:S},dRun E rec mutb ops l tmps σ=some (tr,ss,tf,σf)→ss.length≤l.length
 | [],tmps,σ,tr,ss,tf,σf,h=>by simp only [dRun,Kf,Km] at h; rw [← h.2.1]; exact Ku _
 | o::l,tmps,σ,tr,ss,tf,σf,h=>by
  simp only [dRun] at h
  split at h
  ·split at h
   ·rename_i h2
    have:=jmS l h2
    simp only [Kf,Km] at h
    rw [← h.2.1]
    split <;> simp <;> omega
   ·simp at h
  ·simp at h
theorem jnJ {fn:FuncId}{rnd:Option Nat}{id:Nat}{ops:Array Oper}{K:S→Prop}{M:Nat}{n:Nat}{T:Tm}{tmps:List V}{dfs:List DE}{σ:S}{k:Tm→S→Prop}(hp:jcg E ops (jai [] ops.toList)=true)(hM:jo1 E ops (jai [] ops.toList) M=true)(hK:0<M→K σ)
  (hr:Rep n T tmps) (hw:wpM E (E.mutb fn id) n K M ops.toList 0 T σ k) :
  ∃ tf σf T',jaY E (ev E) fn rnd (.region id ops true) tmps dfs σ=some ⟨.normal,tf,dfs,σf⟩∧Rep n T' tf∧k T' σf:=by
 obtain ⟨tr,ss,tf,σf,T',h1,h2,h3,h4,h5⟩:=jkU E (ops:=ops) ops.toList 0 hr hw
 refine ⟨tf,σf,T',?_,h2,h3⟩
 have hsl:=jmS E _ h1
 have hc:jeN E ops (jai [] ops.toList) tr (σ::ss)=true:=by
  unfold jeN
  rw [Kz]
  intro j hj0
  have hj:j<ops.size:=by simpa using hj0
  have hoj:ops[j]? = some ops[j]:=Jj hj
  have hoj2:ops.toList[j]? = some ops[j]:=by rw [Jd]; exact hoj
  obtain ⟨t,v,σ0,σ1,ht,hop,hrd⟩:=h5 j ops[j] hoj2
  simp only [hoj,ht]
  by_cases hs:scOp E ops[j].op=true
  ·simp [hs]
  by_cases hpc:jbc E ops[j].op=true
  ·simp [hpc]
  by_cases ha:(ja3 E (jaU E t) ops[j].op).isSome=true
  ·simp [ha]
  have ha':ja3 E (jaU E t) ops[j].op=none:=by simpa using ha
  have hread:=jho (by simpa using hs) (by simpa using hpc) ha' hop
  have hreads:jaJ ops[j].op=true:=by
   cases hx:jaJ ops[j].op with
   | true=>rfl
   | false=>rw [jfv hx] at hread; simp at hread
  rw [Je]
  right
  rw [Kz]
  intro m hm
  have hm:m<(σ::ss).length:=by simpa using hm
  have hm2:m<ops.size+1:=by simp at hm hsl; omega
  rw [Kw hm]
  cases hal:jeW E ops (jai [] ops.toList) j m with
  | false=>rfl
  | true =>
   have hlt:m<M:=by
    unfold jo1 at hM
    rw [Kz] at hM
    have h6:=hM j hj0
    simp only [hoj,hs,hreads,Qr,Js,Kz] at h6
    have h7:=h6 m (by simpa using hm2)
    rw [hal] at h7
    simpa using h7
   have hKm:K (σ::ss)[m]:=by
    cases m with
    | zero=>exact hK (by omega)
    | succ m =>
     simp only [Jh]
     have hms:m<ss.length:=by simp at hm; omega
     exact h4 m _ (Kw hms) (by omega)
   simp only [hrd hreads _ hKm,V.beq_refl,J2]
 simp only [jaY,hp,Ke,h1,hc]
variable (fn:FuncId)(rnd:Option Nat)(n:Nat)(Q:Post)(ks:List Kt)
def GM (m:Bool)(K:S→Prop)(M:Nat)(l:List Oper)(c:Nat)(T:Tm)(D:List DE)(σ:S):Prop :=
 wpM E m n K M l c T σ fun T σ=>(Kt.post E fn rnd n Q ks).norm T D σ
end
section
variable {E:Env}{fn:FuncId}{rnd:Option Nat}{n:Nat}{Q:Post}{ks:List Kt}{m:Bool}{T:Tm}{D:List DE}{σ:S}
theorem jsy {id:Nat}{l:List Oper}(hs:E.stab fn id=true)(K:S→Prop)(M:Nat)(hK:0<M→K σ)(hp:jcg E l.toArray (jai [] l)=true)(hM:jo1 E l.toArray (jai [] l) M=true)(h:GM E fn rnd n Q ks (E.mutb fn id) K M l 0 T D σ) :
  G E fn rnd n Q ks (.region id l.toArray true) T D σ:=by
 unfold G wpC
 simp only [hs]
 intro tmps hr
 obtain ⟨tf,σf,T',h1,h2,h3⟩:=jnJ E (rnd:=rnd) (dfs:=D) hp hM hK hr h
 exact ⟨_,h1,T',h2,h3⟩
theorem jsz (K:S→Prop)(M c:Nat):GM E fn rnd n Q ks m K M [] c T D σ=G E fn rnd n Q ks .skip T D σ:=rfl
def GMS (E:Env)(fn:FuncId)(rnd:Option Nat)(n:Nat)(Q:Post)(ks:List Kt)(m:Bool)(K:S→Prop)(M:Nat)(l:List Oper)(c:Nat)(T:Tm)(D:List DE)(d:Option Nat)(op:Op)(o:Option (V × S)):Prop :=
 V1 o fun p=>(scOp E op=true→c+1<M→K p.2)∧(jaJ op=true→∀ σ',K σ'→ja8 E (jaM E T) σ' op=some p.1) ∧
  (match d with
   | none=>GM E fn rnd n Q ks m K M l (if scOp E op then c+1 else c) T D p.2
   | some d=>d<n∧GM E fn rnd n Q ks m K M l (if scOp E op then c+1 else c) (upd T d p.1) D p.2)
theorem jtE (K:S→Prop)(M:Nat)(l:List Oper)(c:Nat)(d:Option Nat)(op:Op)(t:TypeId)(p:String)(a:Array Edge):GM E fn rnd n Q ks m K M (⟨d,op,t,p,a,none⟩::l) c T D σ=GMS E fn rnd n Q ks m K M l c T D d op (opT E m T σ op):=rfl
theorem jp9 (K:S→Prop)(M:Nat)(l:List Oper)(c d:Nat)(op:Op)(v:V)(σ':S):GMS E fn rnd n Q ks m K M l c T D (some d) op (some (v,σ'))=((scOp E op=true→c+1<M→K σ')∧(jaJ op=true→∀ s,K s→ja8 E (jaM E T) s op=some v)∧d<n∧GM E fn rnd n Q ks m K M l (if scOp E op then c+1 else c) (upd T d v) D σ'):=by
 unfold GMS V1; simp
theorem jqa (K:S→Prop)(M:Nat)(l:List Oper)(c:Nat)(op:Op)(v:V)(σ':S):GMS E fn rnd n Q ks m K M l c T D none op (some (v,σ'))=((scOp E op=true→c+1<M→K σ')∧(jaJ op=true→∀ s,K s→ja8 E (jaM E T) s op=some v)∧GM E fn rnd n Q ks m K M l (if scOp E op then c+1 else c) T D σ'):=by
 unfold GMS V1; simp
theorem jry (K:S→Prop)(M:Nat)(l:List Oper)(c:Nat)(d:Option Nat)(op:Op)(x:Prop)[Decidable x](o:Option (V × S)):GMS E fn rnd n Q ks m K M l c T D d op (if x then o else none)=(x∧GMS E fn rnd n Q ks m K M l c T D d op o):=by
 by_cases h:x <;> simp [h,GMS,V1]
theorem jqb (K:S→Prop)(M:Nat)(l:List Oper)(c:Nat)(d:Option Nat)(op:Op)(x:Prop)[Decidable x](o:Option (V × S)):GMS E fn rnd n Q ks m K M l c T D d op (if x then none else o)=(¬ x∧GMS E fn rnd n Q ks m K M l c T D d op o):=by
 by_cases h:x <;> simp [h,GMS,V1]
end
set_option linter.unusedSimpArgs false
structure Elt (E:Env) (t e:TypeId) (w nb:Nat):Prop where
 elem:jf0 E t=some e
 size:sz E e=some w
 bytes:bys E e=some nb
 zeros:jjx E e=some w
 slice:E.P.underlying t=some (.slice e)
inductive GrowV (base:Nat) (ts:List Nat) (w:Nat):V→Nat→List V→Prop where
 | nil:GrowV base ts w .nilsl 0 []
 | full (cs:List V) (n:Nat) (hl:cs.length=n * w):GrowV base ts w (.row cs n .full) n cs
 | tok (cs:List V) (n k e:Nat) (hl:cs.length=n * w) (hb:base≤k) (ht:ts[k]? = some e):GrowV base ts w (.row cs n (.tok k e w)) n cs
def Ext (base:Nat)(ts ts':List Nat):Prop:=ts.length≤ts'.length∧∀ k,k<base→ts'[k]? = ts[k]?
theorem Ext.rfl' (base:Nat)(ts:List Nat):Ext base ts ts:=⟨Ku _,fun _ _=>rfl⟩
theorem Ext.trans {b:Nat}{ts t2 t3:List Nat}(h:Ext b ts t2)(g:Ext b t2 t3):Ext b ts t3:=⟨Jr h.1 g.1,fun k hk=>by rw [g.2 k hk,h.2 k hk]⟩
theorem Ext.mono {b c:Nat}{ts ts':List Nat}(h:Ext c ts ts')(hb:b≤c):Ext b ts ts':=⟨h.1,fun k hk=>h.2 k (by omega)⟩
theorem GrowV.ext {base w n:Nat}{ts ts':List Nat}{v:V}{cs:List V}(g:GrowV base ts w v n cs)(h:Ext ts.length ts ts'):GrowV base ts' w v n cs:=by
 cases g with
 | nil=>exact .nil
 | full _ _ hl=>exact .full _ _ hl
 | tok _ _ k e hl hb ht =>
  refine .tok _ _ k e hl hb ?_
  rw [h.2 k (Kr.1 ht).1]; exact ht
theorem GrowV.weakbase {base b2 w n:Nat}{ts:List Nat}{v:V}{cs:List V}(g:GrowV base ts w v n cs)(h:b2≤base):GrowV b2 ts w v n cs:=by
 cases g with
 | nil=>exact .nil
 | full _ _ hl=>exact .full _ _ hl
 | tok _ _ k e hl hb ht=>exact .tok _ _ k e hl (Jr h hb) ht
theorem GrowV.cells {base w n:Nat}{ts:List Nat}{v:V}{cs:List V}(g:GrowV base ts w v n cs):v.cells=[v]∧v.isCell=true:=by cases g <;> exact ⟨rfl,rfl⟩
theorem GrowV.lens {base w n:Nat}{ts:List Nat}{v:V}{cs:List V}(g:GrowV base ts w v n cs):cs.length=n * w:=by cases g <;> simp_all
theorem GrowV.len {base w n:Nat}{ts:List Nat}{v:V}{cs:List V}(g:GrowV base ts w v n cs)(e:TypeId):jbE (some (.slice e)) v=some (.int .i64 n):=by cases g <;> rfl
theorem GrowV.vlen {base w n:Nat}{ts:List Nat}{v:V}{cs:List V}(g:GrowV base ts w v n cs):vLen v=some n:=by cases g <;> rfl
theorem GrowV.vcells {base w n:Nat}{ts:List Nat}{v:V}{cs:List V}(g:GrowV base ts w v n cs)(h:List AObj):ja5 h w n v=some cs:=by
 cases g with
 | nil=>rfl
 | full _ _ hl=>simp only [ja5]; rw [Kh (by omega),Ql (by omega)]
 | tok _ _ k e hl hb ht=>simp only [ja5]; rw [Kh (by omega),Ql (by omega)]
theorem GrowV.isrow {base w n:Nat}{ts:List Nat}{v:V}{cs:List V}(g:GrowV base ts w v n cs)(h:0<n):∃ q,v=.row cs n q:=by
 cases g with
 | nil=>omega
 | full _ _ hl=>exact ⟨_,rfl⟩
 | tok _ _ k e hl hb ht=>exact ⟨_,rfl⟩
theorem GrowV.append {E:Env}{t e t2:TypeId}{base w nb n m:Nat}(he:Elt E t e w nb)(hu:∃ e2,E.P.underlying t2=some (.slice e2)){hp:List AObj}{ts:List Nat}{v y:V}{cs new:List V}(g:GrowV base ts w v n cs)(hb:base≤ts.length)(hy:vLen y=some m)(hc:ja5 hp w m y=some new)(hnl:new.length=m * w)(hcell:new.all V.isCell=true)
  (hlim:(n+m) * nb≤lim∧n+m≤lim):∃ v' ts',appO E false ⟨hp,ts⟩ t t2 v y=some (v',⟨hp,ts'⟩)∧GrowV base ts' w v' (n+m) (cs++new)∧Ext base ts ts':=by
 obtain ⟨e2,hu⟩:=hu
 unfold appO
 simp only [he.elem,he.size,he.bytes,he.zeros,hu,hy,hc,Ko,Ke]
 by_cases hm:m=0
 ·subst hm
  have hn0:new=[]:=Qt (by simpa using hnl)
  subst hn0
  rw [Jk,Xp]
  refine ⟨v,ts,?_,g,.rfl' _ _⟩
  cases g <;> simp [jbJ]
 have hl:(cs++new).length=(n+m) * w:=by rw [Kk,g.lens,hnl,Jg]
 cases g with
 | nil =>
  refine ⟨.row new m (.tok ts.length 0 w),ts++[0],?_,?_,⟨by simp,fun k hk=>by rw [Kn (by omega)]⟩⟩
  ·have h1:m * nb≤lim∧m≤lim:=by simpa using hlim
   simp [jbJ,hm,h1]
  ·rw [Qx,Q8]
   exact .tok _ _ ts.length 0 hnl hb (by simp)
 | full _ _ hl0 =>
  refine ⟨.row (cs++new) (n+m) (.tok ts.length 0 w),ts++[0],?_,.tok _ _ ts.length 0 hl hb (by simp),⟨by simp,fun k hk=>by rw [Kn (by omega)]⟩⟩
  simp only [jbJ]
  rw [Kg hm,Kh ⟨hlim.1,hlim.2,hl0,hcell⟩]
  simp
 | tok _ _ k e hl0 hbk ht =>
  have hkl:=(Kr.1 ht).1
  refine ⟨.row (cs++new) (n+m) (.tok k (e+1) w),ts.set k (e+1),?_,.tok _ _ k (e+1) hl hbk (by simp [hkl]),⟨by simp,fun q hq=>by rw [K0 (by omega)]⟩⟩
  simp only [jbJ]
  rw [Kg hm,Kh ⟨hlim.1,hlim.2,hl0,hcell⟩,Kh ⟨ht,trivial⟩]
theorem GrowV.push {E:Env}{t e t2:TypeId}{base w nb n:Nat}(he:Elt E t e w nb)(hu:∃ e2,E.P.underlying t2=some (.slice e2)){hp:List AObj}{ts:List Nat}{v:V}{cs new:List V}{q:RCap}(g:GrowV base ts w v n cs)(hb:base≤ts.length)(hnl:new.length=w)(hcell:new.all V.isCell=true)
  (hlim:(n+1) * nb≤lim∧n+1≤lim):∃ v' ts',appO E false ⟨hp,ts⟩ t t2 v (.row new 1 q)=some (v',⟨hp,ts'⟩)∧GrowV base ts' w v' (n+1) (cs++new)∧Ext base ts ts' :=
 GrowV.append he hu g hb rfl (by simp only [ja5]; rw [Kh (by omega),Ql (by omega)]) (by simpa using hnl) hcell hlim
theorem Wa:type_of% (Kd @Za (Kd @Zb (Kd @Zc (Kd @Zd (Kd @Ze (Kd @Zf (Kd @Zg (Kd @Zh (Kd @Zi (Kd @Zj (Kd @Zk (@Zl)))))))))))):=Kd @Za (Kd @Zb (Kd @Zc (Kd @Zd (Kd @Ze (Kd @Zf (Kd @Zg (Kd @Zh (Kd @Zi (Kd @Zj (Kd @Zk (@Zl)))))))))))
theorem Wb:type_of% (Kd @Zm (Kd @Zn (Kd @Zq (Kd @Zr (Kd @Zs (Kd @Zt (Kd @Zu (Kd @Zv (Kd @Zw (Kd @Zx (Kd @Zy (@Zz)))))))))))):=Kd @Zm (Kd @Zn (Kd @Zq (Kd @Zr (Kd @Zs (Kd @Zt (Kd @Zu (Kd @Zv (Kd @Zw (Kd @Zx (Kd @Zy (@Zz)))))))))))
theorem Wc:type_of% (Kd @ZA (Kd @ZB (Kd @ZC (Kd @ZD (Kd @ZE (Kd @ZF (Kd @ZG (Kd @ZH (Kd @ZI (Kd @ZJ (Kd @ZK (@ZL)))))))))))):=Kd @ZA (Kd @ZB (Kd @ZC (Kd @ZD (Kd @ZE (Kd @ZF (Kd @ZG (Kd @ZH (Kd @ZI (Kd @ZJ (Kd @ZK (@ZL)))))))))))
theorem Wd:type_of% (Kd @ZM (Kd @ZN (Kd @ZO (Kd @ZP (Kd @ZQ (Kd @ZR (Kd @ZS (Kd @ZT (Kd @ZU (Kd @ZV (Kd @ZW (@ZX)))))))))))):=Kd @ZM (Kd @ZN (Kd @ZO (Kd @ZP (Kd @ZQ (Kd @ZR (Kd @ZS (Kd @ZT (Kd @ZU (Kd @ZV (Kd @ZW (@ZX)))))))))))
theorem We:type_of% (Kd @ZY (Kd @ZZ (Kd @Z0 (Kd @Z1 (Kd @Z2 (Kd @Z3 (Kd @Z4 (Kd @Z5 (Kd @Z6 (Kd @Z7 (Kd @true_and (@Z8)))))))))))):=Kd @ZY (Kd @ZZ (Kd @Z0 (Kd @Z1 (Kd @Z2 (Kd @Z3 (Kd @Z4 (Kd @Z5 (Kd @Z6 (Kd @Z7 (Kd @true_and (@Z8)))))))))))
theorem Wf:type_of% (Kd @Z9 (Kd @jmL (Kd @Ya (Kd @jkP (Kd @Yb (Kd @Yc (Kd @Yd (Kd @Ye (Kd @Yf (Kd @Yg (Kd @Yh (@Yi)))))))))))):=Kd @Z9 (Kd @jmL (Kd @Ya (Kd @jkP (Kd @Yb (Kd @Yc (Kd @Yd (Kd @Ye (Kd @Yf (Kd @Yg (Kd @Yh (@Yi)))))))))))
theorem Wg:type_of% (Kd @Yj (Kd @Yk (Kd @Yl (Kd @Ym (Kd @Yn (Kd @Yo (Kd @Yp (Kd @Yq (Kd @Yr (Kd @Yt (Kd @Yu (@Yv)))))))))))):=Kd @Yj (Kd @Yk (Kd @Yl (Kd @Ym (Kd @Yn (Kd @Yo (Kd @Yp (Kd @Yq (Kd @Yr (Kd @Yt (Kd @Yu (@Yv)))))))))))
theorem Wh:type_of% (Kd @Yw (Kd @List.getD_cons_zero.{0} (Kd @Vg.{0} (Kd @J1.{0} (Kd @Qw.{0} (Kd @K9.{0} (Kd @Q8.{0} (Kd @Jq.{0} (Kd @Jk.{0} (Kd @Yx (Kd @Yy (@J3)))))))))))):=Kd @Yw (Kd @List.getD_cons_zero.{0} (Kd @Vg.{0} (Kd @J1.{0} (Kd @Qw.{0} (Kd @K9.{0} (Kd @Q8.{0} (Kd @Jq.{0} (Kd @Jk.{0} (Kd @Yx (Kd @Yy (@J3)))))))))))
theorem Wi:type_of% (Kd @Yz (Kd @YA (Kd @YB (Kd @YC (Kd @YD (Kd @YE (Kd @YF (Kd @YG (Kd @YH (Kd @YI (Kd @YJ (@YK)))))))))))):=Kd @Yz (Kd @YA (Kd @YB (Kd @YC (Kd @YD (Kd @YE (Kd @YF (Kd @YG (Kd @YH (Kd @YI (Kd @YJ (@YK)))))))))))
theorem Wj:type_of% (Kd @YL (Kd @YM (Kd @YN (Kd @YO (Kd @List.append_eq.{0} (Kd @YP (Kd @YQ (Kd @YR (Kd @YS (Kd @YT (Kd @YU (@YV)))))))))))):=Kd @YL (Kd @YM (Kd @YN (Kd @YO (Kd @List.append_eq.{0} (Kd @YP (Kd @YQ (Kd @YR (Kd @YS (Kd @YT (Kd @YU (@YV)))))))))))
theorem Wk:type_of% (Kd @YW (Kd @YX (Kd @Xp (Kd @YY (Kd @YZ (Kd @Y1 (Kd @Y2 (Kd @Y3 (Kd @Qf (Kd @Kj (Kd @Q5 (@and_self)))))))))))):=Kd @YW (Kd @YX (Kd @Xp (Kd @YY (Kd @YZ (Kd @Y1 (Kd @Y2 (Kd @Y3 (Kd @Qf (Kd @Kj (Kd @Q5 (@and_self)))))))))))
theorem Wl:type_of% (Kd @Y4 (Kd @Y5 (Kd @Jw (Kd @Int.cast_ofNat_Int (Kd @not_true_eq_false (Kd @decide_true (Kd @decide_false (Kd @true_implies (Kd @false_implies (Kd @Int.toNat_zero (Kd @K7.{0} (@Qg.{0})))))))))))):=Kd @Y4 (Kd @Y5 (Kd @Jw (Kd @Int.cast_ofNat_Int (Kd @not_true_eq_false (Kd @decide_true (Kd @decide_false (Kd @true_implies (Kd @false_implies (Kd @Int.toNat_zero (Kd @K7.{0} (@Qg.{0})))))))))))
theorem Wm:type_of% (Kd @Qx (Kd @Bool.false_and (Kd @Bool.and_false (Kd @Y6 (Kd @Y7 (Kd @Y8 (Kd @Y9 (Kd @Qa (Kd @Qb (Kd @Qc (Kd @J0 (@Js)))))))))))):=Kd @Qx (Kd @Bool.false_and (Kd @Bool.and_false (Kd @Y6 (Kd @Y7 (Kd @Y8 (Kd @Y9 (Kd @Qa (Kd @Qb (Kd @Qc (Kd @J0 (@Js)))))))))))
theorem Wn:type_of% (Kd @Jz (Kd @J2 (Kd @X9 (Kd @Qd (@Qe))))):=Kd @Jz (Kd @J2 (Kd @X9 (Kd @Qd (@Qe))))
theorem Kb : type_of% (Kd @Wa (Kd @Wb (Kd @Wc (Kd @Wd (Kd @We (Kd @Wf (Kd @Wg (Kd @Wh (Kd @Wi (Kd @Wj (Kd @Wk (Kd @Wl (Kd @Wm (@Wn)))))))))))))) := Kd @Wa (Kd @Wb (Kd @Wc (Kd @Wd (Kd @We (Kd @Wf (Kd @Wg (Kd @Wh (Kd @Wi (Kd @Wj (Kd @Wk (Kd @Wl (Kd @Wm (@Wn)))))))))))))
theorem Ka : type_of% (Kd @Wa (Kd @Wb (Kd @Wc (Kd @Wd (Kd @We (Kd @Wf (Kd @Wg (Kd @Wh (Kd @Wi (Kd @Wj (Kd @Wk (Kd @Wl (Kd @Wm (Kd @Wn (Kd @Zo (@Zp)))))))))))))))) := Kd @Wa (Kd @Wb (Kd @Wc (Kd @Wd (Kd @We (Kd @Wf (Kd @Wg (Kd @Wh (Kd @Wi (Kd @Wj (Kd @Wk (Kd @Wl (Kd @Wm (Kd @Wn (Kd @Zo (@Zp)))))))))))))))
theorem Va:type_of% (Kd @Q1.{0} (Kd @Q6.{0} (Kd @Qq.{0} (Kd @K2.{0} (Kd @Jl.{0} (Kd @K3.{0} (Kd @Qn.{0} (Kd @Jx.{0} (Kd @List.set_cons_succ.{0} (Kd @jkS (@jja))))))))))):=Kd @Q1.{0} (Kd @Q6.{0} (Kd @Qq.{0} (Kd @K2.{0} (Kd @Jl.{0} (Kd @K3.{0} (Kd @Qn.{0} (Kd @Jx.{0} (Kd @List.set_cons_succ.{0} (Kd @jkS (@jja))))))))))
theorem Vq:(∀ (E:Env) (T:Tm) (t:Tmp),jaM E T (.tmp t)=some (T t))∧(∀ (E:Env) (T:Tm) (v:Value),jaM E T (.const v)=jfL v)∧(∀ (E:Env) (T:Tm) g,jaM E T (.global g)=E.gl g)∧(∀ (E:Env) (T:Tm) f,jaM E T (.func f)=some (.func f [] []))∧(∀ b,jfL (.bool b)=some (.bool b))∧(∀ k n,jfL (.int k n)=some (.int k n))∧(∀ s,jfL (.string s)=some (.str s.data.toList))∧jfL (.pointer none)=some .nilptr∧jfL (.slice none 0 0)=some .nilsl∧jfL .nilFunc=some .nilfn∧jfL .nilIface=some .nilif∧jfL (.map none)=some .nilmap∧(∀ l t,argT l t=l.getD t (.tup []))∧(∀ (E:Env) T h,resT E T h []=some [])∧(∀ (E:Env) T h t r,resT E T h (.tmp t::r)=(resT E T h r).map (T t :: ·))∧(∀ (E:Env) T h a t r,resT E T h (.cell a t::r)=(jaS E h t (T a)).bind fun v=>(resT E T h r).map (v :: ·))∧(∀ T,setT T []=T)∧(∀ T t v r,setT T ((t,v)::r)=setT (upd T t v) r) :=
 ⟨fun _ _ _=>rfl,fun _ _ _=>rfl,fun _ _ _=>rfl,fun _ _ _=>rfl,fun _=>rfl,fun _ _=>rfl,fun _=>rfl,rfl,rfl,rfl,rfl,rfl,fun _ _=>rfl,fun _ _ _=>rfl,fun _ _ _ _ _=>rfl,fun _ _ _ _ _ _=>rfl,fun _=>rfl,fun _ _ _ _=>rfl⟩
end Go.Ab
