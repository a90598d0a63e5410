/- Proved here: more rules for stepping. Conditions: those of each theorem; no statement of the seat is proved in this text. -/
import Derived.Test.YtbikmhpobflfeaaDoorAbD
import Derived.IntWalk
namespace Go.Ab
inductive Kt where
  | code (c : Code)
  | blk (id : Nat)
section
variable (E : Env) (fn : FuncId) (rnd : Option Nat) (n : Nat)
def Kt.post (Q : Post) : List Kt → Post
  | [] => Q
  | .code b :: r => ⟨fun T D σ => wpC E fn rnd n b T D σ (Kt.post Q r), (Kt.post Q r).exit, (Kt.post Q r).ret⟩
  | .blk id :: r => ⟨(Kt.post Q r).norm, fun i T D σ => if i = id then (Kt.post Q r).norm T D σ else (Kt.post Q r).exit i T D σ, (Kt.post Q r).ret⟩
def G (Q : Post) (ks : List Kt) (c : Code) (T : Tm) (D : List DE) (σ : S) : Prop := wpC E fn rnd n c T D σ (Kt.post E fn rnd n Q ks)
def GL (Q : Post) (ks : List Kt) (m : Bool) (ops : Array Oper) (l : List Oper) (T : Tm) (D : List DE) (σ : S) : Prop :=
  wpL E m n ops l T σ fun T σ => (Kt.post E fn rnd n Q ks).norm T D σ
def GS (Q : Post) (ks : List Kt) (m : Bool) (ops : Array Oper) (l : List Oper) (T : Tm) (D : List DE) (d : Nat) (o : Option (V × S)) : Prop :=
  V1 o fun p => GL E fn rnd n Q ks m ops l (upd T d p.1) D p.2
def GN (Q : Post) (ks : List Kt) (m : Bool) (ops : Array Oper) (l : List Oper) (T : Tm) (D : List DE) (o : Option (V × S)) : Prop :=
  V1 o fun p => GL E fn rnd n Q ks m ops l T D p.2
def GB (Q : Post) (ks : List Kt) (a b : Code) (T : Tm) (D : List DE) (σ : S) (t : Nat) (v : V) : Prop :=
  Br v (G E fn rnd n Q ks a (upd T t (.bool true)) D σ) (G E fn rnd n Q ks b (upd T t (.bool false)) D σ)
def GG (Q : Post) (ks : List Kt) (m : Bool) (ops : Array Oper) (l : List Oper) (T : Tm) (D : List DE) (σ : S) (d : Nat) (op : Op) (b : Bool) (g : Nat) (v : V) : Prop :=
  Br3 v
    (match b with
      | true => GS E fn rnd n Q ks m ops l (upd T g (.bool true)) D d (opT E m (upd T g (.bool true)) σ op)
      | false => GL E fn rnd n Q ks m ops l (upd (upd T g (.bool true)) d (.tup [])) D σ)
    (match b with
      | true => GL E fn rnd n Q ks m ops l (upd (upd T g (.bool false)) d (.tup [])) D σ
      | false => GS E fn rnd n Q ks m ops l (upd T g (.bool false)) D d (opT E m (upd T g (.bool false)) σ op))
    (GL E fn rnd n Q ks m ops l (upd T d (.tup [])) D σ)
end
section
variable {E : Env} {fn : FuncId} {rnd : Option Nat} {n : Nat} {Q : Post} {ks : List Kt} {m : Bool} {ops : Array Oper} {l : List Oper} {T : Tm} {D : List DE} {σ : S}
theorem G_start {c : Code} (h : G E fn rnd n Q [] c T D σ) : wpC E fn rnd n c T D σ Q := h
theorem Za (a b : Code) : G E fn rnd n Q ks (.seq a b) T D σ = G E fn rnd n Q (.code b :: ks) a T D σ := rfl
theorem Zb (id : Nat) (c : Code) : G E fn rnd n Q ks (.block id c) T D σ = G E fn rnd n Q (.blk id :: ks) c T D σ := rfl
theorem Zc (c : Code) : G E fn rnd n Q (.code c :: ks) .skip T D σ = G E fn rnd n Q ks c T D σ := rfl
theorem Zd (id : Nat) : G E fn rnd n Q (.blk id :: ks) .skip T D σ = G E fn rnd n Q ks .skip T D σ := rfl
theorem Ze : G E fn rnd n Q [] .skip T D σ = Q.norm T D σ := rfl
theorem Zf (c : Code) (i : Nat) : G E fn rnd n Q (.code c :: ks) (.exit i) T D σ = G E fn rnd n Q ks (.exit i) T D σ := rfl
theorem Zg (id i : Nat) : G E fn rnd n Q (.blk id :: ks) (.exit i) T D σ = if i = id then G E fn rnd n Q ks .skip T D σ else G E fn rnd n Q ks (.exit i) T D σ := rfl
theorem Zh (i : Nat) : G E fn rnd n Q [] (.exit i) T D σ = Q.exit i T D σ := rfl
theorem Zi (c : Code) : G E fn rnd n Q (.code c :: ks) .ret T D σ = G E fn rnd n Q ks .ret T D σ := rfl
theorem Zj (id : Nat) : G E fn rnd n Q (.blk id :: ks) .ret T D σ = G E fn rnd n Q ks .ret T D σ := rfl
theorem Zk : G E fn rnd n Q [] .ret T D σ = Q.ret T D σ := rfl
theorem Zl (t : Nat) (a b : Code) : G E fn rnd n Q ks (.cond (.tmp t) a b) T D σ = (t < n ∧ GB E fn rnd n Q ks a b T D σ t (T t)) := rfl
theorem Zm (v : Bool) (a b : Code) : G E fn rnd n Q ks (.cond (.const (.bool v)) a b) T D σ = if v then G E fn rnd n Q ks a T D σ else G E fn rnd n Q ks b T D σ := by
  show V1 (some (V.bool v)) _ = _
  rw [Yy]
  cases v
  · exact Br_false _ _
  · exact Br_true _ _
theorem Zn (c : Code) : G E fn rnd n Q ks (.loop c) T D σ = wpLoop E fn rnd n c T D σ (Kt.post E fn rnd n Q ks) := rfl
theorem Qd (c : Code) : G E fn rnd n Q ks (.scope c) T D σ = G E fn rnd n Q ks c T D σ := rfl
theorem Qe (l : Nat) : G E fn rnd n Q ks (.label l) T D σ = G E fn rnd n Q ks .skip T D σ := rfl
theorem Zo (id : Nat) (l : List Oper) : G E fn rnd n Q ks (.region id l.toArray false) T D σ = GL E fn rnd n Q ks (E.mutb fn id) l.toArray l T D σ := rfl
theorem Zp (id : Nat) (l : List Oper) (hs : E.stab fn id = false) : G E fn rnd n Q ks (.region id l.toArray true) T D σ = (drawOK E l.toArray = true ∧ GL E fn rnd n Q ks (E.mutb fn id) l.toArray l T D σ) := by
  unfold G wpC
  simp only [hs]
  rfl
def GK (E : Env) (fn : FuncId) (rnd : Option Nat) (n : Nat) (Q : Post) (ks : List Kt) (m : Bool) (K : S → Prop) (l : List Oper) (T : Tm) (D : List DE) (σ : S) : Prop :=
  wpS E m n K l T σ fun T σ => (Kt.post E fn rnd n Q ks).norm T D σ
def GKS (E : Env) (fn : FuncId) (rnd : Option Nat) (n : Nat) (Q : Post) (ks : List Kt) (m : Bool) (K : S → Prop) (l : List Oper) (T : Tm) (D : List DE) (d : Option Nat) (op : Op) (o : Option (V × S)) : Prop :=
  V1 o fun p => (scOp E op = true → K p.2) ∧ (readsOp op = true → ∀ σ', K σ' → aread E (evalT E T) σ' op = some p.1) ∧
    (match d with
      | none => GK E fn rnd n Q ks m K l T D p.2
      | some d => d < n ∧ GK E fn rnd n Q ks m K l (upd T d p.1) D p.2)
theorem Y7 (K : S → Prop) : GK E fn rnd n Q ks m K [] T D σ = G E fn rnd n Q ks .skip T D σ := rfl
theorem Y8 (K : S → Prop) (d : Option Nat) (op : Op) (t : TypeId) (p : String) (a : Array Edge) : GK E fn rnd n Q ks m K (⟨d, op, t, p, a, none⟩ :: l) T D σ = GKS E fn rnd n Q ks m K l T D d op (opT E m T σ op) := rfl
theorem Y9 (K : S → Prop) (d : Nat) (op : Op) (v : V) (σ' : S) : GKS E fn rnd n Q ks m K l T D (some d) op (some (v, σ')) = ((scOp E op = true → K σ') ∧ (readsOp op = true → ∀ s, K s → aread E (evalT E T) s op = some v) ∧ d < n ∧ GK E fn rnd n Q ks m K l (upd T d v) D σ') := by
  simp only [GKS, Yy]
theorem Qa (K : S → Prop) (op : Op) (v : V) (σ' : S) : GKS E fn rnd n Q ks m K l T D none op (some (v, σ')) = ((scOp E op = true → K σ') ∧ (readsOp op = true → ∀ s, K s → aread E (evalT E T) s op = some v) ∧ GK E fn rnd n Q ks m K l T D σ') := by
  simp only [GKS, Yy]
theorem Qb (K : S → Prop) (d : Option Nat) (op : Op) (c : Prop) [Decidable c] (o : Option (V × S)) : GKS E fn rnd n Q ks m K l T D d op (if c then o else none) = (c ∧ GKS E fn rnd n Q ks m K l T D d op o) := by simp only [GKS, V1_ite]
theorem Qc (K : S → Prop) (d : Option Nat) (op : Op) (c : Prop) [Decidable c] (o : Option (V × S)) : GKS E fn rnd n Q ks m K l T D d op (if c then none else o) = (¬ c ∧ GKS E fn rnd n Q ks m K l T D d op o) := by simp only [GKS, V1_nite]
theorem Zq : GL E fn rnd n Q ks m ops [] T D σ = G E fn rnd n Q ks .skip T D σ := rfl
theorem Zr (d : Nat) (op : Op) (t : TypeId) (p : String) (a : Array Edge) : GL E fn rnd n Q ks m ops (⟨some d, op, t, p, a, none⟩ :: l) T D σ = (d < n ∧ GS E fn rnd n Q ks m ops l T D d (opT E m T σ op)) := rfl
theorem Zs (op : Op) (t : TypeId) (p : String) (a : Array Edge) : GL E fn rnd n Q ks m ops (⟨none, op, t, p, a, none⟩ :: l) T D σ = GN E fn rnd n Q ks m ops l T D (opT E m T σ op) := rfl
theorem Zt (d : Nat) (op : Op) (t : TypeId) (p : String) (a : Array Edge) (j : Nat) (b : Bool) : GL E fn rnd n Q ks m ops (⟨some d, op, t, p, a, some (j, b)⟩ :: l) T D σ =
    V1 ((ops[j]?).bind (·.dst)) fun g => g < n ∧ d < n ∧ GG E fn rnd n Q ks m ops l T D σ d op b g (T g) := by
  unfold GL GG GS
  refine congrArg (V1 _) (funext fun g => ?_)
  by_cases hd : d < n
  · cases b <;> simp only [hd, true_and] <;> rfl
  · cases b <;> simp only [hd, false_and, and_false, Br3_none]
theorem Y1 : (Kt.post E fn rnd n Q ks).norm T D σ = G E fn rnd n Q ks .skip T D σ := rfl
theorem Y2 (i : Nat) : (Kt.post E fn rnd n Q ks).exit i T D σ = G E fn rnd n Q ks (.exit i) T D σ := rfl
theorem Y3 : (Kt.post E fn rnd n Q ks).ret T D σ = G E fn rnd n Q ks .ret T D σ := rfl
theorem Zu (d : Nat) (v : V) (σ' : S) : GS E fn rnd n Q ks m ops l T D d (some (v, σ')) = GL E fn rnd n Q ks m ops l (upd T d v) D σ' := by simp only [GS, Yy]
theorem Zv (d : Nat) (c : Prop) [Decidable c] (o : Option (V × S)) : GS E fn rnd n Q ks m ops l T D d (if c then o else none) = (c ∧ GS E fn rnd n Q ks m ops l T D d o) := by simp only [GS, V1_ite]
theorem Zw (d : Nat) (c : Prop) [Decidable c] (o : Option (V × S)) : GS E fn rnd n Q ks m ops l T D d (if c then none else o) = (¬ c ∧ GS E fn rnd n Q ks m ops l T D d o) := by simp only [GS, V1_nite]
theorem Zx (v : V) (σ' : S) : GN E fn rnd n Q ks m ops l T D (some (v, σ')) = GL E fn rnd n Q ks m ops l T D σ' := by simp only [GN, Yy]
theorem Zy (c : Prop) [Decidable c] (o : Option (V × S)) : GN E fn rnd n Q ks m ops l T D (if c then o else none) = (c ∧ GN E fn rnd n Q ks m ops l T D o) := by simp only [GN, V1_ite]
theorem Zz (c : Prop) [Decidable c] (o : Option (V × S)) : GN E fn rnd n Q ks m ops l T D (if c then none else o) = (¬ c ∧ GN E fn rnd n Q ks m ops l T D o) := by simp only [GN, V1_nite]
theorem ZA (a b : Code) (t : Nat) : GB E fn rnd n Q ks a b T D σ t (.bool true) = G E fn rnd n Q ks a (upd T t (.bool true)) D σ := Br_true _ _
theorem ZB (a b : Code) (t : Nat) : GB E fn rnd n Q ks a b T D σ t (.bool false) = G E fn rnd n Q ks b (upd T t (.bool false)) D σ := Br_false _ _
theorem ZC (a b : Code) (t : Nat) (p : Prop) [Decidable p] : GB E fn rnd n Q ks a b T D σ t (.bool (decide p)) = ((p → G E fn rnd n Q ks a (upd T t (.bool true)) D σ) ∧ (¬ p → G E fn rnd n Q ks b (upd T t (.bool false)) D σ)) := by
  simp only [GB, Br_bool, decide_eq_true_eq, decide_eq_false_iff_not]
theorem ZD (d : Nat) (op : Op) (b : Bool) (g : Nat) : GG E fn rnd n Q ks m ops l T D σ d op b g (.tup []) = GL E fn rnd n Q ks m ops l (upd T d (.tup [])) D σ := Br3_tup _ _ _
theorem ZE (d : Nat) (op : Op) (g : Nat) : GG E fn rnd n Q ks m ops l T D σ d op true g (.bool true) = GS E fn rnd n Q ks m ops l (upd T g (.bool true)) D d (opT E m (upd T g (.bool true)) σ op) := Br3_true _ _ _
theorem ZF (d : Nat) (op : Op) (g : Nat) : GG E fn rnd n Q ks m ops l T D σ d op true g (.bool false) = GL E fn rnd n Q ks m ops l (upd (upd T g (.bool false)) d (.tup [])) D σ := Br3_false _ _ _
theorem ZG (d : Nat) (op : Op) (g : Nat) : GG E fn rnd n Q ks m ops l T D σ d op false g (.bool true) = GL E fn rnd n Q ks m ops l (upd (upd T g (.bool true)) d (.tup [])) D σ := Br3_true _ _ _
theorem ZH (d : Nat) (op : Op) (g : Nat) : GG E fn rnd n Q ks m ops l T D σ d op false g (.bool false) = GS E fn rnd n Q ks m ops l (upd T g (.bool false)) D d (opT E m (upd T g (.bool false)) σ op) := Br3_false _ _ _
theorem ZI (d : Nat) (op : Op) (g : Nat) (p : Prop) [Decidable p] : GG E fn rnd n Q ks m ops l T D σ d op true g (.bool (decide p)) = ((p → GS E fn rnd n Q ks m ops l (upd T g (.bool true)) D d (opT E m (upd T g (.bool true)) σ op)) ∧ (¬ p → GL E fn rnd n Q ks m ops l (upd (upd T g (.bool false)) d (.tup [])) D σ)) := by
  simp only [GG, Br3_bool, decide_eq_true_eq, decide_eq_false_iff_not]
theorem ZJ (d : Nat) (op : Op) (g : Nat) (p : Prop) [Decidable p] : GG E fn rnd n Q ks m ops l T D σ d op false g (.bool (decide p)) = ((p → GL E fn rnd n Q ks m ops l (upd (upd T g (.bool true)) d (.tup [])) D σ) ∧ (¬ p → GS E fn rnd n Q ks m ops l (upd T g (.bool false)) D d (opT E m (upd T g (.bool false)) σ op))) := by
  simp only [GG, Br3_bool, decide_eq_true_eq, decide_eq_false_iff_not]
end
section
variable {E : Env} {m : Bool} {T : Tm} {σ : S}
theorem opT_of_pure {op : Op} (h : aread E (evalT E T) σ op = none) (h2 : astate E m (evalT E T) σ op = none) (h3 : ∀ c, op ≠ .call c) : opT E m T σ op = (apure E (evalT E T) op).map fun v => (v, σ) := by
  unfold opT
  cases hp : apure E (evalT E T) op with
  | some v => rfl
  | none =>
    simp only [h, Option.map_none]
    split
    · exact absurd rfl (h3 _)
    · exact absurd rfl (h3 _)
    · exact h2
theorem ZK (x : Operand) : opT E m T σ (.move x) = (evalT E T x).map fun v => (v, σ) := opT_of_pure rfl rfl (fun _ h => by cases h)
theorem ZL (x : Operand) : opT E m T σ (.assign x) = (evalT E T x).map fun v => (v, σ) := opT_of_pure rfl rfl (fun _ h => by cases h)
def pickO (c a b : Option V) : Option V := match c with | some (.bool t) => a.bind fun x => b.bind fun y => some (if t then x else y) | _ => none
theorem ZN (a b : V) : pickO (some (.bool true)) (some a) (some b) = some a := rfl
theorem ZO (a b : V) : pickO (some (.bool false)) (some a) (some b) = some b := rfl
theorem ZM (c a b : Operand) : opT E m T σ (.pick c a b) = (pickO (evalT E T c) (evalT E T a) (evalT E T b)).map fun v => (v, σ) := by
  rw [opT_of_pure rfl rfl (fun _ h => by cases h)]
  simp only [apure, pickO]
  cases evalT E T c with
  | none => rfl
  | some u => cases u <;> rfl
def binO (E : Env) (t : TypeId) (c : Bool) (op : BinOp) (x y : Option V) : Option V := x.bind fun a => y.bind fun b => vBinE E t c op a b
theorem vBinE_of {E : Env} {t : TypeId} {c : Bool} {op : BinOp} {a b : V} (h : vBinA E t op a b = none) : vBinE E t c op a b = vBinT (E.P.underlying t) c op a b := by
  unfold vBinE
  rw [h]
  cases vBinT (E.P.underlying t) c op a b <;> rfl
theorem ZQ (E : Env) (t : TypeId) (c : Bool) (op : BinOp) (k k' : IntKind) (a b : Int) : binO E t c op (some (.int k a)) (some (.int k' b)) = vBinT (E.P.underlying t) c op (.int k a) (.int k' b) := vBinE_of (by cases op <;> rfl)
theorem ZR (E : Env) (t : TypeId) (c : Bool) (op : BinOp) (a b : List UInt8) : binO E t c op (some (.str a)) (some (.str b)) = vBinT (E.P.underlying t) c op (.str a) (.str b) := vBinE_of (by cases op <;> rfl)
theorem ZS (E : Env) (t : TypeId) (c : Bool) (op : BinOp) (a b : Bool) : binO E t c op (some (.bool a)) (some (.bool b)) = vBinT (E.P.underlying t) c op (.bool a) (.bool b) := vBinE_of (by cases op <;> rfl)
theorem ZP (op : BinOp) (t u : TypeId) (x y : Operand) : opT E m T σ (.binOp op t x y u) = (binO E t (isConst x || isConst y) op (evalT E T x) (evalT E T y)).map fun v => (v, σ) :=
  opT_of_pure rfl rfl (fun _ h => by cases h)
theorem ZT (op : UnOp) (t : TypeId) (x : Operand) : opT E m T σ (.unOp op t x) = ((evalT E T x).bind (vUn op)).map fun v => (v, σ) :=
  opT_of_pure rfl rfl (fun _ h => by cases h)
def extrO (i : Nat) : V → Option V
  | .tup vs => vs[i]?
  | _ => none
theorem ZV (i : Nat) (vs : List V) : extrO i (.tup vs) = vs[i]? := rfl
theorem ZU (x : Operand) (i : Nat) : opT E m T σ (.extract x i) = ((evalT E T x).bind (extrO i)).map fun v => (v, σ) :=
  opT_of_pure rfl rfl (fun _ h => by cases h)
def idxO (d : Option TypeDesc) (s : TypeId → Option Nat) (v i : Option V) : Option V := v.bind fun v => i.bind fun i => match d with
    | some (.slice e) => (s e).bind fun s => vIndexAddr s v i
    | some (.array n e) => (s e).bind fun s => vIndexArr n s v i
    | _ => none
theorem ZX (e : TypeId) (s : TypeId → Option Nat) (v i : V) : idxO (some (.slice e)) s (some v) (some i) = (s e).bind fun s => vIndexAddr s v i := rfl
theorem ZW (t : TypeId) (x ix : Operand) : opT E m T σ (.indexAddr t x ix) = (idxO (E.P.underlying t) (sz E) (evalT E T x) (evalT E T ix)).map fun v => (v, σ) :=
  opT_of_pure rfl rfl (fun _ h => by cases h)
theorem ZY (t : TypeId) (x : Operand) : opT E m T σ (.load t x) = ((evalT E T x).bind (aload E σ.heap t)).map fun v => (v, σ) := by
  unfold opT
  simp only [apure, aread, astate]
  cases evalT E T x with
  | none => rfl
  | some p => cases h : aload E σ.heap t p <;> simp only [Option.bind_some, Option.map_some, Option.map_none, h]
theorem YZ (t : TypeId) : opT E m T σ (.alloc t) = (zeroV E t).map fun z => (.ptr σ.heap.length 0, σ.push (.cells z.cells t)) := rfl
theorem YY (t : TypeId) (x : Operand) : opT E m T σ (.box t x) = (evalT E T x).map fun v => (.ptr σ.heap.length 0, σ.push (.cells v.cells t)) := rfl
theorem YC (t : TypeId) (a x : Operand) : opT E m T σ (.store t a x) = (evalT E T a).bind fun p => (evalT E T x).bind fun v => (sz E t).bind fun s =>
      if v.cells.length = s then (storeCellsV σ v.cells p).map fun σ' => (.tup [], σ') else none := rfl
theorem YP (f : FuncId) (a c : Array Operand) : opT E m T σ (.makeFunc (.func f) a c) = ((listO (evalT E T) a.toList).bind fun a => (listO (evalT E T) c.toList).map fun c => .func f a c).map fun v => (v, σ) :=
  opT_of_pure rfl rfl (fun _ h => by cases h)
theorem ZZ (g : Operand) (as : Array Operand) (ts : Array TypeId) : opT E m T σ (.call ⟨.value g, as, ts⟩) = (evalT E T g).bind fun gv => (listO (evalT E T) as.toList).bind fun vs => callV E (ev E) gv vs σ := rfl
def lenM (σ : S) (d : Option TypeDesc) (v : V) : Option (V × S) :=
  match d, v with
  | some (.map _ _), .nilmap => some (.int .i64 0, σ)
  | some (.map _ _), .map b =>
    match σ.heap[b]? with
    | some (.map es _) => some (.int .i64 es.length, σ)
    | _ => none
  | _, _ => none
def lenO (σ : S) (d : Option TypeDesc) (v : V) : Option (V × S) :=
  match vLenT d v with
  | some r => some (r, σ)
  | none => lenM σ d v
theorem Z1 (σ : S) (e : TypeId) (v : V) : lenO σ (some (.slice e)) v = (vLenT (some (.slice e)) v).map fun r => (r, σ) := by
  unfold lenO
  cases vLenT (some (.slice e)) v <;> rfl
theorem Z2 (σ : S) (v : V) : lenO σ (some .string) v = (vLenT (some .string) v).map fun r => (r, σ) := by
  unfold lenO
  cases vLenT (some .string) v <;> rfl
theorem lenO_map (σ : S) (k e : TypeId) (b : Nat) {es : List (V × V × Nat)} {c : Nat} (h : σ.heap[b]? = some (.map es c)) : lenO σ (some (.map k e)) (.map b) = some (.int .i64 es.length, σ) := by
  simp only [lenO, vLenT, lenM, h]
theorem Z0 (x : Operand) (t : TypeId) : opT E m T σ (.call ⟨.builtin .len, #[x], #[t]⟩) = (evalT E T x).bind (lenO σ (E.P.underlying t)) := by
  unfold opT
  simp only [apure, aread, astate, listO, Option.map_some]
  cases evalT E T x with
  | none => rfl
  | some v =>
    simp only [Option.bind_some, List.getElem?_toArray, List.getElem?_cons_zero]
    unfold lenO lenM
    cases h : vLenT (E.P.underlying t) v <;> rfl
theorem YL (as : Array Operand) (ts : Array TypeId) : opT E m T σ (.call ⟨.builtin .max, as, ts⟩) = ((listO (evalT E T) as.toList).bind (vMinMax true)).map fun v => (v, σ) := by
  unfold opT
  simp only [apure, aread, astate]
  cases (listO (evalT E T) as.toList).bind (vMinMax true) <;> rfl
theorem YM (as : Array Operand) (ts : Array TypeId) : opT E m T σ (.call ⟨.builtin .min, as, ts⟩) = ((listO (evalT E T) as.toList).bind (vMinMax false)).map fun v => (v, σ) := by
  unfold opT
  simp only [apure, aread, astate]
  cases (listO (evalT E T) as.toList).bind (vMinMax false) <;> rfl
theorem YN (k : IntKind) (a b : Int) : vMinMax true [.int k a, .int k b] = some (.int k (if b > a then b else a)) := rfl
theorem YO (k : IntKind) (a b : Int) : vMinMax false [.int k a, .int k b] = some (.int k (if b < a then b else a)) := rfl
def fldOff (E : Env) (t : TypeId) (f : Nat) : Option Nat :=
  match E.P.underlying t with
  | some (.struct fields) => (fields[f]?).bind fun fd => (sz E fd.type).bind fun s => if s = 0 then none else some fd.offset
  | _ => none
theorem YQ (t : TypeId) (x : Operand) (f : Nat) : opT E m T σ (.fieldAddr t x f) = (evalT E T x).bind fun v => (fldOff E t f).bind fun off => (vFieldAddr off v).map fun v => (v, σ) := by
  rw [opT_of_pure rfl rfl (fun _ h => by cases h)]
  simp only [apure, fldOff]
  cases evalT E T x with
  | none => rfl
  | some v =>
    simp only [Option.bind_some]
    cases E.P.underlying t with
    | none => rfl
    | some d =>
      cases d <;> try rfl
      rename_i fields
      simp only
      cases fields[f]? with
      | none => rfl
      | some fd =>
        simp only [Option.bind_some]
        cases sz E fd.type with
        | none => rfl
        | some s =>
          simp only [Option.bind_some]
          by_cases hs : s = 0 <;> simp [hs]
def buildO (E : Env) (t : TypeId) (ps : List (Nat × V)) : Option V := (zeroV E t).bind fun z => (placesOf E t).bind fun pl => (vFill pl z.cells ps).map .agg
theorem YR (t : TypeId) (parts : Array (Nat × Operand)) : opT E m T σ (.build t parts) = (partsO (evalT E T) parts.toList).bind fun ps => (buildO E t ps).map fun v => (v, σ) := by
  rw [opT_of_pure rfl rfl (fun _ h => by cases h)]
  simp only [apure, buildO]
  cases partsO (evalT E T) parts.toList <;> rfl
theorem YS (ρ : Operand → Option V) : partsO ρ [] = some [] := rfl
theorem YT (ρ : Operand → Option V) (i : Nat) (x : Operand) (r : List (Nat × Operand)) : partsO ρ ((i, x) :: r) = (ρ x).bind fun v => (partsO ρ r).map fun l => (i, v) :: l := rfl
theorem YU (off b o : Nat) : vFieldAddr off (.ptr b o) = some (.ptr b (o + off)) := rfl
theorem YV (off : Nat) (cs : List V) : vFieldAddr off (.rptr cs) = some (.rptr (cs.drop off)) := rfl
theorem YW (cs : List V) : (V.agg cs).cells = cs := rfl
theorem YX (σ : S) (o : AObj) : (σ.push o).heap[σ.heap.length]? = some o := by simp [S.push]
def convP (us ud : Option TypeDesc) (v : V) : Option V :=
  match us, ud, v with
  | some _, some (.int k), .int _ n => some (.int k (k.wrap n))
  | some _, some .string, .str s => some (.str s)
  | some _, some .string, .int _ n => if 0 ≤ n ∧ n < 128 then some (.str [UInt8.ofNat n.toNat]) else none
  | _, _, _ => none
def convR (E : Env) (h : List AObj) (us ud : Option TypeDesc) (v : V) : Option V :=
  match us, ud with
  | some (.slice e), some .string =>
    match E.P.underlying e, v with
    | some (.int .u8), .row cells len cap => (vCells h 1 len (.row cells len cap)).bind fun cs => (bytesOf cs).map .str
    | some (.int .u8), .hsl b off len cap ex => (vCells h 1 len (.hsl b off len cap ex)).bind fun cs => (bytesOf cs).map .str
    | some (.int .u8), .nilsl => some (.str [])
    | _, _ => none
  | some us, some ud => vUnsafe E h us ud v
  | _, _ => none
def convS (E : Env) (σ : S) (src dst : TypeId) (us ud : Option TypeDesc) (v : V) : Option (V × S) :=
  match us, ud, v with
  | some _, some (.slice e), .str s =>
    match E.P.underlying e with
    | some (.int .u8) => some (.row (byteCells s) s.length .unk, σ)
    | _ => none
  | some (.slice _), some (.slice e), .hsl b off len cap _ =>
    if src = dst then
      match E.P.underlying e, σ.heap[b]? with
      | some (.int .u8), some (.cells cs t) => if len ≤ cap ∧ off + len ≤ cs.length then some (.row ((cs.drop off).take len) len .unk, σ.set b (.ro cs t)) else none
      | _, _ => none
    else none
  | _, _, _ => none
def convO (E : Env) (σ : S) (src dst : TypeId) (us ud : Option TypeDesc) (v : V) : Option (V × S) :=
  match convP us ud v with
  | some u => some (u, σ)
  | none =>
    match convR E σ.heap us ud v with
    | some u => some (u, σ)
    | none => convS E σ src dst us ud v
theorem convO_bytes {E : Env} {σ : S} {src dst : TypeId} {d : TypeDesc} {e : TypeId} {s : List UInt8} (h : E.P.underlying e = some (.int .u8)) : convO E σ src dst (some d) (some (.slice e)) (.str s) = some (.row (byteCells s) s.length .unk, σ) := by
  cases d <;> simp [convO, convP, convR, convS, vUnsafe, h]
theorem Z5 (E : Env) (σ : S) (src dst : TypeId) (d : TypeDesc) (k k' : IntKind) (n : Int) : convO E σ src dst (some d) (some (.int k)) (.int k' n) = some (.int k (k.wrap n), σ) := rfl
theorem Z4 (s d : TypeId) (x : Operand) : opT E m T σ (.convert s d x) = (evalT E T x).bind fun v => convO E σ s d (E.P.underlying s) (E.P.underlying d) v := by
  unfold opT
  simp only [apure, aread, astate]
  cases evalT E T x with
  | none => rfl
  | some v =>
    simp only [Option.bind_some]
    show (match convP (E.P.underlying s) (E.P.underlying d) v with
      | some v => some (v, σ)
      | none => match convR E σ.heap (E.P.underlying s) (E.P.underlying d) v with
        | some v => some (v, σ)
        | none => convS E σ s d (E.P.underlying s) (E.P.underlying d) v) = _
    unfold convO
    rfl
def appO (E : Env) (m : Bool) (σ : S) (t t2 : TypeId) (a b : V) : Option (V × S) :=
  (elemS E t).bind fun e => (sz E e).bind fun s => (bys E e).bind fun by' =>
    match E.P.underlying t2 with
    | some (.int _) => azero E m s by' e a b σ
    | some _ => (vLen b).bind fun mm => (vCells σ.heap s mm b).bind fun new => if zeroN E e = some s then aappend m s by' mm e new a σ else none
    | none => none
theorem Z3 (x y : Operand) (t t2 : TypeId) : opT E m T σ (.call ⟨.builtin .append, #[x, y], #[t, t2]⟩) = (evalT E T x).bind fun a => (evalT E T y).bind fun b => appO E m σ t t2 a b := by
  unfold opT appO
  simp only [apure, aread, astate, listO, Option.map_some]
  cases evalT E T x with
  | none => rfl
  | some a =>
    cases evalT E T y with
    | none => rfl
    | some b => rfl
end
theorem map_ite' {α β : Type} (f : α → β) (c : Prop) [Decidable c] (o : Option α) : (if c then o else none).map f = if c then o.map f else none := by by_cases h : c <;> simp [h]
theorem Ya {α β : Type} (f : α → β) (c : Prop) [Decidable c] (o : Option α) : (if c then none else o).map f = if c then none else o.map f := by by_cases h : c <;> simp [h]
theorem bind_ite' {α β : Type} (f : α → Option β) (c : Prop) [Decidable c] (o : Option α) : (if c then o else none).bind f = if c then o.bind f else none := by by_cases h : c <;> simp [h]
theorem Yb {α β : Type} (f : α → Option β) (c : Prop) [Decidable c] (o : Option α) : (if c then none else o).bind f = if c then none else o.bind f := by by_cases h : c <;> simp [h]
theorem Z8 {α β : Type} (f : α → β) (v : α) : (some v).map f = some (f v) := rfl
theorem Y4 {α β : Type} (f : α → β) : (none : Option α).map f = none := rfl
theorem Y5 {α β : Type} (f : α → Option β) : (none : Option α).bind f = none := rfl
theorem Z9 {α β : Type} (f : α → Option β) (v : α) : (some v).bind f = f v := rfl
theorem vBin_add' (k : IntKind) (a b : Int) : vBin .add (.int k a) (.int k b) = some (.int k (k.wrap (a + b))) := by simp [vBin, vIntOp]
theorem Yc (us : Option TypeDesc) (cc : Bool) (k : IntKind) (a b : Int) : vBinT us cc .add (.int k a) (.int k b) = some (.int k (k.wrap (a + b))) := by
  unfold vBinT
  rw [vBin_add']
theorem vBin_sub' (k : IntKind) (a b : Int) : vBin .sub (.int k a) (.int k b) = some (.int k (k.wrap (a - b))) := by simp [vBin, vIntOp]
theorem Yd (us : Option TypeDesc) (cc : Bool) (k : IntKind) (a b : Int) : vBinT us cc .sub (.int k a) (.int k b) = some (.int k (k.wrap (a - b))) := by
  unfold vBinT
  rw [vBin_sub']
theorem vBin_mul' (k : IntKind) (a b : Int) : vBin .mul (.int k a) (.int k b) = some (.int k (k.wrap (a * b))) := by simp [vBin, vIntOp]
theorem Ye (us : Option TypeDesc) (cc : Bool) (k : IntKind) (a b : Int) : vBinT us cc .mul (.int k a) (.int k b) = some (.int k (k.wrap (a * b))) := by
  unfold vBinT
  rw [vBin_mul']
theorem vBin_quo' (k : IntKind) (a b : Int) : vBin .quo (.int k a) (.int k b) = if b = 0 then none else some (.int k (k.wrap (a.tdiv b))) := by simp [vBin, vIntOp]
theorem Ym (us : Option TypeDesc) (cc : Bool) (k : IntKind) (a b : Int) : vBinT us cc .quo (.int k a) (.int k b) = if b = 0 then none else some (.int k (k.wrap (a.tdiv b))) := by
  unfold vBinT
  rw [vBin_quo']
  split <;> split at * <;> simp_all
theorem vBin_rem' (k : IntKind) (a b : Int) : vBin .rem (.int k a) (.int k b) = if b = 0 then none else some (.int k (a.tmod b)) := by simp [vBin, vIntOp]
theorem Yl (us : Option TypeDesc) (cc : Bool) (k : IntKind) (a b : Int) : vBinT us cc .rem (.int k a) (.int k b) = if b = 0 then none else some (.int k (a.tmod b)) := by
  unfold vBinT
  rw [vBin_rem']
  split <;> split at * <;> simp_all
theorem vBin_eql' (k : IntKind) (a b : Int) : vBin .eql (.int k a) (.int k b) = some (.bool (decide (a = b))) := by simp [vBin, vIntOp]; rfl
theorem Yf (us : Option TypeDesc) (cc : Bool) (k : IntKind) (a b : Int) : vBinT us cc .eql (.int k a) (.int k b) = some (.bool (decide (a = b))) := by
  unfold vBinT
  rw [vBin_eql']
theorem vBin_neq' (k : IntKind) (a b : Int) : vBin .neq (.int k a) (.int k b) = some (.bool (decide (¬ a = b))) := by simp [vBin, vIntOp]; rfl
theorem Yg (us : Option TypeDesc) (cc : Bool) (k : IntKind) (a b : Int) : vBinT us cc .neq (.int k a) (.int k b) = some (.bool (decide (¬ a = b))) := by
  unfold vBinT
  rw [vBin_neq']
theorem vBin_lss' (k : IntKind) (a b : Int) : vBin .lss (.int k a) (.int k b) = some (.bool (decide (a < b))) := by simp [vBin, vIntOp]
theorem Yh (us : Option TypeDesc) (cc : Bool) (k : IntKind) (a b : Int) : vBinT us cc .lss (.int k a) (.int k b) = some (.bool (decide (a < b))) := by
  unfold vBinT
  rw [vBin_lss']
theorem vBin_leq' (k : IntKind) (a b : Int) : vBin .leq (.int k a) (.int k b) = some (.bool (decide (a ≤ b))) := by simp [vBin, vIntOp]
theorem Yi (us : Option TypeDesc) (cc : Bool) (k : IntKind) (a b : Int) : vBinT us cc .leq (.int k a) (.int k b) = some (.bool (decide (a ≤ b))) := by
  unfold vBinT
  rw [vBin_leq']
theorem vBin_gtr' (k : IntKind) (a b : Int) : vBin .gtr (.int k a) (.int k b) = some (.bool (decide (b < a))) := by simp [vBin, vIntOp]
theorem Yj (us : Option TypeDesc) (cc : Bool) (k : IntKind) (a b : Int) : vBinT us cc .gtr (.int k a) (.int k b) = some (.bool (decide (b < a))) := by
  unfold vBinT
  rw [vBin_gtr']
theorem vBin_geq' (k : IntKind) (a b : Int) : vBin .geq (.int k a) (.int k b) = some (.bool (decide (b ≤ a))) := by simp [vBin, vIntOp]
theorem Yk (us : Option TypeDesc) (cc : Bool) (k : IntKind) (a b : Int) : vBinT us cc .geq (.int k a) (.int k b) = some (.bool (decide (b ≤ a))) := by
  unfold vBinT
  rw [vBin_geq']
theorem vBin_shl' (k k' : IntKind) (a b : Int) : vBin .shl (.int k a) (.int k' b) = if b < 0 then none else some (.int k (k.wrap (a * 2 ^ min b.toNat k.bits))) := by simp [vBin, vShift]
theorem vBin_shl (us : Option TypeDesc) (cc : Bool) (k k' : IntKind) (a b : Int) : vBinT us cc .shl (.int k a) (.int k' b) = if b < 0 then none else some (.int k (k.wrap (a * 2 ^ min b.toNat k.bits))) := by
  unfold vBinT
  rw [vBin_shl']
  split <;> split at * <;> simp_all
theorem vBin_shr' (k k' : IntKind) (a b : Int) : vBin .shr (.int k a) (.int k' b) = if b < 0 then none else some (.int k (a.fdiv (2 ^ min b.toNat k.bits))) := by simp [vBin, vShift]
theorem vBin_shr (us : Option TypeDesc) (cc : Bool) (k k' : IntKind) (a b : Int) : vBinT us cc .shr (.int k a) (.int k' b) = if b < 0 then none else some (.int k (a.fdiv (2 ^ min b.toNat k.bits))) := by
  unfold vBinT
  rw [vBin_shr']
  split <;> split at * <;> simp_all
theorem vBin_seql' (a b : List UInt8) : vBin .eql (.str a) (.str b) = some (.bool (decide (a = b))) := by simp only [vBin, vStrOp]; rw [show (a == b) = decide (a = b) from Bool.eq_iff_iff.2 (by simp)]
theorem vBin_seql (us : Option TypeDesc) (cc : Bool) (a b : List UInt8) : vBinT us cc .eql (.str a) (.str b) = some (.bool (decide (a = b))) := by
  unfold vBinT
  rw [vBin_seql']
theorem vBin_sneq' (a b : List UInt8) : vBin .neq (.str a) (.str b) = some (.bool (decide (¬ a = b))) := by simp only [vBin, vStrOp]; rw [show (a == b) = decide (a = b) from Bool.eq_iff_iff.2 (by simp)]; simp
theorem vBin_sneq (us : Option TypeDesc) (cc : Bool) (a b : List UInt8) : vBinT us cc .neq (.str a) (.str b) = some (.bool (decide (¬ a = b))) := by
  unfold vBinT
  rw [vBin_sneq']
theorem Yn (cc : Bool) (a b : Bool) : vBinT (some .bool) cc .eql (.bool a) (.bool b) = some (.bool (decide (a = b))) := by cases a <;> cases b <;> rfl
theorem Yo (cc : Bool) (a b : Bool) : vBinT (some .bool) cc .neq (.bool a) (.bool b) = some (.bool (decide (¬ a = b))) := by cases a <;> cases b <;> rfl
theorem Yp (p : Prop) [Decidable p] : vUn .not (.bool (decide p)) = some (.bool (decide (¬ p))) := by simp [vUn]
theorem YK (k : IntKind) (a : Int) : vUn .neg (.int k a) = some (.int k (k.wrap (0 - a))) := rfl
theorem Yq : vUn .not (.bool true) = some (.bool false) := rfl
theorem Yr : vUn .not (.bool false) = some (.bool true) := rfl
theorem Ys (s : Nat) (cells : List V) (len : Nat) (c : RCap) (k : IntKind) (i : Int) : vIndexAddr s (.row cells len c) (.int k i) = if 0 ≤ i ∧ i < len then some (.rptr (cells.drop (i.toNat * s))) else none := rfl
theorem index_hsl (s b off len cap : Nat) (ex : HCap) (k : IntKind) (i : Int) : vIndexAddr s (.hsl b off len cap ex) (.int k i) = if 0 ≤ i ∧ i < len then some (.ptr b (off + i.toNat * s)) else none := rfl
theorem Yt (e : TypeId) (cells : List V) (len : Nat) (c : RCap) : vLenT (some (.slice e)) (.row cells len c) = some (.int .i64 len) := rfl
theorem len_hsl (e : TypeId) (b off len cap : Nat) (ex : HCap) : vLenT (some (.slice e)) (.hsl b off len cap ex) = some (.int .i64 len) := rfl
theorem Yu (e : TypeId) : vLenT (some (.slice e)) .nilsl = some (.int .i64 0) := rfl
theorem len_str (b : List UInt8) : vLenT (some .string) (.str b) = some (.int .i64 b.length) := rfl
theorem Z6 {E : Env} {rec : Task → Option Res} (f : FuncId) (a c : List V) (as : List V) (σ : S) : callV E rec (.func f a c) as σ = callFn E rec f (a ++ as ++ c) σ := rfl
theorem Yv (ρ : Operand → Option V) : listO ρ [] = some [] := rfl
theorem Yw (ρ : Operand → Option V) (x : Operand) (l : List Operand) : listO ρ (x :: l) = (ρ x).bind fun v => (listO ρ l).map fun r => v :: r := rfl
theorem aload_one {E : Env} {h : List AObj} {t : TypeId} {p : V} (ha : aggT E t = some false) : aload E h t p = (loadCellsV h 1 p).bind (·[0]?) := by
  simp only [aload, ha]; rfl
theorem Yz (h : List AObj) (cells : List V) (i : Nat) : (loadCellsV h 1 (.rptr (cells.drop i))).bind (·[0]?) = cells[i]? := by
  simp only [loadCellsV, List.length_drop]
  by_cases hi : 1 ≤ cells.length - i
  · simp only [hi, if_true, Option.bind_some]
    rw [List.getElem?_take, List.getElem?_drop]
    simp
  · simp only [hi, if_false, Option.bind_none]
    rw [List.getElem?_eq_none (by omega)]
theorem Y0 (k : IntKind) (zs : List Int) (i : Nat) : (zs.map (V.int k))[i]? = if i < zs.length then some (V.int k (zs.getD i 0)) else none := by
  rw [List.getElem?_map]
  by_cases h : i < zs.length
  · simp [h]
  · simp [h]
theorem wrap_i64 {x : Int} (h1 : -9223372036854775808 ≤ x) (h2 : x ≤ 9223372036854775807) : IntKind.i64.wrap x = x := by
  rw [IntKind.wrap_i64]; omega
end Go.Ab
namespace Go.Ab
def setT (T : Tm) : List (Tmp × V) → Tm
  | [] => T
  | (t, v) :: r => setT (upd T t v) r
theorem Rep.sets {n : Nat} : ∀ (l : List (Tmp × V)) {T : Tm} {tmps : List V}, Rep n T tmps → (∀ p ∈ l, p.1 < n) → Rep n (setT T l) (l.foldl (fun ts (x : Tmp × V) => ts.set x.1 x.2) tmps)
  | [], T, tmps, h, _ => h
  | (t, v) :: r, T, tmps, h, hl => by
    simp only [List.foldl_cons, setT]
    exact Rep.sets r (h.upd (hl (t, v) (by simp)) v) fun p hp => hl p (by simp [hp])
section
variable {E : Env} {fn : FuncId} {rnd : Option Nat} {n : Nat} {Q : Post} {ks : List Kt} {T : Tm} {D : List DE} {σ : S}
end
theorem callFn_eq {E : Env} {f : FuncId} {args : List V} {σ σ' : S} {v : V} {F : Go.Func} {body : Code} (hp : E.pure f = false) (hk : E.hook f = none) (hf : E.P.funcs[f]? = some F) (hb : F.body = some body)
    (hn : F.name ≠ "runtime.NumGoroutine") (hl : args.length ≤ F.ntmps)
    (hw : G E f none F.ntmps ⟨wpR E F.results.toList fun v' σ'' => v' = v ∧ σ'' = σ', fun _ _ _ _ => False, wpR E F.results.toList fun v' σ'' => v' = v ∧ σ'' = σ'⟩ [] body (argT args) [] σ) (hz : E.frz f = false := by rfl) (hs : E.hookS f = none := by rfl) :
    callFn E (ev E) f args σ = some (v, σ') := by
  obtain ⟨v', σ'', h1, rfl, rfl⟩ := callFn_any hp hk hf hb hn hl hw hz hs
  exact h1
def cellAt (o : Option AObj) (off : Nat) : Option V :=
  match o with
  | some (.cells cs _) => cs[off]?
  | some (.ro cs _) => cs[off]?
  | _ => none
theorem YB (cs : List V) (t : TypeId) (off : Nat) : cellAt (some (.cells cs t)) off = cs[off]? := rfl
theorem YA (h : List AObj) (b off : Nat) : (loadCellsV h 1 (.ptr b off)).bind (·[0]?) = cellAt h[b]? off := by
  simp only [loadCellsV, cellAt]
  cases h[b]? with
  | none => rfl
  | some o =>
    cases o with
    | cells cs t =>
      simp only
      by_cases hi : off + 1 ≤ cs.length
      · simp only [hi, if_true, Option.bind_some]
        rw [List.getElem?_take, List.getElem?_drop]
        simp
      · simp only [hi, if_false, Option.bind_none]
        rw [List.getElem?_eq_none (by omega)]
    | ro cs t =>
      simp only
      by_cases hi : off + 1 ≤ cs.length
      · simp only [hi, if_true, Option.bind_some]
        rw [List.getElem?_take, List.getElem?_drop]
        simp
      · simp only [hi, if_false, Option.bind_none]
        rw [List.getElem?_eq_none (by omega)]
    | _ => rfl
def storeAt (σ : S) (new : List V) (b off : Nat) (o : Option AObj) : Option S :=
  match o with
  | some (.cells cs t) => if off + new.length ≤ cs.length ∧ new.all V.isCell then some (σ.set b (.cells (storeList cs off new) t)) else none
  | _ => none
theorem YE (σ : S) (new : List V) (b off : Nat) (cs : List V) (t : TypeId) : storeAt σ new b off (some (.cells cs t)) = if off + new.length ≤ cs.length ∧ new.all V.isCell then some (σ.set b (.cells (storeList cs off new) t)) else none := rfl
theorem YD (σ : S) (new : List V) (b off : Nat) : storeCellsV σ new (.ptr b off) = storeAt σ new b off σ.heap[b]? := by
  simp only [storeCellsV, storeAt]
  cases σ.heap[b]? with
  | none => rfl
  | some o => cases o <;> rfl
theorem YI (h : List AObj) (t : List Nat) (o : AObj) : S.push ⟨h, t⟩ o = ⟨h ++ [o], t⟩ := rfl
theorem YJ (h : List AObj) (t : List Nat) (b : Nat) (o : AObj) : S.set ⟨h, t⟩ b o = ⟨h.set b o, t⟩ := rfl
theorem empty_mk : S.empty = ⟨[], []⟩ := rfl
theorem YF (cs : List V) (n : Nat) (c : RCap) : (V.row cs n c).cells = [.row cs n c] := rfl
theorem YH : V.nilsl.cells = [.nilsl] := rfl
theorem YG (cs : List V) (n : Nat) (c : RCap) : (V.row cs n c).isCell = true := rfl
theorem Y6 (k : IntKind) (x : Int) : (V.int k x).cells = [.int k x] := rfl
theorem isCell_int (k : IntKind) (x : Int) : (V.int k x).isCell = true := rfl
end Go.Ab
namespace Go.Ab
structure One (E : Env) (t e : TypeId) (by' : Nat) : Prop where
  elem : elemS E t = some e
  size : sz E e = some 1
  bytes : bys E e = some by'
  zeros : zeroN E e = some 1
  slice : E.P.underlying t = some (.slice e)
  zero : ∃ z, zeroV E e = some z ∧ z.cells.length = 1
section
variable {E : Env} {t e : TypeId} {by' : Nat} {T : Tm} {σ : S} {x : Operand}
inductive Grow (ts : List Nat) : V → List V → Prop where
  | nil : Grow ts .nilsl []
  | full (cs : List V) : Grow ts (.row cs cs.length .full) cs
  | tok (cs : List V) (k e : Nat) (h : ts[k]? = some e) : Grow ts (.row cs cs.length (.tok k e 1)) cs
theorem Grow.len (h : One E t e by') {ts : List Nat} {v : V} {cs : List V} (g : Grow ts v cs) : vLenT (E.P.underlying t) v = some (.int .i64 cs.length) := by
  rw [h.slice]
  cases g with
  | nil => rfl
  | full => rfl
  | tok => rfl
theorem Grow.append (h : One E t e by') {hp : List AObj} {ts : List Nat} {v : V} {cs : List V} (g : Grow ts v cs) {new : List V} {c : RCap} (hn : new.length ≠ 0) (hc : new.all V.isCell = true)
    (hb : (cs.length + new.length) * by' ≤ lim) (hb2 : cs.length + new.length ≤ lim) :
    ∃ k e' ts', appO E false ⟨hp, ts⟩ t t v (.row new new.length c) = some (.row (cs ++ new) (cs ++ new).length (.tok k e' 1), ⟨hp, ts'⟩) ∧ ts'[k]? = some e' := by
  have hnew : vCells hp 1 new.length (.row new new.length c) = some new := by simp [vCells]
  have hn0 : new ≠ [] := fun e => hn (by rw [e]; rfl)
  unfold appO
  simp only [h.elem, h.size, h.bytes, h.slice, h.zeros, vLen, hnew, Option.bind_some, if_true]
  cases g with
  | nil =>
    simp only [List.length_nil, Nat.zero_add] at hb hb2
    refine ⟨ts.length, 0, ts ++ [0], ?_, by simp⟩
    simp [aappend, hn0, hb, hb2]
  | full =>
    refine ⟨ts.length, 0, ts ++ [0], ?_, by simp⟩
    simp only [aappend, hn, if_false, hb, hb2, hc, Nat.mul_one, and_self, if_true, Bool.false_eq_true, List.length_append]
  | tok _ k e' hk =>
    refine ⟨k, e' + 1, ts.set k (e' + 1), ?_, ?_⟩
    · simp only [aappend, hn, if_false, hb, hb2, hc, Nat.mul_one, and_self, if_true, hk, List.length_append]
    · have : k < ts.length := by
        rcases Nat.lt_or_ge k ts.length with h1 | h1
        · exact h1
        · rw [List.getElem?_eq_none h1] at hk; simp at hk
      simp [this]
structure GrowN (N : Nat) (ts : List Nat) (v : V) (cs : List V) : Prop where
  grow : Grow ts v cs
  low : ∀ k, (∃ cs n e s, v = .row cs n (.tok k e s)) → N ≤ k
theorem GrowN.keep {N : Nat} {ts ts' : List Nat} {v : V} {cs : List V} (g : GrowN N ts v cs) (h : ∀ k e, N ≤ k → ts[k]? = some e → ts'[k]? = some e) : GrowN N ts' v cs := by
  refine ⟨?_, g.low⟩
  have hl := g.low
  cases g.grow with
  | nil => exact .nil
  | full => exact .full _
  | tok _ k e hk => exact .tok _ k e (h k e (hl k ⟨_, _, _, _, rfl⟩) hk)
theorem GrowN.append (h : One E t e by') {N : Nat} {hp : List AObj} {ts : List Nat} {v v2 : V} {cs cs2 : List V} (g : GrowN N ts v cs) (hN : N ≤ ts.length) (g2 : Grow ts v2 cs2) (hc : cs2.all V.isCell = true)
    (hb : (cs.length + cs2.length) * by' ≤ lim) (hb2 : cs.length + cs2.length ≤ lim) :
    ∃ v' ts', appO E false ⟨hp, ts⟩ t t v v2 = some (v', ⟨hp, ts'⟩) ∧ GrowN N ts' v' (cs ++ cs2) ∧ ts.length ≤ ts'.length ∧ (∀ k, k < N → ts'[k]? = ts[k]?) ∧ (v' = .nilsl → v = .nilsl ∧ cs2 = []) := by
  by_cases hn : cs2 = []
  · subst hn
    refine ⟨v, ts, ?_, by rw [List.append_nil]; exact g, Nat.le_refl _, fun _ _ => rfl, fun h => ⟨h, rfl⟩⟩
    have hlen : vLen v2 = some 0 := by cases g2 <;> rfl
    have hcell : vCells hp 1 0 v2 = some [] := by cases g2 <;> simp [vCells]
    unfold appO
    simp only [h.elem, h.size, h.bytes, h.slice, h.zeros, hlen, hcell, Option.bind_some, if_true]
    cases g.grow <;> simp [aappend]
  · have hn2 : cs2.length ≠ 0 := fun e => hn (List.eq_nil_of_length_eq_zero e)
    have key : ∃ c, v2 = .row cs2 cs2.length c := by cases g2 <;> first | exact absurd rfl hn | exact ⟨_, rfl⟩
    obtain ⟨c, rfl⟩ := key
    have hnew : vCells hp 1 cs2.length (.row cs2 cs2.length c) = some cs2 := by simp [vCells]
    have hl := g.low
    unfold appO
    simp only [h.elem, h.size, h.bytes, h.slice, h.zeros, vLen, hnew, Option.bind_some, if_true]
    have hge := g.grow
    generalize hv : v = v0 at hge
    cases hge with
    | nil =>
      simp only [List.length_nil, Nat.zero_add] at hb hb2
      refine ⟨.row cs2 cs2.length (.tok ts.length 0 1), ⟨ts ++ [0], ?_, ⟨.tok cs2 ts.length 0 (by simp), ?_⟩, by simp, ?_, by simp⟩⟩
      · simp [aappend, hn, hb, hb2]
      · rintro k ⟨_, _, _, _, he⟩; cases he; exact hN
      · intro k hk; exact List.getElem?_append_left (by omega)
    | full =>
      refine ⟨.row (cs ++ cs2) (cs ++ cs2).length (.tok ts.length 0 1), ⟨ts ++ [0], ?_, ⟨.tok _ ts.length 0 (by simp), ?_⟩, by simp, ?_, by simp⟩⟩
      · simp only [aappend, hn2, if_false, hb, hb2, hc, Nat.mul_one, and_self, if_true, Bool.false_eq_true, List.length_append]
      · rintro k ⟨_, _, _, _, he⟩; cases he; exact hN
      · intro k hk; exact List.getElem?_append_left (by omega)
    | tok _ k e' hk =>
      have hkN : N ≤ k := hl k ⟨_, _, _, _, hv⟩
      have hkl : k < ts.length := by
        rcases Nat.lt_or_ge k ts.length with h1 | h1
        · exact h1
        · rw [List.getElem?_eq_none h1] at hk; simp at hk
      refine ⟨.row (cs ++ cs2) (cs ++ cs2).length (.tok k (e' + 1) 1), ⟨ts.set k (e' + 1), ?_, ⟨.tok _ k (e' + 1) (by simp [hkl]), ?_⟩, by simp, ?_, by simp⟩⟩
      · simp only [aappend, hn2, if_false, hb, hb2, hc, Nat.mul_one, and_self, if_true, hk, List.length_append]
      · rintro k' ⟨_, _, _, _, he⟩; cases he; exact hkN
      · intro k' hk'; exact List.getElem?_set_ne (by omega)
end
end Go.Ab
namespace Go.Ab
section
variable {E : Env} {m : Bool} {T : Tm} {σ : S}
def makeO (E : Env) (m : Bool) (σ : S) (t : TypeId) (lv cv : V) : Option (V × S) :=
  (elemS E t).bind fun e => (sz E e).bind fun s => (bys E e).bind fun by' =>
      match lv, cv with
      | .int .i64 l, .int .i64 c =>
        if 0 ≤ l ∧ l ≤ c ∧ c ≤ lim ∧ c * by' ≤ lim then
          (if c.toNat * s = 0 then some (.agg []) else zeroV E e).bind fun z =>
          if z.cells.length = s ∨ c.toNat * s = 0 then
            if m then some (.hsl σ.heap.length 0 l.toNat c.toNat .exact, σ.push (.cells (List.replicate c.toNat z.cells).flatten e))
            else if l = c then some (.row (List.replicate c.toNat z.cells).flatten c.toNat .full, σ)
            else some (.row ((List.replicate c.toNat z.cells).flatten.take (l.toNat * s)) l.toNat (.tok σ.toks.length 0 s), ⟨σ.heap, σ.toks ++ [0]⟩)
          else none
        else none
      | _, _ => none
theorem opT_makeSlice (t : TypeId) (l c : Operand) : opT E m T σ (.makeSlice t l c) = (evalT E T l).bind fun lv => (evalT E T c).bind fun cv => makeO E m σ t lv cv := rfl
def sliceO (E : Env) (t : TypeId) (v : V) (l h mx : Option V) : Option V :=
    match E.P.underlying t with
    | some .string => (match v with | .str b => vSlice 0 (.str b) l h mx | _ => none)
    | some (.slice e) => (sz E e).bind fun s =>
      match v with
      | .str _ => none
      | v => vSlice s v l h mx
    | some (.array n e) => (sz E e).bind fun s => vSliceArr n s v l h mx
    | _ => none
theorem opT_slice (t : TypeId) (x : Operand) (lo hi mx : Option Operand) : opT E m T σ (.slice t x lo hi mx) = (evalT E T x).bind fun v => (optO (evalT E T) lo).bind fun l => (optO (evalT E T) hi).bind fun h => (optO (evalT E T) mx).bind fun mm => (sliceO E t v l h mm).map fun u => (u, σ) := by
  rw [opT_of_pure rfl rfl (fun _ h => by cases h)]
  simp only [apure, sliceO]
  cases evalT E T x with
  | none => rfl
  | some v =>
    simp only [Option.bind_some]
    cases optO (evalT E T) lo with
    | none => rfl
    | some l =>
      simp only [Option.bind_some]
      cases optO (evalT E T) hi with
      | none => rfl
      | some h =>
        simp only [Option.bind_some]
        cases optO (evalT E T) mx with
        | none => rfl
        | some mm => rfl
theorem optO_none (ρ : Operand → Option V) : optO ρ none = some none := rfl
theorem optO_some (ρ : Operand → Option V) (x : Operand) : optO ρ (some x) = (ρ x).map some := rfl
def copyO (E : Env) (σ : S) (t : TypeId) (x y : V) : Option (V × S) :=
  (elemS E t).bind fun e => (sz E e).bind fun s =>
        (vLen y).bind fun m =>
          match x with
          | .hsl b off len cap ex => (vCells σ.heap s (min m len) y).bind fun new =>
              if min m len = 0 then some (.int .i64 0, σ) else
              if ex.room s then (storeRoom σ new b off (off + cap * s)).map fun σ' => (.int .i64 ((min m len : Nat) : Int), σ') else
              (storeCellsV σ new (.ptr b off)).map fun σ' => (.int .i64 ((min m len : Nat) : Int), σ')
          | .row _ len _ => if min m len = 0 then some (.int .i64 0, σ) else none
          | .nilsl => some (.int .i64 0, σ)
          | _ => none
theorem opT_copy (x y : Operand) (t t2 : TypeId) : opT E m T σ (.call ⟨.builtin .copy, #[x, y], #[t, t2]⟩) = (evalT E T x).bind fun a => (evalT E T y).bind fun b => copyO E σ t a b := by
  unfold opT copyO
  simp only [apure, aread, astate, listO, Option.map_some]
  cases evalT E T x with
  | none => rfl
  | some a =>
    cases evalT E T y with
    | none => rfl
    | some b => rfl
end
def bodyOf (F : Go.Func) : Code := F.body.getD .skip
end Go.Ab
namespace Go.Ab
section
variable {E : Env} {m : Bool} {T : Tm} {σ : S}
def indexO (E : Env) (t : TypeId) (v i : V) : Option V :=
    match E.P.underlying t, v, i with
    | some .string, .str s, .int _ n => if 0 ≤ n ∧ n < s.length then some (.int .u8 (s.getD n.toNat 0).toNat) else none
    | some (.array len e), .agg cs, .int _ n => if 0 ≤ n ∧ n < len then (sz E e).bind fun s => (aggT E e).bind fun g => vPart g s cs (n.toNat * s) else none
    | _, _, _ => none
theorem opT_index (t : TypeId) (x ix : Operand) : opT E m T σ (.index t x ix) = ((evalT E T x).bind fun v => (evalT E T ix).bind fun i => indexO E t v i).map fun v => (v, σ) :=
  opT_of_pure rfl rfl (fun _ h => by cases h)
theorem indexO_str {t : TypeId} (h : E.P.underlying t = some .string) (s : List UInt8) (k : IntKind) (n : Int) : indexO E t (.str s) (.int k n) = if 0 ≤ n ∧ n < s.length then some (.int .u8 (s.getD n.toNat 0).toNat) else none := by
  simp only [indexO, h]
theorem vBin_slss' (a b : List UInt8) : vBin .lss (.str a) (.str b) = some (.bool (Op.bytesLess a b)) := rfl
theorem vBin_slss (us : Option TypeDesc) (cc : Bool) (a b : List UInt8) : vBinT us cc .lss (.str a) (.str b) = some (.bool (Op.bytesLess a b)) := by
  unfold vBinT
  rw [vBin_slss']
theorem slice_arr {t e : TypeId} {n s : Nat} {cells : List V} (hu : E.P.underlying t = some (.array n e)) (hs : sz E e = some s) (hl : cells.length = n * s) : sliceO E t (.rptr cells) none none none = some (.row cells n .full) := by
  simp only [sliceO, hu, hs, Option.bind_some, vSliceArr, vBound, Nat.zero_mul, List.drop_zero, Nat.sub_zero, if_true]
  rw [← hl, List.take_length]
theorem str_not_less (a : List UInt8) : Op.bytesLess a a = false := by
  induction a with
  | nil => rfl
  | cons x r ih => simp [Op.bytesLess, ih]
end
theorem closed_strs : ∀ ws : List (List UInt8), V.closed.closedL (ws.map V.str) = true
  | [] => rfl
  | w :: ws => by simp only [List.map_cons, V.closed.closedL, V.closed, Bool.true_and]; exact closed_strs ws
theorem strs_get (ws : List (List UInt8)) (i : Nat) : (ws.map V.str)[i]? = if i < ws.length then some (V.str (ws.getD i [])) else none := by
  rw [List.getElem?_map]
  by_cases h : i < ws.length
  · simp [h]
  · simp [h]
end Go.Ab
namespace Go.Ab
section
variable {E : Env} {T : Tm} {σ : S}
def rowO (E : Env) (t : TypeId) (len : Nat) (ps : List (Nat × V)) : Option V := (elemS E t).bind fun e => (sz E e).bind fun s =>
      (if len * s = 0 then some (.agg []) else zeroV E e).bind fun z =>
      if len * s ≤ 2 ^ 24 ∧ (z.cells.length = s ∨ len * s = 0) then
        (vFill (fun i => some (i * s, s)) (List.replicate len z.cells).flatten ps).map fun cs => .row cs len .full
      else none
theorem opT_rowO (t : TypeId) (len : Nat) (parts : Array (Nat × Operand)) : opT E false T σ (.buildSlice t len parts) = (partsO (evalT E T) parts.toList).bind fun ps => (rowO E t len ps).map fun v => (v, σ) := by
  unfold opT rowO
  simp only [apure, aread, astate, Bool.false_and, Bool.false_eq_true, if_false]
  cases partsO (evalT E T) parts.toList with
  | none => rfl
  | some ps =>
    simp only [Option.bind_some]
    cases elemS E t with
    | none => rfl
    | some e =>
      simp only [Option.bind_some]
      cases sz E e with
      | none => rfl
      | some s =>
        simp only [Option.bind_some]
        generalize (if len * s = 0 then some (V.agg []) else zeroV E e) = oz
        cases oz with
        | none => rfl
        | some z =>
          simp only [Option.bind_some]
          split
          · cases vFill (fun i => some (i * s, s)) (List.replicate len z.cells).flatten ps <;> rfl
          · rfl
end
def regO (id : Nat) : Code → Option (Array Oper)
  | .region i ops true => if i = id then some ops else none
  | .seq a b => (regO id a).or (regO id b)
  | .cond _ a b => (regO id a).or (regO id b)
  | .block _ c => regO id c
  | .loop c => regO id c
  | .scope c => regO id c
  | _ => none
def regB (id : Nat) (c : Code) : Code := .region id ((regO id c).getD #[]) true
def mkIfO (E : Env) (t : TypeId) (v : V) : Option V :=
  match E.P.underlying t with
  | some (.interface _) => none
  | some _ => some (.iface t v)
  | none => none
theorem opT_mkIf {E : Env} {m : Bool} {T : Tm} {σ : S} (t : TypeId) (x : Operand) : opT E m T σ (.makeInterface t x) = ((evalT E T x).bind (mkIfO E t)).map fun v => (v, σ) :=
  opT_of_pure rfl rfl (fun _ h => by cases h)
theorem mkIf_int {E : Env} {t : TypeId} {k : IntKind} (h : E.P.underlying t = some (.int k)) (v : V) : mkIfO E t v = some (.iface t v) := by simp only [mkIfO, h]
theorem mkIf_ptr {E : Env} {t e : TypeId} (h : E.P.underlying t = some (.pointer e)) (v : V) : mkIfO E t v = some (.iface t v) := by simp only [mkIfO, h]
theorem binO_if_nil {E : Env} {t : TypeId} {ms : Array (String × TypeId)} (hu : E.P.underlying t = some (.interface ms)) (c : Bool) (u : TypeId) (v : V) : binO E t c .neq (some (.iface u v)) (some .nilif) = some (.bool true) := by
  show vBinE E t c .neq (.iface u v) .nilif = _
  rw [vBinE_of (by cases v <;> rfl), hu]; rfl
theorem binO_nil_if {E : Env} {t : TypeId} {ms : Array (String × TypeId)} (hu : E.P.underlying t = some (.interface ms)) : binO E t true .neq (some .nilif) (some .nilif) = some (.bool false) := by
  show vBinE E t true .neq .nilif .nilif = _
  rw [vBinE_of (by rfl), hu]; rfl
theorem binO_if_eq {E : Env} {t tx : TypeId} (h : ifaceInt E t tx = true) (hu : ∃ ms, E.P.underlying t = some (.interface ms)) (c : Bool) (k : IntKind) (a b : Int) : binO E t c .eql (some (.iface tx (.int k a))) (some (.iface tx (.int k b))) = some (.bool (decide (a = b))) := by
  obtain ⟨ms, hu⟩ := hu
  show vBinE E t c .eql (.iface tx (.int k a)) (.iface tx (.int k b)) = _
  unfold vBinE
  rw [hu]
  show vBinA E t .eql (.iface tx (.int k a)) (.iface tx (.int k b)) = _
  simp [vBinA, h]; rfl
theorem binO_if_ne {E : Env} {t tx : TypeId} (h : ifaceInt E t tx = true) (hu : ∃ ms, E.P.underlying t = some (.interface ms)) (c : Bool) (k : IntKind) (a b : Int) : binO E t c .neq (some (.iface tx (.int k a))) (some (.iface tx (.int k b))) = some (.bool (decide (¬ a = b))) := by
  obtain ⟨ms, hu⟩ := hu
  show vBinE E t c .neq (.iface tx (.int k a)) (.iface tx (.int k b)) = _
  unfold vBinE
  rw [hu]
  show vBinA E t .neq (.iface tx (.int k a)) (.iface tx (.int k b)) = _
  simp [vBinA, h]; rfl
theorem wrap_u64 {x : Int} (h1 : 0 ≤ x) (h2 : x < 18446744073709551616) : IntKind.u64.wrap x = x := by
  show (let m := x % (2 ^ 64 : Int); if false && decide (m ≥ 2 ^ 63) then m - 2 ^ 64 else m) = x
  simp only [Bool.false_and, Bool.false_eq_true, if_false]
  omega
theorem wrap_u8 {x : Int} (h1 : 0 ≤ x) (h2 : x < 256) : IntKind.u8.wrap x = x := by
  show (let m := x % (2 ^ 8 : Int); if false && decide (m ≥ 2 ^ 7) then m - 2 ^ 8 else m) = x
  simp only [Bool.false_and, Bool.false_eq_true, if_false]
  omega
def blkC (id : Nat) : Code → Option Code
  | .block i c => if i = id then some c else blkC id c
  | .seq a b => (blkC id a).or (blkC id b)
  | .cond _ a b => (blkC id a).or (blkC id b)
  | .loop c => blkC id c
  | .scope c => blkC id c
  | _ => none
def loopB (id : Nat) (c : Code) : Code := match blkC id c with
  | some (.loop c) => c
  | _ => .skip
end Go.Ab
namespace Go.Ab
set_option linter.unusedVariables false
section
variable (E : Env)
def Made (ops : Array Oper) (mutb : Bool) (K : S → Prop) (o : Oper) (t : List V) (v : V) : Prop :=
  Region.wanted o (yieldedA ops t) = false ∨ ∃ (σ0 σ1 : S), opV E (ev E) mutb t σ0 o.op = some (v, σ1) ∧ (readsOp o.op = true → ∀ σ', K σ' → aread E (evalO E t) σ' o.op = some v)
end
section
variable {E : Env} {fn : FuncId} {rnd : Option Nat} {n : Nat} {Q : Post} {ks : List Kt} {m : Bool} {ops : Array Oper} {l : List Oper} {T : Tm} {D : List DE} {σ : S}
end
end Go.Ab
namespace Go.Ab
set_option linter.unusedVariables false
section
variable (E : Env) (n : Nat)
end
section
variable {E : Env} {fn : FuncId} {rnd : Option Nat} {n : Nat} {Q : Post} {ks : List Kt} {T : Tm} {D : List DE} {σ : S} {m : Bool}
end
end Go.Ab
namespace Go.Ab
open Go
set_option linter.unusedVariables false
section
variable (E : Env)
variable (fn : FuncId) (rnd : Option Nat) (n : Nat) (Q : Post) (ks : List Kt)
end
section
variable {E : Env} {fn : FuncId} {rnd : Option Nat} {n : Nat} {Q : Post} {ks : List Kt} {m : Bool} {T : Tm} {D : List DE} {σ : S}
end
end Go.Ab
namespace Go.Ab
set_option linter.unusedVariables false
section
variable (E : Env)
end
section
variable {E : Env} {fn : FuncId} {rnd : Option Nat} {n : Nat} {Q : Post} {ks : List Kt} {m : Bool} {ops : Array Oper} {l : List Oper} {T : Tm} {D : List DE} {σ : S} {ws : List (Bool × List Nat)} {c : Nat}
end
end Go.Ab
namespace Go.Ab
set_option linter.unusedVariables false
set_option linter.unusedSimpArgs false
structure Elt (E : Env) (t e : TypeId) (w nb : Nat) : Prop where
  elem : elemS E t = some e
  size : sz E e = some w
  bytes : bys E e = some nb
  zeros : zeroN E e = some w
  slice : E.P.underlying t = some (.slice e)
inductive GrowV (base : Nat) (ts : List Nat) (w : Nat) : V → Nat → List V → Prop where
  | nil : GrowV base ts w .nilsl 0 []
  | full (cs : List V) (n : Nat) (hl : cs.length = n * w) : GrowV base ts w (.row cs n .full) n cs
  | tok (cs : List V) (n k e : Nat) (hl : cs.length = n * w) (hb : base ≤ k) (ht : ts[k]? = some e) : GrowV base ts w (.row cs n (.tok k e w)) n cs
def Ext (base : Nat) (ts ts' : List Nat) : Prop := ts.length ≤ ts'.length ∧ ∀ k, k < base → ts'[k]? = ts[k]?
theorem Ext.rfl' (base : Nat) (ts : List Nat) : Ext base ts ts := ⟨Nat.le_refl _, fun _ _ => rfl⟩
theorem Ext.trans {b : Nat} {ts t2 t3 : List Nat} (h : Ext b ts t2) (g : Ext b t2 t3) : Ext b ts t3 := ⟨Nat.le_trans h.1 g.1, fun k hk => by rw [g.2 k hk, h.2 k hk]⟩
theorem Ext.mono {b c : Nat} {ts ts' : List Nat} (h : Ext c ts ts') (hb : b ≤ c) : Ext b ts ts' := ⟨h.1, fun k hk => h.2 k (by omega)⟩
theorem GrowV.ext {base w n : Nat} {ts ts' : List Nat} {v : V} {cs : List V} (g : GrowV base ts w v n cs) (h : Ext ts.length ts ts') : GrowV base ts' w v n cs := by
  cases g with
  | nil => exact .nil
  | full _ _ hl => exact .full _ _ hl
  | tok _ _ k e hl hb ht =>
    refine .tok _ _ k e hl hb ?_
    rw [h.2 k (List.getElem?_eq_some_iff.1 ht).1]; exact ht
theorem GrowV.cells {base w n : Nat} {ts : List Nat} {v : V} {cs : List V} (g : GrowV base ts w v n cs) : v.cells = [v] ∧ v.isCell = true := by cases g <;> exact ⟨rfl, rfl⟩
theorem GrowV.lens {base w n : Nat} {ts : List Nat} {v : V} {cs : List V} (g : GrowV base ts w v n cs) : cs.length = n * w := by cases g <;> simp_all
theorem GrowV.len {base w n : Nat} {ts : List Nat} {v : V} {cs : List V} (g : GrowV base ts w v n cs) (e : TypeId) : vLenT (some (.slice e)) v = some (.int .i64 n) := by cases g <;> rfl
theorem GrowV.append {E : Env} {t e t2 : TypeId} {base w nb n m : Nat} (he : Elt E t e w nb) (hu : ∃ e2, E.P.underlying t2 = some (.slice e2)) {hp : List AObj} {ts : List Nat} {v y : V} {cs new : List V} (g : GrowV base ts w v n cs) (hb : base ≤ ts.length) (hy : vLen y = some m) (hc : vCells hp w m y = some new) (hnl : new.length = m * w) (hcell : new.all V.isCell = true)
    (hlim : (n + m) * nb ≤ lim ∧ n + m ≤ lim) : ∃ v' ts', appO E false ⟨hp, ts⟩ t t2 v y = some (v', ⟨hp, ts'⟩) ∧ GrowV base ts' w v' (n + m) (cs ++ new) ∧ Ext base ts ts' := by
  obtain ⟨e2, hu⟩ := hu
  unfold appO
  simp only [he.elem, he.size, he.bytes, he.zeros, hu, hy, hc, Option.bind_some, if_true]
  by_cases hm : m = 0
  · subst hm
    have hn0 : new = [] := List.eq_nil_of_length_eq_zero (by simpa using hnl)
    subst hn0
    rw [List.append_nil, Nat.add_zero]
    refine ⟨v, ts, ?_, g, .rfl' _ _⟩
    cases g <;> simp [aappend]
  have hl : (cs ++ new).length = (n + m) * w := by rw [List.length_append, g.lens, hnl, Nat.add_mul]
  cases g with
  | nil =>
    refine ⟨.row new m (.tok ts.length 0 w), ts ++ [0], ?_, ?_, ⟨by simp, fun k hk => by rw [List.getElem?_append_left (by omega)]⟩⟩
    · have h1 : m * nb ≤ lim ∧ m ≤ lim := by simpa using hlim
      simp [aappend, hm, h1]
    · rw [Nat.zero_add, List.nil_append]
      exact .tok _ _ ts.length 0 hnl hb (by simp)
  | full _ _ hl0 =>
    refine ⟨.row (cs ++ new) (n + m) (.tok ts.length 0 w), ts ++ [0], ?_, .tok _ _ ts.length 0 hl hb (by simp), ⟨by simp, fun k hk => by rw [List.getElem?_append_left (by omega)]⟩⟩
    simp only [aappend]
    rw [if_neg hm, if_pos ⟨hlim.1, hlim.2, hl0, hcell⟩]
    simp
  | tok _ _ k e hl0 hbk ht =>
    have hkl := (List.getElem?_eq_some_iff.1 ht).1
    refine ⟨.row (cs ++ new) (n + m) (.tok k (e + 1) w), ts.set k (e + 1), ?_, .tok _ _ k (e + 1) hl hbk (by simp [hkl]), ⟨by simp, fun q hq => by rw [List.getElem?_set_ne (by omega)]⟩⟩
    simp only [aappend]
    rw [if_neg hm, if_pos ⟨hlim.1, hlim.2, hl0, hcell⟩, if_pos ⟨ht, trivial⟩]
theorem GrowV.push {E : Env} {t e t2 : TypeId} {base w nb n : Nat} (he : Elt E t e w nb) (hu : ∃ e2, E.P.underlying t2 = some (.slice e2)) {hp : List AObj} {ts : List Nat} {v : V} {cs new : List V} {q : RCap} (g : GrowV base ts w v n cs) (hb : base ≤ ts.length) (hnl : new.length = w) (hcell : new.all V.isCell = true)
    (hlim : (n + 1) * nb ≤ lim ∧ n + 1 ≤ lim) : ∃ v' ts', appO E false ⟨hp, ts⟩ t t2 v (.row new 1 q) = some (v', ⟨hp, ts'⟩) ∧ GrowV base ts' w v' (n + 1) (cs ++ new) ∧ Ext base ts ts' :=
  GrowV.append he hu g hb rfl (by simp only [vCells]; rw [if_pos (by omega), List.take_of_length_le (by omega)]) (by simpa using hnl) hcell hlim
end Go.Ab
/- Calls that are made as if all memory stayed as it is: what memory holds is read as rows. Conditions: none. -/
namespace Go.Ab
open Go.RowKit (Below)
def Ctx.all (w : World) : Ctx := { base := w.heap.size, blk := fun _ => none, pin := fun b i => w.cell? ⟨b, i, none⟩, tok := fun _ _ => none, siz := fun _ => none }
theorem WRel.all (w : World) : WRel (Ctx.all w) S.empty w :=
  ⟨Nat.le_refl _, fun _ _ _ h => h, fun a o ho => by simp [S.empty] at ho, fun a c hc => by simp [Ctx.all] at hc, fun a a' c hc => by simp [Ctx.all] at hc,
   fun k e he => by simp [S.empty] at he, fun k e x hx => by simp [Ctx.all] at hx, fun k k' e e' b p q he => by simp [S.empty] at he, fun c n hc => by simp [Ctx.all] at hc⟩
theorem seal_all {Γ : Ctx} {σ : S} {w : World} (hw : WRel Γ σ w) : ∀ (d : Nat) {v v' : V} {x : Value}, VRel Γ v x → sealV σ.heap d v = some v' → VRel (Ctx.all w) v' x := by
  have hp : ∀ b i x, Γ.pin b i = some x → (Ctx.all w).pin b i = some x := hw.pins
  intro d
  induction d with
  | zero => intro v v' x h hs; simp [sealV] at hs
  | succ d ih =>
    intro v v' x h hs
    cases h with
    | row cells len cap a c xs hq hr hcap =>
      simp only [sealV, Option.map_eq_some_iff] at hs
      obtain ⟨cs, hcs, rfl⟩ := hs
      obtain ⟨h1, h2⟩ := mapM_getElem hcs
      have hlc : len ≤ c := by
        obtain ⟨_, _, e, _, h3⟩ := (VRel.row cells len cap a c xs hq hr hcap : VRel Γ _ _).row_inv
        cases e; exact h3
      exact .row _ _ _ a c xs (fun i hi => ⟨(hq i (by omega)).1, hp _ _ _ (hq i (by omega)).2⟩) (fun i hi => ih (hr i (by omega)) (h2 i (by omega) hi)) hlc
    | hsl b off len cap ex c c' hblk hcc =>
      simp only [sealV] at hs
      split at hs
      · rename_i cs t hb
        split at hs
        · rename_i hlen
          simp only [Option.map_eq_some_iff] at hs
          obtain ⟨cs', hcs, rfl⟩ := hs
          obtain ⟨h1, h2⟩ := mapM_getElem hcs
          obtain ⟨ob, g1, g2, g3, g4⟩ := hw.at hblk hb
          cases ob <;> simp only [ORel] at g2
          rename_i xs t' fr
          obtain ⟨rfl, rfl, hl, hr⟩ := g2
          simp only [List.length_drop] at h1
          refine .row _ _ _ ⟨c, off, none⟩ c' (fun i => xs.getD (off + i) undef) (fun i hi => ⟨rfl, ?_⟩) (fun i hi => ?_) ?_
          · simp only [Ctx.all]
            rw [World.cell?, g1]
            have : off + i < xs.size := by omega
            simp [Array.getD, this]
          · have h3 : off + i < xs.size := by omega
            have e : xs.getD (off + i) undef = xs[off + i] := by simp [Array.getD, h3]
            rw [e]
            refine ih (hr (off + i) (by omega) h3) ?_
            have := h2 i (by simp; omega) hi
            simpa using this
          · simp only [CapRel]; omega
        · simp at hs
      · simp at hs
    | tup cs xs hl hr =>
      simp only [sealV, Option.map_eq_some_iff] at hs
      obtain ⟨cs', hcs, rfl⟩ := hs
      obtain ⟨h1, h2⟩ := mapM_getElem hcs
      exact .tup _ _ (by omega) (fun i hi hi2 => ih (hr i (by omega) hi2) (h2 i (by omega) hi))
    | agg cs xs hl hr =>
      simp only [sealV, Option.map_eq_some_iff] at hs
      obtain ⟨cs', hcs, rfl⟩ := hs
      obtain ⟨h1, h2⟩ := mapM_getElem hcs
      exact .agg _ _ (by omega) (fun i hi hi2 => ih (hr i (by omega) hi2) (h2 i (by omega) hi))
    | iface t u x h =>
      simp only [sealV, Option.map_eq_some_iff] at hs
      obtain ⟨u', hu, rfl⟩ := hs
      exact .iface _ _ _ (ih h hu)
    | bool b => simp [sealV, V.closed] at hs; subst hs; exact .bool _
    | int k n => simp [sealV, V.closed] at hs; subst hs; exact .int _ _
    | str x => simp [sealV, V.closed] at hs; subst hs; exact .str _
    | ptr b off c h => simp [sealV, V.closed] at hs; subst hs; exact .any _ rfl
    | any x h => simp [sealV, V.closed] at hs; subst hs; exact .any x h
    | nilptr => simp [sealV, V.closed] at hs; subst hs; exact .nilptr
    | rptr cells a xs hq hr =>
      have h0 : VRel Γ (.rptr cells) (.pointer (some a)) := .rptr cells a xs hq hr
      simp only [sealV, Option.some.injEq] at hs
      split at hs
      · subst hs; exact h0.of_closed hp ‹_›
      · subst hs; exact .any _ rfl
    | nilsl => simp [sealV, V.closed] at hs; subst hs; exact .nilsl
    | nilfn => simp [sealV, V.closed] at hs; subst hs; exact .nilfn
    | nilif => simp [sealV, V.closed] at hs; subst hs; exact .nilif
    | nilmap => simp [sealV, V.closed] at hs; subst hs; exact .nilmap
    | func f fs cs xs ys hx hxr hy hyr =>
      have h0 : VRel Γ (.func f fs cs) (.func (.func f) xs ys) := .func f fs cs xs ys hx hxr hy hyr
      simp only [sealV, Option.some.injEq] at hs
      split at hs
      · subst hs; exact h0.of_closed hp ‹_›
      · subst hs; exact .any _ rfl
    | yld l c h => simp [sealV, V.closed] at hs; subst hs; exact .any _ rfl
    | map b c h => simp [sealV, V.closed] at hs; subst hs; exact .any _ rfl
    | meth n v x h =>
      have h0 : VRel Γ (.meth n v) (.func (.method n) #[x] #[]) := .meth n v x h
      simp only [sealV, Option.some.injEq] at hs
      split at hs
      · subst hs; exact h0.of_closed hp ‹_›
      · subst hs; exact .any _ rfl
def V.bare : V → Bool
  | .bool _ | .int _ _ | .str _ => true
  | _ => false
def V.gr : V → Bool
  | .tup vs => vs.all V.bare
  | v => v.bare
theorem bare_rel {Γ Γ' : Ctx} {v : V} {x : Value} (h : VRel Γ v x) (hb : v.bare = true) : VRel Γ' v x := by
  cases h <;> first | exact .bool _ | exact .int _ _ | exact .str _ | simp [V.bare] at hb
theorem gr_rel {Γ Γ' : Ctx} {v : V} {x : Value} (h : VRel Γ v x) (hb : v.gr = true) : VRel Γ' v x := by
  by_cases ht : ∃ vs, v = .tup vs
  · obtain ⟨vs, rfl⟩ := ht
    cases h with
    | tup cs xs hl hr => exact .tup vs xs hl fun i a b => bare_rel (hr i a b) (List.all_eq_true.1 hb _ (List.getElem_mem a))
  · refine bare_rel h ?_
    cases v <;> first | exact hb | exact absurd ⟨_, rfl⟩ ht
theorem LRel.seal {Γ : Ctx} {σ : S} {w : World} (hw : WRel Γ σ w) {args args' : List V} {xs : Array Value} (hx : LRel Γ args xs) (hs : args.mapM (sealV σ.heap sealDepth) = some args') : LRel (Ctx.all w) args' xs := by
  obtain ⟨h1, h2⟩ := mapM_getElem hs
  have hl := hx.len
  exact ⟨by omega, fun i a b => seal_all hw _ (hx.rel i (by omega) b) (h2 i (by omega) a)⟩
theorem GOK.all {E : Env} (hE : E.Ok) {Γ : Ctx} {σ : S} {w : World} (hw : WRel Γ σ w) (h : GOK E Γ) : GOK E (Ctx.all w) := fun g v hv => (h g v hv).of_closed hw.pins (hE.glc g v hv)
theorem call_all {E : Env} (hE : E.Ok) {f : FuncId} {args args' : List V} {v : V} {σ : S} (hc : callFn E (ev E) f args' S.empty = some (v, S.empty)) (hv : v.gr = true) (hs : args.mapM (sealV σ.heap sealDepth) = some args')
    {Γ : Ctx} {w : World} {xs : Array Value} (hw : WRel Γ σ w) (hg : GOK E Γ) (hx : LRel Γ args xs) : ∃ Γ' w' y, Moved Γ Γ' σ w w' ∧ VRel Γ' v y ∧ CallsV E.P f xs w y w' := by
  obtain ⟨Γ1, w1, y, m, hy, h⟩ := callFn_sound hE (fun t r h => ev_sound hE h) hc (WRel.all w) (hg.all hE hw) (hx.seal hw hs)
  exact ⟨_, w1, y, hw.after m.below, gr_rel hy hv, h⟩
end Go.Ab
namespace Go.Ab
theorem Wa : type_of% (And.intro @Za (And.intro @Zb (And.intro @Zc (And.intro @Zd (And.intro @Ze (And.intro @Zf (And.intro @Zg (And.intro @Zh (And.intro @Zi (And.intro @Zj (And.intro @Zk (@Zl)))))))))))) := And.intro @Za (And.intro @Zb (And.intro @Zc (And.intro @Zd (And.intro @Ze (And.intro @Zf (And.intro @Zg (And.intro @Zh (And.intro @Zi (And.intro @Zj (And.intro @Zk (@Zl)))))))))))
theorem Wb : type_of% (And.intro @Zm (And.intro @Zn (And.intro @Zq (And.intro @Zr (And.intro @Zs (And.intro @Zt (And.intro @Zu (And.intro @Zv (And.intro @Zw (And.intro @Zx (And.intro @Zy (@Zz)))))))))))) := And.intro @Zm (And.intro @Zn (And.intro @Zq (And.intro @Zr (And.intro @Zs (And.intro @Zt (And.intro @Zu (And.intro @Zv (And.intro @Zw (And.intro @Zx (And.intro @Zy (@Zz)))))))))))
theorem Wc : type_of% (And.intro @ZA (And.intro @ZB (And.intro @ZC (And.intro @ZD (And.intro @ZE (And.intro @ZF (And.intro @ZG (And.intro @ZH (And.intro @ZI (And.intro @ZJ (And.intro @ZK (@ZL)))))))))))) := And.intro @ZA (And.intro @ZB (And.intro @ZC (And.intro @ZD (And.intro @ZE (And.intro @ZF (And.intro @ZG (And.intro @ZH (And.intro @ZI (And.intro @ZJ (And.intro @ZK (@ZL)))))))))))
theorem Wd : type_of% (And.intro @ZM (And.intro @ZN (And.intro @ZO (And.intro @ZP (And.intro @ZQ (And.intro @ZR (And.intro @ZS (And.intro @ZT (And.intro @ZU (And.intro @ZV (And.intro @ZW (@ZX)))))))))))) := And.intro @ZM (And.intro @ZN (And.intro @ZO (And.intro @ZP (And.intro @ZQ (And.intro @ZR (And.intro @ZS (And.intro @ZT (And.intro @ZU (And.intro @ZV (And.intro @ZW (@ZX)))))))))))
theorem We : type_of% (And.intro @ZY (And.intro @ZZ (And.intro @Z0 (And.intro @Z1 (And.intro @Z2 (And.intro @Z3 (And.intro @Z4 (And.intro @Z5 (And.intro @Z6 (And.intro @Z7 (And.intro @true_and (@Z8)))))))))))) := And.intro @ZY (And.intro @ZZ (And.intro @Z0 (And.intro @Z1 (And.intro @Z2 (And.intro @Z3 (And.intro @Z4 (And.intro @Z5 (And.intro @Z6 (And.intro @Z7 (And.intro @true_and (@Z8)))))))))))
theorem Wf : type_of% (And.intro @Z9 (And.intro @map_ite' (And.intro @Ya (And.intro @bind_ite' (And.intro @Yb (And.intro @Yc (And.intro @Yd (And.intro @Ye (And.intro @Yf (And.intro @Yg (And.intro @Yh (@Yi)))))))))))) := And.intro @Z9 (And.intro @map_ite' (And.intro @Ya (And.intro @bind_ite' (And.intro @Yb (And.intro @Yc (And.intro @Yd (And.intro @Ye (And.intro @Yf (And.intro @Yg (And.intro @Yh (@Yi)))))))))))
theorem Wg : type_of% (And.intro @Yj (And.intro @Yk (And.intro @Yl (And.intro @Ym (And.intro @Yn (And.intro @Yo (And.intro @Yp (And.intro @Yq (And.intro @Yr (And.intro @Yt (And.intro @Yu (@Yv)))))))))))) := And.intro @Yj (And.intro @Yk (And.intro @Yl (And.intro @Ym (And.intro @Yn (And.intro @Yo (And.intro @Yp (And.intro @Yq (And.intro @Yr (And.intro @Yt (And.intro @Yu (@Yv)))))))))))
theorem Wh : type_of% (And.intro @Yw (And.intro @List.getD_cons_zero.{0} (And.intro @List.getD_cons_succ.{0} (And.intro @List.getElem?_toArray.{0} (And.intro @List.getElem?_cons_zero.{0} (And.intro @List.getElem?_cons_succ.{0} (And.intro @List.nil_append.{0} (And.intro @List.cons_append.{0} (And.intro @List.append_nil.{0} (And.intro @Yx (And.intro @Yy (@Nat.mul_one)))))))))))) := And.intro @Yw (And.intro @List.getD_cons_zero.{0} (And.intro @List.getD_cons_succ.{0} (And.intro @List.getElem?_toArray.{0} (And.intro @List.getElem?_cons_zero.{0} (And.intro @List.getElem?_cons_succ.{0} (And.intro @List.nil_append.{0} (And.intro @List.cons_append.{0} (And.intro @List.append_nil.{0} (And.intro @Yx (And.intro @Yy (@Nat.mul_one)))))))))))
theorem Wi : type_of% (And.intro @Yz (And.intro @YA (And.intro @YB (And.intro @YC (And.intro @YD (And.intro @YE (And.intro @YF (And.intro @YG (And.intro @YH (And.intro @YI (And.intro @YJ (@YK)))))))))))) := And.intro @Yz (And.intro @YA (And.intro @YB (And.intro @YC (And.intro @YD (And.intro @YE (And.intro @YF (And.intro @YG (And.intro @YH (And.intro @YI (And.intro @YJ (@YK)))))))))))
theorem Wj : type_of% (And.intro @YL (And.intro @YM (And.intro @YN (And.intro @YO (And.intro @List.append_eq.{0} (And.intro @YP (And.intro @YQ (And.intro @YR (And.intro @YS (And.intro @YT (And.intro @YU (@YV)))))))))))) := And.intro @YL (And.intro @YM (And.intro @YN (And.intro @YO (And.intro @List.append_eq.{0} (And.intro @YP (And.intro @YQ (And.intro @YR (And.intro @YS (And.intro @YT (And.intro @YU (@YV)))))))))))
theorem Wk : type_of% (And.intro @YW (And.intro @YX (And.intro @Nat.add_zero (And.intro @YY (And.intro @YZ (And.intro @Y1 (And.intro @Y2 (And.intro @Y3 (And.intro @Int.toNat_natCast (And.intro @Bool.false_eq_true (And.intro @not_false_eq_true (@and_self)))))))))))) := And.intro @YW (And.intro @YX (And.intro @Nat.add_zero (And.intro @YY (And.intro @YZ (And.intro @Y1 (And.intro @Y2 (And.intro @Y3 (And.intro @Int.toNat_natCast (And.intro @Bool.false_eq_true (And.intro @not_false_eq_true (@and_self)))))))))))
theorem Wl : type_of% (And.intro @Y4 (And.intro @Y5 (And.intro @Int.natCast_one (And.intro @Int.cast_ofNat_Int (And.intro @not_true_eq_false (And.intro @decide_true (And.intro @decide_false (And.intro @true_implies (And.intro @false_implies (And.intro @Int.toNat_zero (And.intro @List.length_cons.{0} (@List.length_nil.{0})))))))))))) := And.intro @Y4 (And.intro @Y5 (And.intro @Int.natCast_one (And.intro @Int.cast_ofNat_Int (And.intro @not_true_eq_false (And.intro @decide_true (And.intro @decide_false (And.intro @true_implies (And.intro @false_implies (And.intro @Int.toNat_zero (And.intro @List.length_cons.{0} (@List.length_nil.{0})))))))))))
theorem Wm : type_of% (And.intro @Nat.zero_add (And.intro @Bool.false_and (And.intro @Bool.and_false (And.intro @Y6 (And.intro @Y7 (And.intro @Y8 (And.intro @Y9 (And.intro @Qa (And.intro @Qb (And.intro @Qc (And.intro @Bool.or_false (@Bool.false_or)))))))))))) := And.intro @Nat.zero_add (And.intro @Bool.false_and (And.intro @Bool.and_false (And.intro @Y6 (And.intro @Y7 (And.intro @Y8 (And.intro @Y9 (And.intro @Qa (And.intro @Qb (And.intro @Qc (And.intro @Bool.or_false (@Bool.false_or)))))))))))
theorem Wn : type_of% (And.intro @Bool.true_and (And.intro @Bool.or_true (And.intro @Bool.true_or (And.intro @Qd (@Qe))))) := And.intro @Bool.true_and (And.intro @Bool.or_true (And.intro @Bool.true_or (And.intro @Qd (@Qe))))
end Go.Ab
