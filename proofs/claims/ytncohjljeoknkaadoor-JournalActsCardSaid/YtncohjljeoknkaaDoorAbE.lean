/- Proved here: more rules for stepping. Conditions: those of each theorem; no statement of the seat is proved in this text. -/
import Derived.Test.YtncohjljeoknkaaDoorAbD
import Derived.IntWalk
namespace Go.Ab
inductive Kt where
  | code (c : Code)
  | blk (id : Nat)
section
variable (E : Env) (fn : FuncId) (rnd : Option Nat) (n : Nat)
def Kt.post (Q : Post) : List Kt → Post
  | [] => Q
  | .code b :: r => ⟨fun T D σ => wpC E fn rnd n b T D σ (Kt.post Q r), (Kt.post Q r).exit, (Kt.post Q r).ret⟩
  | .blk id :: r => ⟨(Kt.post Q r).norm, fun i T D σ => if i = id then (Kt.post Q r).norm T D σ else (Kt.post Q r).exit i T D σ, (Kt.post Q r).ret⟩
def G (Q : Post) (ks : List Kt) (c : Code) (T : Tm) (D : List DE) (σ : S) : Prop := wpC E fn rnd n c T D σ (Kt.post E fn rnd n Q ks)
def GL (Q : Post) (ks : List Kt) (m : Bool) (ops : Array Oper) (l : List Oper) (T : Tm) (D : List DE) (σ : S) : Prop :=
  wpL E m n ops l T σ fun T σ => (Kt.post E fn rnd n Q ks).norm T D σ
def GS (Q : Post) (ks : List Kt) (m : Bool) (ops : Array Oper) (l : List Oper) (T : Tm) (D : List DE) (d : Nat) (o : Option (V × S)) : Prop :=
  V1 o fun p => GL E fn rnd n Q ks m ops l (upd T d p.1) D p.2
def GN (Q : Post) (ks : List Kt) (m : Bool) (ops : Array Oper) (l : List Oper) (T : Tm) (D : List DE) (o : Option (V × S)) : Prop :=
  V1 o fun p => GL E fn rnd n Q ks m ops l T D p.2
def GB (Q : Post) (ks : List Kt) (a b : Code) (T : Tm) (D : List DE) (σ : S) (t : Nat) (v : V) : Prop :=
  Br v (G E fn rnd n Q ks a (upd T t (.bool true)) D σ) (G E fn rnd n Q ks b (upd T t (.bool false)) D σ)
def GG (Q : Post) (ks : List Kt) (m : Bool) (ops : Array Oper) (l : List Oper) (T : Tm) (D : List DE) (σ : S) (d : Nat) (op : Op) (b : Bool) (g : Nat) (v : V) : Prop :=
  Br3 v
    (match b with
      | true => GS E fn rnd n Q ks m ops l (upd T g (.bool true)) D d (opT E m (upd T g (.bool true)) σ op)
      | false => GL E fn rnd n Q ks m ops l (upd (upd T g (.bool true)) d (.tup [])) D σ)
    (match b with
      | true => GL E fn rnd n Q ks m ops l (upd (upd T g (.bool false)) d (.tup [])) D σ
      | false => GS E fn rnd n Q ks m ops l (upd T g (.bool false)) D d (opT E m (upd T g (.bool false)) σ op))
    (GL E fn rnd n Q ks m ops l (upd T d (.tup [])) D σ)
end
section
variable {E : Env} {fn : FuncId} {rnd : Option Nat} {n : Nat} {Q : Post} {ks : List Kt} {m : Bool} {ops : Array Oper} {l : List Oper} {T : Tm} {D : List DE} {σ : S}
theorem G_start {c : Code} (h : G E fn rnd n Q [] c T D σ) : wpC E fn rnd n c T D σ Q := h
theorem Za (a b : Code) : G E fn rnd n Q ks (.seq a b) T D σ = G E fn rnd n Q (.code b :: ks) a T D σ := rfl
theorem Zb (id : Nat) (c : Code) : G E fn rnd n Q ks (.block id c) T D σ = G E fn rnd n Q (.blk id :: ks) c T D σ := rfl
theorem Zc (c : Code) : G E fn rnd n Q (.code c :: ks) .skip T D σ = G E fn rnd n Q ks c T D σ := rfl
theorem Zd (id : Nat) : G E fn rnd n Q (.blk id :: ks) .skip T D σ = G E fn rnd n Q ks .skip T D σ := rfl
theorem Ze : G E fn rnd n Q [] .skip T D σ = Q.norm T D σ := rfl
theorem Zf (c : Code) (i : Nat) : G E fn rnd n Q (.code c :: ks) (.exit i) T D σ = G E fn rnd n Q ks (.exit i) T D σ := rfl
theorem Zg (id i : Nat) : G E fn rnd n Q (.blk id :: ks) (.exit i) T D σ = if i = id then G E fn rnd n Q ks .skip T D σ else G E fn rnd n Q ks (.exit i) T D σ := rfl
theorem Zh (i : Nat) : G E fn rnd n Q [] (.exit i) T D σ = Q.exit i T D σ := rfl
theorem Zi (c : Code) : G E fn rnd n Q (.code c :: ks) .ret T D σ = G E fn rnd n Q ks .ret T D σ := rfl
theorem Zj (id : Nat) : G E fn rnd n Q (.blk id :: ks) .ret T D σ = G E fn rnd n Q ks .ret T D σ := rfl
theorem Zk : G E fn rnd n Q [] .ret T D σ = Q.ret T D σ := rfl
theorem Zl (t : Nat) (a b : Code) : G E fn rnd n Q ks (.cond (.tmp t) a b) T D σ = (t < n ∧ GB E fn rnd n Q ks a b T D σ t (T t)) := rfl
theorem Zm (v : Bool) (a b : Code) : G E fn rnd n Q ks (.cond (.const (.bool v)) a b) T D σ = if v then G E fn rnd n Q ks a T D σ else G E fn rnd n Q ks b T D σ := by
  show V1 (some (V.bool v)) _ = _
  rw [Yy]
  cases v
  · exact Br_false _ _
  · exact Br_true _ _
theorem Zn (c : Code) : G E fn rnd n Q ks (.loop c) T D σ = wpLoop E fn rnd n c T D σ (Kt.post E fn rnd n Q ks) := rfl
theorem Qd (c : Code) : G E fn rnd n Q ks (.scope c) T D σ = G E fn rnd n Q ks c T D σ := rfl
theorem Qe (l : Nat) : G E fn rnd n Q ks (.label l) T D σ = G E fn rnd n Q ks .skip T D σ := rfl
theorem Zo (id : Nat) (l : List Oper) : G E fn rnd n Q ks (.region id l.toArray false) T D σ = GL E fn rnd n Q ks (E.mutb fn id) l.toArray l T D σ := rfl
theorem Zp (id : Nat) (l : List Oper) (hs : E.stab fn id = false) : G E fn rnd n Q ks (.region id l.toArray true) T D σ = (drawOK E l.toArray = true ∧ GL E fn rnd n Q ks (E.mutb fn id) l.toArray l T D σ) := by
  unfold G wpC
  simp only [hs]
  rfl
def GK (E : Env) (fn : FuncId) (rnd : Option Nat) (n : Nat) (Q : Post) (ks : List Kt) (m : Bool) (K : S → Prop) (l : List Oper) (T : Tm) (D : List DE) (σ : S) : Prop :=
  wpS E m n K l T σ fun T σ => (Kt.post E fn rnd n Q ks).norm T D σ
def GKS (E : Env) (fn : FuncId) (rnd : Option Nat) (n : Nat) (Q : Post) (ks : List Kt) (m : Bool) (K : S → Prop) (l : List Oper) (T : Tm) (D : List DE) (d : Option Nat) (op : Op) (o : Option (V × S)) : Prop :=
  V1 o fun p => (scOp E op = true → K p.2) ∧ (readsOp op = true → ∀ σ', K σ' → aread E (evalT E T) σ' op = some p.1) ∧
    (match d with
      | none => GK E fn rnd n Q ks m K l T D p.2
      | some d => d < n ∧ GK E fn rnd n Q ks m K l (upd T d p.1) D p.2)
theorem Y7 (K : S → Prop) : GK E fn rnd n Q ks m K [] T D σ = G E fn rnd n Q ks .skip T D σ := rfl
theorem Y8 (K : S → Prop) (d : Option Nat) (op : Op) (t : TypeId) (p : String) (a : Array Edge) : GK E fn rnd n Q ks m K (⟨d, op, t, p, a, none⟩ :: l) T D σ = GKS E fn rnd n Q ks m K l T D d op (opT E m T σ op) := rfl
theorem Y9 (K : S → Prop) (d : Nat) (op : Op) (v : V) (σ' : S) : GKS E fn rnd n Q ks m K l T D (some d) op (some (v, σ')) = ((scOp E op = true → K σ') ∧ (readsOp op = true → ∀ s, K s → aread E (evalT E T) s op = some v) ∧ d < n ∧ GK E fn rnd n Q ks m K l (upd T d v) D σ') := by
  simp only [GKS, Yy]
theorem Qa (K : S → Prop) (op : Op) (v : V) (σ' : S) : GKS E fn rnd n Q ks m K l T D none op (some (v, σ')) = ((scOp E op = true → K σ') ∧ (readsOp op = true → ∀ s, K s → aread E (evalT E T) s op = some v) ∧ GK E fn rnd n Q ks m K l T D σ') := by
  simp only [GKS, Yy]
theorem Qb (K : S → Prop) (d : Option Nat) (op : Op) (c : Prop) [Decidable c] (o : Option (V × S)) : GKS E fn rnd n Q ks m K l T D d op (if c then o else none) = (c ∧ GKS E fn rnd n Q ks m K l T D d op o) := by simp only [GKS, V1_ite]
theorem Qc (K : S → Prop) (d : Option Nat) (op : Op) (c : Prop) [Decidable c] (o : Option (V × S)) : GKS E fn rnd n Q ks m K l T D d op (if c then none else o) = (¬ c ∧ GKS E fn rnd n Q ks m K l T D d op o) := by simp only [GKS, V1_nite]
theorem Zq : GL E fn rnd n Q ks m ops [] T D σ = G E fn rnd n Q ks .skip T D σ := rfl
theorem Zr (d : Nat) (op : Op) (t : TypeId) (p : String) (a : Array Edge) : GL E fn rnd n Q ks m ops (⟨some d, op, t, p, a, none⟩ :: l) T D σ = (d < n ∧ GS E fn rnd n Q ks m ops l T D d (opT E m T σ op)) := rfl
theorem Zs (op : Op) (t : TypeId) (p : String) (a : Array Edge) : GL E fn rnd n Q ks m ops (⟨none, op, t, p, a, none⟩ :: l) T D σ = GN E fn rnd n Q ks m ops l T D (opT E m T σ op) := rfl
theorem Zt (d : Nat) (op : Op) (t : TypeId) (p : String) (a : Array Edge) (j : Nat) (b : Bool) : GL E fn rnd n Q ks m ops (⟨some d, op, t, p, a, some (j, b)⟩ :: l) T D σ =
    V1 ((ops[j]?).bind (·.dst)) fun g => g < n ∧ d < n ∧ GG E fn rnd n Q ks m ops l T D σ d op b g (T g) := by
  unfold GL GG GS
  refine congrArg (V1 _) (funext fun g => ?_)
  by_cases hd : d < n
  · cases b <;> simp only [hd, true_and] <;> rfl
  · cases b <;> simp only [hd, false_and, and_false, Br3_none]
theorem Y1 : (Kt.post E fn rnd n Q ks).norm T D σ = G E fn rnd n Q ks .skip T D σ := rfl
theorem Y2 (i : Nat) : (Kt.post E fn rnd n Q ks).exit i T D σ = G E fn rnd n Q ks (.exit i) T D σ := rfl
theorem Y3 : (Kt.post E fn rnd n Q ks).ret T D σ = G E fn rnd n Q ks .ret T D σ := rfl
theorem Zu (d : Nat) (v : V) (σ' : S) : GS E fn rnd n Q ks m ops l T D d (some (v, σ')) = GL E fn rnd n Q ks m ops l (upd T d v) D σ' := by simp only [GS, Yy]
theorem Zv (d : Nat) (c : Prop) [Decidable c] (o : Option (V × S)) : GS E fn rnd n Q ks m ops l T D d (if c then o else none) = (c ∧ GS E fn rnd n Q ks m ops l T D d o) := by simp only [GS, V1_ite]
theorem Zw (d : Nat) (c : Prop) [Decidable c] (o : Option (V × S)) : GS E fn rnd n Q ks m ops l T D d (if c then none else o) = (¬ c ∧ GS E fn rnd n Q ks m ops l T D d o) := by simp only [GS, V1_nite]
theorem Zx (v : V) (σ' : S) : GN E fn rnd n Q ks m ops l T D (some (v, σ')) = GL E fn rnd n Q ks m ops l T D σ' := by simp only [GN, Yy]
theorem Zy (c : Prop) [Decidable c] (o : Option (V × S)) : GN E fn rnd n Q ks m ops l T D (if c then o else none) = (c ∧ GN E fn rnd n Q ks m ops l T D o) := by simp only [GN, V1_ite]
theorem Zz (c : Prop) [Decidable c] (o : Option (V × S)) : GN E fn rnd n Q ks m ops l T D (if c then none else o) = (¬ c ∧ GN E fn rnd n Q ks m ops l T D o) := by simp only [GN, V1_nite]
theorem ZA (a b : Code) (t : Nat) : GB E fn rnd n Q ks a b T D σ t (.bool true) = G E fn rnd n Q ks a (upd T t (.bool true)) D σ := Br_true _ _
theorem ZB (a b : Code) (t : Nat) : GB E fn rnd n Q ks a b T D σ t (.bool false) = G E fn rnd n Q ks b (upd T t (.bool false)) D σ := Br_false _ _
theorem ZC (a b : Code) (t : Nat) (p : Prop) [Decidable p] : GB E fn rnd n Q ks a b T D σ t (.bool (decide p)) = ((p → G E fn rnd n Q ks a (upd T t (.bool true)) D σ) ∧ (¬ p → G E fn rnd n Q ks b (upd T t (.bool false)) D σ)) := by
  simp only [GB, Br_bool, decide_eq_true_eq, decide_eq_false_iff_not]
theorem ZD (d : Nat) (op : Op) (b : Bool) (g : Nat) : GG E fn rnd n Q ks m ops l T D σ d op b g (.tup []) = GL E fn rnd n Q ks m ops l (upd T d (.tup [])) D σ := Br3_tup _ _ _
theorem ZE (d : Nat) (op : Op) (g : Nat) : GG E fn rnd n Q ks m ops l T D σ d op true g (.bool true) = GS E fn rnd n Q ks m ops l (upd T g (.bool true)) D d (opT E m (upd T g (.bool true)) σ op) := Br3_true _ _ _
theorem ZF (d : Nat) (op : Op) (g : Nat) : GG E fn rnd n Q ks m ops l T D σ d op true g (.bool false) = GL E fn rnd n Q ks m ops l (upd (upd T g (.bool false)) d (.tup [])) D σ := Br3_false _ _ _
theorem ZG (d : Nat) (op : Op) (g : Nat) : GG E fn rnd n Q ks m ops l T D σ d op false g (.bool true) = GL E fn rnd n Q ks m ops l (upd (upd T g (.bool true)) d (.tup [])) D σ := Br3_true _ _ _
theorem ZH (d : Nat) (op : Op) (g : Nat) : GG E fn rnd n Q ks m ops l T D σ d op false g (.bool false) = GS E fn rnd n Q ks m ops l (upd T g (.bool false)) D d (opT E m (upd T g (.bool false)) σ op) := Br3_false _ _ _
theorem ZI (d : Nat) (op : Op) (g : Nat) (p : Prop) [Decidable p] : GG E fn rnd n Q ks m ops l T D σ d op true g (.bool (decide p)) = ((p → GS E fn rnd n Q ks m ops l (upd T g (.bool true)) D d (opT E m (upd T g (.bool true)) σ op)) ∧ (¬ p → GL E fn rnd n Q ks m ops l (upd (upd T g (.bool false)) d (.tup [])) D σ)) := by
  simp only [GG, Br3_bool, decide_eq_true_eq, decide_eq_false_iff_not]
theorem ZJ (d : Nat) (op : Op) (g : Nat) (p : Prop) [Decidable p] : GG E fn rnd n Q ks m ops l T D σ d op false g (.bool (decide p)) = ((p → GL E fn rnd n Q ks m ops l (upd (upd T g (.bool true)) d (.tup [])) D σ) ∧ (¬ p → GS E fn rnd n Q ks m ops l (upd T g (.bool false)) D d (opT E m (upd T g (.bool false)) σ op))) := by
  simp only [GG, Br3_bool, decide_eq_true_eq, decide_eq_false_iff_not]
end
section
variable {E : Env} {m : Bool} {T : Tm} {σ : S}
theorem opT_of_pure {op : Op} (h : aread E (evalT E T) σ op = none) (h2 : astate E m (evalT E T) σ op = none) (h3 : ∀ c, op ≠ .call c) : opT E m T σ op = (apure E (evalT E T) op).map fun v => (v, σ) := by
  unfold opT
  cases hp : apure E (evalT E T) op with
  | some v => rfl
  | none =>
    simp only [h, Option.map_none]
    split
    · exact absurd rfl (h3 _)
    · exact absurd rfl (h3 _)
    · exact h2
theorem ZK (x : Operand) : opT E m T σ (.move x) = (evalT E T x).map fun v => (v, σ) := opT_of_pure rfl rfl (fun _ h => by cases h)
theorem ZL (x : Operand) : opT E m T σ (.assign x) = (evalT E T x).map fun v => (v, σ) := opT_of_pure rfl rfl (fun _ h => by cases h)
def pickO (c a b : Option V) : Option V := match c with | some (.bool t) => a.bind fun x => b.bind fun y => some (if t then x else y) | _ => none
theorem ZN (a b : V) : pickO (some (.bool true)) (some a) (some b) = some a := rfl
theorem ZO (a b : V) : pickO (some (.bool false)) (some a) (some b) = some b := rfl
theorem ZM (c a b : Operand) : opT E m T σ (.pick c a b) = (pickO (evalT E T c) (evalT E T a) (evalT E T b)).map fun v => (v, σ) := by
  rw [opT_of_pure rfl rfl (fun _ h => by cases h)]
  simp only [apure, pickO]
  cases evalT E T c with
  | none => rfl
  | some u => cases u <;> rfl
def binO (E : Env) (t : TypeId) (c : Bool) (op : BinOp) (x y : Option V) : Option V := x.bind fun a => y.bind fun b => vBinE E t c op a b
theorem vBinE_of {E : Env} {t : TypeId} {c : Bool} {op : BinOp} {a b : V} (h : vBinA E t op a b = none) : vBinE E t c op a b = vBinT (E.P.underlying t) c op a b := by
  unfold vBinE
  rw [h]
  cases vBinT (E.P.underlying t) c op a b <;> rfl
theorem ZQ (E : Env) (t : TypeId) (c : Bool) (op : BinOp) (k k' : IntKind) (a b : Int) : binO E t c op (some (.int k a)) (some (.int k' b)) = vBinT (E.P.underlying t) c op (.int k a) (.int k' b) := vBinE_of (by cases op <;> rfl)
theorem ZR (E : Env) (t : TypeId) (c : Bool) (op : BinOp) (a b : List UInt8) : binO E t c op (some (.str a)) (some (.str b)) = vBinT (E.P.underlying t) c op (.str a) (.str b) := vBinE_of (by cases op <;> rfl)
theorem ZS (E : Env) (t : TypeId) (c : Bool) (op : BinOp) (a b : Bool) : binO E t c op (some (.bool a)) (some (.bool b)) = vBinT (E.P.underlying t) c op (.bool a) (.bool b) := vBinE_of (by cases op <;> rfl)
theorem ZP (op : BinOp) (t u : TypeId) (x y : Operand) : opT E m T σ (.binOp op t x y u) = (binO E t (isConst x || isConst y) op (evalT E T x) (evalT E T y)).map fun v => (v, σ) :=
  opT_of_pure rfl rfl (fun _ h => by cases h)
theorem ZT (op : UnOp) (t : TypeId) (x : Operand) : opT E m T σ (.unOp op t x) = ((evalT E T x).bind (vUn op)).map fun v => (v, σ) :=
  opT_of_pure rfl rfl (fun _ h => by cases h)
def extrO (i : Nat) : V → Option V
  | .tup vs => vs[i]?
  | _ => none
theorem ZV (i : Nat) (vs : List V) : extrO i (.tup vs) = vs[i]? := rfl
theorem ZU (x : Operand) (i : Nat) : opT E m T σ (.extract x i) = ((evalT E T x).bind (extrO i)).map fun v => (v, σ) :=
  opT_of_pure rfl rfl (fun _ h => by cases h)
def idxO (d : Option TypeDesc) (s : TypeId → Option Nat) (v i : Option V) : Option V := v.bind fun v => i.bind fun i => match d with
    | some (.slice e) => (s e).bind fun s => vIndexAddr s v i
    | some (.array n e) => (s e).bind fun s => vIndexArr n s v i
    | _ => none
theorem ZX (e : TypeId) (s : TypeId → Option Nat) (v i : V) : idxO (some (.slice e)) s (some v) (some i) = (s e).bind fun s => vIndexAddr s v i := rfl
theorem ZW (t : TypeId) (x ix : Operand) : opT E m T σ (.indexAddr t x ix) = (idxO (E.P.underlying t) (sz E) (evalT E T x) (evalT E T ix)).map fun v => (v, σ) :=
  opT_of_pure rfl rfl (fun _ h => by cases h)
theorem ZY (t : TypeId) (x : Operand) : opT E m T σ (.load t x) = ((evalT E T x).bind (aload E σ.heap t)).map fun v => (v, σ) := by
  unfold opT
  simp only [apure, aread, astate]
  cases evalT E T x with
  | none => rfl
  | some p => cases h : aload E σ.heap t p <;> simp only [Option.bind_some, Option.map_some, Option.map_none, h]
theorem YZ (t : TypeId) : opT E m T σ (.alloc t) = (zeroV E t).map fun z => (.ptr σ.heap.length 0, σ.push (.cells z.cells t)) := rfl
theorem YY (t : TypeId) (x : Operand) : opT E m T σ (.box t x) = (evalT E T x).map fun v => (.ptr σ.heap.length 0, σ.push (.cells v.cells t)) := rfl
theorem YC (t : TypeId) (a x : Operand) : opT E m T σ (.store t a x) = (evalT E T a).bind fun p => (evalT E T x).bind fun v => (sz E t).bind fun s =>
      if v.cells.length = s then (storeCellsV σ v.cells p).map fun σ' => (.tup [], σ') else none := rfl
theorem YP (f : FuncId) (a c : Array Operand) : opT E m T σ (.makeFunc (.func f) a c) = ((listO (evalT E T) a.toList).bind fun a => (listO (evalT E T) c.toList).map fun c => .func f a c).map fun v => (v, σ) :=
  opT_of_pure rfl rfl (fun _ h => by cases h)
theorem ZZ (g : Operand) (as : Array Operand) (ts : Array TypeId) : opT E m T σ (.call ⟨.value g, as, ts⟩) = (evalT E T g).bind fun gv => (listO (evalT E T) as.toList).bind fun vs => callV E (ev E) gv vs σ := rfl
def lenM (σ : S) (d : Option TypeDesc) (v : V) : Option (V × S) :=
  match d, v with
  | some (.map _ _), .nilmap => some (.int .i64 0, σ)
  | some (.map _ _), .map b =>
    match σ.heap[b]? with
    | some (.map es _) => some (.int .i64 es.length, σ)
    | _ => none
  | _, _ => none
def lenO (σ : S) (d : Option TypeDesc) (v : V) : Option (V × S) :=
  match vLenT d v with
  | some r => some (r, σ)
  | none => lenM σ d v
theorem Z1 (σ : S) (e : TypeId) (v : V) : lenO σ (some (.slice e)) v = (vLenT (some (.slice e)) v).map fun r => (r, σ) := by
  unfold lenO
  cases vLenT (some (.slice e)) v <;> rfl
theorem Z2 (σ : S) (v : V) : lenO σ (some .string) v = (vLenT (some .string) v).map fun r => (r, σ) := by
  unfold lenO
  cases vLenT (some .string) v <;> rfl
theorem Z0 (x : Operand) (t : TypeId) : opT E m T σ (.call ⟨.builtin .len, #[x], #[t]⟩) = (evalT E T x).bind (lenO σ (E.P.underlying t)) := by
  unfold opT
  simp only [apure, aread, astate, listO, Option.map_some]
  cases evalT E T x with
  | none => rfl
  | some v =>
    simp only [Option.bind_some, List.getElem?_toArray, List.getElem?_cons_zero]
    unfold lenO lenM
    cases h : vLenT (E.P.underlying t) v <;> rfl
theorem opT_cap (x : Operand) (t : TypeId) : opT E m T σ (.call ⟨.builtin .cap, #[x], #[t]⟩) = ((evalT E T x).bind (vCapT (E.P.underlying t))).map fun v => (v, σ) := by
  unfold opT
  simp only [apure, aread, astate, listO, Option.map_some]
  cases evalT E T x with
  | none => rfl
  | some v =>
    simp only [Option.bind_some, List.getElem?_toArray, List.getElem?_cons_zero]
    cases h : vCapT (E.P.underlying t) v <;> rfl
theorem opT_invoke (x : Operand) (name : String) (as : Array Operand) (ts : Array TypeId) : opT E m T σ (.call ⟨.invoke x name, as, ts⟩) = (evalT E T x).bind fun xv => (methV E xv name).bind fun p => (listO (evalT E T) as.toList).bind fun vs => callFn E (ev E) p.1 (p.2 :: vs) σ := rfl
theorem opT_typeAssert (x : Operand) (a b : TypeId) (ok : Bool) : opT E m T σ (.typeAssert x a b ok) = ((evalT E T x).bind (vAssert E b ok)).map fun v => (v, σ) :=
  opT_of_pure rfl rfl (fun _ h => by cases h)
theorem YL (as : Array Operand) (ts : Array TypeId) : opT E m T σ (.call ⟨.builtin .max, as, ts⟩) = ((listO (evalT E T) as.toList).bind (vMinMax true)).map fun v => (v, σ) := by
  unfold opT
  simp only [apure, aread, astate]
  cases (listO (evalT E T) as.toList).bind (vMinMax true) <;> rfl
theorem YM (as : Array Operand) (ts : Array TypeId) : opT E m T σ (.call ⟨.builtin .min, as, ts⟩) = ((listO (evalT E T) as.toList).bind (vMinMax false)).map fun v => (v, σ) := by
  unfold opT
  simp only [apure, aread, astate]
  cases (listO (evalT E T) as.toList).bind (vMinMax false) <;> rfl
theorem YN (k : IntKind) (a b : Int) : vMinMax true [.int k a, .int k b] = some (.int k (if b > a then b else a)) := rfl
theorem YO (k : IntKind) (a b : Int) : vMinMax false [.int k a, .int k b] = some (.int k (if b < a then b else a)) := rfl
def fldOff (E : Env) (t : TypeId) (f : Nat) : Option Nat :=
  match E.P.underlying t with
  | some (.struct fields) => (fields[f]?).bind fun fd => (sz E fd.type).bind fun s => if s = 0 then none else some fd.offset
  | _ => none
theorem YQ (t : TypeId) (x : Operand) (f : Nat) : opT E m T σ (.fieldAddr t x f) = (evalT E T x).bind fun v => (fldOff E t f).bind fun off => (vFieldAddr off v).map fun v => (v, σ) := by
  rw [opT_of_pure rfl rfl (fun _ h => by cases h)]
  simp only [apure, fldOff]
  cases evalT E T x with
  | none => rfl
  | some v =>
    simp only [Option.bind_some]
    cases E.P.underlying t with
    | none => rfl
    | some d =>
      cases d <;> try rfl
      rename_i fields
      simp only
      cases fields[f]? with
      | none => rfl
      | some fd =>
        simp only [Option.bind_some]
        cases sz E fd.type with
        | none => rfl
        | some s =>
          simp only [Option.bind_some]
          by_cases hs : s = 0 <;> simp [hs]
def buildO (E : Env) (t : TypeId) (ps : List (Nat × V)) : Option V := (zeroV E t).bind fun z => (placesOf E t).bind fun pl => (vFill pl z.cells ps).map .agg
theorem YR (t : TypeId) (parts : Array (Nat × Operand)) : opT E m T σ (.build t parts) = (partsO (evalT E T) parts.toList).bind fun ps => (buildO E t ps).map fun v => (v, σ) := by
  rw [opT_of_pure rfl rfl (fun _ h => by cases h)]
  simp only [apure, buildO]
  cases partsO (evalT E T) parts.toList <;> rfl
theorem YS (ρ : Operand → Option V) : partsO ρ [] = some [] := rfl
theorem YT (ρ : Operand → Option V) (i : Nat) (x : Operand) (r : List (Nat × Operand)) : partsO ρ ((i, x) :: r) = (ρ x).bind fun v => (partsO ρ r).map fun l => (i, v) :: l := rfl
theorem YU (off b o : Nat) : vFieldAddr off (.ptr b o) = some (.ptr b (o + off)) := rfl
theorem YV (off : Nat) (cs : List V) : vFieldAddr off (.rptr cs) = some (.rptr (cs.drop off)) := rfl
theorem YW (cs : List V) : (V.agg cs).cells = cs := rfl
theorem YX (σ : S) (o : AObj) : (σ.push o).heap[σ.heap.length]? = some o := by simp [S.push]
def convP (us ud : Option TypeDesc) (v : V) : Option V :=
  match us, ud, v with
  | some _, some (.int k), .int _ n => some (.int k (k.wrap n))
  | some _, some .string, .str s => some (.str s)
  | some _, some .string, .int _ n => if 0 ≤ n ∧ n < 128 then some (.str [UInt8.ofNat n.toNat]) else none
  | _, _, _ => none
def convR (E : Env) (h : List AObj) (us ud : Option TypeDesc) (v : V) : Option V :=
  match us, ud with
  | some (.slice e), some .string =>
    match E.P.underlying e, v with
    | some (.int .u8), .row cells len cap => (vCells h 1 len (.row cells len cap)).bind fun cs => (bytesOf cs).map .str
    | some (.int .u8), .hsl b off len cap ex => (vCells h 1 len (.hsl b off len cap ex)).bind fun cs => (bytesOf cs).map .str
    | some (.int .u8), .nilsl => some (.str [])
    | _, _ => none
  | some us, some ud => vUnsafe E h us ud v
  | _, _ => none
def convS (E : Env) (σ : S) (src dst : TypeId) (us ud : Option TypeDesc) (v : V) : Option (V × S) :=
  match us, ud, v with
  | some _, some (.slice e), .str s =>
    match E.P.underlying e with
    | some (.int .u8) => some (.row (byteCells s) s.length .unk, σ)
    | _ => none
  | some (.slice _), some (.slice e), .hsl b off len cap _ =>
    if src = dst then
      match E.P.underlying e, σ.heap[b]? with
      | some (.int .u8), some (.cells cs t) => if len ≤ cap ∧ off + len ≤ cs.length then some (.row ((cs.drop off).take len) len .unk, σ.set b (.ro cs t)) else none
      | _, _ => none
    else none
  | _, _, _ => none
def convO (E : Env) (σ : S) (src dst : TypeId) (us ud : Option TypeDesc) (v : V) : Option (V × S) :=
  match convP us ud v with
  | some u => some (u, σ)
  | none =>
    match convR E σ.heap us ud v with
    | some u => some (u, σ)
    | none => convS E σ src dst us ud v
theorem convO_bytes {E : Env} {σ : S} {src dst : TypeId} {d : TypeDesc} {e : TypeId} {s : List UInt8} (h : E.P.underlying e = some (.int .u8)) : convO E σ src dst (some d) (some (.slice e)) (.str s) = some (.row (byteCells s) s.length .unk, σ) := by
  cases d <;> simp [convO, convP, convR, convS, vUnsafe, h]
theorem Z5 (E : Env) (σ : S) (src dst : TypeId) (d : TypeDesc) (k k' : IntKind) (n : Int) : convO E σ src dst (some d) (some (.int k)) (.int k' n) = some (.int k (k.wrap n), σ) := rfl
theorem Z4 (s d : TypeId) (x : Operand) : opT E m T σ (.convert s d x) = (evalT E T x).bind fun v => convO E σ s d (E.P.underlying s) (E.P.underlying d) v := by
  unfold opT
  simp only [apure, aread, astate]
  cases evalT E T x with
  | none => rfl
  | some v =>
    simp only [Option.bind_some]
    show (match convP (E.P.underlying s) (E.P.underlying d) v with
      | some v => some (v, σ)
      | none => match convR E σ.heap (E.P.underlying s) (E.P.underlying d) v with
        | some v => some (v, σ)
        | none => convS E σ s d (E.P.underlying s) (E.P.underlying d) v) = _
    unfold convO
    rfl
def appO (E : Env) (m : Bool) (σ : S) (t t2 : TypeId) (a b : V) : Option (V × S) :=
  (elemS E t).bind fun e => (sz E e).bind fun s => (bys E e).bind fun by' =>
    match E.P.underlying t2 with
    | some (.int _) => azero E m s by' e a b σ
    | some _ => (vLen b).bind fun mm => (vCells σ.heap s mm b).bind fun new => if zeroN E e = some s then aappend m s by' mm e new a σ else none
    | none => none
theorem Z3 (x y : Operand) (t t2 : TypeId) : opT E m T σ (.call ⟨.builtin .append, #[x, y], #[t, t2]⟩) = (evalT E T x).bind fun a => (evalT E T y).bind fun b => appO E m σ t t2 a b := by
  unfold opT appO
  simp only [apure, aread, astate, listO, Option.map_some]
  cases evalT E T x with
  | none => rfl
  | some a =>
    cases evalT E T y with
    | none => rfl
    | some b => rfl
end
theorem map_ite' {α β : Type} (f : α → β) (c : Prop) [Decidable c] (o : Option α) : (if c then o else none).map f = if c then o.map f else none := by by_cases h : c <;> simp [h]
theorem Ya {α β : Type} (f : α → β) (c : Prop) [Decidable c] (o : Option α) : (if c then none else o).map f = if c then none else o.map f := by by_cases h : c <;> simp [h]
theorem bind_ite' {α β : Type} (f : α → Option β) (c : Prop) [Decidable c] (o : Option α) : (if c then o else none).bind f = if c then o.bind f else none := by by_cases h : c <;> simp [h]
theorem Yb {α β : Type} (f : α → Option β) (c : Prop) [Decidable c] (o : Option α) : (if c then none else o).bind f = if c then none else o.bind f := by by_cases h : c <;> simp [h]
theorem Z8 {α β : Type} (f : α → β) (v : α) : (some v).map f = some (f v) := rfl
theorem Y4 {α β : Type} (f : α → β) : (none : Option α).map f = none := rfl
theorem Y5 {α β : Type} (f : α → Option β) : (none : Option α).bind f = none := rfl
theorem Z9 {α β : Type} (f : α → Option β) (v : α) : (some v).bind f = f v := rfl
theorem vBin_add' (k : IntKind) (a b : Int) : vBin .add (.int k a) (.int k b) = some (.int k (k.wrap (a + b))) := by simp [vBin, vIntOp]
theorem Yc (us : Option TypeDesc) (cc : Bool) (k : IntKind) (a b : Int) : vBinT us cc .add (.int k a) (.int k b) = some (.int k (k.wrap (a + b))) := by
  unfold vBinT
  rw [vBin_add']
theorem vBin_sub' (k : IntKind) (a b : Int) : vBin .sub (.int k a) (.int k b) = some (.int k (k.wrap (a - b))) := by simp [vBin, vIntOp]
theorem Yd (us : Option TypeDesc) (cc : Bool) (k : IntKind) (a b : Int) : vBinT us cc .sub (.int k a) (.int k b) = some (.int k (k.wrap (a - b))) := by
  unfold vBinT
  rw [vBin_sub']
theorem vBin_mul' (k : IntKind) (a b : Int) : vBin .mul (.int k a) (.int k b) = some (.int k (k.wrap (a * b))) := by simp [vBin, vIntOp]
theorem Ye (us : Option TypeDesc) (cc : Bool) (k : IntKind) (a b : Int) : vBinT us cc .mul (.int k a) (.int k b) = some (.int k (k.wrap (a * b))) := by
  unfold vBinT
  rw [vBin_mul']
theorem vBin_quo' (k : IntKind) (a b : Int) : vBin .quo (.int k a) (.int k b) = if b = 0 then none else some (.int k (k.wrap (a.tdiv b))) := by simp [vBin, vIntOp]
theorem Ym (us : Option TypeDesc) (cc : Bool) (k : IntKind) (a b : Int) : vBinT us cc .quo (.int k a) (.int k b) = if b = 0 then none else some (.int k (k.wrap (a.tdiv b))) := by
  unfold vBinT
  rw [vBin_quo']
  split <;> split at * <;> simp_all
theorem vBin_rem' (k : IntKind) (a b : Int) : vBin .rem (.int k a) (.int k b) = if b = 0 then none else some (.int k (a.tmod b)) := by simp [vBin, vIntOp]
theorem Yl (us : Option TypeDesc) (cc : Bool) (k : IntKind) (a b : Int) : vBinT us cc .rem (.int k a) (.int k b) = if b = 0 then none else some (.int k (a.tmod b)) := by
  unfold vBinT
  rw [vBin_rem']
  split <;> split at * <;> simp_all
theorem vBin_eql' (k : IntKind) (a b : Int) : vBin .eql (.int k a) (.int k b) = some (.bool (decide (a = b))) := by simp [vBin, vIntOp]; rfl
theorem Yf (us : Option TypeDesc) (cc : Bool) (k : IntKind) (a b : Int) : vBinT us cc .eql (.int k a) (.int k b) = some (.bool (decide (a = b))) := by
  unfold vBinT
  rw [vBin_eql']
theorem vBin_neq' (k : IntKind) (a b : Int) : vBin .neq (.int k a) (.int k b) = some (.bool (decide (¬ a = b))) := by simp [vBin, vIntOp]; rfl
theorem Yg (us : Option TypeDesc) (cc : Bool) (k : IntKind) (a b : Int) : vBinT us cc .neq (.int k a) (.int k b) = some (.bool (decide (¬ a = b))) := by
  unfold vBinT
  rw [vBin_neq']
theorem vBin_lss' (k : IntKind) (a b : Int) : vBin .lss (.int k a) (.int k b) = some (.bool (decide (a < b))) := by simp [vBin, vIntOp]
theorem Yh (us : Option TypeDesc) (cc : Bool) (k : IntKind) (a b : Int) : vBinT us cc .lss (.int k a) (.int k b) = some (.bool (decide (a < b))) := by
  unfold vBinT
  rw [vBin_lss']
theorem vBin_leq' (k : IntKind) (a b : Int) : vBin .leq (.int k a) (.int k b) = some (.bool (decide (a ≤ b))) := by simp [vBin, vIntOp]
theorem Yi (us : Option TypeDesc) (cc : Bool) (k : IntKind) (a b : Int) : vBinT us cc .leq (.int k a) (.int k b) = some (.bool (decide (a ≤ b))) := by
  unfold vBinT
  rw [vBin_leq']
theorem vBin_gtr' (k : IntKind) (a b : Int) : vBin .gtr (.int k a) (.int k b) = some (.bool (decide (b < a))) := by simp [vBin, vIntOp]
theorem Yj (us : Option TypeDesc) (cc : Bool) (k : IntKind) (a b : Int) : vBinT us cc .gtr (.int k a) (.int k b) = some (.bool (decide (b < a))) := by
  unfold vBinT
  rw [vBin_gtr']
theorem vBin_geq' (k : IntKind) (a b : Int) : vBin .geq (.int k a) (.int k b) = some (.bool (decide (b ≤ a))) := by simp [vBin, vIntOp]
theorem Yk (us : Option TypeDesc) (cc : Bool) (k : IntKind) (a b : Int) : vBinT us cc .geq (.int k a) (.int k b) = some (.bool (decide (b ≤ a))) := by
  unfold vBinT
  rw [vBin_geq']
theorem vBin_shl' (k k' : IntKind) (a b : Int) : vBin .shl (.int k a) (.int k' b) = if b < 0 then none else some (.int k (k.wrap (a * 2 ^ min b.toNat k.bits))) := by simp [vBin, vShift]
theorem vBin_shl (us : Option TypeDesc) (cc : Bool) (k k' : IntKind) (a b : Int) : vBinT us cc .shl (.int k a) (.int k' b) = if b < 0 then none else some (.int k (k.wrap (a * 2 ^ min b.toNat k.bits))) := by
  unfold vBinT
  rw [vBin_shl']
  split <;> split at * <;> simp_all
theorem vBin_shr' (k k' : IntKind) (a b : Int) : vBin .shr (.int k a) (.int k' b) = if b < 0 then none else some (.int k (a.fdiv (2 ^ min b.toNat k.bits))) := by simp [vBin, vShift]
theorem vBin_shr (us : Option TypeDesc) (cc : Bool) (k k' : IntKind) (a b : Int) : vBinT us cc .shr (.int k a) (.int k' b) = if b < 0 then none else some (.int k (a.fdiv (2 ^ min b.toNat k.bits))) := by
  unfold vBinT
  rw [vBin_shr']
  split <;> split at * <;> simp_all
theorem Yn (cc : Bool) (a b : Bool) : vBinT (some .bool) cc .eql (.bool a) (.bool b) = some (.bool (decide (a = b))) := by cases a <;> cases b <;> rfl
theorem Yo (cc : Bool) (a b : Bool) : vBinT (some .bool) cc .neq (.bool a) (.bool b) = some (.bool (decide (¬ a = b))) := by cases a <;> cases b <;> rfl
theorem Yp (p : Prop) [Decidable p] : vUn .not (.bool (decide p)) = some (.bool (decide (¬ p))) := by simp [vUn]
theorem YK (k : IntKind) (a : Int) : vUn .neg (.int k a) = some (.int k (k.wrap (0 - a))) := rfl
theorem Yq : vUn .not (.bool true) = some (.bool false) := rfl
theorem Yr : vUn .not (.bool false) = some (.bool true) := rfl
theorem Ys (s : Nat) (cells : List V) (len : Nat) (c : RCap) (k : IntKind) (i : Int) : vIndexAddr s (.row cells len c) (.int k i) = if 0 ≤ i ∧ i < len then some (.rptr (cells.drop (i.toNat * s))) else none := rfl
theorem Yt (e : TypeId) (cells : List V) (len : Nat) (c : RCap) : vLenT (some (.slice e)) (.row cells len c) = some (.int .i64 len) := rfl
theorem Yu (e : TypeId) : vLenT (some (.slice e)) .nilsl = some (.int .i64 0) := rfl
theorem Z6 {E : Env} {rec : Task → Option Res} (f : FuncId) (a c : List V) (as : List V) (σ : S) : callV E rec (.func f a c) as σ = callFn E rec f (a ++ as ++ c) σ := rfl
theorem Yv (ρ : Operand → Option V) : listO ρ [] = some [] := rfl
theorem Yw (ρ : Operand → Option V) (x : Operand) (l : List Operand) : listO ρ (x :: l) = (ρ x).bind fun v => (listO ρ l).map fun r => v :: r := rfl
theorem aload_one {E : Env} {h : List AObj} {t : TypeId} {p : V} (ha : aggT E t = some false) : aload E h t p = (loadCellsV h 1 p).bind (·[0]?) := by
  simp only [aload, ha]; rfl
theorem Yz (h : List AObj) (cells : List V) (i : Nat) : (loadCellsV h 1 (.rptr (cells.drop i))).bind (·[0]?) = cells[i]? := by
  simp only [loadCellsV, List.length_drop]
  by_cases hi : 1 ≤ cells.length - i
  · simp only [hi, if_true, Option.bind_some]
    rw [List.getElem?_take, List.getElem?_drop]
    simp
  · simp only [hi, if_false, Option.bind_none]
    rw [List.getElem?_eq_none (by omega)]
theorem Y0 (k : IntKind) (zs : List Int) (i : Nat) : (zs.map (V.int k))[i]? = if i < zs.length then some (V.int k (zs.getD i 0)) else none := by
  rw [List.getElem?_map]
  by_cases h : i < zs.length
  · simp [h]
  · simp [h]
theorem wrap_i64 {x : Int} (h1 : -9223372036854775808 ≤ x) (h2 : x ≤ 9223372036854775807) : IntKind.i64.wrap x = x := by
  rw [IntKind.wrap_i64]; omega
end Go.Ab
namespace Go.Ab
def setT (T : Tm) : List (Tmp × V) → Tm
  | [] => T
  | (t, v) :: r => setT (upd T t v) r
theorem Rep.sets {n : Nat} : ∀ (l : List (Tmp × V)) {T : Tm} {tmps : List V}, Rep n T tmps → (∀ p ∈ l, p.1 < n) → Rep n (setT T l) (l.foldl (fun ts (x : Tmp × V) => ts.set x.1 x.2) tmps)
  | [], T, tmps, h, _ => h
  | (t, v) :: r, T, tmps, h, hl => by
    simp only [List.foldl_cons, setT]
    exact Rep.sets r (h.upd (hl (t, v) (by simp)) v) fun p hp => hl p (by simp [hp])
section
variable {E : Env} {fn : FuncId} {rnd : Option Nat} {n : Nat} {Q : Post} {ks : List Kt} {T : Tm} {D : List DE} {σ : S}
theorem round_rule {l : Nat} {args : List V} {tmps : List V} {ps : Array Tmp} {asg body : Code} {d : Nat} {lo : AObj} {K : S → Prop}
    (hlo : lo = .loop .ready none fn tmps ps asg body d) (hl : σ.heap[l]? = some lo) (hr : Rep n T tmps) (ha : args.length = ps.size) (hp : ∀ p ∈ ps.toList.zip args, p.1 < n)
    (hw : ∀ lb, lb = AObj.loop .busy none fn tmps ps asg body d → G E fn (some l) n ⟨fun T1 D1 σ1 => D1 = [] ∧ σ1.heap[l]? = some lo ∧
      G E fn (some l) n ⟨fun _ D2 σ2 => D2 = [] ∧ σ2.heap[l]? = some lb ∧ K (σ2.set l lo), fun _ _ _ _ => False, fun _ _ _ => False⟩ [] body T1 []
        (σ1.set l lb), fun _ _ _ _ => False, fun _ _ _ => False⟩ [] asg (setT T (ps.toList.zip args)) [] σ) :
    ∃ σ', callV E (ev E) (.yld l) args σ = some (.bool true, σ') ∧ K σ' := by
  subst hlo
  obtain ⟨⟨ex, vals, dd, st⟩, h1, T1, hr1, hq⟩ := wpC_sound E fn (some l) n asg (hw _ rfl) _ (hr.sets _ hp)
  cases ex with
  | exit i => exact hq.elim
  | ret => exact hq.elim
  | pan _ => exact hq.elim
  | normal =>
    obtain ⟨hd, hl1, hw2⟩ := hq
    simp only at hd hl1 hw2
    subst hd
    obtain ⟨⟨ex2, vals2, d2, st2⟩, g1, T2, gr1, gq⟩ := wpC_sound E fn (some l) n body hw2 _ hr1
    cases ex2 with
    | exit i => exact gq.elim
    | ret => exact gq.elim
    | pan _ => exact gq.elim
    | normal =>
      obtain ⟨hd2, hl2, hK⟩ := gq
      simp only at hd2 hl2 hK
      subst hd2
      refine ⟨_, ?_, hK⟩
      have : ev E (.round l args σ) = some ⟨.ret, [.bool true], [], st2.set l (.loop .ready none fn tmps ps asg body d)⟩ := by
        apply ev_step
        simp only [stepA, hl]
        rw [if_neg (by simpa using ha)]
        simp only [h1, hl1, g1, hl2]
      simp only [callV, this]
theorem G_range {f : Operand} {ps : Array Tmp} {asg body : Code} {fid : FuncId} {first captured : List V} (hf : evalT E T f = some (.func fid first captured))
    (h : ∀ tmps lo lx, Rep n T tmps → lo = AObj.loop .ready none fn tmps ps asg body σ.heap.length → lx = AObj.loop .exhausted none fn tmps ps asg body σ.heap.length →
      ∃ v σ2, ev E (.call fid (first ++ [V.yld (σ.heap.length + 1)] ++ captured) ⟨σ.heap ++ [.defd true, lo], σ.toks⟩) = some ⟨.ret, [v], [], σ2⟩ ∧
      σ2.heap[σ.heap.length + 1]? = some lo ∧
      G E fn none n Q ks .skip T (.mark σ.heap.length :: D) (σ2.set (σ.heap.length + 1) lx)) :
    G E fn none n Q ks (.rangeFunc f ps asg body) T D σ := by
  intro tmps hr
  obtain ⟨v, σ2, h1, h2, h3⟩ := h tmps _ _ hr rfl rfl
  refine ⟨⟨.normal, tmps, .mark σ.heap.length :: D, σ2.set (σ.heap.length + 1) (.loop .exhausted none fn tmps ps asg body σ.heap.length)⟩, ?_, T, hr, h3⟩
  simp only [execC, hr.eval, hf, h1, h2, reduceCtorEq, if_false]
end
theorem callFn_eq {E : Env} {f : FuncId} {args : List V} {σ σ' : S} {v : V} {F : Go.Func} {body : Code} (hp : E.pure f = false) (hk : E.hook f = none) (hf : E.P.funcs[f]? = some F) (hb : F.body = some body)
    (hn : F.name ≠ "runtime.NumGoroutine") (hl : args.length ≤ F.ntmps)
    (hw : G E f none F.ntmps ⟨wpR E F.results.toList fun v' σ'' => v' = v ∧ σ'' = σ', fun _ _ _ _ => False, wpR E F.results.toList fun v' σ'' => v' = v ∧ σ'' = σ'⟩ [] body (argT args) [] σ) (hz : E.frz f = false := by rfl) (hs : E.hookS f = none := by rfl) :
    callFn E (ev E) f args σ = some (v, σ') := by
  obtain ⟨v', σ'', h1, rfl, rfl⟩ := callFn_any hp hk hf hb hn hl hw hz hs
  exact h1
def cellAt (o : Option AObj) (off : Nat) : Option V :=
  match o with
  | some (.cells cs _) => cs[off]?
  | some (.ro cs _) => cs[off]?
  | _ => none
theorem YB (cs : List V) (t : TypeId) (off : Nat) : cellAt (some (.cells cs t)) off = cs[off]? := rfl
theorem YA (h : List AObj) (b off : Nat) : (loadCellsV h 1 (.ptr b off)).bind (·[0]?) = cellAt h[b]? off := by
  simp only [loadCellsV, cellAt]
  cases h[b]? with
  | none => rfl
  | some o =>
    cases o with
    | cells cs t =>
      simp only
      by_cases hi : off + 1 ≤ cs.length
      · simp only [hi, if_true, Option.bind_some]
        rw [List.getElem?_take, List.getElem?_drop]
        simp
      · simp only [hi, if_false, Option.bind_none]
        rw [List.getElem?_eq_none (by omega)]
    | ro cs t =>
      simp only
      by_cases hi : off + 1 ≤ cs.length
      · simp only [hi, if_true, Option.bind_some]
        rw [List.getElem?_take, List.getElem?_drop]
        simp
      · simp only [hi, if_false, Option.bind_none]
        rw [List.getElem?_eq_none (by omega)]
    | _ => rfl
def storeAt (σ : S) (new : List V) (b off : Nat) (o : Option AObj) : Option S :=
  match o with
  | some (.cells cs t) => if off + new.length ≤ cs.length ∧ new.all V.isCell then some (σ.set b (.cells (storeList cs off new) t)) else none
  | _ => none
theorem YE (σ : S) (new : List V) (b off : Nat) (cs : List V) (t : TypeId) : storeAt σ new b off (some (.cells cs t)) = if off + new.length ≤ cs.length ∧ new.all V.isCell then some (σ.set b (.cells (storeList cs off new) t)) else none := rfl
theorem YD (σ : S) (new : List V) (b off : Nat) : storeCellsV σ new (.ptr b off) = storeAt σ new b off σ.heap[b]? := by
  simp only [storeCellsV, storeAt]
  cases σ.heap[b]? with
  | none => rfl
  | some o => cases o <;> rfl
theorem YI (h : List AObj) (t : List Nat) (o : AObj) : S.push ⟨h, t⟩ o = ⟨h ++ [o], t⟩ := rfl
theorem YJ (h : List AObj) (t : List Nat) (b : Nat) (o : AObj) : S.set ⟨h, t⟩ b o = ⟨h.set b o, t⟩ := rfl
theorem YF (cs : List V) (n : Nat) (c : RCap) : (V.row cs n c).cells = [.row cs n c] := rfl
theorem YH : V.nilsl.cells = [.nilsl] := rfl
theorem YG (cs : List V) (n : Nat) (c : RCap) : (V.row cs n c).isCell = true := rfl
theorem Y6 (k : IntKind) (x : Int) : (V.int k x).cells = [.int k x] := rfl
end Go.Ab
namespace Go.Ab
structure One (E : Env) (t e : TypeId) (by' : Nat) : Prop where
  elem : elemS E t = some e
  size : sz E e = some 1
  bytes : bys E e = some by'
  zeros : zeroN E e = some 1
  slice : E.P.underlying t = some (.slice e)
  zero : ∃ z, zeroV E e = some z ∧ z.cells.length = 1
section
variable {E : Env} {t e : TypeId} {by' : Nat} {T : Tm} {σ : S} {x : Operand}
inductive Grow (ts : List Nat) : V → List V → Prop where
  | nil : Grow ts .nilsl []
  | full (cs : List V) : Grow ts (.row cs cs.length .full) cs
  | tok (cs : List V) (k e : Nat) (h : ts[k]? = some e) : Grow ts (.row cs cs.length (.tok k e 1)) cs
theorem Grow.len (h : One E t e by') {ts : List Nat} {v : V} {cs : List V} (g : Grow ts v cs) : vLenT (E.P.underlying t) v = some (.int .i64 cs.length) := by
  rw [h.slice]
  cases g with
  | nil => rfl
  | full => rfl
  | tok => rfl
theorem Grow.append (h : One E t e by') {hp : List AObj} {ts : List Nat} {v : V} {cs : List V} (g : Grow ts v cs) {new : List V} {c : RCap} (hn : new.length ≠ 0) (hc : new.all V.isCell = true)
    (hb : (cs.length + new.length) * by' ≤ lim) (hb2 : cs.length + new.length ≤ lim) :
    ∃ k e' ts', appO E false ⟨hp, ts⟩ t t v (.row new new.length c) = some (.row (cs ++ new) (cs ++ new).length (.tok k e' 1), ⟨hp, ts'⟩) ∧ ts'[k]? = some e' := by
  have hnew : vCells hp 1 new.length (.row new new.length c) = some new := by simp [vCells]
  have hn0 : new ≠ [] := fun e => hn (by rw [e]; rfl)
  unfold appO
  simp only [h.elem, h.size, h.bytes, h.slice, h.zeros, vLen, hnew, Option.bind_some, if_true]
  cases g with
  | nil =>
    simp only [List.length_nil, Nat.zero_add] at hb hb2
    refine ⟨ts.length, 0, ts ++ [0], ?_, by simp⟩
    simp [aappend, hn0, hb, hb2]
  | full =>
    refine ⟨ts.length, 0, ts ++ [0], ?_, by simp⟩
    simp only [aappend, hn, if_false, hb, hb2, hc, Nat.mul_one, and_self, if_true, Bool.false_eq_true, List.length_append]
  | tok _ k e' hk =>
    refine ⟨k, e' + 1, ts.set k (e' + 1), ?_, ?_⟩
    · simp only [aappend, hn, if_false, hb, hb2, hc, Nat.mul_one, and_self, if_true, hk, List.length_append]
    · have : k < ts.length := by
        rcases Nat.lt_or_ge k ts.length with h1 | h1
        · exact h1
        · rw [List.getElem?_eq_none h1] at hk; simp at hk
      simp [this]
structure GrowN (N : Nat) (ts : List Nat) (v : V) (cs : List V) : Prop where
  grow : Grow ts v cs
  low : ∀ k, (∃ cs n e s, v = .row cs n (.tok k e s)) → N ≤ k
theorem GrowN.keep {N : Nat} {ts ts' : List Nat} {v : V} {cs : List V} (g : GrowN N ts v cs) (h : ∀ k e, N ≤ k → ts[k]? = some e → ts'[k]? = some e) : GrowN N ts' v cs := by
  refine ⟨?_, g.low⟩
  have hl := g.low
  cases g.grow with
  | nil => exact .nil
  | full => exact .full _
  | tok _ k e hk => exact .tok _ k e (h k e (hl k ⟨_, _, _, _, rfl⟩) hk)
theorem GrowN.append (h : One E t e by') {N : Nat} {hp : List AObj} {ts : List Nat} {v v2 : V} {cs cs2 : List V} (g : GrowN N ts v cs) (hN : N ≤ ts.length) (g2 : Grow ts v2 cs2) (hc : cs2.all V.isCell = true)
    (hb : (cs.length + cs2.length) * by' ≤ lim) (hb2 : cs.length + cs2.length ≤ lim) :
    ∃ v' ts', appO E false ⟨hp, ts⟩ t t v v2 = some (v', ⟨hp, ts'⟩) ∧ GrowN N ts' v' (cs ++ cs2) ∧ ts.length ≤ ts'.length ∧ (∀ k, k < N → ts'[k]? = ts[k]?) ∧ (v' = .nilsl → v = .nilsl ∧ cs2 = []) := by
  by_cases hn : cs2 = []
  · subst hn
    refine ⟨v, ts, ?_, by rw [List.append_nil]; exact g, Nat.le_refl _, fun _ _ => rfl, fun h => ⟨h, rfl⟩⟩
    have hlen : vLen v2 = some 0 := by cases g2 <;> rfl
    have hcell : vCells hp 1 0 v2 = some [] := by cases g2 <;> simp [vCells]
    unfold appO
    simp only [h.elem, h.size, h.bytes, h.slice, h.zeros, hlen, hcell, Option.bind_some, if_true]
    cases g.grow <;> simp [aappend]
  · have hn2 : cs2.length ≠ 0 := fun e => hn (List.eq_nil_of_length_eq_zero e)
    have key : ∃ c, v2 = .row cs2 cs2.length c := by cases g2 <;> first | exact absurd rfl hn | exact ⟨_, rfl⟩
    obtain ⟨c, rfl⟩ := key
    have hnew : vCells hp 1 cs2.length (.row cs2 cs2.length c) = some cs2 := by simp [vCells]
    have hl := g.low
    unfold appO
    simp only [h.elem, h.size, h.bytes, h.slice, h.zeros, vLen, hnew, Option.bind_some, if_true]
    have hge := g.grow
    generalize hv : v = v0 at hge
    cases hge with
    | nil =>
      simp only [List.length_nil, Nat.zero_add] at hb hb2
      refine ⟨.row cs2 cs2.length (.tok ts.length 0 1), ⟨ts ++ [0], ?_, ⟨.tok cs2 ts.length 0 (by simp), ?_⟩, by simp, ?_, by simp⟩⟩
      · simp [aappend, hn, hb, hb2]
      · rintro k ⟨_, _, _, _, he⟩; cases he; exact hN
      · intro k hk; exact List.getElem?_append_left (by omega)
    | full =>
      refine ⟨.row (cs ++ cs2) (cs ++ cs2).length (.tok ts.length 0 1), ⟨ts ++ [0], ?_, ⟨.tok _ ts.length 0 (by simp), ?_⟩, by simp, ?_, by simp⟩⟩
      · simp only [aappend, hn2, if_false, hb, hb2, hc, Nat.mul_one, and_self, if_true, Bool.false_eq_true, List.length_append]
      · rintro k ⟨_, _, _, _, he⟩; cases he; exact hN
      · intro k hk; exact List.getElem?_append_left (by omega)
    | tok _ k e' hk =>
      have hkN : N ≤ k := hl k ⟨_, _, _, _, hv⟩
      have hkl : k < ts.length := by
        rcases Nat.lt_or_ge k ts.length with h1 | h1
        · exact h1
        · rw [List.getElem?_eq_none h1] at hk; simp at hk
      refine ⟨.row (cs ++ cs2) (cs ++ cs2).length (.tok k (e' + 1) 1), ⟨ts.set k (e' + 1), ?_, ⟨.tok _ k (e' + 1) (by simp [hkl]), ?_⟩, by simp, ?_, by simp⟩⟩
      · simp only [aappend, hn2, if_false, hb, hb2, hc, Nat.mul_one, and_self, if_true, hk, List.length_append]
      · rintro k' ⟨_, _, _, _, he⟩; cases he; exact hkN
      · intro k' hk'; exact List.getElem?_set_ne (by omega)
end
end Go.Ab
namespace Go.Ab
section
variable {E : Env} {m : Bool} {T : Tm} {σ : S}
def makeO (E : Env) (m : Bool) (σ : S) (t : TypeId) (lv cv : V) : Option (V × S) :=
  (elemS E t).bind fun e => (sz E e).bind fun s => (bys E e).bind fun by' =>
      match lv, cv with
      | .int .i64 l, .int .i64 c =>
        if 0 ≤ l ∧ l ≤ c ∧ c ≤ lim ∧ c * by' ≤ lim then
          (if c.toNat * s = 0 then some (.agg []) else zeroV E e).bind fun z =>
          if z.cells.length = s ∨ c.toNat * s = 0 then
            if m then some (.hsl σ.heap.length 0 l.toNat c.toNat .exact, σ.push (.cells (List.replicate c.toNat z.cells).flatten e))
            else if l = c then some (.row (List.replicate c.toNat z.cells).flatten c.toNat .full, σ)
            else some (.row ((List.replicate c.toNat z.cells).flatten.take (l.toNat * s)) l.toNat (.tok σ.toks.length 0 s), ⟨σ.heap, σ.toks ++ [0]⟩)
          else none
        else none
      | _, _ => none
theorem opT_makeSlice (t : TypeId) (l c : Operand) : opT E m T σ (.makeSlice t l c) = (evalT E T l).bind fun lv => (evalT E T c).bind fun cv => makeO E m σ t lv cv := rfl
def sliceO (E : Env) (t : TypeId) (v : V) (l h mx : Option V) : Option V :=
    match E.P.underlying t with
    | some .string => (match v with | .str b => vSlice 0 (.str b) l h mx | _ => none)
    | some (.slice e) => (sz E e).bind fun s =>
      match v with
      | .str _ => none
      | v => vSlice s v l h mx
    | some (.array n e) => (sz E e).bind fun s => vSliceArr n s v l h mx
    | _ => none
theorem opT_slice (t : TypeId) (x : Operand) (lo hi mx : Option Operand) : opT E m T σ (.slice t x lo hi mx) = (evalT E T x).bind fun v => (optO (evalT E T) lo).bind fun l => (optO (evalT E T) hi).bind fun h => (optO (evalT E T) mx).bind fun mm => (sliceO E t v l h mm).map fun u => (u, σ) := by
  rw [opT_of_pure rfl rfl (fun _ h => by cases h)]
  simp only [apure, sliceO]
  cases evalT E T x with
  | none => rfl
  | some v =>
    simp only [Option.bind_some]
    cases optO (evalT E T) lo with
    | none => rfl
    | some l =>
      simp only [Option.bind_some]
      cases optO (evalT E T) hi with
      | none => rfl
      | some h =>
        simp only [Option.bind_some]
        cases optO (evalT E T) mx with
        | none => rfl
        | some mm => rfl
theorem optO_none (ρ : Operand → Option V) : optO ρ none = some none := rfl
theorem optO_some (ρ : Operand → Option V) (x : Operand) : optO ρ (some x) = (ρ x).map some := rfl
def copyO (E : Env) (σ : S) (t : TypeId) (x y : V) : Option (V × S) :=
  (elemS E t).bind fun e => (sz E e).bind fun s =>
        (vLen y).bind fun m =>
          match x with
          | .hsl b off len cap ex => (vCells σ.heap s (min m len) y).bind fun new =>
              if min m len = 0 then some (.int .i64 0, σ) else
              if ex.room s then (storeRoom σ new b off (off + cap * s)).map fun σ' => (.int .i64 ((min m len : Nat) : Int), σ') else
              (storeCellsV σ new (.ptr b off)).map fun σ' => (.int .i64 ((min m len : Nat) : Int), σ')
          | .row _ len _ => if min m len = 0 then some (.int .i64 0, σ) else none
          | .nilsl => some (.int .i64 0, σ)
          | _ => none
theorem opT_copy (x y : Operand) (t t2 : TypeId) : opT E m T σ (.call ⟨.builtin .copy, #[x, y], #[t, t2]⟩) = (evalT E T x).bind fun a => (evalT E T y).bind fun b => copyO E σ t a b := by
  unfold opT copyO
  simp only [apure, aread, astate, listO, Option.map_some]
  cases evalT E T x with
  | none => rfl
  | some a =>
    cases evalT E T y with
    | none => rfl
    | some b => rfl
end
theorem sc_load (E : Env) (t : TypeId) (x : Operand) : scOp E (.load t x) = false := rfl
theorem sc_move (E : Env) (x : Operand) : scOp E (.move x) = false := rfl
theorem sc_assign (E : Env) (x : Operand) : scOp E (.assign x) = false := rfl
theorem sc_fieldAddr (E : Env) (t : TypeId) (x : Operand) (f : Nat) : scOp E (.fieldAddr t x f) = false := rfl
theorem sc_store (E : Env) (t : TypeId) (x y : Operand) : scOp E (.store t x y) = true := rfl
theorem rd_load (t : TypeId) (x : Operand) : readsOp (.load t x) = true := rfl
theorem rd_move (x : Operand) : readsOp (.move x) = false := rfl
theorem rd_assign (x : Operand) : readsOp (.assign x) = false := rfl
theorem rd_fieldAddr (t : TypeId) (x : Operand) (f : Nat) : readsOp (.fieldAddr t x f) = false := rfl
theorem rd_store (t : TypeId) (x y : Operand) : readsOp (.store t x y) = false := rfl
theorem rd_call (c : Call) : readsOp (.call c) = false := rfl
theorem aread_load (E : Env) (T : Tm) (s : S) (t : TypeId) (x : Operand) : aread E (evalT E T) s (.load t x) = (evalT E T x).bind (aload E s.heap t) := rfl
def takeC : Nat → Code → Code
  | 0, _ => .skip
  | k + 1, .seq a b => .seq a (takeC k b)
  | _ + 1, c => c
def dropC : Nat → Code → Code
  | 0, c => c
  | k + 1, .seq _ b => dropC k b
  | _ + 1, _ => .skip
def bodyOf (F : Go.Func) : Code := F.body.getD .skip
theorem G_cut {E : Env} {fn : FuncId} {rnd : Option Nat} {n : Nat} : ∀ (k : Nat) (c : Code) (Q : Post) (ks : List Kt) (T : Tm) (D : List DE) (σ : S), G E fn rnd n Q ks c T D σ = G E fn rnd n Q (.code (dropC k c) :: ks) (takeC k c) T D σ
  | 0, c, Q, ks, T, D, σ => by simp only [takeC, dropC]; rfl
  | k + 1, .seq a b, Q, ks, T, D, σ => by
    simp only [takeC, dropC]
    rw [Za, Za]
    unfold G
    congr 1
    simp only [Kt.post, Post.mk.injEq, and_true]
    funext T D σ
    exact G_cut k b Q ks T D σ
  | k + 1, .skip, Q, ks, T, D, σ => rfl
  | k + 1, .region _ _ _, Q, ks, T, D, σ => rfl
  | k + 1, .cond _ _ _, Q, ks, T, D, σ => rfl
  | k + 1, .block _ _, Q, ks, T, D, σ => rfl
  | k + 1, .loop _, Q, ks, T, D, σ => rfl
  | k + 1, .rangeFunc _ _ _ _, Q, ks, T, D, σ => rfl
  | k + 1, .exit _, Q, ks, T, D, σ => rfl
  | k + 1, .scope _, Q, ks, T, D, σ => rfl
  | k + 1, .label _, Q, ks, T, D, σ => rfl
  | k + 1, .goto _, Q, ks, T, D, σ => rfl
  | k + 1, .ret, Q, ks, T, D, σ => rfl
  | k + 1, .refuse _, Q, ks, T, D, σ => rfl
end Go.Ab
namespace Go.Ab
section
variable {E : Env} {m : Bool} {T : Tm} {σ : S}
def nilO (E : Env) : V → Option V
  | .ptr b o => some (.ptr b o)
  | .rptr cs => some (.rptr cs)
  | .meth name r => (methV E r name).map fun _ => .meth name r
  | _ => none
theorem opT_nilCheck (x : Operand) : opT E m T σ (.nilCheck x) = ((evalT E T x).bind (nilO E)).map fun v => (v, σ) :=
  opT_of_pure rfl rfl (fun _ h => by cases h)
theorem nilO_ptr (b o : Nat) : nilO E (.ptr b o) = some (.ptr b o) := rfl
end
end Go.Ab
namespace Go.Ab
section
variable {E : Env} {T : Tm} {σ : S}
def rowO (E : Env) (t : TypeId) (len : Nat) (ps : List (Nat × V)) : Option V := (elemS E t).bind fun e => (sz E e).bind fun s =>
      (if len * s = 0 then some (.agg []) else zeroV E e).bind fun z =>
      if len * s ≤ 2 ^ 24 ∧ (z.cells.length = s ∨ len * s = 0) then
        (vFill (fun i => some (i * s, s)) (List.replicate len z.cells).flatten ps).map fun cs => .row cs len .full
      else none
end
theorem Q2 (c : Call) : isStore (.call c) = false := rfl
theorem cells_hsl (b off len cap : Nat) (q : HCap) : (V.hsl b off len cap q).cells = [.hsl b off len cap q] := rfl
theorem isCell_hsl (b off len cap : Nat) (q : HCap) : (V.hsl b off len cap q).isCell = true := rfl
def mkIfO (E : Env) (t : TypeId) (v : V) : Option V :=
  match E.P.underlying t with
  | some (.interface _) => none
  | some _ => some (.iface t v)
  | none => none
theorem opT_mkIf {E : Env} {m : Bool} {T : Tm} {σ : S} (t : TypeId) (x : Operand) : opT E m T σ (.makeInterface t x) = ((evalT E T x).bind (mkIfO E t)).map fun v => (v, σ) :=
  opT_of_pure rfl rfl (fun _ h => by cases h)
theorem mkIf_ptr {E : Env} {t e : TypeId} (h : E.P.underlying t = some (.pointer e)) (v : V) : mkIfO E t v = some (.iface t v) := by simp only [mkIfO, h]
theorem binO_if_nil {E : Env} {t : TypeId} {ms : Array (String × TypeId)} (hu : E.P.underlying t = some (.interface ms)) (c : Bool) (u : TypeId) (v : V) : binO E t c .neq (some (.iface u v)) (some .nilif) = some (.bool true) := by
  show vBinE E t c .neq (.iface u v) .nilif = _
  rw [vBinE_of (by cases v <;> rfl), hu]; rfl
theorem binO_nil_if {E : Env} {t : TypeId} {ms : Array (String × TypeId)} (hu : E.P.underlying t = some (.interface ms)) : binO E t true .neq (some .nilif) (some .nilif) = some (.bool false) := by
  show vBinE E t true .neq .nilif .nilif = _
  rw [vBinE_of (by rfl), hu]; rfl
theorem wrap_u64 {x : Int} (h1 : 0 ≤ x) (h2 : x < 18446744073709551616) : IntKind.u64.wrap x = x := by
  show (let m := x % (2 ^ 64 : Int); if false && decide (m ≥ 2 ^ 63) then m - 2 ^ 64 else m) = x
  simp only [Bool.false_and, Bool.false_eq_true, if_false]
  omega
def blkC (id : Nat) : Code → Option Code
  | .block i c => if i = id then some c else blkC id c
  | .seq a b => (blkC id a).or (blkC id b)
  | .cond _ a b => (blkC id a).or (blkC id b)
  | .loop c => blkC id c
  | .scope c => blkC id c
  | _ => none
end Go.Ab
namespace Go.Ab
section
variable {E : Env} {fn : FuncId} {rnd : Option Nat} {n : Nat} {Q : Post} {ks : List Kt} {T : Tm} {D : List DE} {σ : S}
end
end Go.Ab
namespace Go.Ab
set_option linter.unusedVariables false
def blkOf : V → Option Nat
  | .hsl b _ _ _ _ => some b
  | _ => none
def StkV (h : List AObj) (t : TypeId) (w : Nat) (v : V) (n : Nat) (xs : List V) : Prop :=
  xs.length = n * w ∧ ((v = .nilsl ∧ n = 0) ∨ ∃ b cap cs, v = .hsl b 0 n cap (.grow w) ∧ h[b]? = some (.cells cs t) ∧ n ≤ cap ∧ cap * w ≤ cs.length ∧ cs.take (n * w) = xs)
theorem StkV.nil (h : List AObj) (t : TypeId) (w : Nat) : StkV h t w .nilsl 0 [] := ⟨by simp, .inl ⟨rfl, rfl⟩⟩
theorem StkV.move {h h' : List AObj} {t : TypeId} {w n : Nat} {v : V} {xs : List V} (s : StkV h t w v n xs) (hq : ∀ b, blkOf v = some b → h'[b]? = h[b]?) : StkV h' t w v n xs := by
  obtain ⟨hl, ⟨rfl, rfl⟩ | ⟨b, cap, cs, rfl, hb, h1, h2, h3⟩⟩ := s
  · exact ⟨hl, .inl ⟨rfl, rfl⟩⟩
  · exact ⟨hl, .inr ⟨b, cap, cs, rfl, by rw [hq b rfl]; exact hb, h1, h2, h3⟩⟩
theorem StkV.lt {h : List AObj} {t : TypeId} {w n : Nat} {v : V} {xs : List V} (s : StkV h t w v n xs) {b : Nat} (hb : blkOf v = some b) : b < h.length := by
  obtain ⟨hl, ⟨rfl, rfl⟩ | ⟨b', cap, cs, rfl, hb', h1, h2, h3⟩⟩ := s
  · simp [blkOf] at hb
  · simp only [blkOf, Option.some.injEq] at hb
    subst hb
    exact (List.getElem?_eq_some_iff.1 hb').1
theorem StkV.cells {h : List AObj} {t : TypeId} {w n : Nat} {v : V} {xs : List V} (s : StkV h t w v n xs) : v.cells = [v] ∧ v.isCell = true := by
  obtain ⟨hl, ⟨rfl, rfl⟩ | ⟨b', cap, cs, rfl, hb', h1, h2, h3⟩⟩ := s <;> exact ⟨rfl, rfl⟩
theorem StkV.len {h : List AObj} {t : TypeId} {w n : Nat} {v : V} {xs : List V} (s : StkV h t w v n xs) (e : TypeId) : vLenT (some (.slice e)) v = some (.int .i64 n) := by
  obtain ⟨hl, ⟨rfl, rfl⟩ | ⟨b', cap, cs, rfl, hb', h1, h2, h3⟩⟩ := s <;> rfl
theorem StkV.push {E : Env} {L : List AObj} {ts : List Nat} {t ty ty2 : TypeId} {w n nb : Nat} {v y : V} {xs new : List V} (s : StkV L t w v n xs) (he : elemS E ty = some t) (hs : sz E t = some w) (hz : zeroN E t = some w) (hb : bys E t = some nb) (hu : ∃ e2, E.P.underlying ty2 = some (.slice e2))
    (hw : 0 < w) (hlim : (n + 1) * nb ≤ lim ∧ n + 1 ≤ lim) (hy : vLen y = some 1) (hc : vCells L w 1 y = some new) (hnl : new.length = w) (hcell : new.all V.isCell = true) :
    ∃ v' L', appO E true ⟨L, ts⟩ ty ty2 v y = some (v', ⟨L', ts⟩) ∧ StkV L' t w v' (n + 1) (xs ++ new) ∧ (∀ q, q < L.length → blkOf v ≠ some q → L'[q]? = L[q]?) ∧ L.length ≤ L'.length ∧ (blkOf v' = blkOf v ∨ blkOf v' = some L.length) := by
  obtain ⟨e2, hu⟩ := hu
  obtain ⟨hl, hcase⟩ := s
  have hlen : (xs ++ new).length = (n + 1) * w := by rw [List.length_append, hl, hnl, Nat.add_mul, Nat.one_mul]
  unfold appO
  simp only [he, hs, hb, hu, hz, hy, hc, Option.bind_some, if_true]
  rcases hcase with ⟨rfl, rfl⟩ | ⟨b, cap, cs, rfl, hbk, h1, h2, h3⟩
  · have hx : xs = [] := List.eq_nil_of_length_eq_zero (by simpa using hl)
    subst hx
    refine ⟨.hsl L.length 0 1 1 (.grow w), L ++ [.cells new t], ?_, ⟨hlen, .inr ⟨L.length, 1, new, rfl, by simp, by omega, by omega, ?_⟩⟩, fun q hq _ => by rw [List.getElem?_append_left hq], by simp, .inr rfl⟩
    · have h1 : (1 : Nat) * nb ≤ lim ∧ 1 ≤ lim := by simpa using hlim
      simp [aappend, S.push, by simpa using h1]
    · rw [List.nil_append]; exact List.take_of_length_le (by simp [hnl])
  · have hblt := (List.getElem?_eq_some_iff.1 hbk).1
    by_cases hfit : n + 1 ≤ cap
    · have hn1 : (n + 1) * w ≤ cap * w := Nat.mul_le_mul_right w hfit
      have hn2 : n * w + w ≤ cs.length := by rw [Nat.add_mul, Nat.one_mul] at hn1; omega
      refine ⟨.hsl b 0 (n + 1) cap (.grow w), L.set b (.cells (storeList cs (n * w) new) t), ?_, ⟨hlen, .inr ⟨b, cap, storeList cs (n * w) new, rfl, by simp [hblt], hfit, ?_, ?_⟩⟩, fun q hq hne => by rw [List.getElem?_set_ne (fun e => hne (by simp [blkOf, e]))], by simp, .inl rfl⟩
      · simp [aappend, hfit, storeCellsV, hbk, hnl, hn2, hcell, S.set]
      · simp only [storeList, List.length_append, List.length_take, List.length_drop, hnl]; omega
      · rw [storeList, h3, Nat.add_mul, Nat.one_mul]
        have : (xs ++ new).length = n * w + w := by rw [List.length_append, hl, hnl]
        rw [List.take_append_of_le_length (by omega)]
        exact List.take_of_length_le (by omega)
    · have hcl : n * w ≤ cs.length := by
        have : n * w ≤ cap * w := Nat.mul_le_mul_right w h1
        omega
      refine ⟨.hsl L.length 0 (n + 1) (n + 1) (.grow w), (L.set b .dead) ++ [.cells (cs.take (n * w) ++ new) t], ?_, ⟨hlen, .inr ⟨L.length, n + 1, cs.take (n * w) ++ new, rfl, by simp, Nat.le_refl _, ?_, ?_⟩⟩, fun q hq hne => ?_, by simp, .inr rfl⟩
      · simp [aappend, hfit, hbk, hcl, hlim, hcell, S.push, S.set]
      · rw [h3, hlen]; exact Nat.le_refl _
      · rw [h3]; exact List.take_of_length_le (by omega)
      · rw [List.getElem?_append_left (by simpa using hq), List.getElem?_set_ne (fun e => hne (by simp [blkOf, e]))]
theorem StkV.cut {E : Env} {h : List AObj} {t ty : TypeId} {w n : Nat} {v : V} {xs : List V} (s : StkV h t w v n xs) (hu : E.P.underlying ty = some (.slice t)) (hs : sz E t = some w) (k : Nat) (hk : k ≤ n) (lo : Option V) (hlo : lo = none ∨ lo = some (.int .i64 0)) :
    ∃ v', sliceO E ty v lo (some (.int .i64 k)) none = some v' ∧ StkV h t w v' k (xs.take (k * w)) ∧ blkOf v' = blkOf v := by
  obtain ⟨hl, hcase⟩ := s
  have hkw : k * w ≤ n * w := Nat.mul_le_mul_right w hk
  have hlen : (xs.take (k * w)).length = k * w := by rw [List.length_take]; omega
  have hlo2 : ∀ m, vBound lo 0 m = some 0 := by
    intro m
    rcases hlo with rfl | rfl <;> simp [vBound]
  rcases hcase with ⟨rfl, rfl⟩ | ⟨b, cap, cs, rfl, hbk, h1, h2, h3⟩
  · have : k = 0 := by omega
    subst this
    exact ⟨.nilsl, by rcases hlo with rfl | rfl <;> simp [sliceO, hu, hs, vSlice, vBound], ⟨hlen, .inl ⟨rfl, rfl⟩⟩, rfl⟩
  · refine ⟨.hsl b 0 k cap (.grow w), ?_, ⟨hlen, .inr ⟨b, cap, cs, rfl, hbk, by omega, h2, ?_⟩⟩, rfl⟩
    · have h5 : ((k : Nat) : Int) ≤ (cap : Int) := by omega
      rcases hlo with rfl | rfl <;> simp [sliceO, hu, hs, vSlice, vBound, h5, HCap.cut]
    · rw [← h3, List.take_take, Nat.min_eq_left hkw]
def RdS (h : List AObj) (w : Nat) (u : V) (n : Nat) (xs : List V) : Prop :=
  xs.length = n * w ∧ (∀ e, vLenT (some (.slice e)) u = some (.int .i64 n)) ∧ vLen u = some n ∧ ∀ i, i < n → ∃ p, vIndexAddr w u (.int .i64 i) = some p ∧ loadCellsV h w p = some ((xs.drop (i * w)).take w)
theorem RdS.row (h : List AObj) (w : Nat) (xs : List V) (n : Nat) (c : RCap) (hl : xs.length = n * w) : RdS h w (.row xs n c) n xs := by
  refine ⟨hl, fun e => rfl, rfl, fun i hi => ⟨.rptr (xs.drop (i * w)), ?_, ?_⟩⟩
  · have h1 : (i : Int) < (n : Int) := by omega
    simp [vIndexAddr, hi]
  · have : (i + 1) * w ≤ n * w := Nat.mul_le_mul_right w hi
    rw [Nat.add_mul, Nat.one_mul] at this
    simp only [loadCellsV, List.length_drop]
    rw [if_pos (by omega)]
theorem RdS.nil (h : List AObj) (w : Nat) : RdS h w .nilsl 0 [] := ⟨by simp, fun e => rfl, rfl, fun i hi => by omega⟩
theorem RdS.hsl {h : List AObj} {w b off n cap : Nat} {ex : HCap} {cs : List V} {t : TypeId} (hb : h[b]? = some (.cells cs t)) (hl : off + n * w ≤ cs.length) : RdS h w (.hsl b off n cap ex) n ((cs.drop off).take (n * w)) := by
  refine ⟨by rw [List.length_take, List.length_drop]; omega, fun e => rfl, rfl, fun i hi => ⟨.ptr b (off + i * w), ?_, ?_⟩⟩
  · simp [vIndexAddr, hi]
  · have : (i + 1) * w ≤ n * w := Nat.mul_le_mul_right w hi
    rw [Nat.add_mul, Nat.one_mul] at this
    simp only [loadCellsV, hb]
    rw [if_pos (by omega), List.drop_take, List.take_take, List.drop_drop, Nat.min_eq_left (by omega)]
theorem StkV.rd {h : List AObj} {t : TypeId} {w n : Nat} {v : V} {xs : List V} (s : StkV h t w v n xs) : RdS h w v n xs := by
  obtain ⟨hl, ⟨rfl, rfl⟩ | ⟨b, cap, cs, rfl, hbk, h1, h2, h3⟩⟩ := s
  · have hx : xs = [] := List.eq_nil_of_length_eq_zero (by simpa using hl)
    subst hx; exact .nil h w
  · have : n * w ≤ cap * w := Nat.mul_le_mul_right w h1
    have := RdS.hsl (w := w) (n := n) (cap := cap) (ex := .grow w) (off := 0) hbk (by omega)
    rw [List.drop_zero, h3] at this; exact this
theorem ZL1 : (∀ (α : Type) (d a : α) (l : List α), (a :: l).getD 0 d = a) ∧ (∀ (α : Type) (d a : α) (l : List α) (n : Nat), (a :: l).getD (n + 1) d = l.getD n d) ∧ (∀ (α : Type) (l : List α) (i : Nat), l.toArray[i]? = l[i]?) ∧ (∀ (α : Type) (a : α) (l : List α), (a :: l)[0]? = some a) ∧ (∀ (α : Type) (a : α) (l : List α) (n : Nat), (a :: l)[n + 1]? = l[n]?) ∧ (∀ (α : Type) (l : List α), [] ++ l = l) ∧ (∀ (α : Type) (a : α) (l r : List α), (a :: l) ++ r = a :: (l ++ r)) ∧ (∀ (α : Type) (l : List α), l ++ [] = l) :=
  ⟨fun _ _ _ _ => rfl, fun _ _ _ _ _ => rfl, fun _ _ _ => List.getElem?_toArray, fun _ _ _ => rfl, fun _ _ _ _ => rfl, fun _ _ => rfl, fun _ _ _ _ => rfl, fun _ l => List.append_nil l⟩
theorem ZB1 : (∀ b : Bool, (b || false) = b) ∧ (∀ b : Bool, (false || b) = b) ∧ (∀ b : Bool, (true && b) = b) ∧ (∀ b : Bool, (b || true) = true) ∧ (∀ b : Bool, (true || b) = true) := ⟨Bool.or_false, fun b => Bool.false_or b, Bool.true_and, fun b => Bool.or_true b, Bool.true_or⟩
end Go.Ab
namespace Go.Ab
set_option linter.unusedVariables false
def RowT (ts : List Nat) (w : Nat) (v : V) (n : Nat) (cells : List V) : Prop :=
  cells.length = n * w ∧ ((v = .nilsl ∧ n = 0) ∨ ∃ cap, v = .row cells n cap ∧ (cap = .full ∨ ∃ k e, cap = .tok k e w ∧ ts[k]? = some e))
theorem RowT.nil (ts : List Nat) (w : Nat) : RowT ts w .nilsl 0 [] := ⟨by simp, .inl ⟨rfl, rfl⟩⟩
theorem RowT.full (ts : List Nat) (w : Nat) (n : Nat) (cells : List V) (h : cells.length = n * w) : RowT ts w (.row cells n .full) n cells := ⟨h, .inr ⟨_, rfl, .inl rfl⟩⟩
theorem RowT.cells {ts : List Nat} {w n : Nat} {v : V} {cs : List V} (h : RowT ts w v n cs) : v.cells = [v] ∧ v.isCell = true := by
  obtain ⟨_, ⟨rfl, rfl⟩ | ⟨cap, rfl, _⟩⟩ := h <;> exact ⟨rfl, rfl⟩
theorem RowT.len {ts : List Nat} {w n : Nat} {v : V} {cs : List V} (h : RowT ts w v n cs) (e : TypeId) : vLenT (some (.slice e)) v = some (.int .i64 n) := by
  obtain ⟨_, ⟨rfl, rfl⟩ | ⟨cap, rfl, _⟩⟩ := h <;> rfl
theorem RowT.vlen {ts : List Nat} {w n : Nat} {v : V} {cs : List V} (h : RowT ts w v n cs) : vLen v = some n := by
  obtain ⟨_, ⟨rfl, rfl⟩ | ⟨cap, rfl, _⟩⟩ := h <;> rfl
theorem RowT.blk {ts : List Nat} {w n : Nat} {v : V} {cs : List V} (h : RowT ts w v n cs) : blkOf v = none := by
  obtain ⟨_, ⟨rfl, rfl⟩ | ⟨cap, rfl, _⟩⟩ := h <;> rfl
theorem RowT.or {ts : List Nat} {w n : Nat} {v : V} {cs : List V} (h : RowT ts w v n cs) : (v = .nilsl ∧ n = 0 ∧ cs = []) ∨ ∃ cap, v = .row cs n cap := by
  obtain ⟨hl, ⟨rfl, rfl⟩ | ⟨cap, rfl, _⟩⟩ := h
  · exact .inl ⟨rfl, rfl, List.eq_nil_of_length_eq_zero (by simpa using hl)⟩
  · exact .inr ⟨cap, rfl⟩
theorem RowT.rd {ts : List Nat} {w n : Nat} {v : V} {cs : List V} (h : RowT ts w v n cs) (L : List AObj) : RdS L w v n cs := by
  obtain ⟨hl, ⟨rfl, rfl⟩ | ⟨cap, rfl, _⟩⟩ := h
  · have : cs = [] := List.eq_nil_of_length_eq_zero (by simpa using hl)
    subst this; exact .nil L w
  · exact .row L w cs n cap hl
theorem RowT.vcells {ts : List Nat} {w n : Nat} {v : V} {cs : List V} (h : RowT ts w v n cs) (L : List AObj) : vCells L w n v = some cs := by
  obtain ⟨hl, ⟨rfl, rfl⟩ | ⟨cap, rfl, _⟩⟩ := h
  · have : cs = [] := List.eq_nil_of_length_eq_zero (by simpa using hl)
    subst this; rfl
  · simp only [vCells, hl, Nat.le_refl, and_self, if_true]
    rw [List.take_of_length_le (Nat.le_of_eq hl)]
theorem RowT.append {E : Env} {L : List AObj} {ts : List Nat} {t ty ty2 : TypeId} {w n m nb : Nat} {v y : V} {cs new : List V} (h : RowT ts w v n cs) (he : elemS E ty = some t) (hs : sz E t = some w) (hz : zeroN E t = some w) (hb : bys E t = some nb) (hu : ∃ e2, E.P.underlying ty2 = some (.slice e2))
    (hlim : (n + m) * nb ≤ lim ∧ n + m ≤ lim) (hy : vLen y = some m) (hc : vCells L w m y = some new) (hnl : new.length = m * w) (hcell : new.all V.isCell = true) :
    ∃ v' ts', appO E false ⟨L, ts⟩ ty ty2 v y = some (v', ⟨L, ts'⟩) ∧ RowT ts' w v' (n + m) (cs ++ new) ∧ (m ≠ 0 → v' ≠ .nilsl) := by
  obtain ⟨e2, hu⟩ := hu
  have hlen : (cs ++ new).length = (n + m) * w := by rw [List.length_append, h.1, hnl, Nat.add_mul]
  obtain ⟨hl, hcase⟩ := id h
  unfold appO
  simp only [he, hs, hb, hu, hz, hy, hc, Option.bind_some, if_true]
  by_cases h0 : m = 0
  · subst h0
    have hn : new = [] := List.eq_nil_of_length_eq_zero (by simpa using hnl)
    subst hn
    refine ⟨v, ts, ?_, by simpa using h, fun e => absurd rfl e⟩
    rcases hcase with ⟨rfl, rfl⟩ | ⟨cap, rfl, _⟩ <;> simp [aappend]
  · rcases hcase with ⟨rfl, rfl⟩ | ⟨cap, rfl, hcap⟩
    · have hx : cs = [] := List.eq_nil_of_length_eq_zero (by simpa using hl)
      subst hx
      simp only [Nat.zero_add] at hlim
      refine ⟨.row new m (.tok ts.length 0 w), ts ++ [0], ?_, ⟨by simpa using hnl, .inr ⟨_, by simp, .inr ⟨ts.length, 0, rfl, by simp⟩⟩⟩, fun _ => by simp⟩
      simp [aappend, h0, hlim]
    · rcases hcap with rfl | ⟨k, e, rfl, hk⟩
      · refine ⟨.row (cs ++ new) (n + m) (.tok ts.length 0 w), ts ++ [0], ?_, ⟨hlen, .inr ⟨_, rfl, .inr ⟨ts.length, 0, rfl, by simp⟩⟩⟩, fun _ => by simp⟩
        simp only [aappend, h0, hlim, hl, hcell, and_self, if_true, if_false, Bool.false_eq_true]
      · refine ⟨.row (cs ++ new) (n + m) (.tok k (e + 1) w), ts.set k (e + 1), ?_, ⟨hlen, .inr ⟨_, rfl, .inr ⟨k, e + 1, rfl, by rw [List.getElem?_set_self (List.getElem?_eq_some_iff.1 hk).1]⟩⟩⟩, fun _ => by simp⟩
        simp only [aappend, h0, hlim, hl, hcell, hk, and_self, if_true, if_false]
end Go.Ab
namespace Go.Ab
set_option linter.unusedVariables false
def wpB (v : V) (b : Bool) (run skip : Prop) : Prop :=
  match v with
  | .tup [] => skip
  | .bool c => if c = b then run else skip
  | _ => False
theorem wpB_tup (b : Bool) (r s : Prop) : wpB (.tup []) b r s = s := rfl
theorem wpB_tt (r s : Prop) : wpB (.bool true) true r s = r := by simp [wpB]
theorem wpB_tf (r s : Prop) : wpB (.bool true) false r s = s := by simp [wpB]
theorem wpB_ft (r s : Prop) : wpB (.bool false) true r s = s := by simp [wpB]
theorem wpB_ff (r s : Prop) : wpB (.bool false) false r s = r := by simp [wpB]
section
variable (E : Env)
theorem dRun_step {rec : Task → Option Res} {mutb : Bool} {ops : Array Oper} {tmps : List V} {σ σ1 : S} {o : Oper} {l : List Oper} {v : V} (h : (if Region.wanted o (yieldedA ops tmps) then opV E rec mutb tmps σ o.op else some (.tup [], σ)) = some (v, σ1)) :
    dRun E rec mutb ops (o :: l) tmps σ = (match dRun E rec mutb ops l (putT tmps o.dst v) σ1 with
      | some (tr, ss, tf, σf) => some ((tmps, v) :: tr, if scOp E o.op then σ1 :: ss else ss, tf, σf)
      | none => none) := by
  simp only [dRun, h]
  cases dRun E rec mutb ops l (putT tmps o.dst v) σ1 <;> rfl
def Made (ops : Array Oper) (mutb : Bool) (K : S → Prop) (o : Oper) (t : List V) (v : V) : Prop :=
  Region.wanted o (yieldedA ops t) = false ∨ ∃ (σ0 σ1 : S), opV E (ev E) mutb t σ0 o.op = some (v, σ1) ∧ (readsOp o.op = true → ∀ σ', K σ' → aread E (evalO E t) σ' o.op = some v)
end
section
variable {E : Env} {fn : FuncId} {rnd : Option Nat} {n : Nat} {Q : Post} {ks : List Kt} {m : Bool} {ops : Array Oper} {l : List Oper} {T : Tm} {D : List DE} {σ : S}
def guardV (ops : Array Oper) (T : Tm) (j : Nat) : Option V := ((ops[j]?).bind (·.dst)).map T
end
end Go.Ab
namespace Go.Ab
set_option linter.unusedVariables false
section
variable (E : Env) (n : Nat)
end
section
variable {E : Env} {fn : FuncId} {rnd : Option Nat} {n : Nat} {Q : Post} {ks : List Kt} {T : Tm} {D : List DE} {σ : S} {m : Bool}
end
end Go.Ab
namespace Go.Ab
open Go
set_option linter.unusedVariables false
section
variable (E : Env)
def wpM (mutb : Bool) (n : Nat) (K : S → Prop) (M : Nat) : List Oper → Nat → Tm → S → (Tm → S → Prop) → Prop
  | [], _, T, σ, k => k T σ
  | ⟨dst, op, _, _, _, none⟩ :: l, m, T, σ, k => V1 (opT E mutb T σ op) fun p => (scOp E op = true → m + 1 < M → K p.2) ∧ (readsOp op = true → ∀ σ', K σ' → aread E (evalT E T) σ' op = some p.1) ∧
    (match dst with
      | none => wpM mutb n K M l (if scOp E op then m + 1 else m) T p.2 k
      | some d => d < n ∧ wpM mutb n K M l (if scOp E op then m + 1 else m) (upd T d p.1) p.2 k)
  | ⟨_, _, _, _, _, some _⟩ :: _, _, _, _, _ => False
theorem wpM_sound {mutb : Bool} {n : Nat} {ops : Array Oper} {K : S → Prop} {M : Nat} : ∀ (l : List Oper) (m : Nat) {T : Tm} {tmps : List V} {σ : S} {k : Tm → S → Prop}, Rep n T tmps → wpM E mutb n K M l m T σ k →
    ∃ (tr : List (List V × V)) (ss : List S) (tf : List V) (σf : S) (T' : Tm), dRun E (ev E) mutb ops l tmps σ = some (tr, ss, tf, σf) ∧ Rep n T' tf ∧ k T' σf ∧ (∀ i s, ss[i]? = some s → m + i + 1 < M → K s) ∧
      ∀ (j : Nat) (o : Oper), l[j]? = some o → ∃ (t : List V) (v : V) (σ0 σ1 : S), tr[j]? = some (t, v) ∧ opV E (ev E) mutb t σ0 o.op = some (v, σ1) ∧ (readsOp o.op = true → ∀ σ', K σ' → aread E (evalO E t) σ' o.op = some v)
  | [], m, T, tmps, σ, k, h, hw => ⟨[], [], tmps, σ, T, rfl, h, hw, fun i s hs => by simp at hs, fun j o hj => by simp at hj⟩
  | ⟨dst, op, t, p, a, none⟩ :: l, m, T, tmps, σ, k, h, hw => by
    simp only [wpM] at hw
    obtain ⟨⟨v, σ1⟩, hop, hK, hR, hw⟩ := hw
    rw [opT_opV E h] at hop
    simp only at hK hR hw
    have hput : ∃ T1, Rep n T1 (putT tmps dst v) ∧ wpM E mutb n K M l (if scOp E op then m + 1 else m) T1 σ1 k := by
      cases dst with
      | none => exact ⟨T, h, hw⟩
      | some d => exact ⟨_, h.upd hw.1 v, hw.2⟩
    obtain ⟨T1, hr1, hw1⟩ := hput
    obtain ⟨tr, ss, tf, σf, T', h1, h2, h3, h4, h5⟩ := wpM_sound l _ hr1 hw1
    refine ⟨(tmps, v) :: tr, if scOp E op then σ1 :: ss else ss, tf, σf, T', by rw [dRun_cons E hop, h1], h2, h3, ?_, ?_⟩
    · intro i s hs hM
      by_cases hsc : scOp E op = true
      · simp only [hsc, if_true] at hs h4
        cases i with
        | zero =>
          simp only [List.getElem?_cons_zero, Option.some.injEq] at hs
          subst hs
          exact hK hsc (by omega)
        | succ i =>
          simp only [List.getElem?_cons_succ] at hs
          exact h4 i s hs (by omega)
      · simp only [hsc, Bool.false_eq_true, if_false] at hs h4
        exact h4 i s hs hM
    · intro j o hj
      cases j with
      | zero =>
        simp only [List.getElem?_cons_zero, Option.some.injEq] at hj
        subst hj
        exact ⟨tmps, v, σ, σ1, rfl, hop, fun hrd σ' hσ' => by rw [h.eval]; exact hR hrd σ' hσ'⟩
      | succ j =>
        simp only [List.getElem?_cons_succ] at hj ⊢
        exact h5 j o hj
  | ⟨_, _, _, _, _, some _⟩ :: _, m, T, tmps, σ, k, h, hw => hw.elim
def lateOK (ops : Array Oper) (masks : List Nat) (M : Nat) : Bool :=
  (List.range ops.size).all fun j => match ops[j]? with
    | some o => scOp E o.op || !readsOp o.op || (List.range (ops.size + 1)).all fun m => decide (m < M) || !allowed E ops masks j m
    | none => true
theorem dRun_len {rec : Task → Option Res} {mutb : Bool} {ops : Array Oper} : ∀ (l : List Oper) {tmps : List V} {σ : S} {tr : List (List V × V)} {ss : List S} {tf : List V} {σf : S}, dRun E rec mutb ops l tmps σ = some (tr, ss, tf, σf) → ss.length ≤ l.length
  | [], tmps, σ, tr, ss, tf, σf, h => by simp only [dRun, Option.some.injEq, Prod.mk.injEq] at h; rw [← h.2.1]; exact Nat.le_refl _
  | o :: l, tmps, σ, tr, ss, tf, σf, h => by
    simp only [dRun] at h
    split at h
    · split at h
      · rename_i h2
        have := dRun_len l h2
        simp only [Option.some.injEq, Prod.mk.injEq] at h
        rw [← h.2.1]
        split <;> simp <;> omega
      · simp at h
    · simp at h
theorem execC_late {fn : FuncId} {rnd : Option Nat} {id : Nat} {ops : Array Oper} {K : S → Prop} {M : Nat} {n : Nat} {T : Tm} {tmps : List V} {dfs : List DE} {σ : S} {k : Tm → S → Prop} (hp : pairsOK E ops (masksFrom [] ops.toList) = true) (hM : lateOK E ops (masksFrom [] ops.toList) M = true) (hK : 0 < M → K σ)
    (hr : Rep n T tmps) (hw : wpM E (E.mutb fn id) n K M ops.toList 0 T σ k) :
    ∃ tf σf T', execC E (ev E) fn rnd (.region id ops true) tmps dfs σ = some ⟨.normal, tf, dfs, σf⟩ ∧ Rep n T' tf ∧ k T' σf := by
  obtain ⟨tr, ss, tf, σf, T', h1, h2, h3, h4, h5⟩ := wpM_sound E (ops := ops) ops.toList 0 hr hw
  refine ⟨tf, σf, T', ?_, h2, h3⟩
  have hsl := dRun_len E _ h1
  have hc : dCheck E ops (masksFrom [] ops.toList) tr (σ :: ss) = true := by
    unfold dCheck
    rw [List.all_eq_true]
    intro j hj0
    have hj : j < ops.size := by simpa using hj0
    have hoj : ops[j]? = some ops[j] := Array.getElem?_eq_getElem hj
    have hoj2 : ops.toList[j]? = some ops[j] := by rw [Array.getElem?_toList]; exact hoj
    obtain ⟨t, v, σ0, σ1, ht, hop, hrd⟩ := h5 j ops[j] hoj2
    simp only [hoj, ht]
    by_cases hs : scOp E ops[j].op = true
    · simp [hs]
    by_cases hpc : pureCall E ops[j].op = true
    · simp [hpc]
    by_cases ha : (apure E (evalO E t) ops[j].op).isSome = true
    · simp [ha]
    have ha' : apure E (evalO E t) ops[j].op = none := by simpa using ha
    have hread := opV_read (by simpa using hs) (by simpa using hpc) ha' hop
    have hreads : readsOp ops[j].op = true := by
      cases hx : readsOp ops[j].op with
      | true => rfl
      | false => rw [aread_none hx] at hread; simp at hread
    rw [Bool.or_eq_true]
    right
    rw [List.all_eq_true]
    intro m hm
    have hm : m < (σ :: ss).length := by simpa using hm
    have hm2 : m < ops.size + 1 := by simp at hm hsl; omega
    rw [List.getElem?_eq_getElem hm]
    cases hal : allowed E ops (masksFrom [] ops.toList) j m with
    | false => rfl
    | true =>
      have hlt : m < M := by
        unfold lateOK at hM
        rw [List.all_eq_true] at hM
        have h6 := hM j hj0
        simp only [hoj, hs, hreads, Bool.not_true, Bool.false_or, List.all_eq_true] at h6
        have h7 := h6 m (by simpa using hm2)
        rw [hal] at h7
        simpa using h7
      have hKm : K (σ :: ss)[m] := by
        cases m with
        | zero => exact hK (by omega)
        | succ m =>
          simp only [List.getElem_cons_succ]
          have hms : m < ss.length := by simp at hm; omega
          exact h4 m _ (List.getElem?_eq_getElem hms) (by omega)
      simp only [hrd hreads _ hKm, V.beq_refl, Bool.or_true]
  simp only [execC, hp, if_true, h1, hc]
variable (fn : FuncId) (rnd : Option Nat) (n : Nat) (Q : Post) (ks : List Kt)
def GM (m : Bool) (K : S → Prop) (M : Nat) (l : List Oper) (c : Nat) (T : Tm) (D : List DE) (σ : S) : Prop :=
  wpM E m n K M l c T σ fun T σ => (Kt.post E fn rnd n Q ks).norm T D σ
end
section
variable {E : Env} {fn : FuncId} {rnd : Option Nat} {n : Nat} {Q : Post} {ks : List Kt} {m : Bool} {T : Tm} {D : List DE} {σ : S}
theorem G_late {id : Nat} {l : List Oper} (hs : E.stab fn id = true) (K : S → Prop) (M : Nat) (hK : 0 < M → K σ) (hp : pairsOK E l.toArray (masksFrom [] l) = true) (hM : lateOK E l.toArray (masksFrom [] l) M = true) (h : GM E fn rnd n Q ks (E.mutb fn id) K M l 0 T D σ) :
    G E fn rnd n Q ks (.region id l.toArray true) T D σ := by
  unfold G wpC
  simp only [hs]
  intro tmps hr
  obtain ⟨tf, σf, T', h1, h2, h3⟩ := execC_late E (rnd := rnd) (dfs := D) hp hM hK hr h
  exact ⟨_, h1, T', h2, h3⟩
theorem GM_nil (K : S → Prop) (M c : Nat) : GM E fn rnd n Q ks m K M [] c T D σ = G E fn rnd n Q ks .skip T D σ := rfl
def GMS (E : Env) (fn : FuncId) (rnd : Option Nat) (n : Nat) (Q : Post) (ks : List Kt) (m : Bool) (K : S → Prop) (M : Nat) (l : List Oper) (c : Nat) (T : Tm) (D : List DE) (d : Option Nat) (op : Op) (o : Option (V × S)) : Prop :=
  V1 o fun p => (scOp E op = true → c + 1 < M → K p.2) ∧ (readsOp op = true → ∀ σ', K σ' → aread E (evalT E T) σ' op = some p.1) ∧
    (match d with
      | none => GM E fn rnd n Q ks m K M l (if scOp E op then c + 1 else c) T D p.2
      | some d => d < n ∧ GM E fn rnd n Q ks m K M l (if scOp E op then c + 1 else c) (upd T d p.1) D p.2)
theorem GM_op (K : S → Prop) (M : Nat) (l : List Oper) (c : Nat) (d : Option Nat) (op : Op) (t : TypeId) (p : String) (a : Array Edge) : GM E fn rnd n Q ks m K M (⟨d, op, t, p, a, none⟩ :: l) c T D σ = GMS E fn rnd n Q ks m K M l c T D d op (opT E m T σ op) := rfl
theorem GMS_some (K : S → Prop) (M : Nat) (l : List Oper) (c d : Nat) (op : Op) (v : V) (σ' : S) : GMS E fn rnd n Q ks m K M l c T D (some d) op (some (v, σ')) = ((scOp E op = true → c + 1 < M → K σ') ∧ (readsOp op = true → ∀ s, K s → aread E (evalT E T) s op = some v) ∧ d < n ∧ GM E fn rnd n Q ks m K M l (if scOp E op then c + 1 else c) (upd T d v) D σ') := by
  unfold GMS V1; simp
theorem GMS_none (K : S → Prop) (M : Nat) (l : List Oper) (c : Nat) (op : Op) (v : V) (σ' : S) : GMS E fn rnd n Q ks m K M l c T D none op (some (v, σ')) = ((scOp E op = true → c + 1 < M → K σ') ∧ (readsOp op = true → ∀ s, K s → aread E (evalT E T) s op = some v) ∧ GM E fn rnd n Q ks m K M l (if scOp E op then c + 1 else c) T D σ') := by
  unfold GMS V1; simp
theorem GMS_ite (K : S → Prop) (M : Nat) (l : List Oper) (c : Nat) (d : Option Nat) (op : Op) (x : Prop) [Decidable x] (o : Option (V × S)) : GMS E fn rnd n Q ks m K M l c T D d op (if x then o else none) = (x ∧ GMS E fn rnd n Q ks m K M l c T D d op o) := by
  by_cases h : x <;> simp [h, GMS, V1]
theorem GMS_nite (K : S → Prop) (M : Nat) (l : List Oper) (c : Nat) (d : Option Nat) (op : Op) (x : Prop) [Decidable x] (o : Option (V × S)) : GMS E fn rnd n Q ks m K M l c T D d op (if x then none else o) = (¬ x ∧ GMS E fn rnd n Q ks m K M l c T D d op o) := by
  by_cases h : x <;> simp [h, GMS, V1]
end
end Go.Ab
namespace Go.Ab
set_option linter.unusedVariables false
def AllM (K : Nat → S → Prop) (P : S → Prop) : List Nat → Prop
  | [] => True
  | m :: ms => (∀ σ', K m σ' → P σ') ∧ AllM K P ms
theorem AllM_nil (K : Nat → S → Prop) (P : S → Prop) : AllM K P [] = True := rfl
theorem AllM_cons (K : Nat → S → Prop) (P : S → Prop) (m : Nat) (ms : List Nat) : AllM K P (m :: ms) = ((∀ σ', K m σ' → P σ') ∧ AllM K P ms) := rfl
theorem AllM.mem {K : Nat → S → Prop} {P : S → Prop} : ∀ {ms : List Nat}, AllM K P ms → ∀ m ∈ ms, ∀ σ', K m σ' → P σ'
  | [], _, m, hm => by simp at hm
  | a :: ms, ⟨h1, h2⟩, m, hm => by
    rcases List.mem_cons.1 hm with rfl | h
    · exact h1
    · exact h2.mem m h
section
variable (E : Env)
def wpW (mutb : Bool) (ops : Array Oper) (n : Nat) (K : Nat → S → Prop) : List Oper → List (Bool × List Nat) → Nat → Tm → S → (Tm → S → Prop) → Prop
  | [], _, _, T, σ, k => k T σ
  | _ :: _, [], _, _, _, _ => False
  | ⟨dst, op, _, _, _, none⟩ :: l, (s, ms) :: ws, c, T, σ, k => V1 (opT E mutb T σ op) fun p => AllM K (fun σ' => aread E (evalT E T) σ' op = some p.1) ms ∧ (s = true → K (c + 1) p.2) ∧
    (match dst with
      | none => wpW mutb ops n K l ws (if s then c + 1 else c) T p.2 k
      | some d => d < n ∧ wpW mutb ops n K l ws (if s then c + 1 else c) (upd T d p.1) p.2 k)
  | ⟨some d, op, _, _, _, some (j, b)⟩ :: l, (s, ms) :: ws, c, T, σ, k => V1 ((ops[j]?).bind (·.dst)) fun dj => d < n ∧ wpB (T dj) b
      (V1 (opT E mutb T σ op) fun p => AllM K (fun σ' => aread E (evalT E T) σ' op = some p.1) ms ∧ (s = true → K (c + 1) p.2) ∧ wpW mutb ops n K l ws (if s then c + 1 else c) (upd T d p.1) p.2 k)
      ((s = true → K (c + 1) σ) ∧ wpW mutb ops n K l ws (if s then c + 1 else c) (upd T d (.tup [])) σ k)
  | ⟨none, op, _, _, _, some (j, b)⟩ :: l, (s, ms) :: ws, c, T, σ, k => V1 ((ops[j]?).bind (·.dst)) fun dj => wpB (T dj) b
      (V1 (opT E mutb T σ op) fun p => AllM K (fun σ' => aread E (evalT E T) σ' op = some p.1) ms ∧ (s = true → K (c + 1) p.2) ∧ wpW mutb ops n K l ws (if s then c + 1 else c) T p.2 k)
      ((s = true → K (c + 1) σ) ∧ wpW mutb ops n K l ws (if s then c + 1 else c) T σ k)
def MadeW (ops : Array Oper) (mutb : Bool) (K : Nat → S → Prop) (o : Oper) (ms : List Nat) (t : List V) (v : V) (σ0 : Option S) : Prop :=
  Region.wanted o (yieldedA ops t) = false ∨ ∃ (s0 s1 : S), σ0 = some s0 ∧ opV E (ev E) mutb t s0 o.op = some (v, s1) ∧ AllM K (fun σ' => aread E (evalO E t) σ' o.op = some v) ms
theorem wpW_sound {mutb : Bool} {n : Nat} {ops : Array Oper} {K : Nat → S → Prop} : ∀ (l : List Oper) (ws : List (Bool × List Nat)) (c : Nat) {T : Tm} {tmps : List V} {σ : S} {k : Tm → S → Prop}, (∀ (j : Nat) (o : Oper) (w : Bool × List Nat), l[j]? = some o → ws[j]? = some w → w.1 = scOp E o.op) → Rep n T tmps → wpW E mutb ops n K l ws c T σ k →
    ∃ (tr : List (List V × V)) (ss : List S) (tf : List V) (σf : S) (T' : Tm), dRun E (ev E) mutb ops l tmps σ = some (tr, ss, tf, σf) ∧ Rep n T' tf ∧ k T' σf ∧ (∀ (i : Nat) (s : S), ss[i]? = some s → K (c + i + 1) s) ∧
      ∀ (j : Nat) (o : Oper), l[j]? = some o → ∃ (t : List V) (v : V) (w : Bool × List Nat), tr[j]? = some (t, v) ∧ ws[j]? = some w ∧ MadeW E ops mutb K o w.2 t v (σ :: ss)[cntO E l j]?
  | [], ws, c, T, tmps, σ, k, hs, h, hw => ⟨[], [], tmps, σ, T, rfl, h, hw, fun i s hs => by simp at hs, fun j o hj => by simp at hj⟩
  | o :: l, [], c, T, tmps, σ, k, hs, h, hw => hw.elim
  | o :: l, (s, ms) :: ws, c, T, tmps, σ, k, hs, h, hw => by
    have hs0 : s = scOp E o.op := hs 0 o (s, ms) rfl rfl
    have key : ∃ v σ1 T1, (if Region.wanted o (yieldedA ops tmps) then opV E (ev E) mutb tmps σ o.op else some (.tup [], σ)) = some (v, σ1) ∧ (s = true → K (c + 1) σ1) ∧ Rep n T1 (putT tmps o.dst v) ∧ wpW E mutb ops n K l ws (if s then c + 1 else c) T1 σ1 k ∧ MadeW E ops mutb K o ms tmps v (some σ) := by
      obtain ⟨dst, op, t, p, a, g⟩ := o
      cases g with
      | none =>
        simp only [wpW] at hw
        obtain ⟨⟨v, σ1⟩, hop, hR, hK, hw⟩ := hw
        rw [opT_opV E h] at hop
        simp only at hK hR hw
        have hm : MadeW E ops mutb K ⟨dst, op, t, p, a, none⟩ ms tmps v (some σ) := .inr ⟨σ, σ1, rfl, hop, by rw [h.eval]; exact hR⟩
        have hwant : Region.wanted ⟨dst, op, t, p, a, none⟩ (yieldedA ops tmps) = true := rfl
        cases dst with
        | none => exact ⟨v, σ1, T, by rw [if_pos hwant]; exact hop, hK, h, hw, hm⟩
        | some d => exact ⟨v, σ1, _, by rw [if_pos hwant]; exact hop, hK, h.upd hw.1 v, hw.2, hm⟩
      | some jb =>
        obtain ⟨j, b⟩ := jb
        cases dst with
        | none =>
          simp only [wpW] at hw
          obtain ⟨dj, hdj, hw⟩ := hw
          have skip : (s = true → K (c + 1) σ) ∧ wpW E mutb ops n K l ws (if s then c + 1 else c) T σ k → Region.wanted ⟨none, op, t, p, a, some (j, b)⟩ (yieldedA ops tmps) = false →
              ∃ v σ1 T1, (if Region.wanted ⟨none, op, t, p, a, some (j, b)⟩ (yieldedA ops tmps) then opV E (ev E) mutb tmps σ op else some (.tup [], σ)) = some (v, σ1) ∧ (s = true → K (c + 1) σ1) ∧ Rep n T1 (putT tmps none v) ∧ wpW E mutb ops n K l ws (if s then c + 1 else c) T1 σ1 k ∧ MadeW E ops mutb K ⟨none, op, t, p, a, some (j, b)⟩ ms tmps v (some σ) := fun hs hn =>
            ⟨.tup [], σ, _, by rw [hn]; rfl, hs.1, h, hs.2, .inl hn⟩
          unfold wpB at hw
          split at hw
          · rename_i htup
            refine skip hw ?_
            simp only [Region.wanted, yieldedA_no h hdj htup]
            rfl
          · rename_i cc hc
            have hy := yieldedA_eq (ops := ops) h hdj hc
            by_cases hcb : cc = b
            · rw [if_pos hcb] at hw
              obtain ⟨⟨v, σ1⟩, hop, hR, hK, hw⟩ := hw
              rw [opT_opV E h] at hop
              simp only at hK hR hw
              have hwant : Region.wanted ⟨none, op, t, p, a, some (j, b)⟩ (yieldedA ops tmps) = true := by
                simp only [Region.wanted, hy, hcb]; simp
              exact ⟨v, σ1, _, by rw [if_pos hwant]; exact hop, hK, h, hw, .inr ⟨σ, σ1, rfl, hop, by rw [h.eval]; exact hR⟩⟩
            · rw [if_neg hcb] at hw
              refine skip hw ?_
              simp only [Region.wanted, hy]
              simp [hcb]
          · exact hw.elim
        | some d =>
          simp only [wpW] at hw
          obtain ⟨dj, hdj, hd, hw⟩ := hw
          have skip : (s = true → K (c + 1) σ) ∧ wpW E mutb ops n K l ws (if s then c + 1 else c) (upd T d (.tup [])) σ k → Region.wanted ⟨some d, op, t, p, a, some (j, b)⟩ (yieldedA ops tmps) = false →
              ∃ v σ1 T1, (if Region.wanted ⟨some d, op, t, p, a, some (j, b)⟩ (yieldedA ops tmps) then opV E (ev E) mutb tmps σ op else some (.tup [], σ)) = some (v, σ1) ∧ (s = true → K (c + 1) σ1) ∧ Rep n T1 (putT tmps (some d) v) ∧ wpW E mutb ops n K l ws (if s then c + 1 else c) T1 σ1 k ∧ MadeW E ops mutb K ⟨some d, op, t, p, a, some (j, b)⟩ ms tmps v (some σ) := fun hs hn =>
            ⟨.tup [], σ, _, by rw [hn]; rfl, hs.1, h.upd hd _, hs.2, .inl hn⟩
          unfold wpB at hw
          split at hw
          · rename_i htup
            refine skip hw ?_
            simp only [Region.wanted, yieldedA_no h hdj htup]
            rfl
          · rename_i cc hc
            have hy := yieldedA_eq (ops := ops) h hdj hc
            by_cases hcb : cc = b
            · rw [if_pos hcb] at hw
              obtain ⟨⟨v, σ1⟩, hop, hR, hK, hw⟩ := hw
              rw [opT_opV E h] at hop
              simp only at hK hR hw
              have hwant : Region.wanted ⟨some d, op, t, p, a, some (j, b)⟩ (yieldedA ops tmps) = true := by
                simp only [Region.wanted, hy, hcb]; simp
              exact ⟨v, σ1, _, by rw [if_pos hwant]; exact hop, hK, h.upd hd v, hw, .inr ⟨σ, σ1, rfl, hop, by rw [h.eval]; exact hR⟩⟩
            · rw [if_neg hcb] at hw
              refine skip hw ?_
              simp only [Region.wanted, hy]
              simp [hcb]
          · exact hw.elim
    obtain ⟨v, σ1, T1, hstep, hK, hr1, hw1, hm⟩ := key
    obtain ⟨tr, ss, tf, σf, T', h1, h2, h3, h4, h5⟩ := wpW_sound l ws _ (fun j o w hj hw => hs (j + 1) o w (by simpa using hj) (by simpa using hw)) hr1 hw1
    refine ⟨(tmps, v) :: tr, if scOp E o.op then σ1 :: ss else ss, tf, σf, T', by rw [dRun_step E hstep, h1], h2, h3, ?_, ?_⟩
    · intro i x hx
      rw [← hs0] at hx
      cases s with
      | true =>
        simp only [if_true] at hx h4
        cases i with
        | zero =>
          simp only [List.getElem?_cons_zero, Option.some.injEq] at hx
          subst hx
          exact hK rfl
        | succ i =>
          simp only [List.getElem?_cons_succ] at hx
          have := h4 i x hx
          rwa [show c + 1 + i + 1 = c + (i + 1) + 1 by omega] at this
      | false =>
        simp only [Bool.false_eq_true, if_false] at hx h4
        exact h4 i x hx
    · intro j o' hj
      cases j with
      | zero =>
        simp only [List.getElem?_cons_zero, Option.some.injEq] at hj
        subst hj
        refine ⟨tmps, v, (s, ms), rfl, rfl, ?_⟩
        have : cntO E (o :: l) 0 = 0 := by simp [cntO]
        rw [this]
        exact hm
      | succ j =>
        simp only [List.getElem?_cons_succ] at hj ⊢
        obtain ⟨t, v', w, a1, a2, a3⟩ := h5 j o' hj
        refine ⟨t, v', w, a1, a2, ?_⟩
        rw [cntO_cons]
        cases hsc : scOp E o.op with
        | true =>
          simp only [if_true]
          rw [Nat.add_comm 1, List.getElem?_cons_succ]
          exact a3
        | false =>
          have e : σ1 = σ := by
            split at hstep
            · exact opV_keeps hsc hstep
            · simp only [Option.some.injEq, Prod.mk.injEq] at hstep; exact hstep.2.symm
          simp only [Bool.false_eq_true, if_false, Nat.zero_add]
          rw [← e]
          exact a3
def winOK (ops : Array Oper) (masks : List Nat) (ws : List (Bool × List Nat)) : Bool :=
  (List.range ops.size).all fun j => match ops[j]?, ws[j]? with
    | some o, some w => (w.1 == scOp E o.op) && (w.1 || !readsOp o.op || pureCall E o.op || (List.range (scCount E ops ops.size + 1)).all fun m => !allowed E ops masks j m || m == scCount E ops j || w.2.contains m)
    | _, _ => false
theorem cntO_sc (ops : Array Oper) (j : Nat) : cntO E ops.toList j = scCount E ops j := rfl
theorem execC_win {fn : FuncId} {rnd : Option Nat} {id : Nat} {ops : Array Oper} {K : Nat → S → Prop} {ws : List (Bool × List Nat)} {n : Nat} {T : Tm} {tmps : List V} {dfs : List DE} {σ : S} {k : Tm → S → Prop} (hp : pairsOK E ops (masksFrom [] ops.toList) = true) (hM : winOK E ops (masksFrom [] ops.toList) ws = true) (hK : K 0 σ)
    (hr : Rep n T tmps) (hw : wpW E (E.mutb fn id) ops n K ops.toList ws 0 T σ k) :
    ∃ tf σf T', execC E (ev E) fn rnd (.region id ops true) tmps dfs σ = some ⟨.normal, tf, dfs, σf⟩ ∧ Rep n T' tf ∧ k T' σf := by
  unfold winOK at hM
  rw [List.all_eq_true] at hM
  have hsc : ∀ (j : Nat) (o : Oper) (w : Bool × List Nat), ops.toList[j]? = some o → ws[j]? = some w → w.1 = scOp E o.op := by
    intro j o w hj hw
    rw [Array.getElem?_toList] at hj
    have hlt : j < ops.size := by
      rcases Nat.lt_or_ge j ops.size with h | h
      · exact h
      · rw [Array.getElem?_eq_none h] at hj; simp at hj
    have h6 := hM j (by simpa using hlt)
    simp only [hj, hw, Bool.and_eq_true, beq_iff_eq] at h6
    exact h6.1
  obtain ⟨tr, ss, tf, σf, T', h1, h2, h3, h4, h5⟩ := wpW_sound E (ops := ops) ops.toList ws 0 hsc hr hw
  refine ⟨tf, σf, T', ?_, h2, h3⟩
  have hsl : ss.length = scCount E ops ops.size := by
    have := (dRun_spec _ h1).2.1
    rw [this]; simp [cntO_sc]
  have hc : dCheck E ops (masksFrom [] ops.toList) tr (σ :: ss) = true := by
    unfold dCheck
    rw [List.all_eq_true]
    intro j hj0
    have hj : j < ops.size := by simpa using hj0
    have hoj : ops[j]? = some ops[j] := Array.getElem?_eq_getElem hj
    have hoj2 : ops.toList[j]? = some ops[j] := by rw [Array.getElem?_toList]; exact hoj
    obtain ⟨t, v, w, ht, hwj, hmade⟩ := h5 j ops[j] hoj2
    simp only [hoj, ht]
    by_cases hs : scOp E ops[j].op = true
    · simp [hs]
    by_cases hpc : pureCall E ops[j].op = true
    · simp [hpc]
    rcases hmade with hun | ⟨s0, s1, he, hop, hrd⟩
    · simp [hun]
    by_cases ha : (apure E (evalO E t) ops[j].op).isSome = true
    · simp [ha]
    have ha' : apure E (evalO E t) ops[j].op = none := by simpa using ha
    have hread := opV_read (by simpa using hs) (by simpa using hpc) ha' hop
    have hreads : readsOp ops[j].op = true := by
      cases hx : readsOp ops[j].op with
      | true => rfl
      | false => rw [aread_none hx] at hread; simp at hread
    rw [Bool.or_eq_true]
    right
    rw [List.all_eq_true]
    intro m hm
    have hm : m < (σ :: ss).length := by simpa using hm
    have hm2 : m < scCount E ops ops.size + 1 := by simp at hm; omega
    rw [List.getElem?_eq_getElem hm]
    cases hal : allowed E ops (masksFrom [] ops.toList) j m with
    | false => rfl
    | true =>
      have hgood : aread E (evalO E t) (σ :: ss)[m] ops[j].op = some v := by
        have h6 := hM j hj0
        have hw1 : w.1 = false := by rw [hsc j _ w hoj2 hwj]; simpa using hs
        have hpc' : pureCall E ops[j].op = false := by simpa using hpc
        simp only [hoj, hwj, hreads, hw1, hpc', Bool.not_true, Bool.false_or, Bool.and_eq_true, List.all_eq_true] at h6
        have h7 := h6.2 m (by simpa using hm2)
        rw [hal] at h7
        simp only [Bool.not_true, Bool.false_or, Bool.or_eq_true, beq_iff_eq, List.contains_iff_mem] at h7
        rcases h7 with rfl | h7
        · rw [cntO_sc, List.getElem?_eq_getElem hm, Option.some.injEq] at he
          rw [he]; exact hread
        · refine hrd.mem m h7 _ ?_
          cases m with
          | zero => exact hK
          | succ m =>
            simp only [List.getElem_cons_succ]
            have hms : m < ss.length := by simp at hm; omega
            have := h4 m _ (List.getElem?_eq_getElem hms)
            rwa [Nat.zero_add] at this
      simp only [hgood, V.beq_refl, Bool.or_true]
  simp only [execC, hp, if_true, h1, hc]
end
section
variable {E : Env} {fn : FuncId} {rnd : Option Nat} {n : Nat} {Q : Post} {ks : List Kt} {m : Bool} {ops : Array Oper} {l : List Oper} {T : Tm} {D : List DE} {σ : S} {ws : List (Bool × List Nat)} {c : Nat}
def GW (E : Env) (fn : FuncId) (rnd : Option Nat) (n : Nat) (Q : Post) (ks : List Kt) (m : Bool) (K : Nat → S → Prop) (ops : Array Oper) (l : List Oper) (ws : List (Bool × List Nat)) (c : Nat) (T : Tm) (D : List DE) (σ : S) : Prop :=
  wpW E m ops n K l ws c T σ fun T σ => (Kt.post E fn rnd n Q ks).norm T D σ
def GWS (E : Env) (fn : FuncId) (rnd : Option Nat) (n : Nat) (Q : Post) (ks : List Kt) (m : Bool) (K : Nat → S → Prop) (ops : Array Oper) (l : List Oper) (s : Bool) (ms : List Nat) (ws : List (Bool × List Nat)) (c : Nat) (T : Tm) (D : List DE) (d : Option Nat) (op : Op) (o : Option (V × S)) : Prop :=
  V1 o fun p => AllM K (fun σ' => aread E (evalT E T) σ' op = some p.1) ms ∧ (s = true → K (c + 1) p.2) ∧
    (match d with
      | none => GW E fn rnd n Q ks m K ops l ws (if s then c + 1 else c) T D p.2
      | some d => d < n ∧ GW E fn rnd n Q ks m K ops l ws (if s then c + 1 else c) (upd T d p.1) D p.2)
theorem G_win {id : Nat} {l : List Oper} (hs : E.stab fn id = true) (ws : List (Bool × List Nat)) (K : Nat → S → Prop) (hK : K 0 σ) (hp : pairsOK E l.toArray (masksFrom [] l) = true) (hM : winOK E l.toArray (masksFrom [] l) ws = true) (h : GW E fn rnd n Q ks (E.mutb fn id) K l.toArray l ws 0 T D σ) :
    G E fn rnd n Q ks (.region id l.toArray true) T D σ := by
  unfold G wpC
  simp only [hs]
  intro tmps hr
  obtain ⟨tf, σf, T', h1, h2, h3⟩ := execC_win E (rnd := rnd) (dfs := D) hp hM hK hr h
  exact ⟨_, h1, T', h2, h3⟩
theorem GW_nil (K : Nat → S → Prop) : GW E fn rnd n Q ks m K ops [] ws c T D σ = G E fn rnd n Q ks .skip T D σ := by unfold GW wpW; rfl
theorem GW_op (K : Nat → S → Prop) (d : Option Nat) (op : Op) (t : TypeId) (p : String) (a : Array Edge) (s : Bool) (ms : List Nat) : GW E fn rnd n Q ks m K ops (⟨d, op, t, p, a, none⟩ :: l) ((s, ms) :: ws) c T D σ = GWS E fn rnd n Q ks m K ops l s ms ws c T D d op (opT E m T σ op) := rfl
theorem GW_run (K : Nat → S → Prop) (d : Nat) (op : Op) (t : TypeId) (p : String) (a : Array Edge) (s : Bool) (ms : List Nat) (j : Nat) (b : Bool) (h : guardV ops T j = some (.bool b)) : GW E fn rnd n Q ks m K ops (⟨some d, op, t, p, a, some (j, b)⟩ :: l) ((s, ms) :: ws) c T D σ =
    (d < n ∧ GWS E fn rnd n Q ks m K ops l s ms ws c T D (some d) op (opT E m T σ op)) := by
  unfold guardV at h
  unfold GW GWS
  simp only [wpW]
  cases ho : (ops[j]?).bind (·.dst) with
  | none => rw [ho] at h; cases h
  | some dj =>
    rw [ho] at h
    simp only [Option.map_some, Option.some.injEq] at h
    rw [Yy, h]
    by_cases hd : d < n
    · simp only [hd, true_and]
      cases b <;> simp only [wpB_tt, wpB_ff] <;> rfl
    · simp only [hd, false_and]
theorem GW_pass (K : Nat → S → Prop) (d : Nat) (op : Op) (t : TypeId) (p : String) (a : Array Edge) (s : Bool) (ms : List Nat) (j : Nat) (b : Bool) (h : guardV ops T j = some (.bool (!b))) : GW E fn rnd n Q ks m K ops (⟨some d, op, t, p, a, some (j, b)⟩ :: l) ((s, ms) :: ws) c T D σ =
    (d < n ∧ (s = true → K (c + 1) σ) ∧ GW E fn rnd n Q ks m K ops l ws (if s then c + 1 else c) (upd T d (.tup [])) D σ) := by
  unfold guardV at h
  unfold GW
  simp only [wpW]
  cases ho : (ops[j]?).bind (·.dst) with
  | none => rw [ho] at h; cases h
  | some dj =>
    rw [ho] at h
    simp only [Option.map_some, Option.some.injEq] at h
    rw [Yy, h]
    cases b <;> simp only [Bool.not_true, Bool.not_false, wpB_tf, wpB_ft]
theorem GW_none (K : Nat → S → Prop) (d : Nat) (op : Op) (t : TypeId) (p : String) (a : Array Edge) (s : Bool) (ms : List Nat) (j : Nat) (b : Bool) (h : guardV ops T j = some (.tup [])) : GW E fn rnd n Q ks m K ops (⟨some d, op, t, p, a, some (j, b)⟩ :: l) ((s, ms) :: ws) c T D σ =
    (d < n ∧ (s = true → K (c + 1) σ) ∧ GW E fn rnd n Q ks m K ops l ws (if s then c + 1 else c) (upd T d (.tup [])) D σ) := by
  unfold guardV at h
  unfold GW
  simp only [wpW]
  cases ho : (ops[j]?).bind (·.dst) with
  | none => rw [ho] at h; cases h
  | some dj =>
    rw [ho] at h
    simp only [Option.map_some, Option.some.injEq] at h
    rw [Yy, h, wpB_tup]
theorem GWS_0 (K : Nat → S → Prop) (d : Nat) (op : Op) (v : V) (σ' : S) : GWS E fn rnd n Q ks m K ops l false [] ws c T D (some d) op (some (v, σ')) = (d < n ∧ GW E fn rnd n Q ks m K ops l ws c (upd T d v) D σ') := by
  unfold GWS; rw [Yy]; simp [AllM_nil]
theorem GWS_0n (K : Nat → S → Prop) (op : Op) (v : V) (σ' : S) : GWS E fn rnd n Q ks m K ops l false [] ws c T D none op (some (v, σ')) = GW E fn rnd n Q ks m K ops l ws c T D σ' := by
  unfold GWS; rw [Yy]; simp [AllM_nil]
theorem GWS_1 (K : Nat → S → Prop) (d : Nat) (op : Op) (ms : List Nat) (v : V) (σ' : S) : GWS E fn rnd n Q ks m K ops l true ms ws c T D (some d) op (some (v, σ')) = (AllM K (fun σ' => aread E (evalT E T) σ' op = some v) ms ∧ K (c + 1) σ' ∧ d < n ∧ GW E fn rnd n Q ks m K ops l ws (c + 1) (upd T d v) D σ') := by
  unfold GWS; rw [Yy]; simp
theorem GWS_1n (K : Nat → S → Prop) (op : Op) (ms : List Nat) (v : V) (σ' : S) : GWS E fn rnd n Q ks m K ops l true ms ws c T D none op (some (v, σ')) = (AllM K (fun σ' => aread E (evalT E T) σ' op = some v) ms ∧ K (c + 1) σ' ∧ GW E fn rnd n Q ks m K ops l ws (c + 1) T D σ') := by
  unfold GWS; rw [Yy]; simp
theorem GWS_m (K : Nat → S → Prop) (d : Nat) (op : Op) (m0 : Nat) (ms : List Nat) (v : V) (σ' : S) : GWS E fn rnd n Q ks m K ops l false (m0 :: ms) ws c T D (some d) op (some (v, σ')) = (AllM K (fun σ' => aread E (evalT E T) σ' op = some v) (m0 :: ms) ∧ d < n ∧ GW E fn rnd n Q ks m K ops l ws c (upd T d v) D σ') := by
  unfold GWS; rw [Yy]; simp
theorem GWS_ite (K : Nat → S → Prop) (s : Bool) (ms : List Nat) (d : Option Nat) (op : Op) (x : Prop) [Decidable x] (o : Option (V × S)) : GWS E fn rnd n Q ks m K ops l s ms ws c T D d op (if x then o else none) = (x ∧ GWS E fn rnd n Q ks m K ops l s ms ws c T D d op o) := by simp only [GWS, V1_ite]
theorem GWS_nite (K : Nat → S → Prop) (s : Bool) (ms : List Nat) (d : Option Nat) (op : Op) (x : Prop) [Decidable x] (o : Option (V × S)) : GWS E fn rnd n Q ks m K ops l s ms ws c T D d op (if x then none else o) = (¬ x ∧ GWS E fn rnd n Q ks m K ops l s ms ws c T D d op o) := by simp only [GWS, V1_nite]
end
end Go.Ab
namespace Go.Ab
set_option linter.unusedVariables false
def Post.ofP (n : Nat) (Q : Post) (X : V → List V → List DE → S → Prop) (r : Res) : Prop :=
  match r.ex with
  | .pan v => X v r.vals r.dfs r.st
  | _ => Q.of n r
def wpP (E : Env) (fn : FuncId) (rnd : Option Nat) (n : Nat) (X : V → List V → List DE → S → Prop) (c : Code) (T : Tm) (D : List DE) (σ : S) (Q : Post) : Prop :=
  ∀ tmps, Rep n T tmps → ∃ r, execC E (ev E) fn rnd c tmps D σ = some r ∧ Post.ofP n Q X r
def PanC (E : Env) (T : Tm) (op : Op) (σ : S) (K : V → S → Prop) : Prop :=
  match op with
  | .call { callee := .value g, args, .. } => ∃ f first captured as v σ', evalT E T g = some (.func f first captured) ∧ listO (evalT E T) args.toList = some as ∧ E.pure f = false ∧ E.hook f = none ∧ E.frz f = false ∧ E.hookS f = none ∧
      ev E (.call f (first ++ as ++ captured) σ) = some ⟨.pan v, [], [], σ'⟩ ∧ K v σ'
  | _ => False
def PanO (E : Env) (T : Tm) (op : Op) (σ : S) (K : V → S → Prop) : Prop :=
  match op with
  | .panic x => ∃ t v, evalT E T x = some (.iface t v) ∧ K (.iface t v) σ
  | op => PanC E T op σ K
section
variable {E : Env} {fn : FuncId} {rnd : Option Nat} {n : Nat} {X : V → List V → List DE → S → Prop} {T : Tm} {D : List DE} {σ : S} {Q : Post}
theorem wpP_of {c : Code} (h : wpX E fn rnd n c T D σ Q) : wpP E fn rnd n X c T D σ Q := fun tmps hr => by
  obtain ⟨r, h1, h2⟩ := h tmps hr
  refine ⟨r, h1, ?_⟩
  obtain ⟨ex, vals, d, st⟩ := r
  cases ex with
  | pan v => obtain ⟨_, _, h⟩ := h2; exact h.elim
  | normal => exact h2
  | exit i => exact h2
  | ret => exact h2
theorem wpP_G {c : Code} (h : G E fn rnd n Q [] c T D σ) : wpP E fn rnd n X c T D σ Q := wpP_of (wpC_sound E fn rnd n c h)
theorem wpP_seq {a b : Code} (h : wpP E fn rnd n X a T D σ ⟨fun T D σ => wpP E fn rnd n X b T D σ Q, Q.exit, Q.ret⟩) : wpP E fn rnd n X (.seq a b) T D σ Q := fun tmps hr => by
  obtain ⟨⟨ex, vals, d, st⟩, h1, hq⟩ := h tmps hr
  simp only [execC, h1]
  cases ex with
  | normal =>
    obtain ⟨T1, hr1, hq⟩ := hq
    exact hq vals hr1
  | exit i => exact ⟨_, rfl, hq⟩
  | ret => exact ⟨_, rfl, hq⟩
  | pan _ => exact ⟨_, rfl, hq⟩
theorem wpP_cond {t : Nat} {x y : Code} {b : Bool} (hT : T t = .bool b) (h : wpP E fn rnd n X (if b then x else y) T D σ Q) : wpP E fn rnd n X (.cond (.tmp t) x y) T D σ Q := fun tmps hr => by
  simp only [execC, hr.eval, evalT, hT]
  cases b with
  | true => exact h tmps hr
  | false => exact h tmps hr
theorem wpP_block {id : Nat} {c : Code} (h : wpP E fn rnd n X c T D σ ⟨Q.norm, fun i T D σ => if i = id then Q.norm T D σ else Q.exit i T D σ, Q.ret⟩) : wpP E fn rnd n X (.block id c) T D σ Q := fun tmps hr => by
  obtain ⟨⟨ex, vals, d, st⟩, h1, hq⟩ := h tmps hr
  simp only [execC, h1]
  cases ex with
  | normal => exact ⟨_, rfl, hq⟩
  | exit i =>
    refine ⟨_, rfl, ?_⟩
    obtain ⟨T1, hr1, hq⟩ := hq
    simp only at hq
    by_cases e : i = id
    · simp only [e, if_true] at hq ⊢; exact ⟨T1, hr1, hq⟩
    · simp only [e, if_false] at hq ⊢; exact ⟨T1, hr1, hq⟩
  | ret => exact ⟨_, rfl, hq⟩
  | pan _ => exact ⟨_, rfl, hq⟩
theorem wpP_loop {c : Code} (I : Nat → Tm → List DE → S → Prop) (h : ∀ m T D σ, I m T D σ → wpP E fn rnd n X c T D σ ⟨fun T D σ => ∃ m', m' < m ∧ I m' T D σ, Q.exit, Q.ret⟩) : ∀ m T D σ, I m T D σ → wpP E fn rnd n X (.loop c) T D σ Q := by
  have key : ∀ m T D σ, I m T D σ → ∀ tmps, Rep n T tmps → ∃ r, ev E (.loop fn rnd c tmps D σ) = some r ∧ Post.ofP n Q X r := by
    intro m
    induction m using Nat.strongRecOn with
    | ind m ih =>
      intro T D σ hI tmps hr
      obtain ⟨⟨ex, vals, d, st⟩, h1, hq⟩ := h m T D σ hI tmps hr
      cases ex with
      | normal =>
        obtain ⟨T1, hr1, m', hm, hI'⟩ := hq
        obtain ⟨r, h2, h3⟩ := ih m' hm T1 d st hI' vals hr1
        exact ⟨r, ev_step (by simp only [stepA, h1]; exact h2), h3⟩
      | exit i => exact ⟨⟨.exit i, vals, d, st⟩, ev_step (by simp only [stepA, h1]), hq⟩
      | ret => exact ⟨⟨.ret, vals, d, st⟩, ev_step (by simp only [stepA, h1]), hq⟩
      | pan x => exact ⟨⟨.pan x, vals, d, st⟩, ev_step (by simp only [stepA, h1]), hq⟩
  intro m T D σ hI tmps hr
  exact key m T D σ hI tmps hr
theorem PanO.opP {op : Op} {K : V → S → Prop} {tmps : List V} (hr : Rep n T tmps) (h : PanO E T op σ K) : ∃ v σ', opP E (ev E) tmps σ op = some (v, σ') ∧ K v σ' := by
  unfold PanO at h
  split at h
  · obtain ⟨t, v, h1, h2⟩ := h
    exact ⟨_, _, by simp only [Go.Ab.opP, hr.eval, h1], h2⟩
  · unfold PanC at h
    split at h
    · obtain ⟨f, first, captured, as, v, σ', h1, h2, h3, h4, h5, h6, h7, h8⟩ := h
      exact ⟨v, σ', by simp only [Go.Ab.opP, hr.eval, h1, h2, panFn, h3, h4, h5, h6, h7, Option.isSome_none, Bool.false_eq_true, if_false], h8⟩
    · exact h.elim
theorem execXL_pre {rec : Task → Option Res} {mutb : Bool} {ops : Array Oper} : ∀ (pre : List Oper) (l : List Oper) {tmps t' : List V} {σ σ' : S}, execL E rec mutb ops pre tmps σ = some (t', σ') → ∀ rc dfs, execXL E rec rnd mutb ops (pre ++ l) rc tmps dfs σ = execXL E rec rnd mutb ops l rc t' dfs σ'
  | [], l, tmps, t', σ, σ', h, rc, dfs => by
    simp only [execL, Option.some.injEq, Prod.mk.injEq] at h
    obtain ⟨rfl, rfl⟩ := h; rfl
  | o :: pre, l, tmps, t', σ, σ', h, rc, dfs => by
    simp only [execL] at h
    simp only [List.cons_append, execXL]
    split at h
    · rename_i hw
      rw [if_pos hw]
      split at h
      · rename_i v σ1 hop
        exact execXL_pre pre l h rc dfs
      · simp at h
    · rename_i hw
      rw [if_neg hw]
      exact execXL_pre pre l h rc dfs
theorem wpP_rpan {id : Nat} {l : List Oper} (k : Nat) (pre : List Oper) (o : Oper) (hpre : l.take k = pre) (ho : l[k]? = some o) (hg : o.guard = none)
    (h : GL E fn rnd n ⟨fun T' _ σ' => PanO E T' o.op σ' fun v σ'' => ∀ vals, Rep n T' vals → X v vals D σ'', fun _ _ _ _ => False, fun _ _ _ => False⟩ [] (E.mutb fn id) l.toArray pre T D σ) :
    wpP E fn rnd n X (.region id l.toArray false) T D σ Q := fun tmps hr => by
  subst hpre
  obtain ⟨tmps', σ', T', h1, h2, h3⟩ := wpL_sound E (l.take k) hr h
  have h3' : PanO E T' o.op σ' fun v σ'' => ∀ vals, Rep n T' vals → X v vals D σ'' := h3
  obtain ⟨v, σ'', h4, h5⟩ := h3'.opP h2
  have hl : l = l.take k ++ o :: l.drop (k + 1) := by
    have hk : k < l.length := by
      rcases Nat.lt_or_ge k l.length with h | h
      · exact h
      · rw [List.getElem?_eq_none h] at ho; cases ho
    have e : l[k] = o := by rw [List.getElem?_eq_getElem hk] at ho; exact Option.some.inj ho
    rw [← e, ← List.drop_eq_getElem_cons hk, List.take_append_drop]
  refine ⟨⟨.pan v, tmps', D, σ''⟩, ?_, h5 _ h2⟩
  rw [execC_regionX]
  have hx := execXL_pre (rnd := rnd) (l.take k) (o :: l.drop (k + 1)) h1 none D
  rw [← hl] at hx
  rw [hx]
  have hw : Region.wanted o (yieldedA l.toArray tmps') = true := by simp [Region.wanted, hg]
  simp only [execXL, hw, if_true, opV_none_of_opP h4, h4]
  rfl
def winP (E : Env) (ops : Array Oper) (masks : List Nat) (J : Nat) (ws : List (Bool × List Nat)) : Bool :=
  (List.range J).all fun j => match ops[j]?, ws[j]? with
    | some o, some w => (w.1 == scOp E o.op) && (w.1 || !readsOp o.op || pureCall E o.op || (List.range (scCount E ops J + 1)).all fun m => !allowed E ops masks j m || m == scCount E ops j || w.2.contains m)
    | _, _ => false
theorem dRunP_of {rec : Task → Option Res} {mutb : Bool} {ops : Array Oper} : ∀ (pre : List Oper) {o : Oper} {l : List Oper} {tmps tf : List V} {σ σf σx : S} {tr : List (List V × V)} {ss : List S} {x : V}, dRun E rec mutb ops pre tmps σ = some (tr, ss, tf, σf) →
    Region.wanted o (yieldedA ops tf) = true → opP E rec tf σf o.op = some (x, σx) → dRunP E rec mutb ops (pre ++ o :: l) tmps σ = some (tr, ss, tf, σf, x, σx) ∧ dRun E rec mutb ops (pre ++ o :: l) tmps σ = none
  | [], o, l, tmps, tf, σ, σf, σx, tr, ss, x, h, hw, hop => by
    simp only [dRun, Option.some.injEq, Prod.mk.injEq] at h
    obtain ⟨rfl, rfl, rfl, rfl⟩ := h
    simp only [List.nil_append, dRunP, dRun, hw, if_true, opV_none_of_opP hop, hop, and_self]
  | p :: pre, o, l, tmps, tf, σ, σf, σx, tr, ss, x, h, hw, hop => by
    simp only [dRun] at h
    simp only [List.cons_append, dRunP, dRun]
    split at h
    · rename_i v σ1 h1
      split at h
      · rename_i tr1 ss1 tf1 σf1 h2
        simp only [Option.some.injEq, Prod.mk.injEq] at h
        obtain ⟨rfl, rfl, rfl, rfl⟩ := h
        obtain ⟨a1, a2⟩ := dRunP_of pre (l := l) h2 hw hop
        rw [a1, a2]
        exact ⟨rfl, rfl⟩
      · simp at h
    · simp at h
theorem wpP_dpan {id : Nat} {l : List Oper} (J : Nat) (pre : List Oper) (o : Oper) (ws : List (Bool × List Nat)) (K : Nat → S → Prop) (hpre : l.take J = pre) (ho : l[J]? = some o) (hg : o.guard = none) (hK : K 0 σ)
    (hp : pairsOK E l.toArray (masksFrom [] l) = true) (hM : winP E l.toArray (masksFrom [] l) J ws = true) (hpan : panOK E l.toArray (masksFrom [] l) J = true) (hres : resIn (floorD l n) (resOf E fn) = true) (hwl : ws.length = J)
    (h : GW E fn rnd n ⟨fun T' _ σ' => PanO E T' o.op σ' fun v σ'' => ∀ vals, Rep n T vals → X v (vals.take (floorD l n)) D σ'', fun _ _ _ _ => False, fun _ _ _ => False⟩ [] (E.mutb fn id) K l.toArray pre ws 0 T D σ) :
    wpP E fn rnd n X (.region id l.toArray true) T D σ Q := fun tmps hr => by
  subst hpre
  have hJl : J < l.length := by
    rcases Nat.lt_or_ge J l.length with h | h
    · exact h
    · rw [List.getElem?_eq_none h] at ho; cases ho
  unfold winP at hM
  rw [List.all_eq_true] at hM
  have hsc : ∀ (j : Nat) (o : Oper) (w : Bool × List Nat), (l.take J)[j]? = some o → ws[j]? = some w → w.1 = scOp E o.op := by
    intro j o w hj hw
    have hlt : j < J := by
      rcases Nat.lt_or_ge j J with h | h
      · exact h
      · rw [List.getElem?_eq_none (by rw [hwl]; exact h)] at hw; cases hw
    rw [List.getElem?_take_of_lt hlt] at hj
    have h6 := hM j (by simpa using hlt)
    simp only [List.getElem?_toArray, hj, hw, Bool.and_eq_true, beq_iff_eq] at h6
    exact h6.1
  obtain ⟨tr, ss, tf, σf, T', h1, h2, h3, h4, h5⟩ := wpW_sound E (ops := l.toArray) (l.take J) ws 0 hsc hr h
  have h3' : PanO E T' o.op σf fun v σ'' => ∀ vals, Rep n T vals → X v (vals.take (floorD l n)) D σ'' := h3
  obtain ⟨v, σ'', h7, h8⟩ := h3'.opP h2
  have hl : l = l.take J ++ o :: l.drop (J + 1) := by
    have e : l[J] = o := by rw [List.getElem?_eq_getElem hJl] at ho; exact Option.some.inj ho
    rw [← e, ← List.drop_eq_getElem_cons hJl, List.take_append_drop]
  have hw : Region.wanted o (yieldedA l.toArray tf) = true := by simp [Region.wanted, hg]
  obtain ⟨a1, a2⟩ := dRunP_of (l.take J) (l := l.drop (J + 1)) h1 hw h7
  rw [← hl] at a1 a2
  have hlen : (l.take J).length = J := by rw [List.length_take]; omega
  obtain ⟨htl, hsl, _⟩ := dRun_spec _ h1
  rw [hlen] at htl hsl
  have hcnt : ∀ j, j ≤ J → cntO E (l.take J) j = scCount E l.toArray j := fun j hj => by
    unfold cntO scCount; rw [List.take_take, Nat.min_eq_left hj]
  rw [hcnt J (Nat.le_refl _)] at hsl
  have hck : dCheckP E l.toArray (masksFrom [] l) J tr (σ :: ss) = true := by
    unfold dCheckP
    rw [List.all_eq_true]
    intro j hj0
    have hj : j < J := by simpa using hj0
    have hjl : j < l.length := by omega
    have hoj : l.toArray[j]? = some l[j] := by simp [hjl]
    have hoj2 : (l.take J)[j]? = some l[j] := by rw [List.getElem?_take_of_lt hj]; simp [hjl]
    obtain ⟨t, v, w, ht, hwj, hmade⟩ := h5 j l[j] hoj2
    simp only [hoj, ht]
    by_cases hs : scOp E l[j].op = true
    · simp [hs]
    by_cases hpc : pureCall E l[j].op = true
    · simp [hpc]
    rcases hmade with hun | ⟨s0, s1, he, hop, hrd⟩
    · simp [hun]
    by_cases ha : (apure E (evalO E t) l[j].op).isSome = true
    · simp [ha]
    have ha' : apure E (evalO E t) l[j].op = none := by simpa using ha
    have hread := opV_read (by simpa using hs) (by simpa using hpc) ha' hop
    have hreads : readsOp l[j].op = true := by
      cases hx : readsOp l[j].op with
      | true => rfl
      | false => rw [aread_none hx] at hread; simp at hread
    rw [Bool.or_eq_true]
    right
    rw [List.all_eq_true]
    intro m hm
    have hm : m < (σ :: ss).length := by simpa using hm
    have hm2 : m < scCount E l.toArray J + 1 := by simp at hm; omega
    rw [List.getElem?_eq_getElem hm]
    cases hal : allowed E l.toArray (masksFrom [] l) j m with
    | false => rfl
    | true =>
      have hgood : aread E (evalO E t) (σ :: ss)[m] l[j].op = some v := by
        have h6 := hM j hj0
        have hw1 : w.1 = false := by rw [hsc j _ w hoj2 hwj]; simpa using hs
        have hpc' : pureCall E l[j].op = false := by simpa using hpc
        simp only [hoj, hwj, hreads, hw1, hpc', Bool.not_true, Bool.false_or, Bool.and_eq_true, List.all_eq_true] at h6
        have h7 := h6.2 m (by simpa using hm2)
        rw [hal] at h7
        simp only [Bool.not_true, Bool.false_or, Bool.or_eq_true, beq_iff_eq, List.contains_iff_mem] at h7
        rcases h7 with rfl | h7
        · rw [hcnt j (by omega), List.getElem?_eq_getElem hm, Option.some.injEq] at he
          rw [he]; exact hread
        · refine hrd.mem m h7 _ ?_
          cases m with
          | zero => exact hK
          | succ m =>
            simp only [List.getElem_cons_succ]
            have hms : m < ss.length := by simp at hm; omega
            have := h4 m _ (List.getElem?_eq_getElem hms)
            rwa [Nat.zero_add] at this
      simp only [hgood, V.beq_refl, Bool.or_true]
  refine ⟨⟨.pan v, tmps.take (floorD l n), D, σ''⟩, ?_, h8 tmps hr⟩
  have hn : tmps.length = n := hr.1
  simp only [execC, hp, if_true, a2, dPan, a1, htl, hpan, hck, hn, hres, Bool.and_self, Option.map_some]
theorem ev_pan {f : FuncId} {args : List V} {σ σ' : S} {v : V} {F : Go.Func} {body : Code} (hf : E.P.funcs[f]? = some F) (hb : F.body = some body) (hn : F.name ≠ "runtime.NumGoroutine") (hl : args.length ≤ F.ntmps)
    (hw : wpP E f none F.ntmps (fun v' _ D σ'' => D = [] ∧ v' = v ∧ σ'' = σ') body (argT args) [] σ ⟨fun _ _ _ => False, fun _ _ _ _ => False, fun _ _ _ => False⟩) :
    ev E (.call f args σ) = some ⟨.pan v, [], [], σ'⟩ := by
  obtain ⟨⟨ex, vals, d, st⟩, h1, hq⟩ := hw _ (Rep.args args F.ntmps hl)
  cases ex with
  | normal => obtain ⟨_, _, h⟩ := hq; exact h.elim
  | exit i => obtain ⟨_, _, h⟩ := hq; exact h.elim
  | ret => obtain ⟨_, _, h⟩ := hq; exact h.elim
  | pan x =>
    obtain ⟨rfl, rfl, rfl⟩ := hq
    refine ev_step ?_
    simp only [stepA, hf, hb, hn, if_false, h1, finD, unwindD]
def EndD (E : Env) (g : FuncId) (caps : List V) (rs : List ResultVar) (k : V → S → Prop) (T : Tm) (D : List DE) (σ : S) : Prop :=
  D = [.call g caps] ∧ ∃ σ', ev E (.dcall g caps none σ) = some ⟨.ret, [.bool false], [], σ'⟩ ∧ V1 (resT E T σ'.heap rs) fun vs => k (oneOr vs) σ'
def EndX' (E : Env) (g : FuncId) (caps : List V) (rs : List ResultVar) (k : V → S → Prop) (v : V) (vals : List V) (D : List DE) (σ : S) : Prop :=
  D = [.call g caps] ∧ ∃ σ', ev E (.dcall g caps (some v) σ) = some ⟨.ret, [.bool true], [], σ'⟩ ∧ V1 (resV E vals σ'.heap rs) fun vs => k (oneOr vs) σ'
theorem ev_rec {f g : FuncId} {args caps : List V} {σ : S} {k : V → S → Prop} {F : Go.Func} {body : Code} (hf : E.P.funcs[f]? = some F) (hb : F.body = some body) (hn : F.name ≠ "runtime.NumGoroutine") (hl : args.length ≤ F.ntmps)
    (hw : wpP E f none F.ntmps (EndX' E g caps F.results.toList k) body (argT args) [] σ ⟨EndD E g caps F.results.toList k, fun _ _ _ _ => False, EndD E g caps F.results.toList k⟩) :
    ∃ v σ', ev E (.call f args σ) = some ⟨.ret, [v], [], σ'⟩ ∧ k v σ' := by
  obtain ⟨⟨ex, vals, d, st⟩, h1, hq⟩ := hw _ (Rep.args args F.ntmps hl)
  have key : ∀ T1, Rep F.ntmps T1 vals → EndD E g caps F.results.toList k T1 d st → (∀ i, ex ≠ .exit i) → (∀ v, ex ≠ .pan v) → ∃ v σ', ev E (.call f args σ) = some ⟨.ret, [v], [], σ'⟩ ∧ k v σ' := by
    intro T1 hr1 ⟨hD, σ', hd, vs, hvs, hk⟩ hne hnp
    subst hD
    refine ⟨oneOr vs, σ', ev_step ?_, hk⟩
    rw [← hr1.res] at hvs
    have ht : takeDfs st.heap [DE.call g caps] = none := rfl
    have hu : unwindD (ev E) none [DE.call g caps] st = some (none, σ') := by simp only [unwindD, hd, Bool.false_eq_true, if_false]
    simp only [stepA, hf, hb, hn, if_false, h1]
    cases ex with
    | exit i => exact absurd rfl (hne i)
    | pan v => exact absurd rfl (hnp v)
    | normal => simp only [ht, finD, hu, hvs]
    | ret => simp only [ht, finD, hu, hvs]
  cases ex with
  | normal => obtain ⟨T1, hr1, h⟩ := hq; exact key T1 hr1 h (fun i h => by cases h) fun i h => by cases h
  | exit i => obtain ⟨_, _, h⟩ := hq; exact h.elim
  | ret => obtain ⟨T1, hr1, h⟩ := hq; exact key T1 hr1 h (fun i h => by cases h) fun i h => by cases h
  | pan v =>
    obtain ⟨hD, σ', hd, vs, hvs, hk⟩ := hq
    simp only at hD hd hvs
    subst hD
    refine ⟨oneOr vs, σ', ev_step ?_, hk⟩
    have hu : unwindD (ev E) (some v) [DE.call g caps] st = some (none, σ') := by simp only [unwindD, hd, if_true]
    simp only [stepA, hf, hb, hn, if_false, h1, finD, hu, hvs]
theorem ev_dcall {g : FuncId} {args : List V} {pv : Option V} {σ σ1 σ' : S} {F : Go.Func} {id : Nat} {ops : Array Oper} {rest : Code} {rc : Option (Option V)} {tmps1 : List V} {T1 : Tm} (hf : E.P.funcs[g]? = some F) (hb : F.body = some (.seq (.region id ops false) rest)) (hn : F.name ≠ "runtime.NumGoroutine")
    (hX : execX E (ev E) none (E.mutb g id) ops (List.range ops.size) (some pv) (args ++ List.replicate (F.ntmps - args.length) (.tup [])) [] σ = some ⟨none, rc, tmps1, [], σ1⟩) (hr : Rep F.ntmps T1 tmps1) (hres : F.results.toList = [])
    (hG : G E g none F.ntmps ⟨fun _ D σ'' => D = [] ∧ σ'' = σ', fun _ _ _ _ => False, fun _ D σ'' => D = [] ∧ σ'' = σ'⟩ [] rest T1 [] σ1) :
    ev E (.dcall g args pv σ) = some ⟨.ret, [.bool (gotV rc pv)], [], σ'⟩ := by
  obtain ⟨⟨ex, vals, d, st⟩, h1, T2, hr2, hq⟩ := wpC_sound E g none F.ntmps rest hG _ hr
  refine ev_step ?_
  have hx : execR E (ev E) g (.seq (.region id ops false) rest) pv (args ++ List.replicate (F.ntmps - args.length) (.tup [])) σ = some (gotV rc pv, ⟨ex, vals, d, st⟩) := by
    simp only [execR, hX, h1]
  cases ex with
  | exit i => exact hq.elim
  | pan v => exact hq.elim
  | normal =>
    obtain ⟨rfl, rfl⟩ := hq
    simp only [stepA, hf, hb, hn, if_false, hx, takeDfs, hres, resV]
  | ret =>
    obtain ⟨rfl, rfl⟩ := hq
    simp only [stepA, hf, hb, hn, if_false, hx, takeDfs, hres, resV]
end
end Go.Ab
namespace Go.Ab
set_option linter.unusedVariables false
section
variable {E : Env} {fn : FuncId} {rnd : Option Nat} {n : Nat}
theorem wpX_seq {a b : Code} {T : Tm} {D : List DE} {σ : S} {Q : Post} (h : wpX E fn rnd n a T D σ ⟨fun T D σ => wpX E fn rnd n b T D σ Q, Q.exit, Q.ret⟩) : wpX E fn rnd n (.seq a b) T D σ Q := fun tmps hr => by
  obtain ⟨⟨ex, vals, d, st⟩, h1, T1, hr1, hq⟩ := h tmps hr
  simp only [execC, h1]
  cases ex with
  | normal => exact hq vals hr1
  | exit i => exact ⟨_, rfl, T1, hr1, hq⟩
  | ret => exact ⟨_, rfl, T1, hr1, hq⟩
  | pan _ => exact hq.elim
theorem wpX_defer {id : Nat} {g : FuncId} {ty : TypeId} {ps : String} {af : Array Edge} {T : Tm} {D : List DE} {σ : S} {Q : Post} (h : Q.norm T (.call g [] :: D) σ) :
    wpX E fn none n (.region id #[⟨none, .defer ⟨.value (.func g), #[], #[]⟩, ty, ps, af, none⟩] false) T D σ Q := fun tmps hr => by
  refine ⟨⟨.normal, tmps, .call g [] :: D, σ⟩, ?_, T, hr, h⟩
  simp [execC, XR.res, execX, Region.wanted, opV, apure, aread, astate, opP, opD, evalO, listO, putT, List.range, List.range.loop]
def wpRD (E : Env) (g : FuncId) (rs : List ResultVar) (k : V → S → Prop) (T : Tm) (D : List DE) (σ : S) : Prop :=
  D = [.call g []] ∧ V1 (resT E T σ.heap rs) fun vs => k (oneOr vs) σ
theorem ev_callD {f g : FuncId} {args : List V} {σ : S} {k : V → S → Prop} {F : Go.Func} {body : Code} (hf : E.P.funcs[f]? = some F) (hb : F.body = some body) (hn : F.name ≠ "runtime.NumGoroutine")
    (hd : ∀ σ, ev E (.dcall g [] none σ) = some ⟨.ret, [.bool false], [], σ⟩)
    (hl : args.length ≤ F.ntmps) (hw : wpX E f none F.ntmps body (argT args) [] σ ⟨wpRD E g F.results.toList k, fun _ _ _ _ => False, wpRD E g F.results.toList k⟩) :
    ∃ v σ', ev E (.call f args σ) = some ⟨.ret, [v], [], σ'⟩ ∧ k v σ' := by
  obtain ⟨⟨ex, vals, d, st⟩, h1, T1, hr1, hq⟩ := hw _ (Rep.args args F.ntmps hl)
  have key : wpRD E g F.results.toList k T1 d st → (∀ i, ex ≠ .exit i) → (∀ v, ex ≠ .pan v) → ∃ v σ', ev E (.call f args σ) = some ⟨.ret, [v], [], σ'⟩ ∧ k v σ' := by
    intro ⟨hD, vs, hvs, hk⟩ hne hnp
    refine ⟨oneOr vs, st, ev_step ?_, hk⟩
    rw [← hr1.res] at hvs
    subst hD
    have ht : takeDfs st.heap [DE.call g []] = none := rfl
    have hu : unwindD (ev E) none [DE.call g []] st = some (none, st) := by simp only [unwindD, hd, Bool.false_eq_true, if_false]
    simp only [stepA, hf, hb, hn, if_false, h1]
    cases ex with
    | exit i => exact absurd rfl (hne i)
    | pan v => exact absurd rfl (hnp v)
    | normal => simp only [ht, finD, hu, hvs]
    | ret => simp only [ht, finD, hu, hvs]
  cases ex with
  | normal => exact key hq (fun i h => by cases h) fun i h => by cases h
  | exit i => exact hq.elim
  | ret => exact key hq (fun i h => by cases h) fun i h => by cases h
  | pan _ => exact hq.elim
theorem callFn_dfr {f g : FuncId} {args : List V} {σ σ' : S} {v : V} {F : Go.Func} {body : Code} (hp : E.pure f = false) (hk : E.hook f = none) (hf : E.P.funcs[f]? = some F) (hb : F.body = some body)
    (hn : F.name ≠ "runtime.NumGoroutine") (hd : ∀ σ, ev E (.dcall g [] none σ) = some ⟨.ret, [.bool false], [], σ⟩) (hl : args.length ≤ F.ntmps)
    (hw : wpX E f none F.ntmps body (argT args) [] σ ⟨wpRD E g F.results.toList fun v' σ'' => v' = v ∧ σ'' = σ', fun _ _ _ _ => False, wpRD E g F.results.toList fun v' σ'' => v' = v ∧ σ'' = σ'⟩) (hz : E.frz f = false := by rfl) (hs : E.hookS f = none := by rfl) :
    callFn E (ev E) f args σ = some (v, σ') := by
  obtain ⟨v', σ'', h1, rfl, rfl⟩ := ev_callD hf hb hn hd hl hw
  unfold callFn
  simp only [hk, hp, hz, hs, h1, Bool.false_eq_true, if_false]
end
end Go.Ab
namespace Go.Ab
theorem Wa : type_of% (And.intro @Za (And.intro @Zb (And.intro @Zc (And.intro @Zd (And.intro @Ze (And.intro @Zf (And.intro @Zg (And.intro @Zh (And.intro @Zi (And.intro @Zj (And.intro @Zk (@Zl)))))))))))) := And.intro @Za (And.intro @Zb (And.intro @Zc (And.intro @Zd (And.intro @Ze (And.intro @Zf (And.intro @Zg (And.intro @Zh (And.intro @Zi (And.intro @Zj (And.intro @Zk (@Zl)))))))))))
theorem Wb : type_of% (And.intro @Zm (And.intro @Zn (And.intro @Zq (And.intro @Zr (And.intro @Zs (And.intro @Zt (And.intro @Zu (And.intro @Zv (And.intro @Zw (And.intro @Zx (And.intro @Zy (@Zz)))))))))))) := And.intro @Zm (And.intro @Zn (And.intro @Zq (And.intro @Zr (And.intro @Zs (And.intro @Zt (And.intro @Zu (And.intro @Zv (And.intro @Zw (And.intro @Zx (And.intro @Zy (@Zz)))))))))))
theorem Wc : type_of% (And.intro @ZA (And.intro @ZB (And.intro @ZC (And.intro @ZD (And.intro @ZE (And.intro @ZF (And.intro @ZG (And.intro @ZH (And.intro @ZI (And.intro @ZJ (And.intro @ZK (@ZL)))))))))))) := And.intro @ZA (And.intro @ZB (And.intro @ZC (And.intro @ZD (And.intro @ZE (And.intro @ZF (And.intro @ZG (And.intro @ZH (And.intro @ZI (And.intro @ZJ (And.intro @ZK (@ZL)))))))))))
theorem Wd : type_of% (And.intro @ZM (And.intro @ZN (And.intro @ZO (And.intro @ZP (And.intro @ZQ (And.intro @ZR (And.intro @ZS (And.intro @ZT (And.intro @ZU (And.intro @ZV (And.intro @ZW (@ZX)))))))))))) := And.intro @ZM (And.intro @ZN (And.intro @ZO (And.intro @ZP (And.intro @ZQ (And.intro @ZR (And.intro @ZS (And.intro @ZT (And.intro @ZU (And.intro @ZV (And.intro @ZW (@ZX)))))))))))
theorem We : type_of% (And.intro @ZY (And.intro @ZZ (And.intro @Z0 (And.intro @Z1 (And.intro @Z2 (And.intro @Z3 (And.intro @Z4 (And.intro @Z5 (And.intro @Z6 (And.intro @Z7 (And.intro @true_and (@Z8)))))))))))) := And.intro @ZY (And.intro @ZZ (And.intro @Z0 (And.intro @Z1 (And.intro @Z2 (And.intro @Z3 (And.intro @Z4 (And.intro @Z5 (And.intro @Z6 (And.intro @Z7 (And.intro @true_and (@Z8)))))))))))
theorem Wf : type_of% (And.intro @Z9 (And.intro @map_ite' (And.intro @Ya (And.intro @bind_ite' (And.intro @Yb (And.intro @Yc (And.intro @Yd (And.intro @Ye (And.intro @Yf (And.intro @Yg (And.intro @Yh (@Yi)))))))))))) := And.intro @Z9 (And.intro @map_ite' (And.intro @Ya (And.intro @bind_ite' (And.intro @Yb (And.intro @Yc (And.intro @Yd (And.intro @Ye (And.intro @Yf (And.intro @Yg (And.intro @Yh (@Yi)))))))))))
theorem Wg : type_of% (And.intro @Yj (And.intro @Yk (And.intro @Yl (And.intro @Ym (And.intro @Yn (And.intro @Yo (And.intro @Yp (And.intro @Yq (And.intro @Yr (And.intro @Yt (And.intro @Yu (@Yv)))))))))))) := And.intro @Yj (And.intro @Yk (And.intro @Yl (And.intro @Ym (And.intro @Yn (And.intro @Yo (And.intro @Yp (And.intro @Yq (And.intro @Yr (And.intro @Yt (And.intro @Yu (@Yv)))))))))))
theorem Wh : type_of% (And.intro @Yw (And.intro @List.getD_cons_zero.{0} (And.intro @List.getD_cons_succ.{0} (And.intro @List.getElem?_toArray.{0} (And.intro @List.getElem?_cons_zero.{0} (And.intro @List.getElem?_cons_succ.{0} (And.intro @List.nil_append.{0} (And.intro @List.cons_append.{0} (And.intro @List.append_nil.{0} (And.intro @Yx (And.intro @Yy (@Nat.mul_one)))))))))))) := And.intro @Yw (And.intro @List.getD_cons_zero.{0} (And.intro @List.getD_cons_succ.{0} (And.intro @List.getElem?_toArray.{0} (And.intro @List.getElem?_cons_zero.{0} (And.intro @List.getElem?_cons_succ.{0} (And.intro @List.nil_append.{0} (And.intro @List.cons_append.{0} (And.intro @List.append_nil.{0} (And.intro @Yx (And.intro @Yy (@Nat.mul_one)))))))))))
theorem Wi : type_of% (And.intro @Yz (And.intro @YA (And.intro @YB (And.intro @YC (And.intro @YD (And.intro @YE (And.intro @YF (And.intro @YG (And.intro @YH (And.intro @YI (And.intro @YJ (@YK)))))))))))) := And.intro @Yz (And.intro @YA (And.intro @YB (And.intro @YC (And.intro @YD (And.intro @YE (And.intro @YF (And.intro @YG (And.intro @YH (And.intro @YI (And.intro @YJ (@YK)))))))))))
theorem Wj : type_of% (And.intro @YL (And.intro @YM (And.intro @YN (And.intro @YO (And.intro @List.append_eq.{0} (And.intro @YP (And.intro @YQ (And.intro @YR (And.intro @YS (And.intro @YT (And.intro @YU (@YV)))))))))))) := And.intro @YL (And.intro @YM (And.intro @YN (And.intro @YO (And.intro @List.append_eq.{0} (And.intro @YP (And.intro @YQ (And.intro @YR (And.intro @YS (And.intro @YT (And.intro @YU (@YV)))))))))))
theorem Wk : type_of% (And.intro @YW (And.intro @YX (And.intro @Nat.add_zero (And.intro @YY (And.intro @YZ (And.intro @Y1 (And.intro @Y2 (And.intro @Y3 (And.intro @Int.toNat_natCast (And.intro @Bool.false_eq_true (And.intro @not_false_eq_true (@and_self)))))))))))) := And.intro @YW (And.intro @YX (And.intro @Nat.add_zero (And.intro @YY (And.intro @YZ (And.intro @Y1 (And.intro @Y2 (And.intro @Y3 (And.intro @Int.toNat_natCast (And.intro @Bool.false_eq_true (And.intro @not_false_eq_true (@and_self)))))))))))
theorem Wl : type_of% (And.intro @Y4 (And.intro @Y5 (And.intro @Int.natCast_one (And.intro @Int.cast_ofNat_Int (And.intro @not_true_eq_false (And.intro @decide_true (And.intro @decide_false (And.intro @true_implies (And.intro @false_implies (And.intro @Int.toNat_zero (And.intro @List.length_cons.{0} (@List.length_nil.{0})))))))))))) := And.intro @Y4 (And.intro @Y5 (And.intro @Int.natCast_one (And.intro @Int.cast_ofNat_Int (And.intro @not_true_eq_false (And.intro @decide_true (And.intro @decide_false (And.intro @true_implies (And.intro @false_implies (And.intro @Int.toNat_zero (And.intro @List.length_cons.{0} (@List.length_nil.{0})))))))))))
theorem Wm : type_of% (And.intro @Nat.zero_add (And.intro @Bool.false_and (And.intro @Bool.and_false (And.intro @Y6 (And.intro @Y7 (And.intro @Y8 (And.intro @Y9 (And.intro @Qa (And.intro @Qb (And.intro @Qc (And.intro @Bool.or_false (@Bool.false_or)))))))))))) := And.intro @Nat.zero_add (And.intro @Bool.false_and (And.intro @Bool.and_false (And.intro @Y6 (And.intro @Y7 (And.intro @Y8 (And.intro @Y9 (And.intro @Qa (And.intro @Qb (And.intro @Qc (And.intro @Bool.or_false (@Bool.false_or)))))))))))
theorem Wn : type_of% (And.intro @Bool.true_and (And.intro @Bool.or_true (And.intro @Bool.true_or (And.intro @Qd (@Qe))))) := And.intro @Bool.true_and (And.intro @Bool.or_true (And.intro @Bool.true_or (And.intro @Qd (@Qe))))
theorem Va : type_of% (And.intro @List.take_zero.{0} (And.intro @List.take_succ_cons.{0} (And.intro @List.drop_zero.{0} (And.intro @List.drop_succ_cons.{0} (And.intro @List.drop_nil.{0} (And.intro @List.all_cons.{0} (And.intro @List.all_nil.{0} (And.intro @List.set_cons_zero.{0} (And.intro @List.set_cons_succ.{0} (And.intro @cells_hsl (@isCell_hsl))))))))))) := And.intro @List.take_zero.{0} (And.intro @List.take_succ_cons.{0} (And.intro @List.drop_zero.{0} (And.intro @List.drop_succ_cons.{0} (And.intro @List.drop_nil.{0} (And.intro @List.all_cons.{0} (And.intro @List.all_nil.{0} (And.intro @List.set_cons_zero.{0} (And.intro @List.set_cons_succ.{0} (And.intro @cells_hsl (@isCell_hsl))))))))))
end Go.Ab
