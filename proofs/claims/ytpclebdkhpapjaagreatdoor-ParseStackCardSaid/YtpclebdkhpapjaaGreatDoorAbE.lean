/- Proved here: more rules for stepping. Conditions: those of each theorem; no statement of the seat is proved in this text. -/
import Derived.Test.YtpclebdkhpapjaaGreatDoorAbD
import Derived.IntWalk
set_option linter.unusedSimpArgs false
namespace Go.Ab
inductive Kt where
 | code (c:Code)
 | blk (id:Nat)
section
variable (E:Env)(fn:FuncId)(rnd:Option Nat)(n:Nat)
def Kt.post (Q:Post):List Kt→Post
 | []=>Q
 | .code b::r=>⟨fun T D σ=>wpC E fn rnd n b T D σ (Kt.post Q r),(Kt.post Q r).exit,(Kt.post Q r).ret⟩
 | .blk id::r=>⟨(Kt.post Q r).norm,fun i T D σ=>if i=id then (Kt.post Q r).norm T D σ else (Kt.post Q r).exit i T D σ,(Kt.post Q r).ret⟩
def G (Q:Post)(ks:List Kt)(c:Code)(T:Tm)(D:List DE)(σ:S):Prop:=wpC E fn rnd n c T D σ (Kt.post E fn rnd n Q ks)
def GL (Q:Post)(ks:List Kt)(m:Bool)(ops:Array Oper)(l:List Oper)(T:Tm)(D:List DE)(σ:S):Prop :=
 wpL E m n ops l T σ fun T σ=>(Kt.post E fn rnd n Q ks).norm T D σ
def GS (Q:Post)(ks:List Kt)(m:Bool)(ops:Array Oper)(l:List Oper)(T:Tm)(D:List DE)(d:Nat)(o:Option (V × S)):Prop :=
 V1 o fun p=>GL E fn rnd n Q ks m ops l (upd T d p.1) D p.2
def GN (Q:Post)(ks:List Kt)(m:Bool)(ops:Array Oper)(l:List Oper)(T:Tm)(D:List DE)(o:Option (V × S)):Prop :=
 V1 o fun p=>GL E fn rnd n Q ks m ops l T D p.2
def GB (Q:Post)(ks:List Kt)(a b:Code)(T:Tm)(D:List DE)(σ:S)(t:Nat)(v:V):Prop :=
 Br v (G E fn rnd n Q ks a (upd T t (.bool true)) D σ) (G E fn rnd n Q ks b (upd T t (.bool false)) D σ)
def GG (Q:Post)(ks:List Kt)(m:Bool)(ops:Array Oper)(l:List Oper)(T:Tm)(D:List DE)(σ:S)(d:Nat)(op:Op)(b:Bool)(g:Nat)(v:V):Prop :=
 Br3 v
  (match b with
   | true=>GS E fn rnd n Q ks m ops l (upd T g (.bool true)) D d (opT E m (upd T g (.bool true)) σ op)
   | false=>GL E fn rnd n Q ks m ops l (upd (upd T g (.bool true)) d (.tup [])) D σ)
  (match b with
   | true=>GL E fn rnd n Q ks m ops l (upd (upd T g (.bool false)) d (.tup [])) D σ
   | false=>GS E fn rnd n Q ks m ops l (upd T g (.bool false)) D d (opT E m (upd T g (.bool false)) σ op))
  (GL E fn rnd n Q ks m ops l (upd T d (.tup [])) D σ)
end
section
variable {E:Env}{fn:FuncId}{rnd:Option Nat}{n:Nat}{Q:Post}{ks:List Kt}{m:Bool}{ops:Array Oper}{l:List Oper}{T:Tm}{D:List DE}{σ:S}
theorem jar {c:Code}(h:G E fn rnd n Q [] c T D σ):wpC E fn rnd n c T D σ Q:=h
theorem Za (a b:Code):G E fn rnd n Q ks (.seq a b) T D σ=G E fn rnd n Q (.code b::ks) a T D σ:=rfl
theorem Zb (id:Nat)(c:Code):G E fn rnd n Q ks (.block id c) T D σ=G E fn rnd n Q (.blk id::ks) c T D σ:=rfl
theorem Zc (c:Code):G E fn rnd n Q (.code c::ks) .skip T D σ=G E fn rnd n Q ks c T D σ:=rfl
theorem Zd (id:Nat):G E fn rnd n Q (.blk id::ks) .skip T D σ=G E fn rnd n Q ks .skip T D σ:=rfl
theorem Ze:G E fn rnd n Q [] .skip T D σ=Q.norm T D σ:=rfl
theorem Zf (c:Code)(i:Nat):G E fn rnd n Q (.code c::ks) (.exit i) T D σ=G E fn rnd n Q ks (.exit i) T D σ:=rfl
theorem Zg (id i:Nat):G E fn rnd n Q (.blk id::ks) (.exit i) T D σ=if i=id then G E fn rnd n Q ks .skip T D σ else G E fn rnd n Q ks (.exit i) T D σ:=rfl
theorem Zh (i:Nat):G E fn rnd n Q [] (.exit i) T D σ=Q.exit i T D σ:=rfl
theorem Zi (c:Code):G E fn rnd n Q (.code c::ks) .ret T D σ=G E fn rnd n Q ks .ret T D σ:=rfl
theorem Zj (id:Nat):G E fn rnd n Q (.blk id::ks) .ret T D σ=G E fn rnd n Q ks .ret T D σ:=rfl
theorem Zk:G E fn rnd n Q [] .ret T D σ=Q.ret T D σ:=rfl
theorem Zl (t:Nat)(a b:Code):G E fn rnd n Q ks (.cond (.tmp t) a b) T D σ=(t<n∧GB E fn rnd n Q ks a b T D σ t (T t)):=rfl
theorem Zm (v:Bool)(a b:Code):G E fn rnd n Q ks (.cond (.const (.bool v)) a b) T D σ=if v then G E fn rnd n Q ks a T D σ else G E fn rnd n Q ks b T D σ:=by
 show V1 (some (V.bool v)) _=_
 rw [Yy]
 cases v
 ·exact jiP _ _
 ·exact jlx _ _
theorem Zn (c:Code):G E fn rnd n Q ks (.loop c) T D σ=jil E fn rnd n c T D σ (Kt.post E fn rnd n Q ks):=rfl
theorem Qd (c:Code):G E fn rnd n Q ks (.scope c) T D σ=G E fn rnd n Q ks c T D σ:=rfl
theorem Qe (l:Nat):G E fn rnd n Q ks (.label l) T D σ=G E fn rnd n Q ks .skip T D σ:=rfl
theorem Zo (id:Nat)(l:List Oper):G E fn rnd n Q ks (.region id l.toArray false) T D σ=GL E fn rnd n Q ks (E.mutb fn id) l.toArray l T D σ:=rfl
theorem Zp (id:Nat)(l:List Oper)(hs:E.stab fn id=false):G E fn rnd n Q ks (.region id l.toArray true) T D σ=(jgs E l.toArray=true∧GL E fn rnd n Q ks (E.mutb fn id) l.toArray l T D σ):=by
 unfold G wpC
 simp only [hs]
 rfl
def GK (E:Env)(fn:FuncId)(rnd:Option Nat)(n:Nat)(Q:Post)(ks:List Kt)(m:Bool)(K:S→Prop)(l:List Oper)(T:Tm)(D:List DE)(σ:S):Prop :=
 wpS E m n K l T σ fun T σ=>(Kt.post E fn rnd n Q ks).norm T D σ
def GKS (E:Env)(fn:FuncId)(rnd:Option Nat)(n:Nat)(Q:Post)(ks:List Kt)(m:Bool)(K:S→Prop)(l:List Oper)(T:Tm)(D:List DE)(d:Option Nat)(op:Op)(o:Option (V × S)):Prop :=
 V1 o fun p=>(scOp E op=true→K p.2)∧(jbc op=true→∀ σ',K σ'→jbs E (jaL E T) σ' op=some p.1) ∧
  (match d with
   | none=>GK E fn rnd n Q ks m K l T D p.2
   | some d=>d<n∧GK E fn rnd n Q ks m K l (upd T d p.1) D p.2)
theorem jkG {id:Nat}{l:List Oper}(hs:E.stab fn id=true)(K:S→Prop)(hK:K σ)(hp:jdk E l.toArray (jat [] l)=true)(h:GK E fn rnd n Q ks (E.mutb fn id) K l T D σ) :
  G E fn rnd n Q ks (.region id l.toArray true) T D σ:=by
 unfold G wpC
 simp only [hs]
 exact jqi E fn rnd n K hK hp h
theorem Y7 (K:S→Prop):GK E fn rnd n Q ks m K [] T D σ=G E fn rnd n Q ks .skip T D σ:=rfl
theorem Y8 (K:S→Prop)(d:Option Nat)(op:Op)(t:TypeId)(p:String)(a:Array Edge):GK E fn rnd n Q ks m K (⟨d,op,t,p,a,none⟩::l) T D σ=GKS E fn rnd n Q ks m K l T D d op (opT E m T σ op):=rfl
theorem Y9 (K:S→Prop)(d:Nat)(op:Op)(v:V)(σ':S):GKS E fn rnd n Q ks m K l T D (some d) op (some (v,σ'))=((scOp E op=true→K σ')∧(jbc op=true→∀ s,K s→jbs E (jaL E T) s op=some v)∧d<n∧GK E fn rnd n Q ks m K l (upd T d v) D σ'):=by
 simp only [GKS,Yy]
theorem Qa (K:S→Prop)(op:Op)(v:V)(σ':S):GKS E fn rnd n Q ks m K l T D none op (some (v,σ'))=((scOp E op=true→K σ')∧(jbc op=true→∀ s,K s→jbs E (jaL E T) s op=some v)∧GK E fn rnd n Q ks m K l T D σ'):=by
 simp only [GKS,Yy]
theorem Qb (K:S→Prop)(d:Option Nat)(op:Op)(c:Prop)[Decidable c](o:Option (V × S)):GKS E fn rnd n Q ks m K l T D d op (if c then o else none)=(c∧GKS E fn rnd n Q ks m K l T D d op o):=by simp only [GKS,jkD]
theorem Qc (K:S→Prop)(d:Option Nat)(op:Op)(c:Prop)[Decidable c](o:Option (V × S)):GKS E fn rnd n Q ks m K l T D d op (if c then none else o)=(¬ c∧GKS E fn rnd n Q ks m K l T D d op o):=by simp only [GKS,jh1]
theorem Zq:GL E fn rnd n Q ks m ops [] T D σ=G E fn rnd n Q ks .skip T D σ:=rfl
theorem Zr (d:Nat)(op:Op)(t:TypeId)(p:String)(a:Array Edge):GL E fn rnd n Q ks m ops (⟨some d,op,t,p,a,none⟩::l) T D σ=(d<n∧GS E fn rnd n Q ks m ops l T D d (opT E m T σ op)):=rfl
theorem Zs (op:Op)(t:TypeId)(p:String)(a:Array Edge):GL E fn rnd n Q ks m ops (⟨none,op,t,p,a,none⟩::l) T D σ=GN E fn rnd n Q ks m ops l T D (opT E m T σ op):=rfl
theorem Zt (d:Nat)(op:Op)(t:TypeId)(p:String)(a:Array Edge)(j:Nat)(b:Bool):GL E fn rnd n Q ks m ops (⟨some d,op,t,p,a,some (j,b)⟩::l) T D σ =
  V1 ((ops[j]?).bind (·.dst)) fun g=>g<n∧d<n∧GG E fn rnd n Q ks m ops l T D σ d op b g (T g):=by
 unfold GL GG GS
 refine congrArg (V1 _) (funext fun g => ?_)
 by_cases hd:d<n
 ·cases b <;> simp only [hd,true_and] <;> rfl
 ·cases b <;> simp only [hd,false_and,and_false,jo0]
theorem Y1:(Kt.post E fn rnd n Q ks).norm T D σ=G E fn rnd n Q ks .skip T D σ:=rfl
theorem Y2 (i:Nat):(Kt.post E fn rnd n Q ks).exit i T D σ=G E fn rnd n Q ks (.exit i) T D σ:=rfl
theorem Y3:(Kt.post E fn rnd n Q ks).ret T D σ=G E fn rnd n Q ks .ret T D σ:=rfl
theorem Zu (d:Nat)(v:V)(σ':S):GS E fn rnd n Q ks m ops l T D d (some (v,σ'))=GL E fn rnd n Q ks m ops l (upd T d v) D σ':=by simp only [GS,Yy]
theorem Zv (d:Nat)(c:Prop)[Decidable c](o:Option (V × S)):GS E fn rnd n Q ks m ops l T D d (if c then o else none)=(c∧GS E fn rnd n Q ks m ops l T D d o):=by simp only [GS,jkD]
theorem Zw (d:Nat)(c:Prop)[Decidable c](o:Option (V × S)):GS E fn rnd n Q ks m ops l T D d (if c then none else o)=(¬ c∧GS E fn rnd n Q ks m ops l T D d o):=by simp only [GS,jh1]
theorem Zx (v:V)(σ':S):GN E fn rnd n Q ks m ops l T D (some (v,σ'))=GL E fn rnd n Q ks m ops l T D σ':=by simp only [GN,Yy]
theorem Zy (c:Prop)[Decidable c](o:Option (V × S)):GN E fn rnd n Q ks m ops l T D (if c then o else none)=(c∧GN E fn rnd n Q ks m ops l T D o):=by simp only [GN,jkD]
theorem Zz (c:Prop)[Decidable c](o:Option (V × S)):GN E fn rnd n Q ks m ops l T D (if c then none else o)=(¬ c∧GN E fn rnd n Q ks m ops l T D o):=by simp only [GN,jh1]
theorem ZA (a b:Code)(t:Nat):GB E fn rnd n Q ks a b T D σ t (.bool true)=G E fn rnd n Q ks a (upd T t (.bool true)) D σ:=jlx _ _
theorem ZB (a b:Code)(t:Nat):GB E fn rnd n Q ks a b T D σ t (.bool false)=G E fn rnd n Q ks b (upd T t (.bool false)) D σ:=jiP _ _
theorem ZC (a b:Code)(t:Nat)(p:Prop)[Decidable p]:GB E fn rnd n Q ks a b T D σ t (.bool (decide p))=((p→G E fn rnd n Q ks a (upd T t (.bool true)) D σ)∧(¬ p→G E fn rnd n Q ks b (upd T t (.bool false)) D σ)):=by
 simp only [GB,jn7,Qv,decide_eq_false_iff_not]
theorem ZD (d:Nat)(op:Op)(b:Bool)(g:Nat):GG E fn rnd n Q ks m ops l T D σ d op b g (.tup [])=GL E fn rnd n Q ks m ops l (upd T d (.tup [])) D σ:=jrl _ _ _
theorem ZE (d:Nat)(op:Op)(g:Nat):GG E fn rnd n Q ks m ops l T D σ d op true g (.bool true)=GS E fn rnd n Q ks m ops l (upd T g (.bool true)) D d (opT E m (upd T g (.bool true)) σ op):=jiQ _ _ _
theorem ZF (d:Nat)(op:Op)(g:Nat):GG E fn rnd n Q ks m ops l T D σ d op true g (.bool false)=GL E fn rnd n Q ks m ops l (upd (upd T g (.bool false)) d (.tup [])) D σ:=jhc _ _ _
theorem ZG (d:Nat)(op:Op)(g:Nat):GG E fn rnd n Q ks m ops l T D σ d op false g (.bool true)=GL E fn rnd n Q ks m ops l (upd (upd T g (.bool true)) d (.tup [])) D σ:=jiQ _ _ _
theorem ZH (d:Nat)(op:Op)(g:Nat):GG E fn rnd n Q ks m ops l T D σ d op false g (.bool false)=GS E fn rnd n Q ks m ops l (upd T g (.bool false)) D d (opT E m (upd T g (.bool false)) σ op):=jhc _ _ _
theorem ZI (d:Nat)(op:Op)(g:Nat)(p:Prop)[Decidable p]:GG E fn rnd n Q ks m ops l T D σ d op true g (.bool (decide p))=((p→GS E fn rnd n Q ks m ops l (upd T g (.bool true)) D d (opT E m (upd T g (.bool true)) σ op))∧(¬ p→GL E fn rnd n Q ks m ops l (upd (upd T g (.bool false)) d (.tup [])) D σ)):=by
 simp only [GG,jiR,Qv,decide_eq_false_iff_not]
theorem ZJ (d:Nat)(op:Op)(g:Nat)(p:Prop)[Decidable p]:GG E fn rnd n Q ks m ops l T D σ d op false g (.bool (decide p))=((p→GL E fn rnd n Q ks m ops l (upd (upd T g (.bool true)) d (.tup [])) D σ)∧(¬ p→GS E fn rnd n Q ks m ops l (upd T g (.bool false)) D d (opT E m (upd T g (.bool false)) σ op))):=by
 simp only [GG,jiR,Qv,decide_eq_false_iff_not]
end
section
variable {E:Env}{m:Bool}{T:Tm}{σ:S}
theorem jbw {op:Op}(h:jbs E (jaL E T) σ op=none)(h2:jbD E m (jaL E T) σ op=none)(h3:∀ c,op ≠ .call c):opT E m T σ op=(jbn E (jaL E T) op).map fun v=>(v,σ):=by
 unfold opT
 cases hp:jbn E (jaL E T) op with
 | some v=>rfl
 | none =>
  simp only [h,Option.map_none]
  split
  ·exact absurd rfl (h3 _)
  ·exact absurd rfl (h3 _)
  ·exact h2
theorem ZK (x:Operand):opT E m T σ (.move x)=(jaL E T x).map fun v=>(v,σ):=jbw rfl rfl (fun _ h=>by cases h)
theorem ZL (x:Operand):opT E m T σ (.assign x)=(jaL E T x).map fun v=>(v,σ):=jbw rfl rfl (fun _ h=>by cases h)
def jtt (c a b:Option V):Option V:=match c with | some (.bool t)=>a.bind fun x=>b.bind fun y=>some (if t then x else y) | _=>none
theorem ZN (a b:V):jtt (some (.bool true)) (some a) (some b)=some a:=rfl
theorem ZO (a b:V):jtt (some (.bool false)) (some a) (some b)=some b:=rfl
theorem ZM (c a b:Operand):opT E m T σ (.pick c a b)=(jtt (jaL E T c) (jaL E T a) (jaL E T b)).map fun v=>(v,σ):=by
 rw [jbw rfl rfl (fun _ h=>by cases h)]
 simp only [jbn,jtt]
 cases jaL E T c with
 | none=>rfl
 | some u=>cases u <;> rfl
def binO (E:Env)(t:TypeId)(c:Bool)(op:BinOp)(x y:Option V):Option V:=x.bind fun a=>y.bind fun b=>jdv E t c op a b
theorem jfi {E:Env}{t:TypeId}{c:Bool}{op:BinOp}{a b:V}(h:jfx E t op a b=none):jdv E t c op a b=jbZ (E.P.underlying t) c op a b:=by
 unfold jdv
 rw [h]
 cases jbZ (E.P.underlying t) c op a b <;> rfl
theorem ZQ (E:Env)(t:TypeId)(c:Bool)(op:BinOp)(k k':IntKind)(a b:Int):binO E t c op (some (.int k a)) (some (.int k' b))=jbZ (E.P.underlying t) c op (.int k a) (.int k' b):=jfi (by cases op <;> rfl)
theorem ZR (E:Env)(t:TypeId)(c:Bool)(op:BinOp)(a b:List UInt8):binO E t c op (some (.str a)) (some (.str b))=jbZ (E.P.underlying t) c op (.str a) (.str b):=jfi (by cases op <;> rfl)
theorem ZS (E:Env)(t:TypeId)(c:Bool)(op:BinOp)(a b:Bool):binO E t c op (some (.bool a)) (some (.bool b))=jbZ (E.P.underlying t) c op (.bool a) (.bool b):=jfi (by cases op <;> rfl)
theorem ZP (op:BinOp)(t u:TypeId)(x y:Operand):opT E m T σ (.binOp op t x y u)=(binO E t (jbz x || jbz y) op (jaL E T x) (jaL E T y)).map fun v=>(v,σ) :=
 jbw rfl rfl (fun _ h=>by cases h)
theorem ZT (op:UnOp)(t:TypeId)(x:Operand):opT E m T σ (.unOp op t x)=((jaL E T x).bind (vUn op)).map fun v=>(v,σ) :=
 jbw rfl rfl (fun _ h=>by cases h)
def jw2 (i:Nat):V→Option V
 | .tup vs=>vs[i]?
 | _=>none
theorem ZV (i:Nat)(vs:List V):jw2 i (.tup vs)=vs[i]? := rfl
theorem ZU (x:Operand)(i:Nat):opT E m T σ (.extract x i)=((jaL E T x).bind (jw2 i)).map fun v=>(v,σ) :=
 jbw rfl rfl (fun _ h=>by cases h)
def idxO (d:Option TypeDesc)(s:TypeId→Option Nat)(v i:Option V):Option V:=v.bind fun v=>i.bind fun i=>match d with
  | some (.slice e)=>(s e).bind fun s=>jaJ s v i
  | some (.array n e)=>(s e).bind fun s=>jdi n s v i
  | _=>none
theorem ZX (e:TypeId)(s:TypeId→Option Nat)(v i:V):idxO (some (.slice e)) s (some v) (some i)=(s e).bind fun s=>jaJ s v i:=rfl
theorem ZW (t:TypeId)(x ix:Operand):opT E m T σ (.indexAddr t x ix)=(idxO (E.P.underlying t) (sz E) (jaL E T x) (jaL E T ix)).map fun v=>(v,σ) :=
 jbw rfl rfl (fun _ h=>by cases h)
theorem ZY (t:TypeId)(x:Operand):opT E m T σ (.load t x)=((jaL E T x).bind (jbj E σ.heap t)).map fun v=>(v,σ):=by
 unfold opT
 simp only [jbn,jbs,jbD]
 cases jaL E T x with
 | none=>rfl
 | some p=>cases h:jbj E σ.heap t p <;> simp only [Kk,Kw,Option.map_none,h]
theorem YZ (t:TypeId):opT E m T σ (.alloc t)=(jbE E t).map fun z=>(.ptr σ.heap.length 0,σ.push (.cells z.cells t)):=rfl
theorem YY (t:TypeId)(x:Operand):opT E m T σ (.box t x)=(jaL E T x).map fun v=>(.ptr σ.heap.length 0,σ.push (.cells v.cells t)):=rfl
theorem YC (t:TypeId)(a x:Operand):opT E m T σ (.store t a x)=(jaL E T a).bind fun p=>(jaL E T x).bind fun v=>(sz E t).bind fun s =>
      if v.cells.length=s then (jbv σ v.cells p).map fun σ'=>(.tup [],σ') else none:=rfl
theorem YP (f:FuncId)(a c:Array Operand):opT E m T σ (.makeFunc (.func f) a c)=((jbt (jaL E T) a.toList).bind fun a=>(jbt (jaL E T) c.toList).map fun c=>.func f a c).map fun v=>(v,σ) :=
 jbw rfl rfl (fun _ h=>by cases h)
theorem ZZ (g:Operand)(as:Array Operand)(ts:Array TypeId):opT E m T σ (.call ⟨.value g,as,ts⟩)=(jaL E T g).bind fun gv=>(jbt (jaL E T) as.toList).bind fun vs=>jdf E (ev E) gv vs σ:=rfl
def lenM (σ:S)(d:Option TypeDesc)(v:V):Option (V × S) :=
 match d,v with
 | some (.map _ _),.nilmap=>some (.int .i64 0,σ)
 | some (.map _ _),.map b =>
  match σ.heap[b]? with
  | some (.map es _)=>some (.int .i64 es.length,σ)
  | _=>none
 | _,_=>none
def lenO (σ:S)(d:Option TypeDesc)(v:V):Option (V × S) :=
 match jec d v with
 | some r=>some (r,σ)
 | none=>lenM σ d v
theorem Z1 (σ:S)(e:TypeId)(v:V):lenO σ (some (.slice e)) v=(jec (some (.slice e)) v).map fun r=>(r,σ):=by
 unfold lenO
 cases jec (some (.slice e)) v <;> rfl
theorem Z2 (σ:S)(v:V):lenO σ (some .string) v=(jec (some .string) v).map fun r=>(r,σ):=by
 unfold lenO
 cases jec (some .string) v <;> rfl
theorem Z0 (x:Operand)(t:TypeId):opT E m T σ (.call ⟨.builtin .len,#[x],#[t]⟩)=(jaL E T x).bind (lenO σ (E.P.underlying t)):=by
 unfold opT
 simp only [jbn,jbs,jbD,jbt,Kw]
 cases jaL E T x with
 | none=>rfl
 | some v =>
  simp only [Kk,Jg,Qs]
  unfold lenO lenM
  cases h:jec (E.P.underlying t) v <;> rfl
theorem jgt (x:Operand)(a b:TypeId)(ok:Bool):opT E m T σ (.typeAssert x a b ok)=((jaL E T x).bind (jhJ E b ok)).map fun v=>(v,σ) :=
 jbw rfl rfl (fun _ h=>by cases h)
theorem YL (as:Array Operand)(ts:Array TypeId):opT E m T σ (.call ⟨.builtin .max,as,ts⟩)=((jbt (jaL E T) as.toList).bind (jdT true)).map fun v=>(v,σ):=by
 unfold opT
 simp only [jbn,jbs,jbD]
 cases (jbt (jaL E T) as.toList).bind (jdT true) <;> rfl
theorem YM (as:Array Operand)(ts:Array TypeId):opT E m T σ (.call ⟨.builtin .min,as,ts⟩)=((jbt (jaL E T) as.toList).bind (jdT false)).map fun v=>(v,σ):=by
 unfold opT
 simp only [jbn,jbs,jbD]
 cases (jbt (jaL E T) as.toList).bind (jdT false) <;> rfl
theorem YN (k:IntKind)(a b:Int):jdT true [.int k a,.int k b]=some (.int k (if b > a then b else a)):=rfl
theorem YO (k:IntKind)(a b:Int):jdT false [.int k a,.int k b]=some (.int k (if b<a then b else a)):=rfl
def ja4 (E:Env)(t:TypeId)(f:Nat):Option Nat :=
 match E.P.underlying t with
 | some (.struct fields)=>(fields[f]?).bind fun fd=>(sz E fd.type).bind fun s=>if s=0 then none else some fd.offset
 | _=>none
theorem YQ (t:TypeId)(x:Operand)(f:Nat):opT E m T σ (.fieldAddr t x f)=(jaL E T x).bind fun v=>(ja4 E t f).bind fun off=>(jc8 off v).map fun v=>(v,σ):=by
 rw [jbw rfl rfl (fun _ h=>by cases h)]
 simp only [jbn,ja4]
 cases jaL E T x with
 | none=>rfl
 | some v =>
  simp only [Kk]
  cases E.P.underlying t with
  | none=>rfl
  | some d =>
   cases d <;> try rfl
   rename_i fields
   simp only
   cases fields[f]? with
   | none=>rfl
   | some fd =>
    simp only [Kk]
    cases sz E fd.type with
    | none=>rfl
    | some s =>
     simp only [Kk]
     by_cases hs:s=0 <;> simp [hs]
def jb9 (E:Env)(t:TypeId)(ps:List (Nat × V)):Option V:=(jbE E t).bind fun z=>(jgX E t).bind fun pl=>(jhH pl z.cells ps).map .agg
theorem YR (t:TypeId)(parts:Array (Nat × Operand)):opT E m T σ (.build t parts)=(jdt (jaL E T) parts.toList).bind fun ps=>(jb9 E t ps).map fun v=>(v,σ):=by
 rw [jbw rfl rfl (fun _ h=>by cases h)]
 simp only [jbn,jb9]
 cases jdt (jaL E T) parts.toList <;> rfl
theorem YS (ρ:Operand→Option V):jdt ρ []=some []:=rfl
theorem YT (ρ:Operand→Option V)(i:Nat)(x:Operand)(r:List (Nat × Operand)):jdt ρ ((i,x)::r)=(ρ x).bind fun v=>(jdt ρ r).map fun l=>(i,v)::l:=rfl
theorem YU (off b o:Nat):jc8 off (.ptr b o)=some (.ptr b (o+off)):=rfl
theorem YV (off:Nat)(cs:List V):jc8 off (.rptr cs)=some (.rptr (cs.drop off)):=rfl
theorem YW (cs:List V):(V.agg cs).cells=cs:=rfl
theorem YX (σ:S)(o:AObj):(σ.push o).heap[σ.heap.length]? = some o:=by simp [S.push]
def jqj (us ud:Option TypeDesc)(v:V):Option V :=
 match us,ud,v with
 | some _,some (.int k),.int _ n=>some (.int k (k.wrap n))
 | some _,some .string,.str s=>some (.str s)
 | some _,some .string,.int _ n=>if 0≤n∧n<128 then some (.str [UInt8.ofNat n.toNat]) else none
 | _,_,_=>none
def jqk (E:Env)(h:List AObj)(us ud:Option TypeDesc)(v:V):Option V :=
 match us,ud with
 | some (.slice e),some .string =>
  match E.P.underlying e,v with
  | some (.int .u8),.row cells len cap=>(jby h 1 len (.row cells len cap)).bind fun cs=>(jcn cs).map .str
  | some (.int .u8),.hsl b off len cap ex=>(jby h 1 len (.hsl b off len cap ex)).bind fun cs=>(jcn cs).map .str
  | some (.int .u8),.nilsl=>some (.str [])
  | _,_=>none
 | some us,some ud=>jfC E h us ud v
 | _,_=>none
def jvO (E:Env)(σ:S)(src dst:TypeId)(us ud:Option TypeDesc)(v:V):Option (V × S) :=
 match us,ud,v with
 | some _,some (.slice e),.str s =>
  match E.P.underlying e with
  | some (.int .u8)=>some (.row (jaD s) s.length .unk,σ)
  | _=>none
 | some (.slice _),some (.slice e),.hsl b off len cap _ =>
  if src=dst then
   match E.P.underlying e,σ.heap[b]? with
   | some (.int .u8),some (.cells cs t)=>if len≤cap∧off+len≤cs.length then some (.row ((cs.drop off).take len) len .unk,σ.set b (.ro cs t)) else none
   | _,_=>none
  else none
 | _,_,_=>none
def jjq (E:Env)(σ:S)(src dst:TypeId)(us ud:Option TypeDesc)(v:V):Option (V × S) :=
 match jqj us ud v with
 | some u=>some (u,σ)
 | none =>
  match jqk E σ.heap us ud v with
  | some u=>some (u,σ)
  | none=>jvO E σ src dst us ud v
theorem jgK {E:Env}{σ:S}{src dst:TypeId}{d:TypeDesc}{e:TypeId}{s:List UInt8}(h:E.P.underlying e=some (.int .u8)):jjq E σ src dst (some d) (some (.slice e)) (.str s)=some (.row (jaD s) s.length .unk,σ):=by
 cases d <;> simp [jjq,jqj,jqk,jvO,jfC,h]
theorem Z5 (E:Env)(σ:S)(src dst:TypeId)(d:TypeDesc)(k k':IntKind)(n:Int):jjq E σ src dst (some d) (some (.int k)) (.int k' n)=some (.int k (k.wrap n),σ):=rfl
theorem Z4 (s d:TypeId)(x:Operand):opT E m T σ (.convert s d x)=(jaL E T x).bind fun v=>jjq E σ s d (E.P.underlying s) (E.P.underlying d) v:=by
 unfold opT
 simp only [jbn,jbs,jbD]
 cases jaL E T x with
 | none=>rfl
 | some v =>
  simp only [Kk]
  show (match jqj (E.P.underlying s) (E.P.underlying d) v with
   | some v=>some (v,σ)
   | none=>match jqk E σ.heap (E.P.underlying s) (E.P.underlying d) v with
    | some v=>some (v,σ)
    | none=>jvO E σ s d (E.P.underlying s) (E.P.underlying d) v)=_
  unfold jjq
  rfl
def appO (E:Env)(m:Bool)(σ:S)(t t2:TypeId)(a b:V):Option (V × S) :=
 (jfw E t).bind fun e=>(sz E e).bind fun s=>(bys E e).bind fun by' =>
  match E.P.underlying t2 with
  | some (.int _)=>jtf E m s by' e a b σ
  | some _=>(vLen b).bind fun mm=>(jby σ.heap s mm b).bind fun new=>if jj8 E e=some s then jbN m s by' mm e new a σ else none
  | none=>none
theorem Z3 (x y:Operand)(t t2:TypeId):opT E m T σ (.call ⟨.builtin .append,#[x,y],#[t,t2]⟩)=(jaL E T x).bind fun a=>(jaL E T y).bind fun b=>appO E m σ t t2 a b:=by
 unfold opT appO
 simp only [jbn,jbs,jbD,jbt,Kw]
 cases jaL E T x with
 | none=>rfl
 | some a =>
  cases jaL E T y with
  | none=>rfl
  | some b=>rfl
end
theorem jiS {α β:Type}(f:α→β)(c:Prop)[Decidable c](o:Option α):(if c then o else none).map f=if c then o.map f else none:=by by_cases h:c <;> simp [h]
theorem Ya {α β:Type}(f:α→β)(c:Prop)[Decidable c](o:Option α):(if c then none else o).map f=if c then none else o.map f:=by by_cases h:c <;> simp [h]
theorem jhd {α β:Type}(f:α→Option β)(c:Prop)[Decidable c](o:Option α):(if c then o else none).bind f=if c then o.bind f else none:=by by_cases h:c <;> simp [h]
theorem Yb {α β:Type}(f:α→Option β)(c:Prop)[Decidable c](o:Option α):(if c then none else o).bind f=if c then none else o.bind f:=by by_cases h:c <;> simp [h]
theorem Z8 {α β:Type}(f:α→β)(v:α):(some v).map f=some (f v):=rfl
theorem Y4 {α β:Type}(f:α→β):(none:Option α).map f=none:=rfl
theorem Y5 {α β:Type}(f:α→Option β):(none:Option α).bind f=none:=rfl
theorem Z9 {α β:Type}(f:α→Option β)(v:α):(some v).bind f=f v:=rfl
theorem jro (k:IntKind)(a b:Int):vBin .add (.int k a) (.int k b)=some (.int k (k.wrap (a+b))):=by simp [vBin,jcu]
theorem Yc (us:Option TypeDesc)(cc:Bool)(k:IntKind)(a b:Int):jbZ us cc .add (.int k a) (.int k b)=some (.int k (k.wrap (a+b))):=by
 unfold jbZ
 rw [jro]
theorem jrp (k:IntKind)(a b:Int):vBin .sub (.int k a) (.int k b)=some (.int k (k.wrap (a - b))):=by simp [vBin,jcu]
theorem Yd (us:Option TypeDesc)(cc:Bool)(k:IntKind)(a b:Int):jbZ us cc .sub (.int k a) (.int k b)=some (.int k (k.wrap (a - b))):=by
 unfold jbZ
 rw [jrp]
theorem jrq (k:IntKind)(a b:Int):vBin .mul (.int k a) (.int k b)=some (.int k (k.wrap (a * b))):=by simp [vBin,jcu]
theorem Ye (us:Option TypeDesc)(cc:Bool)(k:IntKind)(a b:Int):jbZ us cc .mul (.int k a) (.int k b)=some (.int k (k.wrap (a * b))):=by
 unfold jbZ
 rw [jrq]
theorem jrr (k:IntKind)(a b:Int):vBin .quo (.int k a) (.int k b)=if b=0 then none else some (.int k (k.wrap (a.tdiv b))):=by simp [vBin,jcu]
theorem Ym (us:Option TypeDesc)(cc:Bool)(k:IntKind)(a b:Int):jbZ us cc .quo (.int k a) (.int k b)=if b=0 then none else some (.int k (k.wrap (a.tdiv b))):=by
 unfold jbZ
 rw [jrr]
 split <;> split at * <;> simp_all
theorem jrs (k:IntKind)(a b:Int):vBin .rem (.int k a) (.int k b)=if b=0 then none else some (.int k (a.tmod b)):=by simp [vBin,jcu]
theorem Yl (us:Option TypeDesc)(cc:Bool)(k:IntKind)(a b:Int):jbZ us cc .rem (.int k a) (.int k b)=if b=0 then none else some (.int k (a.tmod b)):=by
 unfold jbZ
 rw [jrs]
 split <;> split at * <;> simp_all
theorem jrt (k:IntKind)(a b:Int):vBin .eql (.int k a) (.int k b)=some (.bool (decide (a=b))):=by simp [vBin,jcu]; rfl
theorem Yf (us:Option TypeDesc)(cc:Bool)(k:IntKind)(a b:Int):jbZ us cc .eql (.int k a) (.int k b)=some (.bool (decide (a=b))):=by
 unfold jbZ
 rw [jrt]
theorem jru (k:IntKind)(a b:Int):vBin .neq (.int k a) (.int k b)=some (.bool (decide (¬ a=b))):=by simp [vBin,jcu]; rfl
theorem Yg (us:Option TypeDesc)(cc:Bool)(k:IntKind)(a b:Int):jbZ us cc .neq (.int k a) (.int k b)=some (.bool (decide (¬ a=b))):=by
 unfold jbZ
 rw [jru]
theorem jrv (k:IntKind)(a b:Int):vBin .lss (.int k a) (.int k b)=some (.bool (decide (a<b))):=by simp [vBin,jcu]
theorem Yh (us:Option TypeDesc)(cc:Bool)(k:IntKind)(a b:Int):jbZ us cc .lss (.int k a) (.int k b)=some (.bool (decide (a<b))):=by
 unfold jbZ
 rw [jrv]
theorem jrw (k:IntKind)(a b:Int):vBin .leq (.int k a) (.int k b)=some (.bool (decide (a≤b))):=by simp [vBin,jcu]
theorem Yi (us:Option TypeDesc)(cc:Bool)(k:IntKind)(a b:Int):jbZ us cc .leq (.int k a) (.int k b)=some (.bool (decide (a≤b))):=by
 unfold jbZ
 rw [jrw]
theorem jrx (k:IntKind)(a b:Int):vBin .gtr (.int k a) (.int k b)=some (.bool (decide (b<a))):=by simp [vBin,jcu]
theorem Yj (us:Option TypeDesc)(cc:Bool)(k:IntKind)(a b:Int):jbZ us cc .gtr (.int k a) (.int k b)=some (.bool (decide (b<a))):=by
 unfold jbZ
 rw [jrx]
theorem jry (k:IntKind)(a b:Int):vBin .geq (.int k a) (.int k b)=some (.bool (decide (b≤a))):=by simp [vBin,jcu]
theorem Yk (us:Option TypeDesc)(cc:Bool)(k:IntKind)(a b:Int):jbZ us cc .geq (.int k a) (.int k b)=some (.bool (decide (b≤a))):=by
 unfold jbZ
 rw [jry]
theorem jrz (k k':IntKind)(a b:Int):vBin .shl (.int k a) (.int k' b)=if b<0 then none else some (.int k (k.wrap (a * 2 ^ min b.toNat k.bits))):=by simp [vBin,jkl]
theorem jhe (us:Option TypeDesc)(cc:Bool)(k k':IntKind)(a b:Int):jbZ us cc .shl (.int k a) (.int k' b)=if b<0 then none else some (.int k (k.wrap (a * 2 ^ min b.toNat k.bits))):=by
 unfold jbZ
 rw [jrz]
 split <;> split at * <;> simp_all
theorem jrA (k k':IntKind)(a b:Int):vBin .shr (.int k a) (.int k' b)=if b<0 then none else some (.int k (a.fdiv (2 ^ min b.toNat k.bits))):=by simp [vBin,jkl]
theorem jdp (us:Option TypeDesc)(cc:Bool)(k k':IntKind)(a b:Int):jbZ us cc .shr (.int k a) (.int k' b)=if b<0 then none else some (.int k (a.fdiv (2 ^ min b.toNat k.bits))):=by
 unfold jbZ
 rw [jrA]
 split <;> split at * <;> simp_all
theorem jql (a b:List UInt8):vBin .eql (.str a) (.str b)=some (.bool (decide (a=b))):=by simp only [vBin,jkm]; rw [show (a == b)=decide (a=b) from Ud.2 (by simp)]
theorem jac (us:Option TypeDesc)(cc:Bool)(a b:List UInt8):jbZ us cc .eql (.str a) (.str b)=some (.bool (decide (a=b))):=by
 unfold jbZ
 rw [jql]
theorem jqm (a b:List UInt8):vBin .neq (.str a) (.str b)=some (.bool (decide (¬ a=b))):=by simp only [vBin,jkm]; rw [show (a == b)=decide (a=b) from Ud.2 (by simp)]; simp
theorem jad (us:Option TypeDesc)(cc:Bool)(a b:List UInt8):jbZ us cc .neq (.str a) (.str b)=some (.bool (decide (¬ a=b))):=by
 unfold jbZ
 rw [jqm]
theorem Yn (cc:Bool)(a b:Bool):jbZ (some .bool) cc .eql (.bool a) (.bool b)=some (.bool (decide (a=b))):=by cases a <;> cases b <;> rfl
theorem Yo (cc:Bool)(a b:Bool):jbZ (some .bool) cc .neq (.bool a) (.bool b)=some (.bool (decide (¬ a=b))):=by cases a <;> cases b <;> rfl
theorem Yp (p:Prop)[Decidable p]:vUn .not (.bool (decide p))=some (.bool (decide (¬ p))):=by simp [vUn]
theorem YK (k:IntKind)(a:Int):vUn .neg (.int k a)=some (.int k (k.wrap (0 - a))):=rfl
theorem Yq:vUn .not (.bool true)=some (.bool false):=rfl
theorem Yr:vUn .not (.bool false)=some (.bool true):=rfl
theorem Ys (s:Nat)(cells:List V)(len:Nat)(c:RCap)(k:IntKind)(i:Int):jaJ s (.row cells len c) (.int k i)=if 0≤i∧i<len then some (.rptr (cells.drop (i.toNat * s))) else none:=rfl
theorem jbH (s b off len cap:Nat)(ex:HCap)(k:IntKind)(i:Int):jaJ s (.hsl b off len cap ex) (.int k i)=if 0≤i∧i<len then some (.ptr b (off+i.toNat * s)) else none:=rfl
theorem Yt (e:TypeId)(cells:List V)(len:Nat)(c:RCap):jec (some (.slice e)) (.row cells len c)=some (.int .i64 len):=rfl
theorem jrB (e:TypeId)(b off len cap:Nat)(ex:HCap):jec (some (.slice e)) (.hsl b off len cap ex)=some (.int .i64 len):=rfl
theorem Yu (e:TypeId):jec (some (.slice e)) .nilsl=some (.int .i64 0):=rfl
theorem jaK (b:List UInt8):jec (some .string) (.str b)=some (.int .i64 b.length):=rfl
theorem Z6 {E:Env}{rec:Task→Option Res}(f:FuncId)(a c:List V)(as:List V)(σ:S):jdf E rec (.func f a c) as σ=jas E rec f (a++as++c) σ:=rfl
theorem Yv (ρ:Operand→Option V):jbt ρ []=some []:=rfl
theorem Yw (ρ:Operand→Option V)(x:Operand)(l:List Operand):jbt ρ (x::l)=(ρ x).bind fun v=>(jbt ρ l).map fun r=>v::r:=rfl
theorem jaX {E:Env}{h:List AObj}{t:TypeId}{p:V}(ha:aggT E t=some false):jbj E h t p=(jai h 1 p).bind (·[0]?):=by
 simp only [jbj,ha]; rfl
theorem Yz (h:List AObj)(cells:List V)(i:Nat):(jai h 1 (.rptr (cells.drop i))).bind (·[0]?)=cells[i]? := by
 simp only [jai,Qm]
 by_cases hi:1≤cells.length - i
 ·simp only [hi,Ks,Kk]
  rw [Q4,Jj]
  simp
 ·simp only [hi,Kr,Option.bind_none]
  rw [K9 (by omega)]
theorem Y0 (k:IntKind)(zs:List Int)(i:Nat):(zs.map (V.int k))[i]? = if i<zs.length then some (V.int k (zs.getD i 0)) else none:=by
 rw [Xr]
 by_cases h:i<zs.length
 ·simp [h]
 ·simp [h]
theorem wrap_i64 {x:Int}(h1 : -9223372036854775808≤x)(h2:x≤9223372036854775807):IntKind.i64.wrap x=x:=by
 rw [IntKind.wrap_i64]; omega
def setT (T:Tm):List (Tmp × V)→Tm
 | []=>T
 | (t,v)::r=>setT (upd T t v) r
theorem Rep.sets {n:Nat}:∀ (l:List (Tmp × V)) {T:Tm} {tmps:List V},Rep n T tmps→(∀ p∈l,p.1<n)→Rep n (setT T l) (l.foldl (fun ts (x:Tmp × V)=>ts.set x.1 x.2) tmps)
 | [],T,tmps,h,_=>h
 | (t,v)::r,T,tmps,h,hl=>by
  simp only [Uc,setT]
  exact Rep.sets r (h.upd (hl (t,v) (by simp)) v) fun p hp=>hl p (by simp [hp])
section
variable {E:Env}{fn:FuncId}{rnd:Option Nat}{n:Nat}{Q:Post}{ks:List Kt}{T:Tm}{D:List DE}{σ:S}
theorem jgf {l:Nat}{args:List V}{tmps:List V}{ps:Array Tmp}{asg body:Code}{d:Nat}{lo:AObj}{K:S→Prop}
  (hlo:lo=.loop .ready none fn tmps ps asg body d) (hl:σ.heap[l]? = some lo) (hr:Rep n T tmps) (ha:args.length=ps.size) (hp:∀ p∈ps.toList.zip args,p.1<n)
  (hw:∀ lb,lb=AObj.loop .busy none fn tmps ps asg body d→G E fn (some l) n ⟨fun T1 D1 σ1=>D1=[]∧σ1.heap[l]? = some lo ∧
   G E fn (some l) n ⟨fun _ D2 σ2=>D2=[]∧σ2.heap[l]? = some lb∧K (σ2.set l lo),fun _ _ _ _=>False,fun _ _ _=>False⟩ [] body T1 []
    (σ1.set l lb),fun _ _ _ _=>False,fun _ _ _=>False⟩ [] asg (setT T (ps.toList.zip args)) [] σ) :
  ∃ σ',jdf E (ev E) (.yld l) args σ=some (.bool true,σ')∧K σ':=by
 subst hlo
 obtain ⟨⟨ex,vals,dd,st⟩,h1,T1,hr1,hq⟩:=jbC E fn (some l) n asg (hw _ rfl) _ (hr.sets _ hp)
 cases ex with
 | exit i=>exact hq.elim
 | ret=>exact hq.elim
 | pan _=>exact hq.elim
 | normal =>
  obtain ⟨hd,hl1,hw2⟩:=hq
  simp only at hd hl1 hw2
  subst hd
  obtain ⟨⟨ex2,vals2,d2,st2⟩,g1,T2,gr1,gq⟩:=jbC E fn (some l) n body hw2 _ hr1
  cases ex2 with
  | exit i=>exact gq.elim
  | ret=>exact gq.elim
  | pan _=>exact gq.elim
  | normal =>
   obtain ⟨hd2,hl2,hK⟩:=gq
   simp only at hd2 hl2 hK
   subst hd2
   refine ⟨_,?_,hK⟩
   have:ev E (.round l args σ)=some ⟨.ret,[.bool true],[],st2.set l (.loop .ready none fn tmps ps asg body d)⟩:=by
    apply jb6
    simp only [jcF,hl]
    rw [Kn (by simpa using ha)]
    simp only [h1,hl1,g1,hl2]
   simp only [jdf,this]
theorem jrC {f:Operand}{ps:Array Tmp}{asg body:Code}{fid:FuncId}{first captured:List V}(hf:jaL E T f=some (.func fid first captured))
  (h:∀ tmps lo lx,Rep n T tmps→lo=AObj.loop .ready none fn tmps ps asg body σ.heap.length→lx=AObj.loop .exhausted none fn tmps ps asg body σ.heap.length →
   ∃ v σ2,ev E (.call fid (first++[V.yld (σ.heap.length+1)]++captured) ⟨σ.heap++[.defd true,lo],σ.toks⟩)=some ⟨.ret,[v],[],σ2⟩ ∧
   σ2.heap[σ.heap.length+1]? = some lo ∧
   G E fn none n Q ks .skip T (.mark σ.heap.length::D) (σ2.set (σ.heap.length+1) lx)) :
  G E fn none n Q ks (.rangeFunc f ps asg body) T D σ:=by
 intro tmps hr
 obtain ⟨v,σ2,h1,h2,h3⟩:=h tmps _ _ hr rfl rfl
 refine ⟨⟨.normal,tmps,.mark σ.heap.length::D,σ2.set (σ.heap.length+1) (.loop .exhausted none fn tmps ps asg body σ.heap.length)⟩,?_,T,hr,h3⟩
 simp only [jbe,hr.eval,hf,h1,h2,reduceCtorEq,Kr]
end
theorem jbh {E:Env}{f:FuncId}{args:List V}{σ σ':S}{v:V}{F:Go.Func}{body:Code}(hp:E.pure f=false)(hk:E.hook f=none)(hf:E.P.funcs[f]? = some F)(hb:F.body=some body)
  (hn:F.name ≠ "runtime.NumGoroutine") (hl:args.length≤F.ntmps)
  (hw:G E f none F.ntmps ⟨wpR E F.results.toList fun v' σ''=>v'=v∧σ''=σ',fun _ _ _ _=>False,wpR E F.results.toList fun v' σ''=>v'=v∧σ''=σ'⟩ [] body (argT args) [] σ) (hz:E.frz f=false:=by rfl) (hs:E.hookS f=none:=by rfl) :
  jas E (ev E) f args σ=some (v,σ'):=by
 obtain ⟨v',σ'',h1,rfl,rfl⟩:=jck hp hk hf hb hn hl hw hz hs
 exact h1
def jhf (o:Option AObj)(off:Nat):Option V :=
 match o with
 | some (.cells cs _)=>cs[off]?
 | some (.ro cs _)=>cs[off]?
 | _=>none
theorem YB (cs:List V)(t:TypeId)(off:Nat):jhf (some (.cells cs t)) off=cs[off]? := rfl
theorem YA (h:List AObj)(b off:Nat):(jai h 1 (.ptr b off)).bind (·[0]?)=jhf h[b]? off:=by
 simp only [jai,jhf]
 cases h[b]? with
 | none=>rfl
 | some o =>
  cases o with
  | cells cs t =>
   simp only
   by_cases hi:off+1≤cs.length
   ·simp only [hi,Ks,Kk]
    rw [Q4,Jj]
    simp
   ·simp only [hi,Kr,Option.bind_none]
    rw [K9 (by omega)]
  | ro cs t =>
   simp only
   by_cases hi:off+1≤cs.length
   ·simp only [hi,Ks,Kk]
    rw [Q4,Jj]
    simp
   ·simp only [hi,Kr,Option.bind_none]
    rw [K9 (by omega)]
  | _=>rfl
def storeAt (σ:S)(new:List V)(b off:Nat)(o:Option AObj):Option S :=
 match o with
 | some (.cells cs t)=>if off+new.length≤cs.length∧new.all V.isCell then some (σ.set b (.cells (jab cs off new) t)) else none
 | _=>none
theorem YE (σ:S)(new:List V)(b off:Nat)(cs:List V)(t:TypeId):storeAt σ new b off (some (.cells cs t))=if off+new.length≤cs.length∧new.all V.isCell then some (σ.set b (.cells (jab cs off new) t)) else none:=rfl
theorem YD (σ:S)(new:List V)(b off:Nat):jbv σ new (.ptr b off)=storeAt σ new b off σ.heap[b]? := by
 simp only [jbv,storeAt]
 cases σ.heap[b]? with
 | none=>rfl
 | some o=>cases o <;> rfl
theorem YI (h:List AObj)(t:List Nat)(o:AObj):S.push ⟨h,t⟩ o=⟨h++[o],t⟩:=rfl
theorem YJ (h:List AObj)(t:List Nat)(b:Nat)(o:AObj):S.set ⟨h,t⟩ b o=⟨h.set b o,t⟩:=rfl
theorem jaq:S.empty=⟨[],[]⟩:=rfl
theorem YF (cs:List V)(n:Nat)(c:RCap):(V.row cs n c).cells=[.row cs n c]:=rfl
theorem YH:V.nilsl.cells=[.nilsl]:=rfl
theorem YG (cs:List V)(n:Nat)(c:RCap):(V.row cs n c).isCell=true:=rfl
theorem Y6 (k:IntKind)(x:Int):(V.int k x).cells=[.int k x]:=rfl
theorem ja5 (k:IntKind)(x:Int):(V.int k x).isCell=true:=rfl
structure One (E:Env) (t e:TypeId) (by':Nat):Prop where
 elem:jfw E t=some e
 size:sz E e=some 1
 bytes:bys E e=some by'
 zeros:jj8 E e=some 1
 slice:E.P.underlying t=some (.slice e)
 zero:∃ z,jbE E e=some z∧z.cells.length=1
section
variable {E:Env}{t e:TypeId}{by':Nat}{T:Tm}{σ:S}{x:Operand}
inductive Grow (ts:List Nat):V→List V→Prop where
 | nil:Grow ts .nilsl []
 | full (cs:List V):Grow ts (.row cs cs.length .full) cs
 | tok (cs:List V) (k e:Nat) (h:ts[k]? = some e):Grow ts (.row cs cs.length (.tok k e 1)) cs
theorem Grow.len (h:One E t e by'){ts:List Nat}{v:V}{cs:List V}(g:Grow ts v cs):jec (E.P.underlying t) v=some (.int .i64 cs.length):=by
 rw [h.slice]
 cases g with
 | nil=>rfl
 | full=>rfl
 | tok=>rfl
theorem Grow.append (h:One E t e by'){hp:List AObj}{ts:List Nat}{v:V}{cs:List V}(g:Grow ts v cs){new:List V}{c:RCap}(hn:new.length ≠ 0)(hc:new.all V.isCell=true)
  (hb:(cs.length+new.length) * by'≤lim) (hb2:cs.length+new.length≤lim) :
  ∃ k e' ts',appO E false ⟨hp,ts⟩ t t v (.row new new.length c)=some (.row (cs++new) (cs++new).length (.tok k e' 1),⟨hp,ts'⟩)∧ts'[k]? = some e':=by
 have hnew:jby hp 1 new.length (.row new new.length c)=some new:=by simp [jby]
 have hn0:new ≠ []:=fun e=>hn (by rw [e]; rfl)
 unfold appO
 simp only [h.elem,h.size,h.bytes,h.slice,h.zeros,vLen,hnew,Kk,Ks]
 cases g with
 | nil =>
  simp only [K5,K8] at hb hb2
  refine ⟨ts.length,0,ts++[0],?_,by simp⟩
  simp [jbN,hn0,hb,hb2]
 | full =>
  refine ⟨ts.length,0,ts++[0],?_,by simp⟩
  simp only [jbN,hn,Kr,hb,hb2,hc,Qo,and_self,Ks,Kl,Ku]
 | tok _ k e' hk =>
  refine ⟨k,e'+1,ts.set k (e'+1),?_,?_⟩
  ·simp only [jbN,hn,Kr,hb,hb2,hc,Qo,and_self,Ks,hk,Ku]
  ·have:k<ts.length:=by
    rcases Qf k ts.length with h1 | h1
    ·exact h1
    ·rw [K9 h1] at hk; simp at hk
   simp [this]
structure GrowN (N:Nat) (ts:List Nat) (v:V) (cs:List V):Prop where
 grow:Grow ts v cs
 low:∀ k,(∃ cs n e s,v=.row cs n (.tok k e s))→N≤k
theorem GrowN.keep {N:Nat}{ts ts':List Nat}{v:V}{cs:List V}(g:GrowN N ts v cs)(h:∀ k e,N≤k→ts[k]? = some e→ts'[k]? = some e):GrowN N ts' v cs:=by
 refine ⟨?_,g.low⟩
 have hl:=g.low
 cases g.grow with
 | nil=>exact .nil
 | full=>exact .full _
 | tok _ k e hk=>exact .tok _ k e (h k e (hl k ⟨_,_,_,_,rfl⟩) hk)
theorem GrowN.append (h:One E t e by'){N:Nat}{hp:List AObj}{ts:List Nat}{v v2:V}{cs cs2:List V}(g:GrowN N ts v cs)(hN:N≤ts.length)(g2:Grow ts v2 cs2)(hc:cs2.all V.isCell=true)
  (hb:(cs.length+cs2.length) * by'≤lim) (hb2:cs.length+cs2.length≤lim) :
  ∃ v' ts',appO E false ⟨hp,ts⟩ t t v v2=some (v',⟨hp,ts'⟩)∧GrowN N ts' v' (cs++cs2)∧ts.length≤ts'.length∧(∀ k,k<N→ts'[k]? = ts[k]?)∧(v'=.nilsl→v=.nilsl∧cs2=[]):=by
 by_cases hn:cs2=[]
 ·subst hn
  refine ⟨v,ts,?_,by rw [Qx]; exact g,Ky _,fun _ _=>rfl,fun h=>⟨h,rfl⟩⟩
  have hlen:vLen v2=some 0:=by cases g2 <;> rfl
  have hcell:jby hp 1 0 v2=some []:=by cases g2 <;> simp [jby]
  unfold appO
  simp only [h.elem,h.size,h.bytes,h.slice,h.zeros,hlen,hcell,Kk,Ks]
  cases g.grow <;> simp [jbN]
 ·have hn2:cs2.length ≠ 0:=fun e=>hn (Qh e)
  have key:∃ c,v2=.row cs2 cs2.length c:=by cases g2 <;> first | exact absurd rfl hn | exact ⟨_,rfl⟩
  obtain ⟨c,rfl⟩:=key
  have hnew:jby hp 1 cs2.length (.row cs2 cs2.length c)=some cs2:=by simp [jby]
  have hl:=g.low
  unfold appO
  simp only [h.elem,h.size,h.bytes,h.slice,h.zeros,vLen,hnew,Kk,Ks]
  have hge:=g.grow
  generalize hv:v=v0 at hge
  cases hge with
  | nil =>
   simp only [K5,K8] at hb hb2
   refine ⟨.row cs2 cs2.length (.tok ts.length 0 1),⟨ts++[0],?_,⟨.tok cs2 ts.length 0 (by simp),?_⟩,by simp,?_,by simp⟩⟩
   ·simp [jbN,hn,hb,hb2]
   ·rintro k ⟨_,_,_,_,he⟩; cases he; exact hN
   ·intro k hk; exact K0 (by omega)
  | full =>
   refine ⟨.row (cs++cs2) (cs++cs2).length (.tok ts.length 0 1),⟨ts++[0],?_,⟨.tok _ ts.length 0 (by simp),?_⟩,by simp,?_,by simp⟩⟩
   ·simp only [jbN,hn2,Kr,hb,hb2,hc,Qo,and_self,Ks,Kl,Ku]
   ·rintro k ⟨_,_,_,_,he⟩; cases he; exact hN
   ·intro k hk; exact K0 (by omega)
  | tok _ k e' hk =>
   have hkN:N≤k:=hl k ⟨_,_,_,_,hv⟩
   have hkl:k<ts.length:=by
    rcases Qf k ts.length with h1 | h1
    ·exact h1
    ·rw [K9 h1] at hk; simp at hk
   refine ⟨.row (cs++cs2) (cs++cs2).length (.tok k (e'+1) 1),⟨ts.set k (e'+1),?_,⟨.tok _ k (e'+1) (by simp [hkl]),?_⟩,by simp,?_,by simp⟩⟩
   ·simp only [jbN,hn2,Kr,hb,hb2,hc,Qo,and_self,Ks,hk,Ku]
   ·rintro k' ⟨_,_,_,_,he⟩; cases he; exact hkN
   ·intro k' hk'; exact Ki (by omega)
end
section
variable {E:Env}{m:Bool}{T:Tm}{σ:S}
def jqn (E:Env)(m:Bool)(σ:S)(t:TypeId)(lv cv:V):Option (V × S) :=
 (jfw E t).bind fun e=>(sz E e).bind fun s=>(bys E e).bind fun by' =>
   match lv,cv with
   | .int .i64 l,.int .i64 c =>
    if 0≤l∧l≤c∧c≤lim∧c * by'≤lim then
     (if c.toNat * s=0 then some (.agg []) else jbE E e).bind fun z =>
     if z.cells.length=s∨c.toNat * s=0 then
      if m then some (.hsl σ.heap.length 0 l.toNat c.toNat .exact,σ.push (.cells (List.replicate c.toNat z.cells).flatten e))
      else if l=c then some (.row (List.replicate c.toNat z.cells).flatten c.toNat .full,σ)
      else some (.row ((List.replicate c.toNat z.cells).flatten.take (l.toNat * s)) l.toNat (.tok σ.toks.length 0 s),⟨σ.heap,σ.toks++[0]⟩)
     else none
    else none
   | _,_=>none
theorem jhg (t:TypeId)(l c:Operand):opT E m T σ (.makeSlice t l c)=(jaL E T l).bind fun lv=>(jaL E T c).bind fun cv=>jqn E m σ t lv cv:=rfl
def jbT (E:Env)(t:TypeId)(v:V)(l h mx:Option V):Option V :=
  match E.P.underlying t with
  | some .string=>(match v with | .str b=>jcG 0 (.str b) l h mx | _=>none)
  | some (.slice e)=>(sz E e).bind fun s =>
   match v with
   | .str _=>none
   | v=>jcG s v l h mx
  | some (.array n e)=>(sz E e).bind fun s=>jeL n s v l h mx
  | _=>none
theorem jba (t:TypeId)(x:Operand)(lo hi mx:Option Operand):opT E m T σ (.slice t x lo hi mx)=(jaL E T x).bind fun v=>(optO (jaL E T) lo).bind fun l=>(optO (jaL E T) hi).bind fun h=>(optO (jaL E T) mx).bind fun mm=>(jbT E t v l h mm).map fun u=>(u,σ):=by
 rw [jbw rfl rfl (fun _ h=>by cases h)]
 simp only [jbn,jbT]
 cases jaL E T x with
 | none=>rfl
 | some v =>
  simp only [Kk]
  cases optO (jaL E T) lo with
  | none=>rfl
  | some l =>
   simp only [Kk]
   cases optO (jaL E T) hi with
   | none=>rfl
   | some h =>
    simp only [Kk]
    cases optO (jaL E T) mx with
    | none=>rfl
    | some mm=>rfl
theorem jbb (ρ:Operand→Option V):optO ρ none=some none:=rfl
theorem jbf (ρ:Operand→Option V)(x:Operand):optO ρ (some x)=(ρ x).map some:=rfl
def jtu (E:Env)(σ:S)(t:TypeId)(x y:V):Option (V × S) :=
  (jfw E t).bind fun e=>(sz E e).bind fun s =>
        (vLen y).bind fun m =>
          match x with
          | .hsl b off len cap ex=>(jby σ.heap s (min m len) y).bind fun new =>
              if min m len=0 then some (.int .i64 0,σ) else
              if ex.room s then (jgY σ new b off (off+cap * s)).map fun σ'=>(.int .i64 ((min m len:Nat):Int),σ') else
              (jbv σ new (.ptr b off)).map fun σ'=>(.int .i64 ((min m len:Nat):Int),σ')
          | .row _ len _=>if min m len=0 then some (.int .i64 0,σ) else none
          | .nilsl=>some (.int .i64 0,σ)
          | _=>none
theorem jtv (x y:Operand)(t t2:TypeId):opT E m T σ (.call ⟨.builtin .copy,#[x,y],#[t,t2]⟩)=(jaL E T x).bind fun a=>(jaL E T y).bind fun b=>jtu E σ t a b:=by
 unfold opT jtu
 simp only [jbn,jbs,jbD,jbt,Kw]
 cases jaL E T x with
 | none=>rfl
 | some a =>
  cases jaL E T y with
  | none=>rfl
  | some b=>rfl
end
theorem joa (E:Env)(t:TypeId)(x:Operand):scOp E (.load t x)=false:=rfl
theorem job (E:Env)(x:Operand):scOp E (.move x)=false:=rfl
theorem jmx (E:Env)(x:Operand):scOp E (.assign x)=false:=rfl
theorem jrD (E:Env)(c x y:Operand):scOp E (.pick c x y)=false:=rfl
theorem jo2 (E:Env)(o:BinOp)(t u:TypeId)(x y:Operand):scOp E (.binOp o t x y u)=false:=rfl
theorem jrE (E:Env)(o:UnOp)(t:TypeId)(x:Operand):scOp E (.unOp o t x)=false:=rfl
theorem jim (E:Env)(t:TypeId)(x y:Operand):scOp E (.indexAddr t x y)=false:=rfl
theorem jfS (E:Env)(t:TypeId)(x:Operand)(f:Nat):scOp E (.fieldAddr t x f)=false:=rfl
theorem jkH (E:Env)(x:Operand)(i:Nat):scOp E (.extract x i)=false:=rfl
theorem jlz (E:Env)(t:TypeId)(x y:Operand):scOp E (.store t x y)=true:=rfl
theorem jo3 (E:Env)(t:Tmp)(as:Array Operand)(ts:Array TypeId):scOp E (.call ⟨.value (.tmp t),as,ts⟩)=true:=rfl
theorem joc (t:TypeId)(x:Operand):jbc (.load t x)=true:=rfl
theorem jod (x:Operand):jbc (.move x)=false:=rfl
theorem jmy (x:Operand):jbc (.assign x)=false:=rfl
theorem jrF (c x y:Operand):jbc (.pick c x y)=false:=rfl
theorem jo4 (o:BinOp)(t u:TypeId)(x y:Operand):jbc (.binOp o t x y u)=false:=rfl
theorem jrG (o:UnOp)(t:TypeId)(x:Operand):jbc (.unOp o t x)=false:=rfl
theorem jin (t:TypeId)(x y:Operand):jbc (.indexAddr t x y)=false:=rfl
theorem jfT (t:TypeId)(x:Operand)(f:Nat):jbc (.fieldAddr t x f)=false:=rfl
theorem jkI (x:Operand)(i:Nat):jbc (.extract x i)=false:=rfl
theorem jlA (t:TypeId)(x y:Operand):jbc (.store t x y)=false:=rfl
theorem jrH (c:Call):jbc (.call c)=false:=rfl
theorem jh3 (E:Env)(T:Tm)(s:S)(t:TypeId)(x:Operand):jbs E (jaL E T) s (.load t x)=(jaL E T x).bind (jbj E s.heap t):=rfl
theorem jrI (h:List AObj)(d b off len cap:Nat)(ex:HCap)(cs:List V)(t:TypeId)(hb:h[b]? = some (.cells cs t))(hl:len≤cap):jbm h (d+1) (.hsl b off len cap ex)=((cs.drop off).mapM (jbm h d)).map fun c=>.row c len .unk:=by
 show (match h[b]? with
  | some (.cells cs _)=>if len≤cap then ((cs.drop off).mapM (jbm h d)).map (fun c=>V.row c len .unk) else none
  | _=>none)=_
 rw [hb]
 exact Km hl
def jbp:Nat→Code→Code
 | 0,c=>c
 | k+1,.seq _ b=>jbp k b
 | _+1,_=>.skip
def jax (F:Go.Func):Code:=F.body.getD .skip
section
variable {E:Env}{m:Bool}{T:Tm}{σ:S}
def jmz (E:Env)(t:TypeId)(v i:V):Option V :=
  match E.P.underlying t,v,i with
  | some .string,.str s,.int _ n=>if 0≤n∧n<s.length then some (.int .u8 (s.getD n.toNat 0).toNat) else none
  | some (.array len e),.agg cs,.int _ n=>if 0≤n∧n<len then (sz E e).bind fun s=>(aggT E e).bind fun g=>jhG g s cs (n.toNat * s) else none
  | _,_,_=>none
theorem jaG (t:TypeId)(x ix:Operand):opT E m T σ (.index t x ix)=((jaL E T x).bind fun v=>(jaL E T ix).bind fun i=>jmz E t v i).map fun v=>(v,σ) :=
 jbw rfl rfl (fun _ h=>by cases h)
theorem jaE {t:TypeId}(h:E.P.underlying t=some .string)(s:List UInt8)(k:IntKind)(n:Int):jmz E t (.str s) (.int k n)=if 0≤n∧n<s.length then some (.int .u8 (s.getD n.toNat 0).toNat) else none:=by
 simp only [jmz,h]
theorem jqo (a b:List UInt8):vBin .lss (.str a) (.str b)=some (.bool (Op.bytesLess a b)):=rfl
theorem jmA (us:Option TypeDesc)(cc:Bool)(a b:List UInt8):jbZ us cc .lss (.str a) (.str b)=some (.bool (Op.bytesLess a b)):=by
 unfold jbZ
 rw [jqo]
theorem jrJ {t e:TypeId}{n s:Nat}{cells:List V}(hu:E.P.underlying t=some (.array n e))(hs:sz E e=some s)(hl:cells.length=n * s):jbT E t (.rptr cells) none none none=some (.row cells n .full):=by
 simp only [jbT,hu,hs,Kk,jeL,jbi,Nat.zero_mul,Jo,Nat.sub_zero,Ks]
 rw [← hl,Ju]
def jrK (E:Env)(t:TypeId)(f:Nat)(v:V):Option V :=
  match E.P.underlying t,v with
  | some (.struct fields),.agg cs=>(fields[f]?).bind fun fd=>(sz E fd.type).bind fun s=>(aggT E fd.type).bind fun g=>jhG g s cs fd.offset
  | _,_=>none
theorem jmB (t:TypeId)(x:Operand)(f:Nat):opT E m T σ (.field t x f)=((jaL E T x).bind (jrK E t f)).map fun v=>(v,σ) :=
 jbw rfl rfl (fun _ h=>by cases h)
def nilO (E:Env):V→Option V
 | .ptr b o=>some (.ptr b o)
 | .rptr cs=>some (.rptr cs)
 | .meth name r=>(ji1 E r name).map fun _=>.meth name r
 | _=>none
theorem jaa (x:Operand):opT E m T σ (.nilCheck x)=((jaL E T x).bind (nilO E)).map fun v=>(v,σ) :=
 jbw rfl rfl (fun _ h=>by cases h)
theorem jae (b o:Nat):nilO E (.ptr b o)=some (.ptr b o):=rfl
theorem jmC (a:List UInt8):Op.bytesLess a a=false:=by
 induction a with
 | nil=>rfl
 | cons x r ih=>simp [Op.bytesLess,ih]
end
theorem jgL:∀ ws:List (List UInt8),V.closed.closedL (ws.map V.str)=true
 | []=>rfl
 | w::ws=>by simp only [Ji,V.closed.closedL,V.closed,Xz]; exact jgL ws
theorem jd3 (ws:List (List UInt8))(i:Nat):(ws.map V.str)[i]? = if i<ws.length then some (V.str (ws.getD i [])) else none:=by
 rw [Xr]
 by_cases h:i<ws.length
 ·simp [h]
 ·simp [h]
section
variable {E:Env}{T:Tm}{σ:S}
def rowO (E:Env)(t:TypeId)(len:Nat)(ps:List (Nat × V)):Option V:=(jfw E t).bind fun e=>(sz E e).bind fun s =>
      (if len * s=0 then some (.agg []) else jbE E e).bind fun z =>
      if len * s≤2 ^ 24∧(z.cells.length=s∨len * s=0) then
        (jhH (fun i=>some (i * s,s)) (List.replicate len z.cells).flatten ps).map fun cs=>.row cs len .full
      else none
theorem jag (t:TypeId)(len:Nat)(parts:Array (Nat × Operand)):opT E false T σ (.buildSlice t len parts)=(jdt (jaL E T) parts.toList).bind fun ps=>(rowO E t len ps).map fun v=>(v,σ):=by
 unfold opT rowO
 simp only [jbn,jbs,jbD,Jz,Kl,Kr]
 cases jdt (jaL E T) parts.toList with
 | none=>rfl
 | some ps =>
  simp only [Kk]
  cases jfw E t with
  | none=>rfl
  | some e =>
   simp only [Kk]
   cases sz E e with
   | none=>rfl
   | some s =>
    simp only [Kk]
    generalize (if len * s=0 then some (V.agg []) else jbE E e)=oz
    cases oz with
    | none=>rfl
    | some z =>
     simp only [Kk]
     split
     ·cases jhH (fun i=>some (i * s,s)) (List.replicate len z.cells).flatten ps <;> rfl
     ·rfl
end
theorem jaT {L:List AObj}{p:Nat}{x:AObj}(hp:L[p]? = some x):p<L.length:=by
 rcases Qf p L.length with h | h
 ·exact h
 ·rw [K9 h] at hp; simp at hp
theorem jbR {L:List AObj}{p:Nat}{x:AObj}(hp:L[p]? = some x)(X:List AObj):(L++X)[p]? = some x:=by
 rw [K0 (jaT hp)]; exact hp
theorem Qp (t:TypeId)(x:Operand):jaV (.load t x)=false:=rfl
theorem Qt (t:TypeId)(x y:Operand):ja8 (.store t x y)=true:=rfl
theorem QE (c x y:Operand):ja8 (.pick c x y)=false:=rfl
theorem QK (N:Nat)(al:List Nat)(mask:Nat)(ρ:Operand→Option V)(o:BinOp)(t u:TypeId)(x y:Operand):jgZ N al mask ρ (.binOp o t x y u)=true:=rfl
theorem QL (o:UnOp)(t:TypeId)(x:Operand):jaV (.unOp o t x)=false:=rfl
theorem QX (x:Operand)(i:Nat):jaV (.extract x i)=false:=rfl
theorem Q1 (c:Call):jaV (.call c)=false:=rfl
theorem Q2 (c:Call):ja8 (.call c)=false:=rfl
def regO (id:Nat):Code→Option (Array Oper)
 | .region i ops true=>if i=id then some ops else none
 | .seq a b=>(regO id a).or (regO id b)
 | .cond _ a b=>(regO id a).or (regO id b)
 | .block _ c=>regO id c
 | .loop c=>regO id c
 | .scope c=>regO id c
 | _=>none
def regB (id:Nat)(c:Code):Code:=.region id ((regO id c).getD #[]) true
theorem jam (L:List AObj)(a b:AObj):(L++[a,b])[L.length]? = some a:=by simp
theorem jan (L:List AObj)(a b:AObj):(L++[a,b])[L.length+1]? = some b:=by
 rw [Qz (by omega)]; simp
theorem jao (L:List AObj)(a b o:AObj):(L++[a,b]).set L.length o=L++[o,b]:=by simp
theorem jap (L:List AObj)(a b o:AObj):(L++[a,b]).set (L.length+1) o=L++[a,o]:=by
 rw [List.set_append_right _ _ (by omega)]; simp
theorem jmD (b off len cap:Nat)(q:HCap):(V.hsl b off len cap q).cells=[.hsl b off len cap q]:=rfl
theorem jkJ (b off len cap:Nat)(q:HCap):(V.hsl b off len cap q).isCell=true:=rfl
def regA (id:Nat):Code→Option Code
 | .region i ops d=>if i=id then some (.region i ops d) else none
 | .seq a b=>(regA id a).or (regA id b)
 | .cond _ a b=>(regA id a).or (regA id b)
 | .block _ c=>regA id c
 | .loop c=>regA id c
 | .scope c=>regA id c
 | _=>none
def regZ (id:Nat)(c:Code):Code:=(regA id c).getD .skip
def jqp (E:Env)(t:TypeId)(v:V):Option V :=
 match E.P.underlying t with
 | some (.interface _)=>none
 | some _=>some (.iface t v)
 | none=>none
theorem jeB {E:Env}{m:Bool}{T:Tm}{σ:S}(t:TypeId)(x:Operand):opT E m T σ (.makeInterface t x)=((jaL E T x).bind (jqp E t)).map fun v=>(v,σ) :=
 jbw rfl rfl (fun _ h=>by cases h)
theorem jfj {E:Env}{t:TypeId}{k:IntKind}(h:E.P.underlying t=some (.int k))(v:V):jqp E t v=some (.iface t v):=by simp only [jqp,h]
theorem jtw {E:Env}{t e:TypeId}(h:E.P.underlying t=some (.pointer e))(v:V):jqp E t v=some (.iface t v):=by simp only [jqp,h]
theorem jfk {E:Env}{t:TypeId}{ms:Array (String × TypeId)}(hu:E.P.underlying t=some (.interface ms))(c:Bool)(u:TypeId)(v:V):binO E t c .neq (some (.iface u v)) (some .nilif)=some (.bool true):=by
 show jdv E t c .neq (.iface u v) .nilif=_
 rw [jfi (by cases v <;> rfl),hu]; rfl
theorem jco {E:Env}{t:TypeId}{ms:Array (String × TypeId)}(hu:E.P.underlying t=some (.interface ms)):binO E t true .neq (some .nilif) (some .nilif)=some (.bool false):=by
 show jdv E t true .neq .nilif .nilif=_
 rw [jfi (by rfl),hu]; rfl
theorem jqq {E:Env}{t tx:TypeId}(h:je5 E t tx=true)(hu:∃ ms,E.P.underlying t=some (.interface ms))(c:Bool)(k:IntKind)(a b:Int):binO E t c .eql (some (.iface tx (.int k a))) (some (.iface tx (.int k b)))=some (.bool (decide (a=b))):=by
 obtain ⟨ms,hu⟩:=hu
 show jdv E t c .eql (.iface tx (.int k a)) (.iface tx (.int k b))=_
 unfold jdv
 rw [hu]
 show jfx E t .eql (.iface tx (.int k a)) (.iface tx (.int k b))=_
 simp [jfx,h]; rfl
theorem jqr {E:Env}{t tx:TypeId}(h:je5 E t tx=true)(hu:∃ ms,E.P.underlying t=some (.interface ms))(c:Bool)(k:IntKind)(a b:Int):binO E t c .neq (some (.iface tx (.int k a))) (some (.iface tx (.int k b)))=some (.bool (decide (¬ a=b))):=by
 obtain ⟨ms,hu⟩:=hu
 show jdv E t c .neq (.iface tx (.int k a)) (.iface tx (.int k b))=_
 unfold jdv
 rw [hu]
 show jfx E t .neq (.iface tx (.int k a)) (.iface tx (.int k b))=_
 simp [jfx,h]; rfl
theorem wrap_u64 {x:Int}(h1:0≤x)(h2:x<18446744073709551616):IntKind.u64.wrap x=x:=by
 show (let m:=x % (2 ^ 64:Int); if false && decide (m ≥ 2 ^ 63) then m - 2 ^ 64 else m)=x
 simp only [Jz,Kl,Kr]
 omega
theorem jlB {x:Int}(h1:18446744073709551616≤x)(h2:x<36893488147419103232):IntKind.u64.wrap x=x - 18446744073709551616:=by
 show (let m:=x % (2 ^ 64:Int); if false && decide (m ≥ 2 ^ 63) then m - 2 ^ 64 else m)=x - 18446744073709551616
 simp only [Jz,Kl,Kr]
 omega
theorem jgM {x:Int}(h1:0≤x)(h2:x<256):IntKind.u8.wrap x=x:=by
 show (let m:=x % (2 ^ 8:Int); if false && decide (m ≥ 2 ^ 7) then m - 2 ^ 8 else m)=x
 simp only [Jz,Kl,Kr]
 omega
def blkC (id:Nat):Code→Option Code
 | .block i c=>if i=id then some c else blkC id c
 | .seq a b=>(blkC id a).or (blkC id b)
 | .cond _ a b=>(blkC id a).or (blkC id b)
 | .loop c=>blkC id c
 | .scope c=>blkC id c
 | _=>none
def jfz (id:Nat)(c:Code):Code:=match blkC id c with
 | some (.loop c)=>c
 | _=>.skip
section
variable {E:Env}{fn:FuncId}{rnd:Option Nat}{n:Nat}{Q:Post}{ks:List Kt}{T:Tm}{D:List DE}{σ:S}
theorem jmE {l:Nat}{args:List V}{tmps:List V}{ps:Array Tmp}{asg body:Code}{d:Nat}{lo:AObj}{K:S→Prop}
  (hlo:lo=.loop .ready none fn tmps ps asg body d) (hl:σ.heap[l]? = some lo) (hr:Rep n T tmps) (ha:args.length=ps.size) (hp:∀ p∈ps.toList.zip args,p.1<n)
  (hw:∀ lb lr,lb=AObj.loop .busy none fn tmps ps asg body d→lr=AObj.loop .done (some .ret) fn tmps ps asg body d→G E fn (some l) n ⟨fun T1 D1 σ1=>D1=[]∧σ1.heap[l]? = some lo ∧
   G E fn (some l) n ⟨fun _ _ _=>False,fun _ _ _ _=>False,fun _ D2 σ2=>D2=[]∧σ2.heap[l]? = some lb∧K (σ2.set l lr)⟩ [] body T1 []
    (σ1.set l lb),fun _ _ _ _=>False,fun _ _ _=>False⟩ [] asg (setT T (ps.toList.zip args)) [] σ) :
  ∃ σ',jdf E (ev E) (.yld l) args σ=some (.bool false,σ')∧K σ':=by
 subst hlo
 obtain ⟨⟨ex,vals,dd,st⟩,h1,T1,hr1,hq⟩:=jbC E fn (some l) n asg (hw _ _ rfl rfl) _ (hr.sets _ hp)
 cases ex with
 | exit i=>exact hq.elim
 | ret=>exact hq.elim
 | pan _=>exact hq.elim
 | normal =>
  obtain ⟨hd,hl1,hw2⟩:=hq
  simp only at hd hl1 hw2
  subst hd
  obtain ⟨⟨ex2,vals2,d2,st2⟩,g1,T2,gr1,gq⟩:=jbC E fn (some l) n body hw2 _ hr1
  cases ex2 with
  | exit i=>exact gq.elim
  | normal=>exact gq.elim
  | pan _=>exact gq.elim
  | ret =>
   obtain ⟨hd2,hl2,hK⟩:=gq
   simp only at hd2 hl2 hK
   subst hd2
   refine ⟨_,?_,hK⟩
   have:ev E (.round l args σ)=some ⟨.ret,[.bool false],[],st2.set l (.loop .done (some .ret) fn tmps ps asg body d)⟩:=by
    apply jb6
    simp only [jcF,hl]
    rw [Kn (by simpa using ha)]
    simp only [h1,hl1,g1,hl2]
   simp only [jdf,this]
theorem jo5 {f:Operand}{ps:Array Tmp}{asg body:Code}{fid:FuncId}{first captured:List V}(hf:jaL E T f=some (.func fid first captured))
    (h:∀ tmps lo lr,Rep n T tmps→lo=AObj.loop .ready none fn tmps ps asg body σ.heap.length→lr=AObj.loop .done (some .ret) fn tmps ps asg body σ.heap.length →
      ∃ v σ2,ev E (.call fid (first++[V.yld (σ.heap.length+1)]++captured) ⟨σ.heap++[.defd true,lo],σ.toks⟩)=some ⟨.ret,[v],[],σ2⟩ ∧
      ((σ2.heap[σ.heap.length+1]? = some lo∧∃ lx,lx=AObj.loop .exhausted none fn tmps ps asg body σ.heap.length ∧
        G E fn none n Q ks .skip T (.mark σ.heap.length::D) (σ2.set (σ.heap.length+1) lx)) ∨
       (σ2.heap[σ.heap.length+1]? = some lr∧∃ lx,lx=AObj.loop .exhausted (some .ret) fn tmps ps asg body σ.heap.length ∧
        G E fn none n Q ks .ret T (.mark σ.heap.length::D) (σ2.set (σ.heap.length+1) lx)))) :
    G E fn none n Q ks (.rangeFunc f ps asg body) T D σ:=by
  intro tmps hr
  obtain ⟨v,σ2,h1,⟨h2,lx,rfl,h3⟩ | ⟨h2,lx,rfl,h3⟩⟩:=h tmps _ _ hr rfl rfl
  · refine ⟨⟨.normal,tmps,.mark σ.heap.length::D,σ2.set (σ.heap.length+1) (.loop .exhausted none fn tmps ps asg body σ.heap.length)⟩,?_,T,hr,h3⟩
    simp only [jbe,hr.eval,hf,h1,h2,reduceCtorEq,Kr]
  · refine ⟨⟨.ret,tmps,.mark σ.heap.length::D,σ2.set (σ.heap.length+1) (.loop .exhausted (some .ret) fn tmps ps asg body σ.heap.length)⟩,?_,T,hr,h3⟩
    simp only [jbe,hr.eval,hf,h1,h2,reduceCtorEq,Kr]
end
set_option linter.unusedVariables false
def wpB (v:V)(b:Bool)(run skip:Prop):Prop :=
 match v with
 | .tup []=>skip
 | .bool c=>if c=b then run else skip
 | _=>False
section
variable (E:Env)
theorem jrL {rec:Task→Option Res}{mutb:Bool}{ops:Array Oper}{tmps:List V}{σ σ1:S}{o:Oper}{l:List Oper}{v:V}(h:(if Region.wanted o (jaC ops tmps) then opV E rec mutb tmps σ o.op else some (.tup [],σ))=some (v,σ1)) :
  dRun E rec mutb ops (o::l) tmps σ=(match dRun E rec mutb ops l (putT tmps o.dst v) σ1 with
   | some (tr,ss,tf,σf)=>some ((tmps,v)::tr,if scOp E o.op then σ1::ss else ss,tf,σf)
   | none=>none):=by
 simp only [dRun,h]
 cases dRun E rec mutb ops l (putT tmps o.dst v) σ1 <;> rfl
def Made (ops:Array Oper)(mutb:Bool)(K:S→Prop)(o:Oper)(t:List V)(v:V):Prop :=
 Region.wanted o (jaC ops t)=false∨∃ (σ0 σ1:S),opV E (ev E) mutb t σ0 o.op=some (v,σ1)∧(jbc o.op=true→∀ σ',K σ'→jbs E (ja7 E t) σ' o.op=some v)
end
section
variable {E:Env}{fn:FuncId}{rnd:Option Nat}{n:Nat}{Q:Post}{ks:List Kt}{m:Bool}{ops:Array Oper}{l:List Oper}{T:Tm}{D:List DE}{σ:S}
end
def AllM (K:Nat→S→Prop)(P:S→Prop):List Nat→Prop
 | []=>True
 | m::ms=>(∀ σ',K m σ'→P σ')∧AllM K P ms
theorem jdq (K:Nat→S→Prop)(P:S→Prop):AllM K P []=True:=rfl
theorem jdr (K:Nat→S→Prop)(P:S→Prop)(m:Nat)(ms:List Nat):AllM K P (m::ms)=((∀ σ',K m σ'→P σ')∧AllM K P ms):=rfl
theorem AllM.mem {K:Nat→S→Prop}{P:S→Prop}:∀ {ms:List Nat},AllM K P ms→∀ m∈ms,∀ σ',K m σ'→P σ'
 | [],_,m,hm=>by simp at hm
 | a::ms,⟨h1,h2⟩,m,hm=>by
  rcases Q8.1 hm with rfl | h
  ·exact h1
  ·exact h2.mem m h
section
variable (E:Env)
def wpW (mutb:Bool)(ops:Array Oper)(n:Nat)(K:Nat→S→Prop):List Oper→List (Bool × List Nat)→Nat→Tm→S→(Tm→S→Prop)→Prop
 | [],_,_,T,σ,k=>k T σ
 | _::_,[],_,_,_,_=>False
 | ⟨dst,op,_,_,_,none⟩::l,(s,ms)::ws,c,T,σ,k=>V1 (opT E mutb T σ op) fun p=>AllM K (fun σ'=>jbs E (jaL E T) σ' op=some p.1) ms∧(s=true→K (c+1) p.2) ∧
  (match dst with
   | none=>wpW mutb ops n K l ws (if s then c+1 else c) T p.2 k
   | some d=>d<n∧wpW mutb ops n K l ws (if s then c+1 else c) (upd T d p.1) p.2 k)
 | ⟨some d,op,_,_,_,some (j,b)⟩::l,(s,ms)::ws,c,T,σ,k=>V1 ((ops[j]?).bind (·.dst)) fun dj=>d<n∧wpB (T dj) b
   (V1 (opT E mutb T σ op) fun p=>AllM K (fun σ'=>jbs E (jaL E T) σ' op=some p.1) ms∧(s=true→K (c+1) p.2)∧wpW mutb ops n K l ws (if s then c+1 else c) (upd T d p.1) p.2 k)
   ((s=true→K (c+1) σ)∧wpW mutb ops n K l ws (if s then c+1 else c) (upd T d (.tup [])) σ k)
 | ⟨none,op,_,_,_,some (j,b)⟩::l,(s,ms)::ws,c,T,σ,k=>V1 ((ops[j]?).bind (·.dst)) fun dj=>wpB (T dj) b
   (V1 (opT E mutb T σ op) fun p=>AllM K (fun σ'=>jbs E (jaL E T) σ' op=some p.1) ms∧(s=true→K (c+1) p.2)∧wpW mutb ops n K l ws (if s then c+1 else c) T p.2 k)
   ((s=true→K (c+1) σ)∧wpW mutb ops n K l ws (if s then c+1 else c) T σ k)
def jrM (ops:Array Oper)(mutb:Bool)(K:Nat→S→Prop)(o:Oper)(ms:List Nat)(t:List V)(v:V)(σ0:Option S):Prop :=
 Region.wanted o (jaC ops t)=false∨∃ (s0 s1:S),σ0=some s0∧opV E (ev E) mutb t s0 o.op=some (v,s1)∧AllM K (fun σ'=>jbs E (ja7 E t) σ' o.op=some v) ms
theorem jjr {mutb:Bool}{n:Nat}{ops:Array Oper}{K:Nat→S→Prop}:∀ (l:List Oper) (ws:List (Bool × List Nat)) (c:Nat) {T:Tm} {tmps:List V} {σ:S} {k:Tm→S→Prop},(∀ (j:Nat) (o:Oper) (w:Bool × List Nat),l[j]? = some o→ws[j]? = some w→w.1=scOp E o.op)→Rep n T tmps→wpW E mutb ops n K l ws c T σ k →
  ∃ (tr:List (List V × V)) (ss:List S) (tf:List V) (σf:S) (T':Tm),dRun E (ev E) mutb ops l tmps σ=some (tr,ss,tf,σf)∧Rep n T' tf∧k T' σf∧(∀ (i:Nat) (s:S),ss[i]? = some s→K (c+i+1) s) ∧
   ∀ (j:Nat) (o:Oper),l[j]? = some o→∃ (t:List V) (v:V) (w:Bool × List Nat),tr[j]? = some (t,v)∧ws[j]? = some w∧jrM E ops mutb K o w.2 t v (σ::ss)[cntO E l j]?
 | [],ws,c,T,tmps,σ,k,hs,h,hw=>⟨[],[],tmps,σ,T,rfl,h,hw,fun i s hs=>by simp at hs,fun j o hj=>by simp at hj⟩
 | o::l,[],c,T,tmps,σ,k,hs,h,hw=>hw.elim
 | o::l,(s,ms)::ws,c,T,tmps,σ,k,hs,h,hw=>by
  have hs0:s=scOp E o.op:=hs 0 o (s,ms) rfl rfl
  have key:∃ v σ1 T1,(if Region.wanted o (jaC ops tmps) then opV E (ev E) mutb tmps σ o.op else some (.tup [],σ))=some (v,σ1)∧(s=true→K (c+1) σ1)∧Rep n T1 (putT tmps o.dst v)∧wpW E mutb ops n K l ws (if s then c+1 else c) T1 σ1 k∧jrM E ops mutb K o ms tmps v (some σ):=by
   obtain ⟨dst,op,t,p,a,g⟩:=o
   cases g with
   | none =>
    simp only [wpW] at hw
    obtain ⟨⟨v,σ1⟩,hop,hR,hK,hw⟩:=hw
    rw [jjo E h] at hop
    simp only at hK hR hw
    have hm:jrM E ops mutb K ⟨dst,op,t,p,a,none⟩ ms tmps v (some σ):=.inr ⟨σ,σ1,rfl,hop,by rw [h.eval]; exact hR⟩
    have hwant:Region.wanted ⟨dst,op,t,p,a,none⟩ (jaC ops tmps)=true:=rfl
    cases dst with
    | none=>exact ⟨v,σ1,T,by rw [Km hwant]; exact hop,hK,h,hw,hm⟩
    | some d=>exact ⟨v,σ1,_,by rw [Km hwant]; exact hop,hK,h.upd hw.1 v,hw.2,hm⟩
   | some jb =>
    obtain ⟨j,b⟩:=jb
    cases dst with
    | none =>
     simp only [wpW] at hw
     obtain ⟨dj,hdj,hw⟩:=hw
     have skip:(s=true→K (c+1) σ)∧wpW E mutb ops n K l ws (if s then c+1 else c) T σ k→Region.wanted ⟨none,op,t,p,a,some (j,b)⟩ (jaC ops tmps)=false →
       ∃ v σ1 T1,(if Region.wanted ⟨none,op,t,p,a,some (j,b)⟩ (jaC ops tmps) then opV E (ev E) mutb tmps σ op else some (.tup [],σ))=some (v,σ1)∧(s=true→K (c+1) σ1)∧Rep n T1 (putT tmps none v)∧wpW E mutb ops n K l ws (if s then c+1 else c) T1 σ1 k∧jrM E ops mutb K ⟨none,op,t,p,a,some (j,b)⟩ ms tmps v (some σ):=fun hs hn =>
      ⟨.tup [],σ,_,by rw [hn]; rfl,hs.1,h,hs.2,.inl hn⟩
     unfold wpB at hw
     split at hw
     ·rename_i htup
      refine skip hw ?_
      simp only [Region.wanted,jfh h hdj htup]
      rfl
     ·rename_i cc hc
      have hy:=jfg (ops:=ops) h hdj hc
      by_cases hcb:cc=b
      ·rw [Km hcb] at hw
       obtain ⟨⟨v,σ1⟩,hop,hR,hK,hw⟩:=hw
       rw [jjo E h] at hop
       simp only at hK hR hw
       have hwant:Region.wanted ⟨none,op,t,p,a,some (j,b)⟩ (jaC ops tmps)=true:=by
        simp only [Region.wanted,hy,hcb]; simp
       exact ⟨v,σ1,_,by rw [Km hwant]; exact hop,hK,h,hw,.inr ⟨σ,σ1,rfl,hop,by rw [h.eval]; exact hR⟩⟩
      ·rw [Kn hcb] at hw
       refine skip hw ?_
       simp only [Region.wanted,hy]
       simp [hcb]
     ·exact hw.elim
    | some d =>
     simp only [wpW] at hw
     obtain ⟨dj,hdj,hd,hw⟩:=hw
     have skip:(s=true→K (c+1) σ)∧wpW E mutb ops n K l ws (if s then c+1 else c) (upd T d (.tup [])) σ k→Region.wanted ⟨some d,op,t,p,a,some (j,b)⟩ (jaC ops tmps)=false →
       ∃ v σ1 T1,(if Region.wanted ⟨some d,op,t,p,a,some (j,b)⟩ (jaC ops tmps) then opV E (ev E) mutb tmps σ op else some (.tup [],σ))=some (v,σ1)∧(s=true→K (c+1) σ1)∧Rep n T1 (putT tmps (some d) v)∧wpW E mutb ops n K l ws (if s then c+1 else c) T1 σ1 k∧jrM E ops mutb K ⟨some d,op,t,p,a,some (j,b)⟩ ms tmps v (some σ):=fun hs hn =>
      ⟨.tup [],σ,_,by rw [hn]; rfl,hs.1,h.upd hd _,hs.2,.inl hn⟩
     unfold wpB at hw
     split at hw
     ·rename_i htup
      refine skip hw ?_
      simp only [Region.wanted,jfh h hdj htup]
      rfl
     ·rename_i cc hc
      have hy:=jfg (ops:=ops) h hdj hc
      by_cases hcb:cc=b
      ·rw [Km hcb] at hw
       obtain ⟨⟨v,σ1⟩,hop,hR,hK,hw⟩:=hw
       rw [jjo E h] at hop
       simp only at hK hR hw
       have hwant:Region.wanted ⟨some d,op,t,p,a,some (j,b)⟩ (jaC ops tmps)=true:=by
        simp only [Region.wanted,hy,hcb]; simp
       exact ⟨v,σ1,_,by rw [Km hwant]; exact hop,hK,h.upd hd v,hw,.inr ⟨σ,σ1,rfl,hop,by rw [h.eval]; exact hR⟩⟩
      ·rw [Kn hcb] at hw
       refine skip hw ?_
       simp only [Region.wanted,hy]
       simp [hcb]
     ·exact hw.elim
  obtain ⟨v,σ1,T1,hstep,hK,hr1,hw1,hm⟩:=key
  obtain ⟨tr,ss,tf,σf,T',h1,h2,h3,h4,h5⟩:=jjr l ws _ (fun j o w hj hw=>hs (j+1) o w (by simpa using hj) (by simpa using hw)) hr1 hw1
  refine ⟨(tmps,v)::tr,if scOp E o.op then σ1::ss else ss,tf,σf,T',by rw [jrL E hstep,h1],h2,h3,?_,?_⟩
  ·intro i x hx
   rw [← hs0] at hx
   cases s with
   | true =>
    simp only [Ks] at hx h4
    cases i with
    | zero =>
     simp only [Qs,Kg] at hx
     subst hx
     exact hK rfl
    | succ i =>
     simp only [Qg] at hx
     have:=h4 i x hx
     rwa [show c+1+i+1=c+(i+1)+1 by omega] at this
   | false =>
    simp only [Kl,Kr] at hx h4
    exact h4 i x hx
  ·intro j o' hj
   cases j with
   | zero =>
    simp only [Qs,Kg] at hj
    subst hj
    refine ⟨tmps,v,(s,ms),rfl,rfl,?_⟩
    have:cntO E (o::l) 0=0:=by simp [cntO]
    rw [this]
    exact hm
   | succ j =>
    simp only [Qg] at hj ⊢
    obtain ⟨t,v',w,a1,a2,a3⟩:=h5 j o' hj
    refine ⟨t,v',w,a1,a2,?_⟩
    rw [jdn]
    cases hsc:scOp E o.op with
    | true =>
     simp only [Ks]
     rw [Jx 1,Qg]
     exact a3
    | false =>
     have e:σ1=σ:=by
      split at hstep
      ·exact jjd hsc hstep
      ·simp only [Kg,Kh] at hstep; exact hstep.2.symm
     simp only [Kl,Kr,K8]
     rw [← e]
     exact a3
def jvP (ops:Array Oper)(masks:List Nat)(ws:List (Bool × List Nat)):Bool :=
 (List.range ops.size).all fun j=>match ops[j]?,ws[j]? with
  | some o,some w=>(w.1 == scOp E o.op) && (w.1 || !jbc o.op || jbq E o.op || (List.range (jaN E ops ops.size+1)).all fun m => !jeE E ops masks j m || m == jaN E ops j || w.2.contains m)
  | _,_=>false
theorem jrN (ops:Array Oper)(j:Nat):cntO E ops.toList j=jaN E ops j:=rfl
theorem jrO {fn:FuncId}{rnd:Option Nat}{id:Nat}{ops:Array Oper}{K:Nat→S→Prop}{ws:List (Bool × List Nat)}{n:Nat}{T:Tm}{tmps:List V}{dfs:List DE}{σ:S}{k:Tm→S→Prop}(hp:jdk E ops (jat [] ops.toList)=true)(hM:jvP E ops (jat [] ops.toList) ws=true)(hK:K 0 σ)
  (hr:Rep n T tmps) (hw:wpW E (E.mutb fn id) ops n K ops.toList ws 0 T σ k) :
  ∃ tf σf T',jbe E (ev E) fn rnd (.region id ops true) tmps dfs σ=some ⟨.normal,tf,dfs,σf⟩∧Rep n T' tf∧k T' σf:=by
 unfold jvP at hM
 rw [K2] at hM
 have hsc:∀ (j:Nat) (o:Oper) (w:Bool × List Nat),ops.toList[j]? = some o→ws[j]? = some w→w.1=scOp E o.op:=by
  intro j o w hj hw
  rw [Q7] at hj
  have hlt:j<ops.size:=by
   rcases Qf j ops.size with h | h
   ·exact h
   ·rw [Vd h] at hj; simp at hj
  have h6:=hM j (by simpa using hlt)
  simp only [hj,hw,K6,beq_iff_eq] at h6
  exact h6.1
 obtain ⟨tr,ss,tf,σf,T',h1,h2,h3,h4,h5⟩:=jjr E (ops:=ops) ops.toList ws 0 hsc hr hw
 refine ⟨tf,σf,T',?_,h2,h3⟩
 have hsl:ss.length=jaN E ops ops.size:=by
  have:=(jdN _ h1).2.1
  rw [this]; simp [jrN]
 have hc:jgo E ops (jat [] ops.toList) tr (σ::ss)=true:=by
  unfold jgo
  rw [K2]
  intro j hj0
  have hj:j<ops.size:=by simpa using hj0
  have hoj:ops[j]? = some ops[j]:=Jn hj
  have hoj2:ops.toList[j]? = some ops[j]:=by rw [Q7]; exact hoj
  obtain ⟨t,v,w,ht,hwj,hmade⟩:=h5 j ops[j] hoj2
  simp only [hoj,ht]
  by_cases hs:scOp E ops[j].op=true
  ·simp [hs]
  by_cases hpc:jbq E ops[j].op=true
  ·simp [hpc]
  rcases hmade with hun | ⟨s0,s1,he,hop,hrd⟩
  ·simp [hun]
  by_cases ha:(jbn E (ja7 E t) ops[j].op).isSome=true
  ·simp [ha]
  have ha':jbn E (ja7 E t) ops[j].op=none:=by simpa using ha
  have hread:=jiO (by simpa using hs) (by simpa using hpc) ha' hop
  have hreads:jbc ops[j].op=true:=by
   cases hx:jbc ops[j].op with
   | true=>rfl
   | false=>rw [jgd hx] at hread; simp at hread
  rw [Q0]
  right
  rw [K2]
  intro m hm
  have hm:m<(σ::ss).length:=by simpa using hm
  have hm2:m<jaN E ops ops.size+1:=by simp at hm; omega
  rw [K4 hm]
  cases hal:jeE E ops (jat [] ops.toList) j m with
  | false=>rfl
  | true =>
   have hgood:jbs E (ja7 E t) (σ::ss)[m] ops[j].op=some v:=by
    have h6:=hM j hj0
    have hw1:w.1=false:=by rw [hsc j _ w hoj2 hwj]; simpa using hs
    have hpc':jbq E ops[j].op=false:=by simpa using hpc
    simp only [hoj,hwj,hreads,hw1,hpc',Qq,Jc,K6,K2] at h6
    have h7:=h6.2 m (by simpa using hm2)
    rw [hal] at h7
    simp only [Qq,Jc,Q0,beq_iff_eq,List.contains_iff_mem] at h7
    rcases h7 with rfl | h7
    ·rw [jrN,K4 hm,Kg] at he
     rw [he]; exact hread
    ·refine hrd.mem m h7 _ ?_
     cases m with
     | zero=>exact hK
     | succ m =>
      simp only [Q9]
      have hms:m<ss.length:=by simp at hm; omega
      have:=h4 m _ (K4 hms)
      rwa [K8] at this
   simp only [hgood,V.beq_refl,Xv]
 simp only [jbe,hp,Ks,h1,hc]
end
section
variable {E:Env}{fn:FuncId}{rnd:Option Nat}{n:Nat}{Q:Post}{ks:List Kt}{m:Bool}{ops:Array Oper}{l:List Oper}{T:Tm}{D:List DE}{σ:S}{ws:List (Bool × List Nat)}{c:Nat}
def GW (E:Env)(fn:FuncId)(rnd:Option Nat)(n:Nat)(Q:Post)(ks:List Kt)(m:Bool)(K:Nat→S→Prop)(ops:Array Oper)(l:List Oper)(ws:List (Bool × List Nat))(c:Nat)(T:Tm)(D:List DE)(σ:S):Prop :=
 wpW E m ops n K l ws c T σ fun T σ=>(Kt.post E fn rnd n Q ks).norm T D σ
def GWS (E:Env)(fn:FuncId)(rnd:Option Nat)(n:Nat)(Q:Post)(ks:List Kt)(m:Bool)(K:Nat→S→Prop)(ops:Array Oper)(l:List Oper)(s:Bool)(ms:List Nat)(ws:List (Bool × List Nat))(c:Nat)(T:Tm)(D:List DE)(d:Option Nat)(op:Op)(o:Option (V × S)):Prop :=
 V1 o fun p=>AllM K (fun σ'=>jbs E (jaL E T) σ' op=some p.1) ms∧(s=true→K (c+1) p.2) ∧
  (match d with
   | none=>GW E fn rnd n Q ks m K ops l ws (if s then c+1 else c) T D p.2
   | some d=>d<n∧GW E fn rnd n Q ks m K ops l ws (if s then c+1 else c) (upd T d p.1) D p.2)
theorem jrP {id:Nat}{l:List Oper}(hs:E.stab fn id=true)(ws:List (Bool × List Nat))(K:Nat→S→Prop)(hK:K 0 σ)(hp:jdk E l.toArray (jat [] l)=true)(hM:jvP E l.toArray (jat [] l) ws=true)(h:GW E fn rnd n Q ks (E.mutb fn id) K l.toArray l ws 0 T D σ) :
  G E fn rnd n Q ks (.region id l.toArray true) T D σ:=by
 unfold G wpC
 simp only [hs]
 intro tmps hr
 obtain ⟨tf,σf,T',h1,h2,h3⟩:=jrO E (rnd:=rnd) (dfs:=D) hp hM hK hr h
 exact ⟨_,h1,T',h2,h3⟩
theorem jhh (K:Nat→S→Prop):GW E fn rnd n Q ks m K ops [] ws c T D σ=G E fn rnd n Q ks .skip T D σ:=by unfold GW wpW; rfl
theorem jlC (K:Nat→S→Prop)(d:Option Nat)(op:Op)(t:TypeId)(p:String)(a:Array Edge)(s:Bool)(ms:List Nat):GW E fn rnd n Q ks m K ops (⟨d,op,t,p,a,none⟩::l) ((s,ms)::ws) c T D σ=GWS E fn rnd n Q ks m K ops l s ms ws c T D d op (opT E m T σ op):=rfl
theorem jlD (K:Nat→S→Prop)(d:Nat)(op:Op)(v:V)(σ':S):GWS E fn rnd n Q ks m K ops l false [] ws c T D (some d) op (some (v,σ'))=(d<n∧GW E fn rnd n Q ks m K ops l ws c (upd T d v) D σ'):=by
 unfold GWS; rw [Yy]; simp [jdq]
theorem jhi (K:Nat→S→Prop)(op:Op)(v:V)(σ':S):GWS E fn rnd n Q ks m K ops l false [] ws c T D none op (some (v,σ'))=GW E fn rnd n Q ks m K ops l ws c T D σ':=by
 unfold GWS; rw [Yy]; simp [jdq]
theorem jlE (K:Nat→S→Prop)(d:Nat)(op:Op)(ms:List Nat)(v:V)(σ':S):GWS E fn rnd n Q ks m K ops l true ms ws c T D (some d) op (some (v,σ'))=(AllM K (fun σ'=>jbs E (jaL E T) σ' op=some v) ms∧K (c+1) σ'∧d<n∧GW E fn rnd n Q ks m K ops l ws (c+1) (upd T d v) D σ'):=by
 unfold GWS; rw [Yy]; simp
theorem jhj (K:Nat→S→Prop)(op:Op)(ms:List Nat)(v:V)(σ':S):GWS E fn rnd n Q ks m K ops l true ms ws c T D none op (some (v,σ'))=(AllM K (fun σ'=>jbs E (jaL E T) σ' op=some v) ms∧K (c+1) σ'∧GW E fn rnd n Q ks m K ops l ws (c+1) T D σ'):=by
 unfold GWS; rw [Yy]; simp
theorem jlF (K:Nat→S→Prop)(d:Nat)(op:Op)(m0:Nat)(ms:List Nat)(v:V)(σ':S):GWS E fn rnd n Q ks m K ops l false (m0::ms) ws c T D (some d) op (some (v,σ'))=(AllM K (fun σ'=>jbs E (jaL E T) σ' op=some v) (m0::ms)∧d<n∧GW E fn rnd n Q ks m K ops l ws c (upd T d v) D σ'):=by
 unfold GWS; rw [Yy]; simp
theorem jfl (K:Nat→S→Prop)(s:Bool)(ms:List Nat)(d:Option Nat)(op:Op)(x:Prop)[Decidable x](o:Option (V × S)):GWS E fn rnd n Q ks m K ops l s ms ws c T D d op (if x then o else none)=(x∧GWS E fn rnd n Q ks m K ops l s ms ws c T D d op o):=by simp only [GWS,jkD]
theorem jd4 (K:Nat→S→Prop)(s:Bool)(ms:List Nat)(d:Option Nat)(op:Op)(x:Prop)[Decidable x](o:Option (V × S)):GWS E fn rnd n Q ks m K ops l s ms ws c T D d op (if x then none else o)=(¬ x∧GWS E fn rnd n Q ks m K ops l s ms ws c T D d op o):=by simp only [GWS,jh1]
end
def Post.ofP (n:Nat)(Q:Post)(X:V→List V→List DE→S→Prop)(r:Res):Prop :=
 match r.ex with
 | .pan v=>X v r.vals r.dfs r.st
 | _=>Q.of n r
def wpP (E:Env)(fn:FuncId)(rnd:Option Nat)(n:Nat)(X:V→List V→List DE→S→Prop)(c:Code)(T:Tm)(D:List DE)(σ:S)(Q:Post):Prop :=
 ∀ tmps,Rep n T tmps→∃ r,jbe E (ev E) fn rnd c tmps D σ=some r∧Post.ofP n Q X r
def PanC (E:Env)(T:Tm)(op:Op)(σ:S)(K:V→S→Prop):Prop :=
 match op with
 | .call { callee:=.value g,args,.. }=>∃ f first captured as v σ',jaL E T g=some (.func f first captured)∧jbt (jaL E T) args.toList=some as∧E.pure f=false∧E.hook f=none∧E.frz f=false∧E.hookS f=none ∧
   ev E (.call f (first++as++captured) σ)=some ⟨.pan v,[],[],σ'⟩∧K v σ'
 | _=>False
def PanO (E:Env)(T:Tm)(op:Op)(σ:S)(K:V→S→Prop):Prop :=
 match op with
 | .panic x=>∃ t v,jaL E T x=some (.iface t v)∧K (.iface t v) σ
 | op=>PanC E T op σ K
section
variable {E:Env}{fn:FuncId}{rnd:Option Nat}{n:Nat}{X:V→List V→List DE→S→Prop}{T:Tm}{D:List DE}{σ:S}{Q:Post}
theorem juN {c:Code}(h:wpX E fn rnd n c T D σ Q):wpP E fn rnd n X c T D σ Q:=fun tmps hr=>by
 obtain ⟨r,h1,h2⟩:=h tmps hr
 refine ⟨r,h1,?_⟩
 obtain ⟨ex,vals,d,st⟩:=r
 cases ex with
 | pan v=>obtain ⟨_,_,h⟩:=h2; exact h.elim
 | normal=>exact h2
 | exit i=>exact h2
 | ret=>exact h2
theorem jqs {c:Code}(h:G E fn rnd n Q [] c T D σ):wpP E fn rnd n X c T D σ Q:=juN (jbC E fn rnd n c h)
theorem jgN {a b:Code}(h:wpP E fn rnd n X a T D σ ⟨fun T D σ=>wpP E fn rnd n X b T D σ Q,Q.exit,Q.ret⟩):wpP E fn rnd n X (.seq a b) T D σ Q:=fun tmps hr=>by
 obtain ⟨⟨ex,vals,d,st⟩,h1,hq⟩:=h tmps hr
 simp only [jbe,h1]
 cases ex with
 | normal =>
  obtain ⟨T1,hr1,hq⟩:=hq
  exact hq vals hr1
 | exit i=>exact ⟨_,rfl,hq⟩
 | ret=>exact ⟨_,rfl,hq⟩
 | pan _=>exact ⟨_,rfl,hq⟩
theorem jo6 {t:Nat}{x y:Code}{b:Bool}(hT:T t=.bool b)(h:wpP E fn rnd n X (if b then x else y) T D σ Q):wpP E fn rnd n X (.cond (.tmp t) x y) T D σ Q:=fun tmps hr=>by
 simp only [jbe,hr.eval,jaL,hT]
 cases b with
 | true=>exact h tmps hr
 | false=>exact h tmps hr
theorem jrQ {id:Nat}{c:Code}(h:wpP E fn rnd n X c T D σ ⟨Q.norm,fun i T D σ=>if i=id then Q.norm T D σ else Q.exit i T D σ,Q.ret⟩):wpP E fn rnd n X (.block id c) T D σ Q:=fun tmps hr=>by
 obtain ⟨⟨ex,vals,d,st⟩,h1,hq⟩:=h tmps hr
 simp only [jbe,h1]
 cases ex with
 | normal=>exact ⟨_,rfl,hq⟩
 | exit i =>
  refine ⟨_,rfl,?_⟩
  obtain ⟨T1,hr1,hq⟩:=hq
  simp only at hq
  by_cases e:i=id
  ·simp only [e,Ks] at hq ⊢; exact ⟨T1,hr1,hq⟩
  ·simp only [e,Kr] at hq ⊢; exact ⟨T1,hr1,hq⟩
 | ret=>exact ⟨_,rfl,hq⟩
 | pan _=>exact ⟨_,rfl,hq⟩
theorem jtx {c:Code}(I:Nat→Tm→List DE→S→Prop)(h:∀ m T D σ,I m T D σ→wpP E fn rnd n X c T D σ ⟨fun T D σ=>∃ m',m'<m∧I m' T D σ,Q.exit,Q.ret⟩):∀ m T D σ,I m T D σ→wpP E fn rnd n X (.loop c) T D σ Q:=by
 have key:∀ m T D σ,I m T D σ→∀ tmps,Rep n T tmps→∃ r,ev E (.loop fn rnd c tmps D σ)=some r∧Post.ofP n Q X r:=by
  intro m
  induction m using Nat.strongRecOn with
  | ind m ih =>
   intro T D σ hI tmps hr
   obtain ⟨⟨ex,vals,d,st⟩,h1,hq⟩:=h m T D σ hI tmps hr
   cases ex with
   | normal =>
    obtain ⟨T1,hr1,m',hm,hI'⟩:=hq
    obtain ⟨r,h2,h3⟩:=ih m' hm T1 d st hI' vals hr1
    exact ⟨r,jb6 (by simp only [jcF,h1]; exact h2),h3⟩
   | exit i=>exact ⟨⟨.exit i,vals,d,st⟩,jb6 (by simp only [jcF,h1]),hq⟩
   | ret=>exact ⟨⟨.ret,vals,d,st⟩,jb6 (by simp only [jcF,h1]),hq⟩
   | pan x=>exact ⟨⟨.pan x,vals,d,st⟩,jb6 (by simp only [jcF,h1]),hq⟩
 intro m T D σ hI tmps hr
 exact key m T D σ hI tmps hr
theorem PanO.opP {op:Op}{K:V→S→Prop}{tmps:List V}(hr:Rep n T tmps)(h:PanO E T op σ K):∃ v σ',opP E (ev E) tmps σ op=some (v,σ')∧K v σ':=by
 unfold PanO at h
 split at h
 ·obtain ⟨t,v,h1,h2⟩:=h
  exact ⟨_,_,by simp only [Go.Ab.opP,hr.eval,h1],h2⟩
 ·unfold PanC at h
  split at h
  ·obtain ⟨f,first,captured,as,v,σ',h1,h2,h3,h4,h5,h6,h7,h8⟩:=h
   exact ⟨v,σ',by simp only [Go.Ab.opP,hr.eval,h1,h2,jhN,h3,h4,h5,h6,h7,Xf,Kl,Kr],h8⟩
  ·exact h.elim
theorem jh4 {rec:Task→Option Res}{mutb:Bool}{ops:Array Oper}:∀ (pre:List Oper) (l:List Oper) {tmps t':List V} {σ σ':S},jdP E rec mutb ops pre tmps σ=some (t',σ')→∀ rc dfs,jb7 E rec rnd mutb ops (pre++l) rc tmps dfs σ=jb7 E rec rnd mutb ops l rc t' dfs σ'
 | [],l,tmps,t',σ,σ',h,rc,dfs=>by
  simp only [jdP,Kg,Kh] at h
  obtain ⟨rfl,rfl⟩:=h; rfl
 | o::pre,l,tmps,t',σ,σ',h,rc,dfs=>by
  simp only [jdP] at h
  simp only [J8,jb7]
  split at h
  ·rename_i hw
   rw [Km hw]
   split at h
   ·rename_i v σ1 hop
    exact jh4 pre l h rc dfs
   ·simp at h
  ·rename_i hw
   rw [Kn hw]
   exact jh4 pre l h rc dfs
theorem jiT {id:Nat}{l:List Oper}(k:Nat)(pre:List Oper)(o:Oper)(hpre:l.take k=pre)(ho:l[k]? = some o)(hg:o.guard=none)
  (h:GL E fn rnd n ⟨fun T' _ σ'=>PanO E T' o.op σ' fun v σ''=>∀ vals,Rep n T' vals→X v vals D σ'',fun _ _ _ _=>False,fun _ _ _=>False⟩ [] (E.mutb fn id) l.toArray pre T D σ) :
  wpP E fn rnd n X (.region id l.toArray false) T D σ Q:=fun tmps hr=>by
 subst hpre
 obtain ⟨tmps',σ',T',h1,h2,h3⟩:=jbX E (l.take k) hr h
 have h3':PanO E T' o.op σ' fun v σ''=>∀ vals,Rep n T' vals→X v vals D σ'':=h3
 obtain ⟨v,σ'',h4,h5⟩:=h3'.opP h2
 have hl:l=l.take k++o::l.drop (k+1):=by
  have hk:k<l.length:=by
   rcases Qf k l.length with h | h
   ·exact h
   ·rw [K9 h] at ho; cases ho
  have e:l[k]=o:=by rw [K4 hk] at ho; exact Option.some.inj ho
  rw [← e,← Q6 hk,J4]
 refine ⟨⟨.pan v,tmps',D,σ''⟩,?_,h5 _ h2⟩
 rw [jd2]
 have hx:=jh4 (rnd:=rnd) (l.take k) (o::l.drop (k+1)) h1 none D
 rw [← hl] at hx
 rw [hx]
 have hw:Region.wanted o (jaC l.toArray tmps')=true:=by simp [Region.wanted,hg]
 simp only [jb7,hw,Ks,jcj h4,h4]
 rfl
def winP (E:Env)(ops:Array Oper)(masks:List Nat)(J:Nat)(ws:List (Bool × List Nat)):Bool :=
 (List.range J).all fun j=>match ops[j]?,ws[j]? with
  | some o,some w=>(w.1 == scOp E o.op) && (w.1 || !jbc o.op || jbq E o.op || (List.range (jaN E ops J+1)).all fun m => !jeE E ops masks j m || m == jaN E ops j || w.2.contains m)
  | _,_=>false
theorem jo7 {rec:Task→Option Res}{mutb:Bool}{ops:Array Oper}:∀ (pre:List Oper) {o:Oper} {l:List Oper} {tmps tf:List V} {σ σf σx:S} {tr:List (List V × V)} {ss:List S} {x:V},dRun E rec mutb ops pre tmps σ=some (tr,ss,tf,σf) →
  Region.wanted o (jaC ops tf)=true→opP E rec tf σf o.op=some (x,σx)→jfy E rec mutb ops (pre++o::l) tmps σ=some (tr,ss,tf,σf,x,σx)∧dRun E rec mutb ops (pre++o::l) tmps σ=none
 | [],o,l,tmps,tf,σ,σf,σx,tr,ss,x,h,hw,hop=>by
  simp only [dRun,Kg,Kh] at h
  obtain ⟨rfl,rfl,rfl,rfl⟩:=h
  simp only [J2,jfy,dRun,hw,Ks,jcj hop,hop,and_self]
 | p::pre,o,l,tmps,tf,σ,σf,σx,tr,ss,x,h,hw,hop=>by
  simp only [dRun] at h
  simp only [J8,jfy,dRun]
  split at h
  ·rename_i v σ1 h1
   split at h
   ·rename_i tr1 ss1 tf1 σf1 h2
    simp only [Kg,Kh] at h
    obtain ⟨rfl,rfl,rfl,rfl⟩:=h
    obtain ⟨a1,a2⟩:=jo7 pre (l:=l) h2 hw hop
    rw [a1,a2]
    exact ⟨rfl,rfl⟩
   ·simp at h
  ·simp at h
theorem jlG {id:Nat}{l:List Oper}(J:Nat)(pre:List Oper)(o:Oper)(ws:List (Bool × List Nat))(K:Nat→S→Prop)(hpre:l.take J=pre)(ho:l[J]? = some o)(hg:o.guard=none)(hK:K 0 σ)
  (hp:jdk E l.toArray (jat [] l)=true) (hM:winP E l.toArray (jat [] l) J ws=true) (hpan:jvv E l.toArray (jat [] l) J=true) (hres:jlX (jeN l n) (jqZ E fn)=true) (hwl:ws.length=J)
  (h:GW E fn rnd n ⟨fun T' _ σ'=>PanO E T' o.op σ' fun v σ''=>∀ vals,Rep n T vals→X v (vals.take (jeN l n)) D σ'',fun _ _ _ _=>False,fun _ _ _=>False⟩ [] (E.mutb fn id) K l.toArray pre ws 0 T D σ) :
  wpP E fn rnd n X (.region id l.toArray true) T D σ Q:=fun tmps hr=>by
 subst hpre
 have hJl:J<l.length:=by
  rcases Qf J l.length with h | h
  ·exact h
  ·rw [K9 h] at ho; cases ho
 unfold winP at hM
 rw [K2] at hM
 have hsc:∀ (j:Nat) (o:Oper) (w:Bool × List Nat),(l.take J)[j]? = some o→ws[j]? = some w→w.1=scOp E o.op:=by
  intro j o w hj hw
  have hlt:j<J:=by
   rcases Qf j J with h | h
   ·exact h
   ·rw [K9 (by rw [hwl]; exact h)] at hw; cases hw
  rw [J6 hlt] at hj
  have h6:=hM j (by simpa using hlt)
  simp only [Jg,hj,hw,K6,beq_iff_eq] at h6
  exact h6.1
 obtain ⟨tr,ss,tf,σf,T',h1,h2,h3,h4,h5⟩:=jjr E (ops:=l.toArray) (l.take J) ws 0 hsc hr h
 have h3':PanO E T' o.op σf fun v σ''=>∀ vals,Rep n T vals→X v (vals.take (jeN l n)) D σ'':=h3
 obtain ⟨v,σ'',h7,h8⟩:=h3'.opP h2
 have hl:l=l.take J++o::l.drop (J+1):=by
  have e:l[J]=o:=by rw [K4 hJl] at ho; exact Option.some.inj ho
  rw [← e,← Q6 hJl,J4]
 have hw:Region.wanted o (jaC l.toArray tf)=true:=by simp [Region.wanted,hg]
 obtain ⟨a1,a2⟩:=jo7 (l.take J) (l:=l.drop (J+1)) h1 hw h7
 rw [← hl] at a1 a2
 have hlen:(l.take J).length=J:=by rw [K7]; omega
 obtain ⟨htl,hsl,_⟩:=jdN _ h1
 rw [hlen] at htl hsl
 have hcnt:∀ j,j≤J→cntO E (l.take J) j=jaN E l.toArray j:=fun j hj=>by
  unfold cntO jaN; rw [Vj,Js hj]
 rw [hcnt J (Ky _)] at hsl
 have hck:jlg E l.toArray (jat [] l) J tr (σ::ss)=true:=by
  unfold jlg
  rw [K2]
  intro j hj0
  have hj:j<J:=by simpa using hj0
  have hjl:j<l.length:=by omega
  have hoj:l.toArray[j]? = some l[j]:=by simp [hjl]
  have hoj2:(l.take J)[j]? = some l[j]:=by rw [J6 hj]; simp [hjl]
  obtain ⟨t,v,w,ht,hwj,hmade⟩:=h5 j l[j] hoj2
  simp only [hoj,ht]
  by_cases hs:scOp E l[j].op=true
  ·simp [hs]
  by_cases hpc:jbq E l[j].op=true
  ·simp [hpc]
  rcases hmade with hun | ⟨s0,s1,he,hop,hrd⟩
  ·simp [hun]
  by_cases ha:(jbn E (ja7 E t) l[j].op).isSome=true
  ·simp [ha]
  have ha':jbn E (ja7 E t) l[j].op=none:=by simpa using ha
  have hread:=jiO (by simpa using hs) (by simpa using hpc) ha' hop
  have hreads:jbc l[j].op=true:=by
   cases hx:jbc l[j].op with
   | true=>rfl
   | false=>rw [jgd hx] at hread; simp at hread
  rw [Q0]
  right
  rw [K2]
  intro m hm
  have hm:m<(σ::ss).length:=by simpa using hm
  have hm2:m<jaN E l.toArray J+1:=by simp at hm; omega
  rw [K4 hm]
  cases hal:jeE E l.toArray (jat [] l) j m with
  | false=>rfl
  | true =>
   have hgood:jbs E (ja7 E t) (σ::ss)[m] l[j].op=some v:=by
    have h6:=hM j hj0
    have hw1:w.1=false:=by rw [hsc j _ w hoj2 hwj]; simpa using hs
    have hpc':jbq E l[j].op=false:=by simpa using hpc
    simp only [hoj,hwj,hreads,hw1,hpc',Qq,Jc,K6,K2] at h6
    have h7:=h6.2 m (by simpa using hm2)
    rw [hal] at h7
    simp only [Qq,Jc,Q0,beq_iff_eq,List.contains_iff_mem] at h7
    rcases h7 with rfl | h7
    ·rw [hcnt j (by omega),K4 hm,Kg] at he
     rw [he]; exact hread
    ·refine hrd.mem m h7 _ ?_
     cases m with
     | zero=>exact hK
     | succ m =>
      simp only [Q9]
      have hms:m<ss.length:=by simp at hm; omega
      have:=h4 m _ (K4 hms)
      rwa [K8] at this
   simp only [hgood,V.beq_refl,Xv]
 refine ⟨⟨.pan v,tmps.take (jeN l n),D,σ''⟩,?_,h8 tmps hr⟩
 have hn:tmps.length=n:=hr.1
 simp only [jbe,hp,Ks,a2,dPan,a1,htl,hpan,hck,hn,hres,Bool.and_self,Kw]
def EndD (E:Env)(g:FuncId)(caps:List V)(rs:List ResultVar)(k:V→S→Prop)(T:Tm)(D:List DE)(σ:S):Prop :=
 D=[.call g caps]∧∃ σ',ev E (.dcall g caps none σ)=some ⟨.ret,[.bool false],[],σ'⟩∧V1 (resT E T σ'.heap rs) fun vs=>k (jaZ vs) σ'
def jw3 (E:Env)(g:FuncId)(caps:List V)(rs:List ResultVar)(k:V→S→Prop)(v:V)(vals:List V)(D:List DE)(σ:S):Prop :=
 D=[.call g caps]∧∃ σ',ev E (.dcall g caps (some v) σ)=some ⟨.ret,[.bool true],[],σ'⟩∧V1 (resV E vals σ'.heap rs) fun vs=>k (jaZ vs) σ'
theorem jw4 {f g:FuncId}{args caps:List V}{σ:S}{k:V→S→Prop}{F:Go.Func}{body:Code}(hf:E.P.funcs[f]? = some F)(hb:F.body=some body)(hn:F.name ≠ "runtime.NumGoroutine")(hl:args.length≤F.ntmps)
  (hw:wpP E f none F.ntmps (jw3 E g caps F.results.toList k) body (argT args) [] σ ⟨EndD E g caps F.results.toList k,fun _ _ _ _=>False,EndD E g caps F.results.toList k⟩) :
  ∃ v σ',ev E (.call f args σ)=some ⟨.ret,[v],[],σ'⟩∧k v σ':=by
 obtain ⟨⟨ex,vals,d,st⟩,h1,hq⟩:=hw _ (Rep.args args F.ntmps hl)
 have key:∀ T1,Rep F.ntmps T1 vals→EndD E g caps F.results.toList k T1 d st→(∀ i,ex ≠ .exit i)→(∀ v,ex ≠ .pan v)→∃ v σ',ev E (.call f args σ)=some ⟨.ret,[v],[],σ'⟩∧k v σ':=by
  intro T1 hr1 ⟨hD,σ',hd,vs,hvs,hk⟩ hne hnp
  subst hD
  refine ⟨jaZ vs,σ',jb6 ?_,hk⟩
  rw [← hr1.res] at hvs
  have ht:jbG st.heap [DE.call g caps]=none:=rfl
  have hu:jce (ev E) none [DE.call g caps] st=some (none,σ'):=by simp only [jce,hd,Kl,Kr]
  simp only [jcF,hf,hb,hn,Kr,h1]
  cases ex with
  | exit i=>exact absurd rfl (hne i)
  | pan v=>exact absurd rfl (hnp v)
  | normal=>simp only [ht,finD,hu,hvs]
  | ret=>simp only [ht,finD,hu,hvs]
 cases ex with
 | normal=>obtain ⟨T1,hr1,h⟩:=hq; exact key T1 hr1 h (fun i h=>by cases h) fun i h=>by cases h
 | exit i=>obtain ⟨_,_,h⟩:=hq; exact h.elim
 | ret=>obtain ⟨T1,hr1,h⟩:=hq; exact key T1 hr1 h (fun i h=>by cases h) fun i h=>by cases h
 | pan v =>
  obtain ⟨hD,σ',hd,vs,hvs,hk⟩:=hq
  simp only at hD hd hvs
  subst hD
  refine ⟨jaZ vs,σ',jb6 ?_,hk⟩
  have hu:jce (ev E) (some v) [DE.call g caps] st=some (none,σ'):=by simp only [jce,hd,Ks]
  simp only [jcF,hf,hb,hn,Kr,h1,finD,hu,hvs]
theorem jo8 {g:FuncId}{args:List V}{pv:Option V}{σ σ1 σ':S}{F:Go.Func}{id:Nat}{ops:Array Oper}{rest:Code}{rc:Option (Option V)}{tmps1:List V}{T1:Tm}(hf:E.P.funcs[g]? = some F)(hb:F.body=some (.seq (.region id ops false) rest))(hn:F.name ≠ "runtime.NumGoroutine")
  (hX:jdg E (ev E) none (E.mutb g id) ops (List.range ops.size) (some pv) (args++List.replicate (F.ntmps - args.length) (.tup [])) [] σ=some ⟨none,rc,tmps1,[],σ1⟩) (hr:Rep F.ntmps T1 tmps1) (hres:F.results.toList=[])
  (hG:G E g none F.ntmps ⟨fun _ D σ''=>D=[]∧σ''=σ',fun _ _ _ _=>False,fun _ D σ''=>D=[]∧σ''=σ'⟩ [] rest T1 [] σ1) :
  ev E (.dcall g args pv σ)=some ⟨.ret,[.bool (gotV rc pv)],[],σ'⟩:=by
 obtain ⟨⟨ex,vals,d,st⟩,h1,T2,hr2,hq⟩:=jbC E g none F.ntmps rest hG _ hr
 refine jb6 ?_
 have hx:jb0 E (ev E) g (.seq (.region id ops false) rest) pv (args++List.replicate (F.ntmps - args.length) (.tup [])) σ=some (gotV rc pv,⟨ex,vals,d,st⟩):=by
  simp only [jb0,hX,h1]
 cases ex with
 | exit i=>exact hq.elim
 | pan v=>exact hq.elim
 | normal =>
  obtain ⟨rfl,rfl⟩:=hq
  simp only [jcF,hf,hb,hn,Kr,hx,jbG,hres,resV]
 | ret =>
  obtain ⟨rfl,rfl⟩:=hq
  simp only [jcF,hf,hb,hn,Kr,hx,jbG,hres,resV]
end
def jiD:V→Option Nat
 | .hsl b _ _ _ _=>some b
 | _=>none
def StkV (h:List AObj)(t:TypeId)(w:Nat)(v:V)(n:Nat)(xs:List V):Prop :=
 xs.length=n * w∧((v=.nilsl∧n=0)∨∃ b cap cs,v=.hsl b 0 n cap (.grow w)∧h[b]? = some (.cells cs t)∧n≤cap∧cap * w≤cs.length∧cs.take (n * w)=xs)
theorem StkV.nil (h:List AObj)(t:TypeId)(w:Nat):StkV h t w .nilsl 0 []:=⟨by simp,.inl ⟨rfl,rfl⟩⟩
theorem StkV.move {h h':List AObj}{t:TypeId}{w n:Nat}{v:V}{xs:List V}(s:StkV h t w v n xs)(hq:∀ b,jiD v=some b→h'[b]? = h[b]?):StkV h' t w v n xs:=by
 obtain ⟨hl,⟨rfl,rfl⟩ | ⟨b,cap,cs,rfl,hb,h1,h2,h3⟩⟩:=s
 ·exact ⟨hl,.inl ⟨rfl,rfl⟩⟩
 ·exact ⟨hl,.inr ⟨b,cap,cs,rfl,by rw [hq b rfl]; exact hb,h1,h2,h3⟩⟩
theorem StkV.lt {h:List AObj}{t:TypeId}{w n:Nat}{v:V}{xs:List V}(s:StkV h t w v n xs){b:Nat}(hb:jiD v=some b):b<h.length:=by
 obtain ⟨hl,⟨rfl,rfl⟩ | ⟨b',cap,cs,rfl,hb',h1,h2,h3⟩⟩:=s
 ·simp [jiD] at hb
 ·simp only [jiD,Kg] at hb
  subst hb
  exact (Kz.1 hb').1
theorem StkV.cells {h:List AObj}{t:TypeId}{w n:Nat}{v:V}{xs:List V}(s:StkV h t w v n xs):v.cells=[v]∧v.isCell=true:=by
 obtain ⟨hl,⟨rfl,rfl⟩ | ⟨b',cap,cs,rfl,hb',h1,h2,h3⟩⟩:=s <;> exact ⟨rfl,rfl⟩
theorem StkV.len {h:List AObj}{t:TypeId}{w n:Nat}{v:V}{xs:List V}(s:StkV h t w v n xs)(e:TypeId):jec (some (.slice e)) v=some (.int .i64 n):=by
 obtain ⟨hl,⟨rfl,rfl⟩ | ⟨b',cap,cs,rfl,hb',h1,h2,h3⟩⟩:=s <;> rfl
theorem StkV.push {E:Env}{L:List AObj}{ts:List Nat}{t ty ty2:TypeId}{w n nb:Nat}{v y:V}{xs new:List V}(s:StkV L t w v n xs)(he:jfw E ty=some t)(hs:sz E t=some w)(hz:jj8 E t=some w)(hb:bys E t=some nb)(hu:∃ e2,E.P.underlying ty2=some (.slice e2))
  (hw:0<w) (hlim:(n+1) * nb≤lim∧n+1≤lim) (hy:vLen y=some 1) (hc:jby L w 1 y=some new) (hnl:new.length=w) (hcell:new.all V.isCell=true) :
  ∃ v' L',appO E true ⟨L,ts⟩ ty ty2 v y=some (v',⟨L',ts⟩)∧StkV L' t w v' (n+1) (xs++new)∧(∀ q,q<L.length→jiD v ≠ some q→L'[q]? = L[q]?)∧L.length≤L'.length∧(jiD v'=jiD v∨jiD v'=some L.length):=by
 obtain ⟨e2,hu⟩:=hu
 obtain ⟨hl,hcase⟩:=s
 have hlen:(xs++new).length=(n+1) * w:=by rw [Ku,hl,hnl,Ja,Vc]
 unfold appO
 simp only [he,hs,hb,hu,hz,hy,hc,Kk,Ks]
 rcases hcase with ⟨rfl,rfl⟩ | ⟨b,cap,cs,rfl,hbk,h1,h2,h3⟩
 ·have hx:xs=[]:=Qh (by simpa using hl)
  subst hx
  refine ⟨.hsl L.length 0 1 1 (.grow w),L++[.cells new t],?_,⟨hlen,.inr ⟨L.length,1,new,rfl,by simp,by omega,by omega,?_⟩⟩,fun q hq _=>by rw [K0 hq],by simp,.inr rfl⟩
  ·have h1:(1:Nat) * nb≤lim∧1≤lim:=by simpa using hlim
   simp [jbN,S.push,by simpa using h1]
  ·rw [J2]; exact Qj (by simp [hnl])
 ·have hblt:=(Kz.1 hbk).1
  by_cases hfit:n+1≤cap
  ·have hn1:(n+1) * w≤cap * w:=Qi w hfit
   have hn2:n * w+w≤cs.length:=by rw [Ja,Vc] at hn1; omega
   refine ⟨.hsl b 0 (n+1) cap (.grow w),L.set b (.cells (jab cs (n * w) new) t),?_,⟨hlen,.inr ⟨b,cap,jab cs (n * w) new,rfl,by simp [hblt],hfit,?_,?_⟩⟩,fun q hq hne=>by rw [Ki (fun e=>hne (by simp [jiD,e]))],by simp,.inl rfl⟩
   ·simp [jbN,hfit,jbv,hbk,hnl,hn2,hcell,S.set]
   ·simp only [jab,Ku,K7,Qm,hnl]; omega
   ·rw [jab,h3,Ja,Vc]
    have:(xs++new).length=n * w+w:=by rw [Ku,hl,hnl]
    rw [Vg (by omega)]
    exact Qj (by omega)
  ·have hcl:n * w≤cs.length:=by
    have:n * w≤cap * w:=Qi w h1
    omega
   refine ⟨.hsl L.length 0 (n+1) (n+1) (.grow w),(L.set b .dead)++[.cells (cs.take (n * w)++new) t],?_,⟨hlen,.inr ⟨L.length,n+1,cs.take (n * w)++new,rfl,by simp,Ky _,?_,?_⟩⟩,fun q hq hne => ?_,by simp,.inr rfl⟩
   ·simp [jbN,hfit,hbk,hcl,hlim,hcell,S.push,S.set]
   ·rw [h3,hlen]; exact Ky _
   ·rw [h3]; exact Qj (by omega)
   ·rw [K0 (by simpa using hq),Ki (fun e=>hne (by simp [jiD,e]))]
theorem StkV.cut {E:Env}{h:List AObj}{t ty:TypeId}{w n:Nat}{v:V}{xs:List V}(s:StkV h t w v n xs)(hu:E.P.underlying ty=some (.slice t))(hs:sz E t=some w)(k:Nat)(hk:k≤n)(lo:Option V)(hlo:lo=none∨lo=some (.int .i64 0)) :
  ∃ v',jbT E ty v lo (some (.int .i64 k)) none=some v'∧StkV h t w v' k (xs.take (k * w))∧jiD v'=jiD v:=by
 obtain ⟨hl,hcase⟩:=s
 have hkw:k * w≤n * w:=Qi w hk
 have hlen:(xs.take (k * w)).length=k * w:=by rw [K7]; omega
 have hlo2:∀ m,jbi lo 0 m=some 0:=by
  intro m
  rcases hlo with rfl | rfl <;> simp [jbi]
 rcases hcase with ⟨rfl,rfl⟩ | ⟨b,cap,cs,rfl,hbk,h1,h2,h3⟩
 ·have:k=0:=by omega
  subst this
  exact ⟨.nilsl,by rcases hlo with rfl | rfl <;> simp [jbT,hu,hs,jcG,jbi],⟨hlen,.inl ⟨rfl,rfl⟩⟩,rfl⟩
 ·refine ⟨.hsl b 0 k cap (.grow w),?_,⟨hlen,.inr ⟨b,cap,cs,rfl,hbk,by omega,h2,?_⟩⟩,rfl⟩
  ·have h5:((k:Nat):Int)≤(cap:Int):=by omega
   rcases hlo with rfl | rfl <;> simp [jbT,hu,hs,jcG,jbi,h5,HCap.cut]
  ·rw [← h3,Vj,Js hkw]
def RdS (h:List AObj)(w:Nat)(u:V)(n:Nat)(xs:List V):Prop :=
 xs.length=n * w∧(∀ e,jec (some (.slice e)) u=some (.int .i64 n))∧vLen u=some n∧∀ i,i<n→∃ p,jaJ w u (.int .i64 i)=some p∧jai h w p=some ((xs.drop (i * w)).take w)
theorem RdS.row (h:List AObj)(w:Nat)(xs:List V)(n:Nat)(c:RCap)(hl:xs.length=n * w):RdS h w (.row xs n c) n xs:=by
 refine ⟨hl,fun e=>rfl,rfl,fun i hi=>⟨.rptr (xs.drop (i * w)),?_,?_⟩⟩
 ·have h1:(i:Int)<(n:Int):=by omega
  simp [jaJ,hi]
 ·have:(i+1) * w≤n * w:=Qi w hi
  rw [Ja,Vc] at this
  simp only [jai,Qm]
  rw [Km (by omega)]
theorem RdS.nil (h:List AObj)(w:Nat):RdS h w .nilsl 0 []:=⟨by simp,fun e=>rfl,rfl,fun i hi=>by omega⟩
theorem RdS.hsl {h:List AObj}{w b off n cap:Nat}{ex:HCap}{cs:List V}{t:TypeId}(hb:h[b]? = some (.cells cs t))(hl:off+n * w≤cs.length):RdS h w (.hsl b off n cap ex) n ((cs.drop off).take (n * w)):=by
 refine ⟨by rw [K7,Qm]; omega,fun e=>rfl,rfl,fun i hi=>⟨.ptr b (off+i * w),?_,?_⟩⟩
 ·simp [jaJ,hi]
 ·have:(i+1) * w≤n * w:=Qi w hi
  rw [Ja,Vc] at this
  simp only [jai,hb]
  rw [Km (by omega),List.drop_take,Vj,Xi,Js (by omega)]
theorem StkV.rd {h:List AObj}{t:TypeId}{w n:Nat}{v:V}{xs:List V}(s:StkV h t w v n xs):RdS h w v n xs:=by
 obtain ⟨hl,⟨rfl,rfl⟩ | ⟨b,cap,cs,rfl,hbk,h1,h2,h3⟩⟩:=s
 ·have hx:xs=[]:=Qh (by simpa using hl)
  subst hx; exact .nil h w
 ·have:n * w≤cap * w:=Qi w h1
  have:=RdS.hsl (w:=w) (n:=n) (cap:=cap) (ex:=.grow w) (off:=0) hbk (by omega)
  rw [Jo,h3] at this; exact this
set_option linter.unusedSimpArgs false
structure Elt (E:Env) (t e:TypeId) (w nb:Nat):Prop where
 elem:jfw E t=some e
 size:sz E e=some w
 bytes:bys E e=some nb
 zeros:jj8 E e=some w
 slice:E.P.underlying t=some (.slice e)
inductive GrowV (base:Nat) (ts:List Nat) (w:Nat):V→Nat→List V→Prop where
 | nil:GrowV base ts w .nilsl 0 []
 | full (cs:List V) (n:Nat) (hl:cs.length=n * w):GrowV base ts w (.row cs n .full) n cs
 | tok (cs:List V) (n k e:Nat) (hl:cs.length=n * w) (hb:base≤k) (ht:ts[k]? = some e):GrowV base ts w (.row cs n (.tok k e w)) n cs
def Ext (base:Nat)(ts ts':List Nat):Prop:=ts.length≤ts'.length∧∀ k,k<base→ts'[k]? = ts[k]?
theorem Ext.rfl' (base:Nat)(ts:List Nat):Ext base ts ts:=⟨Ky _,fun _ _=>rfl⟩
theorem Ext.trans {b:Nat}{ts t2 t3:List Nat}(h:Ext b ts t2)(g:Ext b t2 t3):Ext b ts t3:=⟨Qr h.1 g.1,fun k hk=>by rw [g.2 k hk,h.2 k hk]⟩
theorem Ext.mono {b c:Nat}{ts ts':List Nat}(h:Ext c ts ts')(hb:b≤c):Ext b ts ts':=⟨h.1,fun k hk=>h.2 k (by omega)⟩
theorem GrowV.ext {base w n:Nat}{ts ts':List Nat}{v:V}{cs:List V}(g:GrowV base ts w v n cs)(h:Ext ts.length ts ts'):GrowV base ts' w v n cs:=by
 cases g with
 | nil=>exact .nil
 | full _ _ hl=>exact .full _ _ hl
 | tok _ _ k e hl hb ht =>
  refine .tok _ _ k e hl hb ?_
  rw [h.2 k (Kz.1 ht).1]; exact ht
theorem GrowV.weakbase {base b2 w n:Nat}{ts:List Nat}{v:V}{cs:List V}(g:GrowV base ts w v n cs)(h:b2≤base):GrowV b2 ts w v n cs:=by
 cases g with
 | nil=>exact .nil
 | full _ _ hl=>exact .full _ _ hl
 | tok _ _ k e hl hb ht=>exact .tok _ _ k e hl (Qr h hb) ht
theorem GrowV.cells {base w n:Nat}{ts:List Nat}{v:V}{cs:List V}(g:GrowV base ts w v n cs):v.cells=[v]∧v.isCell=true:=by cases g <;> exact ⟨rfl,rfl⟩
theorem GrowV.lens {base w n:Nat}{ts:List Nat}{v:V}{cs:List V}(g:GrowV base ts w v n cs):cs.length=n * w:=by cases g <;> simp_all
theorem GrowV.len {base w n:Nat}{ts:List Nat}{v:V}{cs:List V}(g:GrowV base ts w v n cs)(e:TypeId):jec (some (.slice e)) v=some (.int .i64 n):=by cases g <;> rfl
theorem GrowV.vlen {base w n:Nat}{ts:List Nat}{v:V}{cs:List V}(g:GrowV base ts w v n cs):vLen v=some n:=by cases g <;> rfl
theorem GrowV.vcells {base w n:Nat}{ts:List Nat}{v:V}{cs:List V}(g:GrowV base ts w v n cs)(h:List AObj):jby h w n v=some cs:=by
 cases g with
 | nil=>rfl
 | full _ _ hl=>simp only [jby]; rw [Km (by omega),Qj (by omega)]
 | tok _ _ k e hl hb ht=>simp only [jby]; rw [Km (by omega),Qj (by omega)]
theorem GrowV.append {E:Env}{t e t2:TypeId}{base w nb n m:Nat}(he:Elt E t e w nb)(hu:∃ e2,E.P.underlying t2=some (.slice e2)){hp:List AObj}{ts:List Nat}{v y:V}{cs new:List V}(g:GrowV base ts w v n cs)(hb:base≤ts.length)(hy:vLen y=some m)(hc:jby hp w m y=some new)(hnl:new.length=m * w)(hcell:new.all V.isCell=true)
  (hlim:(n+m) * nb≤lim∧n+m≤lim):∃ v' ts',appO E false ⟨hp,ts⟩ t t2 v y=some (v',⟨hp,ts'⟩)∧GrowV base ts' w v' (n+m) (cs++new)∧Ext base ts ts':=by
 obtain ⟨e2,hu⟩:=hu
 unfold appO
 simp only [he.elem,he.size,he.bytes,he.zeros,hu,hy,hc,Kk,Ks]
 by_cases hm:m=0
 ·subst hm
  have hn0:new=[]:=Qh (by simpa using hnl)
  subst hn0
  rw [Qx,Jl]
  refine ⟨v,ts,?_,g,.rfl' _ _⟩
  cases g <;> simp [jbN]
 have hl:(cs++new).length=(n+m) * w:=by rw [Ku,g.lens,hnl,Ja]
 cases g with
 | nil =>
  refine ⟨.row new m (.tok ts.length 0 w),ts++[0],?_,?_,⟨by simp,fun k hk=>by rw [K0 (by omega)]⟩⟩
  ·have h1:m * nb≤lim∧m≤lim:=by simpa using hlim
   simp [jbN,hm,h1]
  ·rw [K8,J2]
   exact .tok _ _ ts.length 0 hnl hb (by simp)
 | full _ _ hl0 =>
  refine ⟨.row (cs++new) (n+m) (.tok ts.length 0 w),ts++[0],?_,.tok _ _ ts.length 0 hl hb (by simp),⟨by simp,fun k hk=>by rw [K0 (by omega)]⟩⟩
  simp only [jbN]
  rw [Kn hm,Km ⟨hlim.1,hlim.2,hl0,hcell⟩]
  simp
 | tok _ _ k e hl0 hbk ht =>
  have hkl:=(Kz.1 ht).1
  refine ⟨.row (cs++new) (n+m) (.tok k (e+1) w),ts.set k (e+1),?_,.tok _ _ k (e+1) hl hbk (by simp [hkl]),⟨by simp,fun q hq=>by rw [Ki (by omega)]⟩⟩
  simp only [jbN]
  rw [Kn hm,Km ⟨hlim.1,hlim.2,hl0,hcell⟩,Km ⟨ht,trivial⟩]
theorem GrowV.push {E:Env}{t e t2:TypeId}{base w nb n:Nat}(he:Elt E t e w nb)(hu:∃ e2,E.P.underlying t2=some (.slice e2)){hp:List AObj}{ts:List Nat}{v:V}{cs new:List V}{q:RCap}(g:GrowV base ts w v n cs)(hb:base≤ts.length)(hnl:new.length=w)(hcell:new.all V.isCell=true)
  (hlim:(n+1) * nb≤lim∧n+1≤lim):∃ v' ts',appO E false ⟨hp,ts⟩ t t2 v (.row new 1 q)=some (v',⟨hp,ts'⟩)∧GrowV base ts' w v' (n+1) (cs++new)∧Ext base ts ts' :=
 GrowV.append he hu g hb rfl (by simp only [jby]; rw [Km (by omega),Qj (by omega)]) (by simpa using hnl) hcell hlim
def insO (E:Env) (t:TypeId) (mv kv xv:V) (σ:S):Option (V × S) :=
    match E.P.underlying t,mv with
    | some (.map kt _),.map b =>
      match σ.heap[b]? with
      | some (.map es clock) =>
        if jdj E 8 kt kv then
          match jcE E kt kv es 0 with
          | some none=>some (.tup [],σ.set b (.map (es++[(kv,xv,clock)]) (clock+1)))
          | some (some j) =>
            match es[j]? with
            | some e=>if jlf 8 e.1 kv then some (.tup [],σ.set b (.map (es.set j (kv,xv,e.2.2)) clock)) else none
            | none=>none
          | none=>none
        else none
      | _=>none
    | _,_=>none
theorem jgg {E:Env}{m:Bool}{T:Tm}{σ:S}(t:TypeId)(a b c:Operand):opT E m T σ (.insert t a b c)=(jaL E T a).bind fun mv=>(jaL E T b).bind fun kv=>(jaL E T c).bind fun xv=>insO E t mv kv xv σ:=rfl
def newO (E:Env)(t:TypeId)(σ:S):Option (V × S) :=
  match E.P.underlying t with
  | some (.map _ _)=>some (.map σ.heap.length,σ.push (.map [] 0))
  | _=>none
theorem jgh {E:Env}{m:Bool}{T:Tm}{σ:S}(t:TypeId):opT E m T σ (.makeMap t none)=newO E t σ:=rfl
def jmF (E:Env)(t:TypeId)(ok:Bool)(mv kv:V)(σ:S):Option V :=
  match E.P.underlying t,mv with
  | some (.map kt et),.map b =>
   match σ.heap[b]? with
   | some (.map es _) =>
    if jdj E 8 kt kv then (jbE E et).bind fun z=>(jcE E kt kv es 0).map (jqU ok es z)
    else none
   | _=>none
  | _,_=>none
theorem jd9 {E:Env}{m:Bool}{T:Tm}{σ:S}(t:TypeId)(a b:Operand)(ok:Bool):opT E m T σ (.lookup t a b ok)=((jaL E T a).bind fun mv=>(jaL E T b).bind fun kv=>jmF E t ok mv kv σ).map fun v=>(v,σ):=by
 unfold opT
 simp only [jbn,jbs]
 change (match ((jaL E T a).bind fun mv=>(jaL E T b).bind fun kv=>jmF E t ok mv kv σ) with | some v=>_ | none=>_)=_
 cases ((jaL E T a).bind fun mv=>(jaL E T b).bind fun kv=>jmF E t ok mv kv σ) <;> rfl
def mapS:List (List UInt8 × V)→Nat→List (V × V × Nat)
 | [],_=>[]
 | p::r,c=>(.str p.1,p.2,c)::mapS r (c+1)
theorem jo9:∀ (ps:List (List UInt8 × V)) (k:List UInt8) (v:V) (c:Nat),mapS (ps++[(k,v)]) c=mapS ps c++[(.str k,v,c+ps.length)]
 | [],k,v,c=>rfl
 | p::r,k,v,c=>by
  simp only [J8,mapS,jo9 r k v (c+1),K1]
  rw [show c+1+r.length=c+(r.length+1) by omega]
theorem jpa:∀ (ps:List (List UInt8 × V)) (c i:Nat),(mapS ps c)[i]?.map (·.2.1)=ps[i]?.map (·.2)
 | [],c,i=>by simp [mapS]
 | p::r,c,0=>by simp [mapS]
 | p::r,c,i+1=>by simp only [mapS,Qg]; exact jpa r (c+1) i
section
variable {E:Env}{kt:TypeId}(hk:E.P.underlying kt=some .string)
include hk
theorem jw5 (a b:List UInt8):eqT E 8 kt (.str a) (.str b)=some (a == b):=by unfold eqT; rw [hk]
theorem jpb (k:List UInt8):∀ (ps:List (List UInt8 × V)) (c i:Nat),jcE E kt (.str k) (mapS ps c) i=some ((ps.findIdx? fun p=>p.1 == k).map (· + i))
 | [],c,i=>rfl
 | p::r,c,i=>by
  simp only [mapS,jcE,jw5 hk,Kk,List.findIdx?_cons]
  by_cases h:k=p.1
  ·subst h; simp
  ·have h1:(k == p.1)=false:=by simpa using h
   have h2:(p.1 == k)=false:=by simpa using fun e=>h e.symm
   simp only [h1,h2,Kl,Kr]
   rw [jpb k r (c+1) (i+1),Option.map_map]
   congr 1
   cases List.findIdx? (fun p=>p.1 == k) r with
   | none=>rfl
   | some n=>simp only [Kw,Function.comp]; congr 1; omega
theorem jhk (k:List UInt8):jdj E 8 kt (.str k)=true:=by unfold jdj; rw [hk]
theorem jlH {t et:TypeId}(ht:E.P.underlying t=some (.map kt et)){z:V}(hz:jbE E et=some z){L:List AObj}{ts:List Nat}{b c:Nat}{ps:List (List UInt8 × V)}(h:L[b]? = some (.map (mapS ps 0) c))(k:List UInt8) :
  jmF E t true (.map b) (.str k) ⟨L,ts⟩=some (match ps.find? fun p=>p.1 == k with | some p=>.tup [p.2,.bool true] | none=>.tup [z,.bool false]):=by
 unfold jmF
 simp only [ht,h,jhk hk,Ks,jpb hk,hz,Kk,Kw,Jl,Kg]
 have hid:(ps.findIdx? fun p=>p.1 == k).map (· + 0)=ps.findIdx? fun p=>p.1 == k:=by cases (ps.findIdx? fun p=>p.1 == k) <;> rfl
 cases hf:ps.findIdx? fun p=>p.1 == k with
 | none =>
  have:(ps.find? fun p=>p.1 == k)=none:=by
   rw [List.find?_eq_none]
   rw [List.findIdx?_eq_none_iff] at hf
   intro x hx
   simp [hf x hx]
  rw [this]
  rfl
 | some j =>
  rw [List.findIdx?_eq_some_iff_getElem] at hf
  obtain ⟨hj,h1,h2⟩:=hf
  have:(ps.find? fun p=>p.1 == k)=some ps[j]:=by
   rw [List.find?_eq_some_iff_getElem]
   exact ⟨h1,j,hj,rfl,fun i hi=>by simpa using h2 i hi⟩
  rw [this]
  simp only [Kw,jqU,jvt,Ks]
  have hg:=jpa ps 0 j
  rw [K4 hj] at hg
  simp only [Kw] at hg
  rw [hg]
  rfl
end
theorem Wa:type_of% (Kf @Za (Kf @Zb (Kf @Zc (Kf @Zd (Kf @Ze (Kf @Zf (Kf @Zg (Kf @Zh (Kf @Zi (Kf @Zj (Kf @Zk (@Zl)))))))))))):=Kf @Za (Kf @Zb (Kf @Zc (Kf @Zd (Kf @Ze (Kf @Zf (Kf @Zg (Kf @Zh (Kf @Zi (Kf @Zj (Kf @Zk (@Zl)))))))))))
theorem Wb:type_of% (Kf @Zm (Kf @Zn (Kf @Zq (Kf @Zr (Kf @Zs (Kf @Zt (Kf @Zu (Kf @Zv (Kf @Zw (Kf @Zx (Kf @Zy (@Zz)))))))))))):=Kf @Zm (Kf @Zn (Kf @Zq (Kf @Zr (Kf @Zs (Kf @Zt (Kf @Zu (Kf @Zv (Kf @Zw (Kf @Zx (Kf @Zy (@Zz)))))))))))
theorem Wc:type_of% (Kf @ZA (Kf @ZB (Kf @ZC (Kf @ZD (Kf @ZE (Kf @ZF (Kf @ZG (Kf @ZH (Kf @ZI (Kf @ZJ (Kf @ZK (@ZL)))))))))))):=Kf @ZA (Kf @ZB (Kf @ZC (Kf @ZD (Kf @ZE (Kf @ZF (Kf @ZG (Kf @ZH (Kf @ZI (Kf @ZJ (Kf @ZK (@ZL)))))))))))
theorem Wd:type_of% (Kf @ZM (Kf @ZN (Kf @ZO (Kf @ZP (Kf @ZQ (Kf @ZR (Kf @ZS (Kf @ZT (Kf @ZU (Kf @ZV (Kf @ZW (@ZX)))))))))))):=Kf @ZM (Kf @ZN (Kf @ZO (Kf @ZP (Kf @ZQ (Kf @ZR (Kf @ZS (Kf @ZT (Kf @ZU (Kf @ZV (Kf @ZW (@ZX)))))))))))
theorem We:type_of% (Kf @ZY (Kf @ZZ (Kf @Z0 (Kf @Z1 (Kf @Z2 (Kf @Z3 (Kf @Z4 (Kf @Z5 (Kf @Z6 (Kf @Z7 (Kf @true_and (@Z8)))))))))))):=Kf @ZY (Kf @ZZ (Kf @Z0 (Kf @Z1 (Kf @Z2 (Kf @Z3 (Kf @Z4 (Kf @Z5 (Kf @Z6 (Kf @Z7 (Kf @true_and (@Z8)))))))))))
theorem Wf:type_of% (Kf @Z9 (Kf @jiS (Kf @Ya (Kf @jhd (Kf @Yb (Kf @Yc (Kf @Yd (Kf @Ye (Kf @Yf (Kf @Yg (Kf @Yh (@Yi)))))))))))):=Kf @Z9 (Kf @jiS (Kf @Ya (Kf @jhd (Kf @Yb (Kf @Yc (Kf @Yd (Kf @Ye (Kf @Yf (Kf @Yg (Kf @Yh (@Yi)))))))))))
theorem Wg:type_of% (Kf @Yj (Kf @Yk (Kf @Yl (Kf @Ym (Kf @Yn (Kf @Yo (Kf @Yp (Kf @Yq (Kf @Yr (Kf @Yt (Kf @Yu (@Yv)))))))))))):=Kf @Yj (Kf @Yk (Kf @Yl (Kf @Ym (Kf @Yn (Kf @Yo (Kf @Yp (Kf @Yq (Kf @Yr (Kf @Yt (Kf @Yu (@Yv)))))))))))
theorem Wh:type_of% (Kf @Yw (Kf @X7.{0} (Kf @Vu.{0} (Kf @Jg.{0} (Kf @Qs.{0} (Kf @Qg.{0} (Kf @J2.{0} (Kf @J8.{0} (Kf @Qx.{0} (Kf @Yx (Kf @Yy (@Qo)))))))))))):=Kf @Yw (Kf @X7.{0} (Kf @Vu.{0} (Kf @Jg.{0} (Kf @Qs.{0} (Kf @Qg.{0} (Kf @J2.{0} (Kf @J8.{0} (Kf @Qx.{0} (Kf @Yx (Kf @Yy (@Qo)))))))))))
theorem Wi:type_of% (Kf @Yz (Kf @YA (Kf @YB (Kf @YC (Kf @YD (Kf @YE (Kf @YF (Kf @YG (Kf @YH (Kf @YI (Kf @YJ (@YK)))))))))))):=Kf @Yz (Kf @YA (Kf @YB (Kf @YC (Kf @YD (Kf @YE (Kf @YF (Kf @YG (Kf @YH (Kf @YI (Kf @YJ (@YK)))))))))))
theorem Wj:type_of% (Kf @YL (Kf @YM (Kf @YN (Kf @YO (Kf @List.append_eq.{0} (Kf @YP (Kf @YQ (Kf @YR (Kf @YS (Kf @YT (Kf @YU (@YV)))))))))))):=Kf @YL (Kf @YM (Kf @YN (Kf @YO (Kf @List.append_eq.{0} (Kf @YP (Kf @YQ (Kf @YR (Kf @YS (Kf @YT (Kf @YU (@YV)))))))))))
theorem Wk:type_of% (Kf @YW (Kf @YX (Kf @Jl (Kf @YY (Kf @YZ (Kf @Y1 (Kf @Y2 (Kf @Y3 (Kf @K3 (Kf @Kl (Kf @Jb (@and_self)))))))))))):=Kf @YW (Kf @YX (Kf @Jl (Kf @YY (Kf @YZ (Kf @Y1 (Kf @Y2 (Kf @Y3 (Kf @K3 (Kf @Kl (Kf @Jb (@and_self)))))))))))
theorem Wl:type_of% (Kf @Y4 (Kf @Y5 (Kf @Ui (Kf @Vz (Kf @not_true_eq_false (Kf @decide_true (Kf @decide_false (Kf @true_implies (Kf @false_implies (Kf @Vk (Kf @K1.{0} (@K5.{0})))))))))))):=Kf @Y4 (Kf @Y5 (Kf @Ui (Kf @Vz (Kf @not_true_eq_false (Kf @decide_true (Kf @decide_false (Kf @true_implies (Kf @false_implies (Kf @Vk (Kf @K1.{0} (@K5.{0})))))))))))
theorem Wm:type_of% (Kf @K8 (Kf @Jz (Kf @V2 (Kf @Y6 (Kf @Y7 (Kf @Y8 (Kf @Y9 (Kf @Qa (Kf @Qb (Kf @Qc (Kf @Vr (@Jc)))))))))))):=Kf @K8 (Kf @Jz (Kf @V2 (Kf @Y6 (Kf @Y7 (Kf @Y8 (Kf @Y9 (Kf @Qa (Kf @Qb (Kf @Qc (Kf @Vr (@Jc)))))))))))
theorem Wn:type_of% (Kf @Xz (Kf @Xv (Kf @X6 (Kf @Qd (@Qe))))):=Kf @Xz (Kf @Xv (Kf @X6 (Kf @Qd (@Qe))))
theorem Kd : type_of% (Kf @Wa (Kf @Wb (Kf @Wc (Kf @Wd (Kf @We (Kf @Wf (Kf @Wg (Kf @Wh (Kf @Wi (Kf @Wj (Kf @Wk (Kf @Wl (Kf @Wm (Kf @Wn (@Zo))))))))))))))) := Kf @Wa (Kf @Wb (Kf @Wc (Kf @Wd (Kf @We (Kf @Wf (Kf @Wg (Kf @Wh (Kf @Wi (Kf @Wj (Kf @Wk (Kf @Wl (Kf @Wm (Kf @Wn (@Zo))))))))))))))
theorem Ka : type_of% (Kf @Wa (Kf @Wb (Kf @Wc (Kf @Wd (Kf @We (Kf @Wf (Kf @Wg (Kf @Wh (Kf @Wi (Kf @Wj (Kf @Wk (Kf @Wl (Kf @Wm (Kf @Wn (Kf @Zo (@Zp)))))))))))))))) := Kf @Wa (Kf @Wb (Kf @Wc (Kf @Wd (Kf @We (Kf @Wf (Kf @Wg (Kf @Wh (Kf @Wi (Kf @Wj (Kf @Wk (Kf @Wl (Kf @Wm (Kf @Wn (Kf @Zo (@Zp)))))))))))))))
theorem Va:type_of% (Kf @Jk.{0} (Kf @Q5.{0} (Kf @Jo.{0} (Kf @Xs.{0} (Kf @List.drop_nil.{0} (Kf @Xc.{0} (Kf @List.all_nil.{0} (Kf @V0.{0} (Kf @List.set_cons_succ.{0} (Kf @jmD (@jkJ))))))))))):=Kf @Jk.{0} (Kf @Q5.{0} (Kf @Jo.{0} (Kf @Xs.{0} (Kf @List.drop_nil.{0} (Kf @Xc.{0} (Kf @List.all_nil.{0} (Kf @V0.{0} (Kf @List.set_cons_succ.{0} (Kf @jmD (@jkJ))))))))))
theorem Vq:(∀ (E:Env) (T:Tm) (t:Tmp),jaL E T (.tmp t)=some (T t))∧(∀ (E:Env) (T:Tm) (v:Value),jaL E T (.const v)=jgA v)∧(∀ (E:Env) (T:Tm) g,jaL E T (.global g)=E.gl g)∧(∀ (E:Env) (T:Tm) f,jaL E T (.func f)=some (.func f [] []))∧(∀ b,jgA (.bool b)=some (.bool b))∧(∀ k n,jgA (.int k n)=some (.int k n))∧(∀ s,jgA (.string s)=some (.str s.data.toList))∧jgA (.pointer none)=some .nilptr∧jgA (.slice none 0 0)=some .nilsl∧jgA .nilFunc=some .nilfn∧jgA .nilIface=some .nilif∧jgA (.map none)=some .nilmap∧(∀ l t,argT l t=l.getD t (.tup []))∧(∀ (E:Env) T h,resT E T h []=some [])∧(∀ (E:Env) T h t r,resT E T h (.tmp t::r)=(resT E T h r).map (T t :: ·))∧(∀ (E:Env) T h a t r,resT E T h (.cell a t::r)=(jbj E h t (T a)).bind fun v=>(resT E T h r).map (v :: ·))∧(∀ T,setT T []=T)∧(∀ T t v r,setT T ((t,v)::r)=setT (upd T t v) r) :=
 ⟨fun _ _ _=>rfl,fun _ _ _=>rfl,fun _ _ _=>rfl,fun _ _ _=>rfl,fun _=>rfl,fun _ _=>rfl,fun _=>rfl,rfl,rfl,rfl,rfl,rfl,fun _ _=>rfl,fun _ _ _=>rfl,fun _ _ _ _ _=>rfl,fun _ _ _ _ _ _=>rfl,fun _=>rfl,fun _ _ _ _=>rfl⟩
end Go.Ab
