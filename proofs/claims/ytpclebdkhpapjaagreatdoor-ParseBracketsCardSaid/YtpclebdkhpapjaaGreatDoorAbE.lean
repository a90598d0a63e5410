/- Proved here: more rules for stepping. Conditions: those of each theorem; no statement of the seat is proved in this text. -/
import Derived.Test.YtpclebdkhpapjaaGreatDoorAbD
import Derived.IntWalk
set_option linter.unusedSimpArgs false
namespace Go.Ab
inductive Kt where
 |code (c:Code)
 |blk (id:Nat)
section
variable (E:Env)(fn:FuncId)(rnd:Option Nat)(n:Nat)
def Kt.post(Q:Post):List Kt->Post
 | []=>Q
 | .code b::r=>⟨λT D O=>wpC E fn rnd n b T D O (Kt.post Q r),(Kt.post Q r).exit,(Kt.post Q r).ret⟩
 | .blk id::r=>⟨(Kt.post Q r).norm,λi T D O=>if i=id then(Kt.post Q r).norm T D O else(Kt.post Q r).exit i T D O,(Kt.post Q r).ret⟩
def G(Q:Post)(ks:List Kt)(c:Code)(T:Tm)(D:List DE)(O:S):Prop:=wpC E fn rnd n c T D O (Kt.post E fn rnd n Q ks)
def GL(Q:Post)(ks:List Kt)(m:Bool)(ops:Array Oper)(l:List Oper)(T:Tm)(D:List DE)(O:S):Prop :=
 wpL E m n ops l T O λT O=>(Kt.post E fn rnd n Q ks).norm T D O
def GS(Q:Post)(ks:List Kt)(m:Bool)(ops:Array Oper)(l:List Oper)(T:Tm)(D:List DE)(d:Nat)(o:Option (V × S)):Prop :=
 V1 o λp=>GL E fn rnd n Q ks m ops l (upd T d p.1) D p.2
def GN(Q:Post)(ks:List Kt)(m:Bool)(ops:Array Oper)(l:List Oper)(T:Tm)(D:List DE)(o:Option (V × S)):Prop :=
 V1 o λp=>GL E fn rnd n Q ks m ops l T D p.2
def GB(Q:Post)(ks:List Kt)(a b:Code)(T:Tm)(D:List DE)(O:S)(t:Nat)(v:V):Prop :=
 Br v (G E fn rnd n Q ks a (upd T t (.bool true)) D O) (G E fn rnd n Q ks b (upd T t (.bool false)) D O)
def GG(Q:Post)(ks:List Kt)(m:Bool)(ops:Array Oper)(l:List Oper)(T:Tm)(D:List DE)(O:S)(d:Nat)(op:Op)(b:Bool)(g:Nat)(v:V):Prop :=
 Br3 v
  (match b with
   |true=>GS E fn rnd n Q ks m ops l (upd T g (.bool true)) D d (opT E m (upd T g (.bool true)) O op)
   |false=>GL E fn rnd n Q ks m ops l (upd (upd T g (.bool true)) d (.tup [])) D O)
  (match b with
   |true=>GL E fn rnd n Q ks m ops l (upd (upd T g (.bool false)) d (.tup [])) D O
   |false=>GS E fn rnd n Q ks m ops l (upd T g (.bool false)) D d (opT E m (upd T g (.bool false)) O op))
  (GL E fn rnd n Q ks m ops l (upd T d (.tup [])) D O)
end
section
variable {E:Env}{fn:FuncId}{rnd:Option Nat}{n:Nat}{Q:Post}{ks:List Kt}{m:Bool}{ops:Array Oper}{l:List Oper}{T:Tm}{D:List DE}{O:S}
theorem jar {c:Code}(h:G E fn rnd n Q [] c T D O):wpC E fn rnd n c T D O Q:=h
theorem Za(a b:Code):G E fn rnd n Q ks (.seq a b) T D O=G E fn rnd n Q (.code b::ks) a T D O:=rfl
theorem Zb(id:Nat)(c:Code):G E fn rnd n Q ks (.block id c) T D O=G E fn rnd n Q (.blk id::ks) c T D O:=rfl
theorem Zc(c:Code):G E fn rnd n Q (.code c::ks) .skip T D O=G E fn rnd n Q ks c T D O:=rfl
theorem Zd(id:Nat):G E fn rnd n Q (.blk id::ks) .skip T D O=G E fn rnd n Q ks .skip T D O:=rfl
theorem Ze:G E fn rnd n Q [] .skip T D O=Q.norm T D O:=rfl
theorem Zf(c:Code)(i:Nat):G E fn rnd n Q (.code c::ks) (.exit i) T D O=G E fn rnd n Q ks (.exit i) T D O:=rfl
theorem Zg(id i:Nat):G E fn rnd n Q (.blk id::ks) (.exit i) T D O=if i=id then G E fn rnd n Q ks .skip T D O else G E fn rnd n Q ks (.exit i) T D O:=rfl
theorem Zh(i:Nat):G E fn rnd n Q [] (.exit i) T D O=Q.exit i T D O:=rfl
theorem Zi(c:Code):G E fn rnd n Q (.code c::ks) .ret T D O=G E fn rnd n Q ks .ret T D O:=rfl
theorem Zj(id:Nat):G E fn rnd n Q (.blk id::ks) .ret T D O=G E fn rnd n Q ks .ret T D O:=rfl
theorem Zk:G E fn rnd n Q [] .ret T D O=Q.ret T D O:=rfl
theorem Zl(t:Nat)(a b:Code):G E fn rnd n Q ks (.cond (.tmp t) a b) T D O=(t<n/\GB E fn rnd n Q ks a b T D O t (T t)):=rfl
theorem Zm(v:Bool)(a b:Code):G E fn rnd n Q ks (.cond (.const (.bool v)) a b) T D O=if v then G E fn rnd n Q ks a T D O else G E fn rnd n Q ks b T D O:=by
 show V1 (some (V.bool v)) _=_;rw[Yy];cases v
 ·exact jjq _ _
 ·exact jmd _ _
theorem Zn(c:Code):G E fn rnd n Q ks (.loop c) T D O=jiY E fn rnd n c T D O (Kt.post E fn rnd n Q ks):=rfl
theorem Qd(c:Code):G E fn rnd n Q ks (.scope c) T D O=G E fn rnd n Q ks c T D O:=rfl
theorem Qe(l:Nat):G E fn rnd n Q ks (.label l) T D O=G E fn rnd n Q ks .skip T D O:=rfl
theorem Zo(id:Nat)(l:List Oper):G E fn rnd n Q ks (.region id l.toArray false) T D O=GL E fn rnd n Q ks (E.mutb fn id) l.toArray l T D O:=rfl
theorem Zp(id:Nat)(l:List Oper)(hs:E.stab fn id=false):G E fn rnd n Q ks (.region id l.toArray true) T D O=(jgV E l.toArray=true/\GL E fn rnd n Q ks (E.mutb fn id) l.toArray l T D O):=by
 unfold G wpC;simp only[hs];rfl
def GK(E:Env)(fn:FuncId)(rnd:Option Nat)(n:Nat)(Q:Post)(ks:List Kt)(m:Bool)(K:S->Prop)(l:List Oper)(T:Tm)(D:List DE)(O:S):Prop :=
 wpS E m n K l T O λT O=>(Kt.post E fn rnd n Q ks).norm T D O
def GKS(E:Env)(fn:FuncId)(rnd:Option Nat)(n:Nat)(Q:Post)(ks:List Kt)(m:Bool)(K:S->Prop)(l:List Oper)(T:Tm)(D:List DE)(d:Option Nat)(op:Op)(o:Option (V × S)):Prop :=
 V1 o λp=>(scOp E op=true->K p.2)/\(jbd op=true->∀O',K O'->jbu E (jaK E T) O' op=some p.1) /\
  (match d with
   |none=>GK E fn rnd n Q ks m K l T D p.2
   |some d=>d<n/\GK E fn rnd n Q ks m K l (upd T d p.1) D p.2)
theorem jli {id:Nat}{l:List Oper}(hs:E.stab fn id=true)(K:S->Prop)(hK:K O)(hp:jdx E l.toArray (jat [] l)=true)(h:GK E fn rnd n Q ks (E.mutb fn id) K l T D O) :
  G E fn rnd n Q ks (.region id l.toArray true) T D O:=by
 unfold G wpC;simp only[hs];exact jrb E fn rnd n K hK hp h
theorem Y7(K:S->Prop):GK E fn rnd n Q ks m K [] T D O=G E fn rnd n Q ks .skip T D O:=rfl
theorem Y8(K:S->Prop)(d:Option Nat)(op:Op)(t:TypeId)(p:String)(a:Array Edge):GK E fn rnd n Q ks m K (⟨d,op,t,p,a,none⟩::l) T D O=GKS E fn rnd n Q ks m K l T D d op (opT E m T O op):=rfl
theorem Y9(K:S->Prop)(d:Nat)(op:Op)(v:V)(O':S):GKS E fn rnd n Q ks m K l T D (some d) op (some (v,O'))=((scOp E op=true->K O')/\(jbd op=true->∀s,K s->jbu E (jaK E T) s op=some v)/\d<n/\GK E fn rnd n Q ks m K l (upd T d v) D O'):=by
 simp only[GKS,Yy]
theorem Qa(K:S->Prop)(op:Op)(v:V)(O':S):GKS E fn rnd n Q ks m K l T D none op (some (v,O'))=((scOp E op=true->K O')/\(jbd op=true->∀s,K s->jbu E (jaK E T) s op=some v)/\GK E fn rnd n Q ks m K l T D O'):=by
 simp only[GKS,Yy]
theorem Qb(K:S->Prop)(d:Option Nat)(op:Op)(c:Prop)[Decidable c](o:Option (V × S)):GKS E fn rnd n Q ks m K l T D d op (if c then o else none)=(c/\GKS E fn rnd n Q ks m K l T D d op o):=by simp only[GKS,jlf]
theorem Qc(K:S->Prop)(d:Option Nat)(op:Op)(c:Prop)[Decidable c](o:Option (V × S)):GKS E fn rnd n Q ks m K l T D d op (if c then none else o)=(¬c/\GKS E fn rnd n Q ks m K l T D d op o):=by simp only[GKS,jiy]
theorem Zq:GL E fn rnd n Q ks m ops [] T D O=G E fn rnd n Q ks .skip T D O:=rfl
theorem Zr(d:Nat)(op:Op)(t:TypeId)(p:String)(a:Array Edge):GL E fn rnd n Q ks m ops (⟨some d,op,t,p,a,none⟩::l) T D O=(d<n/\GS E fn rnd n Q ks m ops l T D d (opT E m T O op)):=rfl
theorem Zs(op:Op)(t:TypeId)(p:String)(a:Array Edge):GL E fn rnd n Q ks m ops (⟨none,op,t,p,a,none⟩::l) T D O=GN E fn rnd n Q ks m ops l T D (opT E m T O op):=rfl
theorem Zt(d:Nat)(op:Op)(t:TypeId)(p:String)(a:Array Edge)(j:Nat)(b:Bool):GL E fn rnd n Q ks m ops (⟨some d,op,t,p,a,some (j,b)⟩::l) T D O =
  V1 ((ops[j]?).bind (·.dst)) λg=>g<n/\d<n/\GG E fn rnd n Q ks m ops l T D O d op b g (T g):=by
 unfold GL GG GS;refine congrArg (V1 _) (funext λg => ?_);by_cases hd:d<n
 ·cases b<;>simp only[hd,true_and]<;>rfl
 ·cases b<;>simp only[hd,false_and,and_false,jpS]
theorem Y1:(Kt.post E fn rnd n Q ks).norm T D O=G E fn rnd n Q ks .skip T D O:=rfl
theorem Y2(i:Nat):(Kt.post E fn rnd n Q ks).exit i T D O=G E fn rnd n Q ks (.exit i) T D O:=rfl
theorem Y3:(Kt.post E fn rnd n Q ks).ret T D O=G E fn rnd n Q ks .ret T D O:=rfl
theorem Zu(d:Nat)(v:V)(O':S):GS E fn rnd n Q ks m ops l T D d (some (v,O'))=GL E fn rnd n Q ks m ops l (upd T d v) D O':=by simp only[GS,Yy]
theorem Zv(d:Nat)(c:Prop)[Decidable c](o:Option (V × S)):GS E fn rnd n Q ks m ops l T D d (if c then o else none)=(c/\GS E fn rnd n Q ks m ops l T D d o):=by simp only[GS,jlf]
theorem Zw(d:Nat)(c:Prop)[Decidable c](o:Option (V × S)):GS E fn rnd n Q ks m ops l T D d (if c then none else o)=(¬c/\GS E fn rnd n Q ks m ops l T D d o):=by simp only[GS,jiy]
theorem Zx(v:V)(O':S):GN E fn rnd n Q ks m ops l T D (some (v,O'))=GL E fn rnd n Q ks m ops l T D O':=by simp only[GN,Yy]
theorem Zy(c:Prop)[Decidable c](o:Option (V × S)):GN E fn rnd n Q ks m ops l T D (if c then o else none)=(c/\GN E fn rnd n Q ks m ops l T D o):=by simp only[GN,jlf]
theorem Zz(c:Prop)[Decidable c](o:Option (V × S)):GN E fn rnd n Q ks m ops l T D (if c then none else o)=(¬c/\GN E fn rnd n Q ks m ops l T D o):=by simp only[GN,jiy]
theorem ZA(a b:Code)(t:Nat):GB E fn rnd n Q ks a b T D O t (.bool true)=G E fn rnd n Q ks a (upd T t (.bool true)) D O:=jmd _ _
theorem ZB(a b:Code)(t:Nat):GB E fn rnd n Q ks a b T D O t (.bool false)=G E fn rnd n Q ks b (upd T t (.bool false)) D O:=jjq _ _
theorem ZC(a b:Code)(t:Nat)(p:Prop)[Decidable p]:GB E fn rnd n Q ks a b T D O t (.bool (decide p))=((p->G E fn rnd n Q ks a (upd T t (.bool true)) D O)/\(¬p->G E fn rnd n Q ks b (upd T t (.bool false)) D O)):=by
 simp only[GB,joV,Qn,decide_eq_false_iff_not]
theorem ZD(d:Nat)(op:Op)(b:Bool)(g:Nat):GG E fn rnd n Q ks m ops l T D O d op b g (.tup [])=GL E fn rnd n Q ks m ops l (upd T d (.tup [])) D O:=jsf _ _ _
theorem ZE(d:Nat)(op:Op)(g:Nat):GG E fn rnd n Q ks m ops l T D O d op true g (.bool true)=GS E fn rnd n Q ks m ops l (upd T g (.bool true)) D d (opT E m (upd T g (.bool true)) O op):=jjr _ _ _
theorem ZF(d:Nat)(op:Op)(g:Nat):GG E fn rnd n Q ks m ops l T D O d op true g (.bool false)=GL E fn rnd n Q ks m ops l (upd (upd T g (.bool false)) d (.tup [])) D O:=jhG _ _ _
theorem ZG(d:Nat)(op:Op)(g:Nat):GG E fn rnd n Q ks m ops l T D O d op false g (.bool true)=GL E fn rnd n Q ks m ops l (upd (upd T g (.bool true)) d (.tup [])) D O:=jjr _ _ _
theorem ZH(d:Nat)(op:Op)(g:Nat):GG E fn rnd n Q ks m ops l T D O d op false g (.bool false)=GS E fn rnd n Q ks m ops l (upd T g (.bool false)) D d (opT E m (upd T g (.bool false)) O op):=jhG _ _ _
theorem ZI(d:Nat)(op:Op)(g:Nat)(p:Prop)[Decidable p]:GG E fn rnd n Q ks m ops l T D O d op true g (.bool (decide p))=((p->GS E fn rnd n Q ks m ops l (upd T g (.bool true)) D d (opT E m (upd T g (.bool true)) O op))/\(¬p->GL E fn rnd n Q ks m ops l (upd (upd T g (.bool false)) d (.tup [])) D O)):=by
 simp only[GG,jjs,Qn,decide_eq_false_iff_not]
theorem ZJ(d:Nat)(op:Op)(g:Nat)(p:Prop)[Decidable p]:GG E fn rnd n Q ks m ops l T D O d op false g (.bool (decide p))=((p->GL E fn rnd n Q ks m ops l (upd (upd T g (.bool true)) d (.tup [])) D O)/\(¬p->GS E fn rnd n Q ks m ops l (upd T g (.bool false)) D d (opT E m (upd T g (.bool false)) O op))):=by
 simp only[GG,jjs,Qn,decide_eq_false_iff_not]
end
section
variable {E:Env}{m:Bool}{T:Tm}{O:S}
theorem jby {op:Op}(h:jbu E (jaK E T) O op=none)(h2:jbz E m (jaK E T) O op=none)(h3:∀c,op ≠ .call c):opT E m T O op=(jbp E (jaK E T) op).map λv=>(v,O):=by
 unfold opT;cases hp:jbp E (jaK E T) op with
 |some v=>rfl
 |none =>
  simp only[h,Option.map_none];split
  ·exact absurd rfl (h3 _)
  ·exact absurd rfl (h3 _)
  ·exact h2
theorem ZK(x:Operand):opT E m T O (.move x)=(jaK E T x).map λv=>(v,O):=jby rfl rfl (λ_ h=>by cases h)
theorem ZL(x:Operand):opT E m T O (.assign x)=(jaK E T x).map λv=>(v,O):=jby rfl rfl (λ_ h=>by cases h)
def juw(c a b:Option V):Option V:=match c with|some (.bool t)=>a.bind λx=>b.bind λy=>some (if t then x else y)|_=>none
theorem ZN(a b:V):juw (some (.bool true)) (some a) (some b)=some a:=rfl
theorem ZO(a b:V):juw (some (.bool false)) (some a) (some b)=some b:=rfl
theorem ZM(c a b:Operand):opT E m T O (.pick c a b)=(juw (jaK E T c) (jaK E T a) (jaK E T b)).map λv=>(v,O):=by
 rw[jby rfl rfl (λ_ h=>by cases h)];simp only[jbp,juw];cases jaK E T c with
 |none=>rfl
 |some u=>cases u<;>rfl
def binO(E:Env)(t:TypeId)(c:Bool)(op:BinOp)(x y:Option V):Option V:=x.bind λa=>y.bind λb=>jdd E t c op a b
theorem jfE {E:Env}{t:TypeId}{c:Bool}{op:BinOp}{a b:V}(h:je7 E t op a b=none):jdd E t c op a b=jbZ (E.P.underlying t) c op a b:=by
 unfold jdd;rw[h];cases jbZ (E.P.underlying t) c op a b<;>rfl
theorem ZQ(E:Env)(t:TypeId)(c:Bool)(op:BinOp)(k k':IntKind)(a b:Int):binO E t c op (some (.int k a)) (some (.int k' b))=jbZ (E.P.underlying t) c op (.int k a) (.int k' b):=jfE (by cases op<;>rfl)
theorem ZR(E:Env)(t:TypeId)(c:Bool)(op:BinOp)(a b:List UInt8):binO E t c op (some (.str a)) (some (.str b))=jbZ (E.P.underlying t) c op (.str a) (.str b):=jfE (by cases op<;>rfl)
theorem ZS(E:Env)(t:TypeId)(c:Bool)(op:BinOp)(a b:Bool):binO E t c op (some (.bool a)) (some (.bool b))=jbZ (E.P.underlying t) c op (.bool a) (.bool b):=jfE (by cases op<;>rfl)
theorem ZP(op:BinOp)(t u:TypeId)(x y:Operand):opT E m T O (.binOp op t x y u)=(binO E t (jbC x ||jbC y) op (jaK E T x) (jaK E T y)).map λv=>(v,O) :=
 jby rfl rfl (λ_ h=>by cases h)
theorem ZT(op:UnOp)(t:TypeId)(x:Operand):opT E m T O (.unOp op t x)=((jaK E T x).bind (vUn op)).map λv=>(v,O) :=
 jby rfl rfl (λ_ h=>by cases h)
def jyc(i:Nat):V->Option V
 | .tup vs=>vs[i]?
 |_=>none
theorem ZV(i:Nat)(vs:List V):jyc i (.tup vs)=vs[i]? := rfl
theorem ZU(x:Operand)(i:Nat):opT E m T O (.extract x i)=((jaK E T x).bind (jyc i)).map λv=>(v,O) :=
 jby rfl rfl (λ_ h=>by cases h)
def idxO(d:Option TypeDesc)(s:TypeId->Option Nat)(v i:Option V):Option V:=v.bind λv=>i.bind λi=>match d with
  |some (.slice e)=>(s e).bind λs=>jaJ s v i
  |some (.array n e)=>(s e).bind λs=>jdv n s v i
  |_=>none
theorem ZX(e:TypeId)(s:TypeId->Option Nat)(v i:V):idxO (some (.slice e)) s (some v) (some i)=(s e).bind λs=>jaJ s v i:=rfl
theorem ZW(t:TypeId)(x ix:Operand):opT E m T O (.indexAddr t x ix)=(idxO (E.P.underlying t) (sz E) (jaK E T x) (jaK E T ix)).map λv=>(v,O) :=
 jby rfl rfl (λ_ h=>by cases h)
theorem ZY(t:TypeId)(x:Operand):opT E m T O (.load t x)=((jaK E T x).bind (jbi E O.heap t)).map λv=>(v,O):=by
 unfold opT;simp only[jbp,jbu,jbz];cases jaK E T x with
 |none=>rfl
 |some p=>cases h:jbi E O.heap t p<;>simp only[Kn,Kx,Option.map_none,h]
theorem YZ(t:TypeId):opT E m T O (.alloc t)=(jbG E t).map λz=>(.ptr O.heap.length 0,O.push (.cells z.cells t)):=rfl
theorem YY(t:TypeId)(x:Operand):opT E m T O (.box t x)=(jaK E T x).map λv=>(.ptr O.heap.length 0,O.push (.cells v.cells t)):=rfl
theorem YC(t:TypeId)(a x:Operand):opT E m T O (.store t a x)=(jaK E T a).bind λp=>(jaK E T x).bind λv=>(sz E t).bind λs =>
      if v.cells.length=s then(jbx O v.cells p).map λO'=>(.tup [],O')else none:=rfl
theorem YP(f:FuncId)(a c:Array Operand):opT E m T O (.makeFunc (.func f) a c)=((jbw (jaK E T) a.toList).bind λa=>(jbw (jaK E T) c.toList).map λc=>.func f a c).map λv=>(v,O) :=
 jby rfl rfl (λ_ h=>by cases h)
theorem ZZ(g:Operand)(as:Array Operand)(ts:Array TypeId):opT E m T O (.call ⟨.value g,as,ts⟩)=(jaK E T g).bind λgv=>(jbw (jaK E T) as.toList).bind λvs=>jdt E (ev E) gv vs O:=rfl
def lenM(O:S)(d:Option TypeDesc)(v:V):Option (V × S) :=
 match d,v with
 |some (.map _ _),.nilmap=>some (.int .i64 0,O)
 |some (.map _ _),.map b =>
  match O.heap[b]? with
  |some (.map es _)=>some (.int .i64 es.length,O)
  |_=>none
 |_,_=>none
def lenO(O:S)(d:Option TypeDesc)(v:V):Option (V × S) :=
 match jes d v with
 |some r=>some (r,O)
 |none=>lenM O d v
theorem Z1(O:S)(e:TypeId)(v:V):lenO O (some (.slice e)) v=(jes (some (.slice e)) v).map λr=>(r,O):=by
 unfold lenO;cases jes (some (.slice e)) v<;>rfl
theorem Z2(O:S)(v:V):lenO O (some .string) v=(jes (some .string) v).map λr=>(r,O):=by
 unfold lenO;cases jes (some .string) v<;>rfl
theorem Z0(x:Operand)(t:TypeId):opT E m T O (.call ⟨.builtin .len,#[x],#[t]⟩)=(jaK E T x).bind (lenO O (E.P.underlying t)):=by
 unfold opT;simp only[jbp,jbu,jbz,jbw,Kx];cases jaK E T x with
 |none=>rfl
 |some v =>
  simp only[Kn,Je,Qr];unfold lenO lenM;cases h:jes (E.P.underlying t) v<;>rfl
theorem jgW(x:Operand)(a b:TypeId)(ok:Bool):opT E m T O (.typeAssert x a b ok)=((jaK E T x).bind (jig E b ok)).map λv=>(v,O) :=
 jby rfl rfl (λ_ h=>by cases h)
theorem YL(as:Array Operand)(ts:Array TypeId):opT E m T O (.call ⟨.builtin .max,as,ts⟩)=((jbw (jaK E T) as.toList).bind (jd5 true)).map λv=>(v,O):=by
 unfold opT;simp only[jbp,jbu,jbz];cases(jbw (jaK E T) as.toList).bind (jd5 true)<;>rfl
theorem YM(as:Array Operand)(ts:Array TypeId):opT E m T O (.call ⟨.builtin .min,as,ts⟩)=((jbw (jaK E T) as.toList).bind (jd5 false)).map λv=>(v,O):=by
 unfold opT;simp only[jbp,jbu,jbz];cases(jbw (jaK E T) as.toList).bind (jd5 false)<;>rfl
theorem YN(k:IntKind)(a b:Int):jd5 true [.int k a,.int k b]=some (.int k (if b>a then b else a)):=rfl
theorem YO(k:IntKind)(a b:Int):jd5 false [.int k a,.int k b]=some (.int k (if b<a then b else a)):=rfl
def ja5(E:Env)(t:TypeId)(f:Nat):Option Nat :=
 match E.P.underlying t with
 |some (.struct fields)=>(fields[f]?).bind λfd=>(sz E fd.type).bind λs=>if s=0 then none else some fd.offset
 |_=>none
theorem YQ(t:TypeId)(x:Operand)(f:Nat):opT E m T O (.fieldAddr t x f)=(jaK E T x).bind λv=>(ja5 E t f).bind λoff=>(jdm off v).map λv=>(v,O):=by
 rw[jby rfl rfl (λ_ h=>by cases h)];simp only[jbp,ja5];cases jaK E T x with
 |none=>rfl
 | some v =>
  simp only[Kn];cases E.P.underlying t with
  |none=>rfl
  | some d =>
   cases d<;>try rfl
   rename_i fields;simp only;cases fields[f]? with
   |none=>rfl
   | some fd =>
    simp only[Kn];cases sz E fd.type with
    |none=>rfl
    |some s =>
     simp only[Kn];by_cases hs:s=0<;>simp[hs]
def jci(E:Env)(t:TypeId)(ps:List (Nat × V)):Option V:=(jbG E t).bind λz=>(jhr E t).bind λpl=>(jie pl z.cells ps).map .agg
theorem YR(t:TypeId)(parts:Array (Nat × Operand)):opT E m T O (.build t parts)=(jdJ (jaK E T) parts.toList).bind λps=>(jci E t ps).map λv=>(v,O):=by
 rw[jby rfl rfl (λ_ h=>by cases h)];simp only[jbp,jci];cases jdJ (jaK E T) parts.toList<;>rfl
theorem YS(ρ:Operand->Option V):jdJ ρ []=some []:=rfl
theorem YT(ρ:Operand->Option V)(i:Nat)(x:Operand)(r:List (Nat × Operand)):jdJ ρ ((i,x)::r)=(ρ x).bind λv=>(jdJ ρ r).map λl=>(i,v)::l:=rfl
theorem YU(off b o:Nat):jdm off (.ptr b o)=some (.ptr b (o+off)):=rfl
theorem YV(off:Nat)(cs:List V):jdm off (.rptr cs)=some (.rptr (cs.drop off)):=rfl
theorem YW(cs:List V):(V.agg cs).cells=cs:=rfl
theorem YX(O:S)(o:AObj):(O.push o).heap[O.heap.length]? = some o:=by simp[S.push]
def joY(us ud:Option TypeDesc)(v:V):Option V :=
 match us,ud,v with
 |some _,some (.int k),.int _ n=>some (.int k (k.wrap n))
 |some _,some .string,.str s=>some (.str s)
 |some _,some .string,.int _ n=>if 0<=n/\n<128 then some (.str [UInt8.ofNat n.toNat])else none
 |_,_,_=>none
def joZ(E:Env)(h:List AObj)(us ud:Option TypeDesc)(v:V):Option V :=
 match us,ud with
 |some (.slice e),some .string =>
  match E.P.underlying e,v with
  |some (.int .u8),.row cells len cap=>(jbv h 1 len (.row cells len cap)).bind λcs=>(jcA cs).map .str
  |some (.int .u8),.hsl b off len cap ex=>(jbv h 1 len (.hsl b off len cap ex)).bind λcs=>(jcA cs).map .str
  |some (.int .u8),.nilsl=>some (.str [])
  |_,_=>none
 |some us,some ud=>jf4 E h us ud v
 |_,_=>none
def jwU(E:Env)(O:S)(src dst:TypeId)(us ud:Option TypeDesc)(v:V):Option (V × S) :=
 match us,ud,v with
 |some _,some (.slice e),.str s =>
  match E.P.underlying e with
  |some (.int .u8)=>some (.row (jaw s) s.length .unk,O)
  |_=>none
 | some (.slice _),some (.slice e),.hsl b off len cap _ =>
  if src=dst then
   match E.P.underlying e,O.heap[b]? with
   |some (.int .u8),some (.cells cs t)=>if len<=cap/\off+len<=cs.length then some (.row ((cs.drop off).take len) len .unk,O.set b (.ro cs t))else none
   |_,_=>none
  else none
 |_,_,_=>none
def jiA(E:Env)(O:S)(src dst:TypeId)(us ud:Option TypeDesc)(v:V):Option (V × S) :=
 match joY us ud v with
 |some u=>some (u,O)
 |none =>
  match joZ E O.heap us ud v with
  |some u=>some (u,O)
  |none=>jwU E O src dst us ud v
theorem jhb {E:Env}{O:S}{src dst:TypeId}{d:TypeDesc}{e:TypeId}{s:List UInt8}(h:E.P.underlying e=some (.int .u8)):jiA E O src dst (some d) (some (.slice e)) (.str s)=some (.row (jaw s) s.length .unk,O):=by
 cases d<;>simp[jiA,joY,joZ,jwU,jf4,h]
theorem Z5(E:Env)(O:S)(src dst:TypeId)(d:TypeDesc)(k k':IntKind)(n:Int):jiA E O src dst (some d) (some (.int k)) (.int k' n)=some (.int k (k.wrap n),O):=rfl
theorem Z4(s d:TypeId)(x:Operand):opT E m T O (.convert s d x)=(jaK E T x).bind λv=>jiA E O s d (E.P.underlying s) (E.P.underlying d) v:=by
 unfold opT;simp only[jbp,jbu,jbz];cases jaK E T x with
 |none=>rfl
 | some v =>
  simp only[Kn]
  show(match joY (E.P.underlying s) (E.P.underlying d) v with
   |some v=>some (v,O)
   |none=>match joZ E O.heap (E.P.underlying s) (E.P.underlying d) v with
    |some v=>some (v,O)
    |none=>jwU E O s d (E.P.underlying s) (E.P.underlying d) v)=_
  unfold jiA;rfl
def appO(E:Env)(m:Bool)(O:S)(t t2:TypeId)(a b:V):Option (V × S) :=
 (jf0 E t).bind λe=>(sz E e).bind λs=>(bys E e).bind λby' =>
  match E.P.underlying t2 with
  |some (.int _)=>jui E m s by' e a b O
  |some _=>(vLen b).bind λmm=>(jbv O.heap s mm b).bind λnew=>if jkK E e=some s then jbT m s by' mm e new a O else none
  |none=>none
theorem Z3(x y:Operand)(t t2:TypeId):opT E m T O (.call ⟨.builtin .append,#[x,y],#[t,t2]⟩)=(jaK E T x).bind λa=>(jaK E T y).bind λb=>appO E m O t t2 a b:=by
 unfold opT appO;simp only[jbp,jbu,jbz,jbw,Kx];cases jaK E T x with
 |none=>rfl
 |some a =>
  cases jaK E T y with
  |none=>rfl
  |some b=>rfl
end
theorem jfF {α β:Type}(f:α->β)(c:Prop)[Decidable c](o:Option α):(if c then o else none).map f=if c then o.map f else none:=by by_cases h:c<;>simp[h]
theorem Ya {α β:Type}(f:α->β)(c:Prop)[Decidable c](o:Option α):(if c then none else o).map f=if c then none else o.map f:=by by_cases h:c<;>simp[h]
theorem jez {α β:Type}(f:α->Option β)(c:Prop)[Decidable c](o:Option α):(if c then o else none).bind f=if c then o.bind f else none:=by by_cases h:c<;>simp[h]
theorem Yb {α β:Type}(f:α->Option β)(c:Prop)[Decidable c](o:Option α):(if c then none else o).bind f=if c then none else o.bind f:=by by_cases h:c<;>simp[h]
theorem Z8 {α β:Type}(f:α->β)(v:α):(some v).map f=some (f v):=rfl
theorem Y4 {α β:Type}(f:α->β):(none:Option α).map f=none:=rfl
theorem Y5 {α β:Type}(f:α->Option β):(none:Option α).bind f=none:=rfl
theorem Z9 {α β:Type}(f:α->Option β)(v:α):(some v).bind f=f v:=rfl
theorem jsi(k:IntKind)(a b:Int):vBin .add (.int k a) (.int k b)=some (.int k (k.wrap (a+b))):=by simp[vBin,jcI]
theorem Yc(us:Option TypeDesc)(cc:Bool)(k:IntKind)(a b:Int):jbZ us cc .add (.int k a) (.int k b)=some (.int k (k.wrap (a+b))):=by
 unfold jbZ;rw[jsi]
theorem jsj(k:IntKind)(a b:Int):vBin .sub (.int k a) (.int k b)=some (.int k (k.wrap (a-b))):=by simp[vBin,jcI]
theorem Yd(us:Option TypeDesc)(cc:Bool)(k:IntKind)(a b:Int):jbZ us cc .sub (.int k a) (.int k b)=some (.int k (k.wrap (a-b))):=by
 unfold jbZ;rw[jsj]
theorem jsk(k:IntKind)(a b:Int):vBin .mul (.int k a) (.int k b)=some (.int k (k.wrap (a*b))):=by simp[vBin,jcI]
theorem Ye(us:Option TypeDesc)(cc:Bool)(k:IntKind)(a b:Int):jbZ us cc .mul (.int k a) (.int k b)=some (.int k (k.wrap (a*b))):=by
 unfold jbZ;rw[jsk]
theorem jsl(k:IntKind)(a b:Int):vBin .quo (.int k a) (.int k b)=if b=0 then none else some (.int k (k.wrap (a.tdiv b))):=by simp[vBin,jcI]
theorem Ym(us:Option TypeDesc)(cc:Bool)(k:IntKind)(a b:Int):jbZ us cc .quo (.int k a) (.int k b)=if b=0 then none else some (.int k (k.wrap (a.tdiv b))):=by
 unfold jbZ;rw[jsl];split<;>split at * <;>simp_all
theorem jsm(k:IntKind)(a b:Int):vBin .rem (.int k a) (.int k b)=if b=0 then none else some (.int k (a.tmod b)):=by simp[vBin,jcI]
theorem Yl(us:Option TypeDesc)(cc:Bool)(k:IntKind)(a b:Int):jbZ us cc .rem (.int k a) (.int k b)=if b=0 then none else some (.int k (a.tmod b)):=by
 unfold jbZ;rw[jsm];split<;>split at * <;>simp_all
theorem jsn(k:IntKind)(a b:Int):vBin .eql (.int k a) (.int k b)=some (.bool (decide (a=b))):=by simp[vBin,jcI];rfl
theorem Yf(us:Option TypeDesc)(cc:Bool)(k:IntKind)(a b:Int):jbZ us cc .eql (.int k a) (.int k b)=some (.bool (decide (a=b))):=by
 unfold jbZ;rw[jsn]
theorem jso(k:IntKind)(a b:Int):vBin .neq (.int k a) (.int k b)=some (.bool (decide (¬a=b))):=by simp[vBin,jcI];rfl
theorem Yg(us:Option TypeDesc)(cc:Bool)(k:IntKind)(a b:Int):jbZ us cc .neq (.int k a) (.int k b)=some (.bool (decide (¬a=b))):=by
 unfold jbZ;rw[jso]
theorem jsp(k:IntKind)(a b:Int):vBin .lss (.int k a) (.int k b)=some (.bool (decide (a<b))):=by simp[vBin,jcI]
theorem Yh(us:Option TypeDesc)(cc:Bool)(k:IntKind)(a b:Int):jbZ us cc .lss (.int k a) (.int k b)=some (.bool (decide (a<b))):=by
 unfold jbZ;rw[jsp]
theorem jsq(k:IntKind)(a b:Int):vBin .leq (.int k a) (.int k b)=some (.bool (decide (a<=b))):=by simp[vBin,jcI]
theorem Yi(us:Option TypeDesc)(cc:Bool)(k:IntKind)(a b:Int):jbZ us cc .leq (.int k a) (.int k b)=some (.bool (decide (a<=b))):=by
 unfold jbZ;rw[jsq]
theorem jsr(k:IntKind)(a b:Int):vBin .gtr (.int k a) (.int k b)=some (.bool (decide (b<a))):=by simp[vBin,jcI]
theorem Yj(us:Option TypeDesc)(cc:Bool)(k:IntKind)(a b:Int):jbZ us cc .gtr (.int k a) (.int k b)=some (.bool (decide (b<a))):=by
 unfold jbZ;rw[jsr]
theorem jss(k:IntKind)(a b:Int):vBin .geq (.int k a) (.int k b)=some (.bool (decide (b<=a))):=by simp[vBin,jcI]
theorem Yk(us:Option TypeDesc)(cc:Bool)(k:IntKind)(a b:Int):jbZ us cc .geq (.int k a) (.int k b)=some (.bool (decide (b<=a))):=by
 unfold jbZ;rw[jss]
theorem jst(k k':IntKind)(a b:Int):vBin .shl (.int k a) (.int k' b)=if b<0 then none else some (.int k (k.wrap (a*2^min b.toNat k.bits))):=by simp[vBin,jkX]
theorem jhH(us:Option TypeDesc)(cc:Bool)(k k':IntKind)(a b:Int):jbZ us cc .shl (.int k a) (.int k' b)=if b<0 then none else some (.int k (k.wrap (a*2^min b.toNat k.bits))):=by
 unfold jbZ;rw[jst];split<;>split at * <;>simp_all
theorem jsu(k k':IntKind)(a b:Int):vBin .shr (.int k a) (.int k' b)=if b<0 then none else some (.int k (a.fdiv (2^min b.toNat k.bits))):=by simp[vBin,jkX]
theorem jdC(us:Option TypeDesc)(cc:Bool)(k k':IntKind)(a b:Int):jbZ us cc .shr (.int k a) (.int k' b)=if b<0 then none else some (.int k (a.fdiv (2^min b.toNat k.bits))):=by
 unfold jbZ;rw[jsu];split<;>split at * <;>simp_all
theorem jrc(a b:List UInt8):vBin .eql (.str a) (.str b)=some (.bool (decide (a=b))):=by simp only[vBin,jkY];rw[show(a==b)=decide (a=b)from Up.2 (by simp)]
theorem jac(us:Option TypeDesc)(cc:Bool)(a b:List UInt8):jbZ us cc .eql (.str a) (.str b)=some (.bool (decide (a=b))):=by
 unfold jbZ;rw[jrc]
theorem jrd(a b:List UInt8):vBin .neq (.str a) (.str b)=some (.bool (decide (¬a=b))):=by simp only[vBin,jkY];rw[show(a==b)=decide (a=b)from Up.2 (by simp)];simp
theorem jad(us:Option TypeDesc)(cc:Bool)(a b:List UInt8):jbZ us cc .neq (.str a) (.str b)=some (.bool (decide (¬a=b))):=by
 unfold jbZ;rw[jrd]
theorem Yn(cc:Bool)(a b:Bool):jbZ (some .bool) cc .eql (.bool a) (.bool b)=some (.bool (decide (a=b))):=by cases a<;>cases b<;>rfl
theorem Yo(cc:Bool)(a b:Bool):jbZ (some .bool) cc .neq (.bool a) (.bool b)=some (.bool (decide (¬a=b))):=by cases a<;>cases b<;>rfl
theorem Yp(p:Prop)[Decidable p]:vUn .not (.bool (decide p))=some (.bool (decide (¬p))):=by simp[vUn]
theorem YK(k:IntKind)(a:Int):vUn .neg (.int k a)=some (.int k (k.wrap (0-a))):=rfl
theorem Yq:vUn .not (.bool true)=some (.bool false):=rfl
theorem Yr:vUn .not (.bool false)=some (.bool true):=rfl
theorem Ys(s:Nat)(cells:List V)(len:Nat)(c:RCap)(k:IntKind)(i:Int):jaJ s (.row cells len c) (.int k i)=if 0<=i/\i<len then some (.rptr (cells.drop (i.toNat*s)))else none:=rfl
theorem jbJ(s b off len cap:Nat)(ex:HCap)(k:IntKind)(i:Int):jaJ s (.hsl b off len cap ex) (.int k i)=if 0<=i/\i<len then some (.ptr b (off+i.toNat*s))else none:=rfl
theorem Yt(e:TypeId)(cells:List V)(len:Nat)(c:RCap):jes (some (.slice e)) (.row cells len c)=some (.int .i64 len):=rfl
theorem jsv(e:TypeId)(b off len cap:Nat)(ex:HCap):jes (some (.slice e)) (.hsl b off len cap ex)=some (.int .i64 len):=rfl
theorem Yu(e:TypeId):jes (some (.slice e)) .nilsl=some (.int .i64 0):=rfl
theorem jaL(b:List UInt8):jes (some .string) (.str b)=some (.int .i64 b.length):=rfl
theorem Z6 {E:Env}{rec:Task->Option Res}(f:FuncId)(a c:List V)(as:List V)(O:S):jdt E rec (.func f a c) as O=jas E rec f (a++as++c) O:=rfl
theorem Yv(ρ:Operand->Option V):jbw ρ []=some []:=rfl
theorem Yw(ρ:Operand->Option V)(x:Operand)(l:List Operand):jbw ρ (x::l)=(ρ x).bind λv=>(jbw ρ l).map λr=>v::r:=rfl
theorem jaY {E:Env}{h:List AObj}{t:TypeId}{p:V}(ha:aggT E t=some false):jbi E h t p=(jai h 1 p).bind (·[0]?):=by
 simp only[jbi,ha];rfl
theorem Yz(h:List AObj)(cells:List V)(i:Nat):(jai h 1 (.rptr (cells.drop i))).bind (·[0]?)=cells[i]? := by
 simp only[jai,Qo];by_cases hi:1<=cells.length-i
 ·simp only[hi,Ku,Kn];rw[Q4,Jo];simp
 ·simp only[hi,Ks,Option.bind_none];rw[Qf (by omega)]
theorem Y0(k:IntKind)(zs:List Int)(i:Nat):(zs.map (V.int k))[i]? = if i<zs.length then some (V.int k (zs.getD i 0))else none:=by
 rw[Jy];by_cases h:i<zs.length
 ·simp[h]
 ·simp[h]
theorem Uy:type_of% (And.intro @Ys (@Y0)):=And.intro @Ys (@Y0)
theorem wrap_i64 {x:Int}(h1 : -9223372036854775808<=x)(h2:x<=9223372036854775807):IntKind.i64.wrap x=x:=by
 rw[IntKind.wrap_i64];omega
def setT(T:Tm):List (Tmp × V)->Tm
 | []=>T
 |(t,v)::r=>setT (upd T t v) r
theorem Rep.sets {n:Nat}:∀(l:List (Tmp × V)) {T:Tm} {tmps:List V},Rep n T tmps->(∀p∈l,p.1<n)->Rep n (setT T l) (l.foldl (λts (x:Tmp × V)=>ts.set x.1 x.2) tmps)
 | [],T,tmps,h,_=>h
 |(t,v)::r,T,tmps,h,hl=>by
  simp only[Uo,setT];exact Rep.sets r (h.upd (hl (t,v) (by simp)) v) λp hp=>hl p (by simp[hp])
section
variable {E:Env}{fn:FuncId}{rnd:Option Nat}{n:Nat}{Q:Post}{ks:List Kt}{T:Tm}{D:List DE}{O:S}
theorem jgI {l:Nat}{args:List V}{tmps:List V}{ps:Array Tmp}{asg body:Code}{d:Nat}{lo:AObj}{K:S->Prop}
  (hlo:lo=.loop .ready none fn tmps ps asg body d) (hl:O.heap[l]? = some lo) (hr:Rep n T tmps) (ha:args.length=ps.size) (hp:∀p∈ps.toList.zip args,p.1<n)
  (hw:∀lb,lb=AObj.loop .busy none fn tmps ps asg body d->G E fn (some l) n ⟨λT1 D1 O1=>D1=[]/\O1.heap[l]? = some lo /\
   G E fn (some l) n ⟨λ_ D2 O2=>D2=[]/\O2.heap[l]? = some lb/\K (O2.set l lo),λ_ _ _ _=>False,λ_ _ _=>False⟩ [] body T1 []
    (O1.set l lb),λ_ _ _ _=>False,λ_ _ _=>False⟩ [] asg (setT T (ps.toList.zip args)) [] O) :
  ∃O',jdt E (ev E) (.yld l) args O=some (.bool true,O')/\K O':=by
 subst hlo;obtain⟨⟨ex,vals,dd,st⟩,h1,T1,hr1,hq⟩:=jbF E fn (some l) n asg (hw _ rfl) _ (hr.sets _ hp);cases ex with
 |exit i=>exact hq.elim
 |ret=>exact hq.elim
 |pan _=>exact hq.elim
 | normal =>
  obtain⟨hd,hl1,hw2⟩:=hq;simp only at hd hl1 hw2;subst hd;obtain⟨⟨ex2,vals2,d2,st2⟩,g1,T2,gr1,gq⟩:=jbF E fn (some l) n body hw2 _ hr1;cases ex2 with
  |exit i=>exact gq.elim
  |ret=>exact gq.elim
  |pan _=>exact gq.elim
  | normal =>
   obtain⟨hd2,hl2,hK⟩:=gq;simp only at hd2 hl2 hK;subst hd2;refine⟨_,?_,hK⟩
   have:ev E (.round l args O)=some ⟨.ret,[.bool true],[],st2.set l (.loop .ready none fn tmps ps asg body d)⟩:=by
    apply jcf;simp only[jcS,hl];rw[Kj (by simpa using ha)];simp only[h1,hl1,g1,hl2]
   simp only[jdt,this]
theorem jsw {f:Operand}{ps:Array Tmp}{asg body:Code}{fid:FuncId}{first captured:List V}(hf:jaK E T f=some (.func fid first captured))
  (h:∀tmps lo lx,Rep n T tmps->lo=AObj.loop .ready none fn tmps ps asg body O.heap.length->lx=AObj.loop .exhausted none fn tmps ps asg body O.heap.length ->
   ∃v O2,ev E (.call fid (first++[V.yld (O.heap.length+1)]++captured) ⟨O.heap++[.defd true,lo],O.toks⟩)=some ⟨.ret,[v],[],O2⟩ /\
   O2.heap[O.heap.length+1]? = some lo /\
   G E fn none n Q ks .skip T (.mark O.heap.length::D) (O2.set (O.heap.length+1) lx)) :
  G E fn none n Q ks (.rangeFunc f ps asg body) T D O:=by
 intro tmps hr;obtain⟨v,O2,h1,h2,h3⟩:=h tmps _ _ hr rfl rfl;refine⟨⟨.normal,tmps,.mark O.heap.length::D,O2.set (O.heap.length+1) (.loop .exhausted none fn tmps ps asg body O.heap.length)⟩,?_,T,hr,h3⟩;simp only[jbf,hr.eval,hf,h1,h2,reduceCtorEq,Ks]
end
theorem jbk {E:Env}{f:FuncId}{args:List V}{O O':S}{v:V}{F:Go.Func}{body:Code}(hp:E.pure f=false)(hk:E.hook f=none)(hf:E.P.funcs[f]? = some F)(hb:F.body=some body)
  (hn:F.name ≠ "runtime.NumGoroutine") (hl:args.length<=F.ntmps)
  (hw:G E f none F.ntmps ⟨wpR E F.results.toList λv' O''=>v'=v/\O''=O',λ_ _ _ _=>False,wpR E F.results.toList λv' O''=>v'=v/\O''=O'⟩ [] body (argT args) [] O) (hz:E.frz f=false:=by rfl) (hs:E.hookS f=none:=by rfl) :
  jas E (ev E) f args O=some (v,O'):=by
 obtain⟨v',O'',h1,rfl,rfl⟩:=jcv hp hk hf hb hn hl hw hz hs;exact h1
def jhI(o:Option AObj)(off:Nat):Option V :=
 match o with
 |some (.cells cs _)=>cs[off]?
 |some (.ro cs _)=>cs[off]?
 |_=>none
theorem YB(cs:List V)(t:TypeId)(off:Nat):jhI (some (.cells cs t)) off=cs[off]? := rfl
theorem YA(h:List AObj)(b off:Nat):(jai h 1 (.ptr b off)).bind (·[0]?)=jhI h[b]? off:=by
 simp only[jai,jhI];cases h[b]? with
 |none=>rfl
 | some o =>
  cases o with
  | cells cs t =>
   simp only;by_cases hi:off+1<=cs.length
   ·simp only[hi,Ku,Kn];rw[Q4,Jo];simp
   ·simp only[hi,Ks,Option.bind_none];rw[Qf (by omega)]
  | ro cs t =>
   simp only;by_cases hi:off+1<=cs.length
   ·simp only[hi,Ku,Kn];rw[Q4,Jo];simp
   ·simp only[hi,Ks,Option.bind_none];rw[Qf (by omega)]
  |_=>rfl
def storeAt(O:S)(new:List V)(b off:Nat)(o:Option AObj):Option S :=
 match o with
 |some (.cells cs t)=>if off+new.length<=cs.length/\new.all V.isCell then some (O.set b (.cells (jab cs off new) t))else none
 |_=>none
theorem YE(O:S)(new:List V)(b off:Nat)(cs:List V)(t:TypeId):storeAt O new b off (some (.cells cs t))=if off+new.length<=cs.length/\new.all V.isCell then some (O.set b (.cells (jab cs off new) t))else none:=rfl
theorem YD(O:S)(new:List V)(b off:Nat):jbx O new (.ptr b off)=storeAt O new b off O.heap[b]? := by
 simp only[jbx,storeAt];cases O.heap[b]? with
 |none=>rfl
 |some o=>cases o<;>rfl
theorem YI(h:List AObj)(t:List Nat)(o:AObj):S.push ⟨h,t⟩ o=⟨h++[o],t⟩:=rfl
theorem YJ(h:List AObj)(t:List Nat)(b:Nat)(o:AObj):S.set ⟨h,t⟩ b o=⟨h.set b o,t⟩:=rfl
theorem jap:S.empty=⟨[],[]⟩:=rfl
theorem YF(cs:List V)(n:Nat)(c:RCap):(V.row cs n c).cells=[.row cs n c]:=rfl
theorem YH:V.nilsl.cells=[.nilsl]:=rfl
theorem YG(cs:List V)(n:Nat)(c:RCap):(V.row cs n c).isCell=true:=rfl
theorem Y6(k:IntKind)(x:Int):(V.int k x).cells=[.int k x]:=rfl
theorem ja6(k:IntKind)(x:Int):(V.int k x).isCell=true:=rfl
structure One (E:Env) (t e:TypeId) (by':Nat):Prop where
 elem:jf0 E t=some e
 size:sz E e=some 1
 bytes:bys E e=some by'
 zeros:jkK E e=some 1
 slice:E.P.underlying t=some (.slice e)
 zero:∃z,jbG E e=some z/\z.cells.length=1
section
variable {E:Env}{t e:TypeId}{by':Nat}{T:Tm}{O:S}{x:Operand}
inductive Grow (ts:List Nat):V->List V->Prop where
 |nil:Grow ts .nilsl []
 |full (cs:List V):Grow ts (.row cs cs.length .full) cs
 |tok (cs:List V) (k e:Nat) (h:ts[k]? = some e):Grow ts (.row cs cs.length (.tok k e 1)) cs
theorem Grow.len(h:One E t e by'){ts:List Nat}{v:V}{cs:List V}(g:Grow ts v cs):jes (E.P.underlying t) v=some (.int .i64 cs.length):=by
 rw[h.slice];cases g with
 |nil=>rfl
 |full=>rfl
 |tok=>rfl
theorem Grow.append(h:One E t e by'){hp:List AObj}{ts:List Nat}{v:V}{cs:List V}(g:Grow ts v cs){new:List V}{c:RCap}(hn:new.length ≠ 0)(hc:new.all V.isCell=true)
  (hb:(cs.length+new.length)*by'<=lim) (hb2:cs.length+new.length<=lim) :
  ∃k e' ts',appO E false ⟨hp,ts⟩ t t v (.row new new.length c)=some (.row (cs++new) (cs++new).length (.tok k e' 1),⟨hp,ts'⟩)/\ts'[k]? = some e':=by
 have hnew:jbv hp 1 new.length (.row new new.length c)=some new:=by simp[jbv]
 have hn0:new ≠ []:=λe=>hn (by rw[e];rfl)
 unfold appO;simp only[h.elem,h.size,h.bytes,h.slice,h.zeros,vLen,hnew,Kn,Ku];cases g with
 |nil =>
  simp only[K6,K7]at hb hb2;refine⟨ts.length,0,ts++[0],?_,by simp⟩;simp[jbT,hn0,hb,hb2]
 |full =>
  refine⟨ts.length,0,ts++[0],?_,by simp⟩;simp only[jbT,hn,Ks,hb,hb2,hc,Qm,and_self,Ku,Km,Kr]
 | tok _ k e' hk =>
  refine⟨k,e'+1,ts.set k (e'+1),?_,?_⟩
  ·simp only[jbT,hn,Ks,hb,hb2,hc,Qm,and_self,Ku,hk,Kr]
  ·have:k<ts.length:=by
    rcases K4 k ts.length with h1|h1
    ·exact h1
    ·rw[Qf h1]at hk;simp at hk
   simp[this]
structure GrowN (N:Nat) (ts:List Nat) (v:V) (cs:List V):Prop where
 grow:Grow ts v cs
 low:∀k,(∃cs n e s,v=.row cs n (.tok k e s))->N<=k
theorem GrowN.keep {N:Nat}{ts ts':List Nat}{v:V}{cs:List V}(g:GrowN N ts v cs)(h:∀k e,N<=k->ts[k]? = some e->ts'[k]? = some e):GrowN N ts' v cs:=by
 refine⟨?_,g.low⟩;have hl:=g.low;cases g.grow with
 |nil=>exact .nil
 |full=>exact .full _
 |tok _ k e hk=>exact .tok _ k e (h k e (hl k ⟨_,_,_,_,rfl⟩) hk)
theorem GrowN.append(h:One E t e by'){N:Nat}{hp:List AObj}{ts:List Nat}{v v2:V}{cs cs2:List V}(g:GrowN N ts v cs)(hN:N<=ts.length)(g2:Grow ts v2 cs2)(hc:cs2.all V.isCell=true)
  (hb:(cs.length+cs2.length)*by'<=lim) (hb2:cs.length+cs2.length<=lim) :
  ∃v' ts',appO E false ⟨hp,ts⟩ t t v v2=some (v',⟨hp,ts'⟩)/\GrowN N ts' v' (cs++cs2)/\ts.length<=ts'.length/\(∀k,k<N->ts'[k]? = ts[k]?)/\(v'=.nilsl->v=.nilsl/\cs2=[]):=by
 by_cases hn:cs2=[]
 ·subst hn;refine⟨v,ts,?_,by rw[Qx];exact g,Kw _,λ_ _=>rfl,λh=>⟨h,rfl⟩⟩;have hlen:vLen v2=some 0:=by cases g2<;>rfl
  have hcell:jbv hp 1 0 v2=some []:=by cases g2<;>simp[jbv]
  unfold appO;simp only[h.elem,h.size,h.bytes,h.slice,h.zeros,hlen,hcell,Kn,Ku];cases g.grow<;>simp[jbT]
 ·have hn2:cs2.length ≠ 0:=λe=>hn (Qh e)
  have key:∃c,v2=.row cs2 cs2.length c:=by cases g2<;>first|exact absurd rfl hn|exact⟨_,rfl⟩
  obtain⟨c,rfl⟩:=key;have hnew:jbv hp 1 cs2.length (.row cs2 cs2.length c)=some cs2:=by simp[jbv]
  have hl:=g.low;unfold appO;simp only[h.elem,h.size,h.bytes,h.slice,h.zeros,vLen,hnew,Kn,Ku];have hge:=g.grow;generalize hv:v=v0 at hge;cases hge with
  |nil =>
   simp only[K6,K7]at hb hb2;refine⟨.row cs2 cs2.length (.tok ts.length 0 1),⟨ts++[0],?_,⟨.tok cs2 ts.length 0 (by simp),?_⟩,by simp,?_,by simp⟩⟩
   ·simp[jbT,hn,hb,hb2]
   ·rintro k ⟨_,_,_,_,he⟩;cases he;exact hN
   ·intro k hk;exact K2 (by omega)
  |full =>
   refine⟨.row (cs++cs2) (cs++cs2).length (.tok ts.length 0 1),⟨ts++[0],?_,⟨.tok _ ts.length 0 (by simp),?_⟩,by simp,?_,by simp⟩⟩
   ·simp only[jbT,hn2,Ks,hb,hb2,hc,Qm,and_self,Ku,Km,Kr]
   ·rintro k ⟨_,_,_,_,he⟩;cases he;exact hN
   ·intro k hk;exact K2 (by omega)
  | tok _ k e' hk =>
   have hkN:N<=k:=hl k ⟨_,_,_,_,hv⟩
   have hkl:k<ts.length:=by
    rcases K4 k ts.length with h1|h1
    ·exact h1
    ·rw[Qf h1]at hk;simp at hk
   refine⟨.row (cs++cs2) (cs++cs2).length (.tok k (e'+1) 1),⟨ts.set k (e'+1),?_,⟨.tok _ k (e'+1) (by simp[hkl]),?_⟩,by simp,?_,by simp⟩⟩
   ·simp only[jbT,hn2,Ks,hb,hb2,hc,Qm,and_self,Ku,hk,Kr]
   ·rintro k' ⟨_,_,_,_,he⟩;cases he;exact hkN
   ·intro k' hk';exact Kk (by omega)
end
section
variable {E:Env}{m:Bool}{T:Tm}{O:S}
def jre(E:Env)(m:Bool)(O:S)(t:TypeId)(lv cv:V):Option (V × S) :=
 (jf0 E t).bind λe=>(sz E e).bind λs=>(bys E e).bind λby' =>
   match lv,cv with
   | .int .i64 l,.int .i64 c =>
    if 0<=l/\l<=c/\c<=lim/\c*by'<=lim then
     (if c.toNat*s=0 then some (.agg [])else jbG E e).bind λz =>
     if z.cells.length=s\/c.toNat*s=0 then
      if m then some (.hsl O.heap.length 0 l.toNat c.toNat .exact,O.push (.cells (List.replicate c.toNat z.cells).flatten e))
      else if l=c then some (.row (List.replicate c.toNat z.cells).flatten c.toNat .full,O)
      else some (.row ((List.replicate c.toNat z.cells).flatten.take (l.toNat*s)) l.toNat (.tok O.toks.length 0 s),⟨O.heap,O.toks++[0]⟩)
     else none
    else none
   |_,_=>none
theorem jhJ(t:TypeId)(l c:Operand):opT E m T O (.makeSlice t l c)=(jaK E T l).bind λlv=>(jaK E T c).bind λcv=>jre E m O t lv cv:=rfl
def jb0(E:Env)(t:TypeId)(v:V)(l h mx:Option V):Option V :=
  match E.P.underlying t with
  |some .string=>(match v with| .str b=>jcT 0 (.str b) l h mx|_=>none)
  |some (.slice e)=>(sz E e).bind λs =>
   match v with
   | .str _=>none
   |v=>jcT s v l h mx
  |some (.array n e)=>(sz E e).bind λs=>je6 n s v l h mx
  |_=>none
theorem jbb(t:TypeId)(x:Operand)(lo hi mx:Option Operand):opT E m T O (.slice t x lo hi mx)=(jaK E T x).bind λv=>(optO (jaK E T) lo).bind λl=>(optO (jaK E T) hi).bind λh=>(optO (jaK E T) mx).bind λmm=>(jb0 E t v l h mm).map λu=>(u,O):=by
 rw[jby rfl rfl (λ_ h=>by cases h)];simp only[jbp,jb0];cases jaK E T x with
 |none=>rfl
 | some v =>
  simp only[Kn];cases optO (jaK E T) lo with
  |none=>rfl
  | some l =>
   simp only[Kn];cases optO (jaK E T) hi with
   |none=>rfl
   |some h =>
    simp only[Kn];cases optO (jaK E T) mx with
    |none=>rfl
    |some mm=>rfl
theorem jbc(ρ:Operand->Option V):optO ρ none=some none:=rfl
theorem jbg(ρ:Operand->Option V)(x:Operand):optO ρ (some x)=(ρ x).map some:=rfl
def jux (E:Env)(O:S)(t:TypeId)(x y:V):Option (V × S) :=
  (jf0 E t).bind λe=>(sz E e).bind λs =>
        (vLen y).bind λm =>
          match x with
          | .hsl b off len cap ex=>(jbv O.heap s (min m len) y).bind λnew =>
              if min m len=0 then some (.int .i64 0,O)else
              if ex.room s then(jhs O new b off (off+cap*s)).map λO'=>(.int .i64 ((min m len:Nat):Int),O')else
              (jbx O new (.ptr b off)).map λO'=>(.int .i64 ((min m len:Nat):Int),O')
          | .row _ len _=>if min m len=0 then some (.int .i64 0,O)else none
          | .nilsl=>some (.int .i64 0,O)
          |_=>none
theorem juy(x y:Operand)(t t2:TypeId):opT E m T O (.call ⟨.builtin .copy,#[x,y],#[t,t2]⟩)=(jaK E T x).bind λa=>(jaK E T y).bind λb=>jux E O t a b:=by
 unfold opT jux;simp only[jbp,jbu,jbz,jbw,Kx];cases jaK E T x with
 |none=>rfl
 |some a =>
  cases jaK E T y with
  |none=>rfl
  |some b=>rfl
end
theorem jo0(E:Env)(t:TypeId)(x:Operand):scOp E (.load t x)=false:=rfl
theorem jo1(E:Env)(x:Operand):scOp E (.move x)=false:=rfl
theorem jnh(E:Env)(x:Operand):scOp E (.assign x)=false:=rfl
theorem jsx(E:Env)(c x y:Operand):scOp E (.pick c x y)=false:=rfl
theorem jpU(E:Env)(o:BinOp)(t u:TypeId)(x y:Operand):scOp E (.binOp o t x y u)=false:=rfl
theorem jsy(E:Env)(o:UnOp)(t:TypeId)(x:Operand):scOp E (.unOp o t x)=false:=rfl
theorem jiZ(E:Env)(t:TypeId)(x y:Operand):scOp E (.indexAddr t x y)=false:=rfl
theorem jgk(E:Env)(t:TypeId)(x:Operand)(f:Nat):scOp E (.fieldAddr t x f)=false:=rfl
theorem jlj(E:Env)(x:Operand)(i:Nat):scOp E (.extract x i)=false:=rfl
theorem jmf(E:Env)(t:TypeId)(x y:Operand):scOp E (.store t x y)=true:=rfl
theorem jpV(E:Env)(t:Tmp)(as:Array Operand)(ts:Array TypeId):scOp E (.call ⟨.value (.tmp t),as,ts⟩)=true:=rfl
theorem jo2(t:TypeId)(x:Operand):jbd (.load t x)=true:=rfl
theorem jo3(x:Operand):jbd (.move x)=false:=rfl
theorem jni(x:Operand):jbd (.assign x)=false:=rfl
theorem jsz(c x y:Operand):jbd (.pick c x y)=false:=rfl
theorem jpW(o:BinOp)(t u:TypeId)(x y:Operand):jbd (.binOp o t x y u)=false:=rfl
theorem jsA(o:UnOp)(t:TypeId)(x:Operand):jbd (.unOp o t x)=false:=rfl
theorem ji0(t:TypeId)(x y:Operand):jbd (.indexAddr t x y)=false:=rfl
theorem jgl(t:TypeId)(x:Operand)(f:Nat):jbd (.fieldAddr t x f)=false:=rfl
theorem jlk(x:Operand)(i:Nat):jbd (.extract x i)=false:=rfl
theorem jmg(t:TypeId)(x y:Operand):jbd (.store t x y)=false:=rfl
theorem jsB(c:Call):jbd (.call c)=false:=rfl
theorem jiB(E:Env)(T:Tm)(s:S)(t:TypeId)(x:Operand):jbu E (jaK E T) s (.load t x)=(jaK E T x).bind (jbi E s.heap t):=rfl
theorem jsC(h:List AObj)(d b off len cap:Nat)(ex:HCap)(cs:List V)(t:TypeId)(hb:h[b]? = some (.cells cs t))(hl:len<=cap):jbn h (d+1) (.hsl b off len cap ex)=((cs.drop off).mapM (jbn h d)).map λc=>.row c len .unk:=by
 show(match h[b]? with
  |some (.cells cs _)=>if len<=cap then((cs.drop off).mapM (jbn h d)).map (λc=>V.row c len .unk)else none
  |_=>none)=_
 rw[hb];exact Ki hl
def jbr:Nat->Code->Code
 |0,c=>c
 |k+1,.seq _ b=>jbr k b
 |_+1,_=>.skip
def jaz(F:Go.Func):Code:=F.body.getD .skip
section
variable {E:Env}{m:Bool}{T:Tm}{O:S}
def jnj(E:Env)(t:TypeId)(v i:V):Option V :=
  match E.P.underlying t,v,i with
  |some .string,.str s,.int _ n=>if 0<=n/\n<s.length then some (.int .u8 (s.getD n.toNat 0).toNat)else none
  |some (.array len e),.agg cs,.int _ n=>if 0<=n/\n<len then(sz E e).bind λs=>(aggT E e).bind λg=>jid g s cs (n.toNat*s)else none
  |_,_,_=>none
theorem jaG(t:TypeId)(x ix:Operand):opT E m T O (.index t x ix)=((jaK E T x).bind λv=>(jaK E T ix).bind λi=>jnj E t v i).map λv=>(v,O) :=
 jby rfl rfl (λ_ h=>by cases h)
theorem jaE {t:TypeId}(h:E.P.underlying t=some .string)(s:List UInt8)(k:IntKind)(n:Int):jnj E t (.str s) (.int k n)=if 0<=n/\n<s.length then some (.int .u8 (s.getD n.toNat 0).toNat)else none:=by
 simp only[jnj,h]
theorem jrf(a b:List UInt8):vBin .lss (.str a) (.str b)=some (.bool (Op.bytesLess a b)):=rfl
theorem jnk(us:Option TypeDesc)(cc:Bool)(a b:List UInt8):jbZ us cc .lss (.str a) (.str b)=some (.bool (Op.bytesLess a b)):=by
 unfold jbZ;rw[jrf]
theorem jsD {t e:TypeId}{n s:Nat}{cells:List V}(hu:E.P.underlying t=some (.array n e))(hs:sz E e=some s)(hl:cells.length=n*s):jb0 E t (.rptr cells) none none none=some (.row cells n .full):=by
 simp only[jb0,hu,hs,Kn,je6,jbl,Nat.zero_mul,Jn,Nat.sub_zero,Ku];rw[<- hl,J4]
def jsE(E:Env)(t:TypeId)(f:Nat)(v:V):Option V :=
  match E.P.underlying t,v with
  |some (.struct fields),.agg cs=>(fields[f]?).bind λfd=>(sz E fd.type).bind λs=>(aggT E fd.type).bind λg=>jid g s cs fd.offset
  |_,_=>none
theorem jnl(t:TypeId)(x:Operand)(f:Nat):opT E m T O (.field t x f)=((jaK E T x).bind (jsE E t f)).map λv=>(v,O) :=
 jby rfl rfl (λ_ h=>by cases h)
def nilO(E:Env):V->Option V
 | .ptr b o=>some (.ptr b o)
 | .rptr cs=>some (.rptr cs)
 | .meth name r=>(jjD E r name).map λ_=>.meth name r
 |_=>none
theorem jaa(x:Operand):opT E m T O (.nilCheck x)=((jaK E T x).bind (nilO E)).map λv=>(v,O) :=
 jby rfl rfl (λ_ h=>by cases h)
theorem jae(b o:Nat):nilO E (.ptr b o)=some (.ptr b o):=rfl
theorem jnm(a:List UInt8):Op.bytesLess a a=false:=by
 induction a with
 |nil=>rfl
 |cons x r ih=>simp[Op.bytesLess,ih]
end
theorem jhc:∀ws:List (List UInt8),V.closed.closedL (ws.map V.str)=true
 | []=>rfl
 |w::ws=>by simp only[Jf,V.closed.closedL,V.closed,Xz];exact jhc ws
theorem jeh(ws:List (List UInt8))(i:Nat):(ws.map V.str)[i]? = if i<ws.length then some (V.str (ws.getD i []))else none:=by
 rw[Jy];by_cases h:i<ws.length
 ·simp[h]
 ·simp[h]
section
variable {E:Env}{T:Tm}{O:S}
def rowO(E:Env)(t:TypeId)(len:Nat)(ps:List (Nat × V)):Option V:=(jf0 E t).bind λe=>(sz E e).bind λs =>
      (if len*s=0 then some (.agg [])else jbG E e).bind λz =>
      if len*s<=2^24/\(z.cells.length=s\/len*s=0)then
        (jie (λi=>some (i*s,s)) (List.replicate len z.cells).flatten ps).map λcs=>.row cs len .full
      else none
theorem jag(t:TypeId)(len:Nat)(parts:Array (Nat × Operand)):opT E false T O (.buildSlice t len parts)=(jdJ (jaK E T) parts.toList).bind λps=>(rowO E t len ps).map λv=>(v,O):=by
 unfold opT rowO;simp only[jbp,jbu,jbz,Js,Km,Ks];cases jdJ (jaK E T) parts.toList with
 |none=>rfl
 | some ps =>
  simp only[Kn];cases jf0 E t with
  |none=>rfl
  | some e =>
   simp only[Kn];cases sz E e with
   |none=>rfl
   | some s =>
    simp only[Kn];generalize (if len*s=0 then some (V.agg [])else jbG E e)=oz;cases oz with
    |none=>rfl
    |some z =>
     simp only[Kn];split
     ·cases jie (λi=>some (i*s,s)) (List.replicate len z.cells).flatten ps<;>rfl
     ·rfl
end
theorem jaT {L:List AObj}{p:Nat}{x:AObj}(hp:L[p]? = some x):p<L.length:=by
 rcases K4 p L.length with h|h
 ·exact h
 ·rw[Qf h]at hp;simp at hp
theorem jbX {L:List AObj}{p:Nat}{x:AObj}(hp:L[p]? = some x)(X:List AObj):(L++X)[p]? = some x:=by
 rw[K2 (jaT hp)];exact hp
theorem Qp(t:TypeId)(x:Operand):jaX (.load t x)=false:=rfl
theorem Qt(t:TypeId)(x y:Operand):ja9 (.store t x y)=true:=rfl
theorem QE(c x y:Operand):ja9 (.pick c x y)=false:=rfl
theorem QK(N:Nat)(al:List Nat)(mask:Nat)(ρ:Operand->Option V)(o:BinOp)(t u:TypeId)(x y:Operand):jht N al mask ρ (.binOp o t x y u)=true:=rfl
theorem QL(o:UnOp)(t:TypeId)(x:Operand):jaX (.unOp o t x)=false:=rfl
theorem QX(x:Operand)(i:Nat):jaX (.extract x i)=false:=rfl
theorem Q1(c:Call):jaX (.call c)=false:=rfl
theorem Q2(c:Call):ja9 (.call c)=false:=rfl
def regO(id:Nat):Code->Option (Array Oper)
 | .region i ops true=>if i=id then some ops else none
 | .seq a b=>(regO id a).or (regO id b)
 | .cond _ a b=>(regO id a).or (regO id b)
 | .block _ c=>regO id c
 | .loop c=>regO id c
 | .scope c=>regO id c
 |_=>none
def regB(id:Nat)(c:Code):Code:=.region id ((regO id c).getD #[]) true
theorem jam(L:List AObj)(a b:AObj):(L++[a,b])[L.length]? = some a:=by simp
theorem jan(L:List AObj)(a b:AObj):(L++[a,b])[L.length+1]? = some b:=by
 rw[Q6 (by omega)];simp
theorem jao(L:List AObj)(a b o:AObj):(L++[a,b]).set L.length o=L++[o,b]:=by simp
theorem jaq(L:List AObj)(a b o:AObj):(L++[a,b]).set (L.length+1) o=L++[a,o]:=by
 rw[List.set_append_right _ _ (by omega)];simp
theorem jnn(b off len cap:Nat)(q:HCap):(V.hsl b off len cap q).cells=[.hsl b off len cap q]:=rfl
theorem jll(b off len cap:Nat)(q:HCap):(V.hsl b off len cap q).isCell=true:=rfl
def regA(id:Nat):Code->Option Code
 | .region i ops d=>if i=id then some (.region i ops d)else none
 | .seq a b=>(regA id a).or (regA id b)
 | .cond _ a b=>(regA id a).or (regA id b)
 | .block _ c=>regA id c
 | .loop c=>regA id c
 | .scope c=>regA id c
 |_=>none
def regZ(id:Nat)(c:Code):Code:=(regA id c).getD .skip
def jrg(E:Env)(t:TypeId)(v:V):Option V :=
 match E.P.underlying t with
 |some (.interface _)=>none
 |some _=>some (.iface t v)
 |none=>none
theorem jeV {E:Env}{m:Bool}{T:Tm}{O:S}(t:TypeId)(x:Operand):opT E m T O (.makeInterface t x)=((jaK E T x).bind (jrg E t)).map λv=>(v,O) :=
 jby rfl rfl (λ_ h=>by cases h)
theorem jfG {E:Env}{t:TypeId}{k:IntKind}(h:E.P.underlying t=some (.int k))(v:V):jrg E t v=some (.iface t v):=by simp only[jrg,h]
theorem juz {E:Env}{t e:TypeId}(h:E.P.underlying t=some (.pointer e))(v:V):jrg E t v=some (.iface t v):=by simp only[jrg,h]
theorem jfH {E:Env}{t:TypeId}{ms:Array (String × TypeId)}(hu:E.P.underlying t=some (.interface ms))(c:Bool)(u:TypeId)(v:V):binO E t c .neq (some (.iface u v)) (some .nilif)=some (.bool true):=by
 show jdd E t c .neq (.iface u v) .nilif=_;rw[jfE (by cases v<;>rfl),hu];rfl
theorem jcB {E:Env}{t:TypeId}{ms:Array (String × TypeId)}(hu:E.P.underlying t=some (.interface ms)):binO E t true .neq (some .nilif) (some .nilif)=some (.bool false):=by
 show jdd E t true .neq .nilif .nilif=_;rw[jfE (by rfl),hu];rfl
theorem jrh {E:Env}{t tx:TypeId}(h:jfr E t tx=true)(hu:∃ms,E.P.underlying t=some (.interface ms))(c:Bool)(k:IntKind)(a b:Int):binO E t c .eql (some (.iface tx (.int k a))) (some (.iface tx (.int k b)))=some (.bool (decide (a=b))):=by
 obtain⟨ms,hu⟩:=hu;show jdd E t c .eql (.iface tx (.int k a)) (.iface tx (.int k b))=_;unfold jdd;rw[hu];show je7 E t .eql (.iface tx (.int k a)) (.iface tx (.int k b))=_;simp[je7,h];rfl
theorem jri {E:Env}{t tx:TypeId}(h:jfr E t tx=true)(hu:∃ms,E.P.underlying t=some (.interface ms))(c:Bool)(k:IntKind)(a b:Int):binO E t c .neq (some (.iface tx (.int k a))) (some (.iface tx (.int k b)))=some (.bool (decide (¬a=b))):=by
 obtain⟨ms,hu⟩:=hu;show jdd E t c .neq (.iface tx (.int k a)) (.iface tx (.int k b))=_;unfold jdd;rw[hu];show je7 E t .neq (.iface tx (.int k a)) (.iface tx (.int k b))=_;simp[je7,h];rfl
theorem wrap_u64 {x:Int}(h1:0<=x)(h2:x<18446744073709551616):IntKind.u64.wrap x=x:=by
 show(let m:=x % (2^64:Int);if false && decide (m >= 2^63)then m-2^64 else m)=x;simp only[Js,Km,Ks];omega
theorem jmh {x:Int}(h1:18446744073709551616<=x)(h2:x<36893488147419103232):IntKind.u64.wrap x=x-18446744073709551616:=by
 show(let m:=x % (2^64:Int);if false && decide (m >= 2^63)then m-2^64 else m)=x-18446744073709551616;simp only[Js,Km,Ks];omega
theorem jhd {x:Int}(h1:0<=x)(h2:x<256):IntKind.u8.wrap x=x:=by
 show(let m:=x % (2^8:Int);if false && decide (m >= 2^7)then m-2^8 else m)=x;simp only[Js,Km,Ks];omega
def blkC(id:Nat):Code->Option Code
 | .block i c=>if i=id then some c else blkC id c
 | .seq a b=>(blkC id a).or (blkC id b)
 | .cond _ a b=>(blkC id a).or (blkC id b)
 | .loop c=>blkC id c
 | .scope c=>blkC id c
 |_=>none
def jf2(id:Nat)(c:Code):Code:=match blkC id c with
 |some (.loop c)=>c
 |_=>.skip
section
variable {E:Env}{fn:FuncId}{rnd:Option Nat}{n:Nat}{Q:Post}{ks:List Kt}{T:Tm}{D:List DE}{O:S}
theorem jno {l:Nat}{args:List V}{tmps:List V}{ps:Array Tmp}{asg body:Code}{d:Nat}{lo:AObj}{K:S->Prop}
  (hlo:lo=.loop .ready none fn tmps ps asg body d) (hl:O.heap[l]? = some lo) (hr:Rep n T tmps) (ha:args.length=ps.size) (hp:∀p∈ps.toList.zip args,p.1<n)
  (hw:∀lb lr,lb=AObj.loop .busy none fn tmps ps asg body d->lr=AObj.loop .done (some .ret) fn tmps ps asg body d->G E fn (some l) n ⟨λT1 D1 O1=>D1=[]/\O1.heap[l]? = some lo /\
   G E fn (some l) n ⟨λ_ _ _=>False,λ_ _ _ _=>False,λ_ D2 O2=>D2=[]/\O2.heap[l]? = some lb/\K (O2.set l lr)⟩ [] body T1 []
    (O1.set l lb),λ_ _ _ _=>False,λ_ _ _=>False⟩ [] asg (setT T (ps.toList.zip args)) [] O) :
  ∃O',jdt E (ev E) (.yld l) args O=some (.bool false,O')/\K O':=by
 subst hlo;obtain⟨⟨ex,vals,dd,st⟩,h1,T1,hr1,hq⟩:=jbF E fn (some l) n asg (hw _ _ rfl rfl) _ (hr.sets _ hp);cases ex with
 |exit i=>exact hq.elim
 |ret=>exact hq.elim
 |pan _=>exact hq.elim
 | normal =>
  obtain⟨hd,hl1,hw2⟩:=hq;simp only at hd hl1 hw2;subst hd;obtain⟨⟨ex2,vals2,d2,st2⟩,g1,T2,gr1,gq⟩:=jbF E fn (some l) n body hw2 _ hr1;cases ex2 with
  |exit i=>exact gq.elim
  |normal=>exact gq.elim
  |pan _=>exact gq.elim
  | ret =>
   obtain⟨hd2,hl2,hK⟩:=gq;simp only at hd2 hl2 hK;subst hd2;refine⟨_,?_,hK⟩
   have:ev E (.round l args O)=some ⟨.ret,[.bool false],[],st2.set l (.loop .done (some .ret) fn tmps ps asg body d)⟩:=by
    apply jcf;simp only[jcS,hl];rw[Kj (by simpa using ha)];simp only[h1,hl1,g1,hl2]
   simp only[jdt,this]
theorem jpX {f:Operand}{ps:Array Tmp}{asg body:Code}{fid:FuncId}{first captured:List V}(hf:jaK E T f=some (.func fid first captured))
    (h:∀tmps lo lr,Rep n T tmps->lo=AObj.loop .ready none fn tmps ps asg body O.heap.length->lr=AObj.loop .done (some .ret) fn tmps ps asg body O.heap.length ->
      ∃v O2,ev E (.call fid (first++[V.yld (O.heap.length+1)]++captured) ⟨O.heap++[.defd true,lo],O.toks⟩)=some ⟨.ret,[v],[],O2⟩ /\
      ((O2.heap[O.heap.length+1]? = some lo/\∃lx,lx=AObj.loop .exhausted none fn tmps ps asg body O.heap.length /\
        G E fn none n Q ks .skip T (.mark O.heap.length::D) (O2.set (O.heap.length+1) lx)) \/
       (O2.heap[O.heap.length+1]? = some lr/\∃lx,lx=AObj.loop .exhausted (some .ret) fn tmps ps asg body O.heap.length /\
        G E fn none n Q ks .ret T (.mark O.heap.length::D) (O2.set (O.heap.length+1) lx)))) :
    G E fn none n Q ks (.rangeFunc f ps asg body) T D O:=by
  intro tmps hr;obtain⟨v,O2,h1,⟨h2,lx,rfl,h3⟩|⟨h2,lx,rfl,h3⟩⟩:=h tmps _ _ hr rfl rfl
  · refine⟨⟨.normal,tmps,.mark O.heap.length::D,O2.set (O.heap.length+1) (.loop .exhausted none fn tmps ps asg body O.heap.length)⟩,?_,T,hr,h3⟩
    simp only[jbf,hr.eval,hf,h1,h2,reduceCtorEq,Ks]
  · refine⟨⟨.ret,tmps,.mark O.heap.length::D,O2.set (O.heap.length+1) (.loop .exhausted (some .ret) fn tmps ps asg body O.heap.length)⟩,?_,T,hr,h3⟩
    simp only[jbf,hr.eval,hf,h1,h2,reduceCtorEq,Ks]
end
set_option linter.unusedVariables false
def wpB(v:V)(b:Bool)(run skip:Prop):Prop :=
 match v with
 | .tup []=>skip
 | .bool c=>if c=b then run else skip
 |_=>False
section
variable (E:Env)
theorem jsF {rec:Task->Option Res}{mutb:Bool}{ops:Array Oper}{tmps:List V}{O O1:S}{o:Oper}{l:List Oper}{v:V}(h:(if Region.wanted o (jaD ops tmps)then opV E rec mutb tmps O o.op else some (.tup [],O))=some (v,O1)) :
  dRun E rec mutb ops (o::l) tmps O=(match dRun E rec mutb ops l (putT tmps o.dst v) O1 with
   |some (tr,ss,tf,Of)=>some ((tmps,v)::tr,if scOp E o.op then O1::ss else ss,tf,Of)
   |none=>none):=by
 simp only[dRun,h];cases dRun E rec mutb ops l (putT tmps o.dst v) O1<;>rfl
def Made(ops:Array Oper)(mutb:Bool)(K:S->Prop)(o:Oper)(t:List V)(v:V):Prop :=
 Region.wanted o (jaD ops t)=false\/∃(O0 O1:S),opV E (ev E) mutb t O0 o.op=some (v,O1)/\(jbd o.op=true->∀O',K O'->jbu E (ja8 E t) O' o.op=some v)
end
section
variable {E:Env}{fn:FuncId}{rnd:Option Nat}{n:Nat}{Q:Post}{ks:List Kt}{m:Bool}{ops:Array Oper}{l:List Oper}{T:Tm}{D:List DE}{O:S}
end
def AllM(K:Nat->S->Prop)(P:S->Prop):List Nat->Prop
 | []=>True
 |m::ms=>(∀O',K m O'->P O')/\AllM K P ms
theorem jdD(K:Nat->S->Prop)(P:S->Prop):AllM K P []=True:=rfl
theorem jdE(K:Nat->S->Prop)(P:S->Prop)(m:Nat)(ms:List Nat):AllM K P (m::ms)=((∀O',K m O'->P O')/\AllM K P ms):=rfl
theorem AllM.mem {K:Nat->S->Prop}{P:S->Prop}:∀{ms:List Nat},AllM K P ms->∀m∈ms,∀O',K m O'->P O'
 | [],_,m,hm=>by simp at hm
 |a::ms,⟨h1,h2⟩,m,hm=>by
  rcases Qv.1 hm with rfl|h
  ·exact h1
  ·exact h2.mem m h
section
variable (E:Env)
def wpW(mutb:Bool)(ops:Array Oper)(n:Nat)(K:Nat->S->Prop):List Oper->List (Bool × List Nat)->Nat->Tm->S->(Tm->S->Prop)->Prop
 | [],_,_,T,O,k=>k T O
 |_::_,[],_,_,_,_=>False
 | ⟨dst,op,_,_,_,none⟩::l,(s,ms)::ws,c,T,O,k=>V1 (opT E mutb T O op) λp=>AllM K (λO'=>jbu E (jaK E T) O' op=some p.1) ms/\(s=true->K (c+1) p.2) /\
  (match dst with
   |none=>wpW mutb ops n K l ws (if s then c+1 else c) T p.2 k
   |some d=>d<n/\wpW mutb ops n K l ws (if s then c+1 else c) (upd T d p.1) p.2 k)
 | ⟨some d,op,_,_,_,some (j,b)⟩::l,(s,ms)::ws,c,T,O,k=>V1 ((ops[j]?).bind (·.dst)) λdj=>d<n/\wpB (T dj) b
   (V1 (opT E mutb T O op) λp=>AllM K (λO'=>jbu E (jaK E T) O' op=some p.1) ms/\(s=true->K (c+1) p.2)/\wpW mutb ops n K l ws (if s then c+1 else c) (upd T d p.1) p.2 k)
   ((s=true->K (c+1) O)/\wpW mutb ops n K l ws (if s then c+1 else c) (upd T d (.tup [])) O k)
 | ⟨none,op,_,_,_,some (j,b)⟩::l,(s,ms)::ws,c,T,O,k=>V1 ((ops[j]?).bind (·.dst)) λdj=>wpB (T dj) b
   (V1 (opT E mutb T O op) λp=>AllM K (λO'=>jbu E (jaK E T) O' op=some p.1) ms/\(s=true->K (c+1) p.2)/\wpW mutb ops n K l ws (if s then c+1 else c) T p.2 k)
   ((s=true->K (c+1) O)/\wpW mutb ops n K l ws (if s then c+1 else c) T O k)
def jsG(ops:Array Oper)(mutb:Bool)(K:Nat->S->Prop)(o:Oper)(ms:List Nat)(t:List V)(v:V)(O0:Option S):Prop :=
 Region.wanted o (jaD ops t)=false\/∃(s0 s1:S),O0=some s0/\opV E (ev E) mutb t s0 o.op=some (v,s1)/\AllM K (λO'=>jbu E (ja8 E t) O' o.op=some v) ms
theorem jj2 {mutb:Bool}{n:Nat}{ops:Array Oper}{K:Nat->S->Prop}:∀(l:List Oper) (ws:List (Bool × List Nat)) (c:Nat) {T:Tm} {tmps:List V} {O:S} {k:Tm->S->Prop},(∀(j:Nat) (o:Oper) (w:Bool × List Nat),l[j]? = some o->ws[j]? = some w->w.1=scOp E o.op)->Rep n T tmps->wpW E mutb ops n K l ws c T O k ->
  ∃(tr:List (List V × V)) (ss:List S) (tf:List V) (Of:S) (T':Tm),dRun E (ev E) mutb ops l tmps O=some (tr,ss,tf,Of)/\Rep n T' tf/\k T' Of/\(∀(i:Nat) (s:S),ss[i]? = some s->K (c+i+1) s) /\
   ∀(j:Nat) (o:Oper),l[j]? = some o->∃(t:List V) (v:V) (w:Bool × List Nat),tr[j]? = some (t,v)/\ws[j]? = some w/\jsG E ops mutb K o w.2 t v (O::ss)[cntO E l j]?
 | [],ws,c,T,tmps,O,k,hs,h,hw=>⟨[],[],tmps,O,T,rfl,h,hw,λi s hs=>by simp at hs,λj o hj=>by simp at hj⟩
 |o::l,[],c,T,tmps,O,k,hs,h,hw=>hw.elim
 | o::l,(s,ms)::ws,c,T,tmps,O,k,hs,h,hw=>by
  have hs0:s=scOp E o.op:=hs 0 o (s,ms) rfl rfl
  have key:∃v O1 T1,(if Region.wanted o (jaD ops tmps)then opV E (ev E) mutb tmps O o.op else some (.tup [],O))=some (v,O1)/\(s=true->K (c+1) O1)/\Rep n T1 (putT tmps o.dst v)/\wpW E mutb ops n K l ws (if s then c+1 else c) T1 O1 k/\jsG E ops mutb K o ms tmps v (some O):=by
   obtain⟨dst,op,t,p,a,g⟩:=o;cases g with
   |none =>
    simp only[wpW]at hw;obtain⟨⟨v,O1⟩,hop,hR,hK,hw⟩:=hw;rw[jj0 E h]at hop;simp only at hK hR hw;have hm:jsG E ops mutb K ⟨dst,op,t,p,a,none⟩ ms tmps v (some O):=.inr ⟨O,O1,rfl,hop,by rw[h.eval];exact hR⟩;have hwant:Region.wanted ⟨dst,op,t,p,a,none⟩ (jaD ops tmps)=true:=rfl;cases dst with
    |none=>exact⟨v,O1,T,by rw[Ki hwant];exact hop,hK,h,hw,hm⟩
    |some d=>exact⟨v,O1,_,by rw[Ki hwant];exact hop,hK,h.upd hw.1 v,hw.2,hm⟩
   | some jb =>
    obtain⟨j,b⟩:=jb;cases dst with
    | none =>
     simp only[wpW]at hw;obtain⟨dj,hdj,hw⟩:=hw
     have skip:(s=true->K (c+1) O)/\wpW E mutb ops n K l ws (if s then c+1 else c) T O k->Region.wanted ⟨none,op,t,p,a,some (j,b)⟩ (jaD ops tmps)=false ->
       ∃v O1 T1,(if Region.wanted ⟨none,op,t,p,a,some (j,b)⟩ (jaD ops tmps)then opV E (ev E) mutb tmps O op else some (.tup [],O))=some (v,O1)/\(s=true->K (c+1) O1)/\Rep n T1 (putT tmps none v)/\wpW E mutb ops n K l ws (if s then c+1 else c) T1 O1 k/\jsG E ops mutb K ⟨none,op,t,p,a,some (j,b)⟩ ms tmps v (some O):=λhs hn =>
      ⟨.tup [],O,_,by rw[hn];rfl,hs.1,h,hs.2,.inl hn⟩
     unfold wpB at hw;split at hw
     ·rename_i htup;refine skip hw ?_;simp only[Region.wanted,jfD h hdj htup];rfl
     ·rename_i cc hc;have hy:=jfC (ops:=ops) h hdj hc;by_cases hcb:cc=b
      ·rw[Ki hcb]at hw;obtain⟨⟨v,O1⟩,hop,hR,hK,hw⟩:=hw;rw[jj0 E h]at hop;simp only at hK hR hw
       have hwant:Region.wanted ⟨none,op,t,p,a,some (j,b)⟩ (jaD ops tmps)=true:=by
        simp only[Region.wanted,hy,hcb];simp
       exact⟨v,O1,_,by rw[Ki hwant];exact hop,hK,h,hw,.inr ⟨O,O1,rfl,hop,by rw[h.eval];exact hR⟩⟩
      ·rw[Kj hcb]at hw;refine skip hw ?_;simp only[Region.wanted,hy];simp[hcb]
     ·exact hw.elim
    | some d =>
     simp only[wpW]at hw;obtain⟨dj,hdj,hd,hw⟩:=hw
     have skip:(s=true->K (c+1) O)/\wpW E mutb ops n K l ws (if s then c+1 else c) (upd T d (.tup [])) O k->Region.wanted ⟨some d,op,t,p,a,some (j,b)⟩ (jaD ops tmps)=false ->
       ∃v O1 T1,(if Region.wanted ⟨some d,op,t,p,a,some (j,b)⟩ (jaD ops tmps)then opV E (ev E) mutb tmps O op else some (.tup [],O))=some (v,O1)/\(s=true->K (c+1) O1)/\Rep n T1 (putT tmps (some d) v)/\wpW E mutb ops n K l ws (if s then c+1 else c) T1 O1 k/\jsG E ops mutb K ⟨some d,op,t,p,a,some (j,b)⟩ ms tmps v (some O):=λhs hn =>
      ⟨.tup [],O,_,by rw[hn];rfl,hs.1,h.upd hd _,hs.2,.inl hn⟩
     unfold wpB at hw;split at hw
     ·rename_i htup;refine skip hw ?_;simp only[Region.wanted,jfD h hdj htup];rfl
     ·rename_i cc hc;have hy:=jfC (ops:=ops) h hdj hc;by_cases hcb:cc=b
      ·rw[Ki hcb]at hw;obtain⟨⟨v,O1⟩,hop,hR,hK,hw⟩:=hw;rw[jj0 E h]at hop;simp only at hK hR hw
       have hwant:Region.wanted ⟨some d,op,t,p,a,some (j,b)⟩ (jaD ops tmps)=true:=by
        simp only[Region.wanted,hy,hcb];simp
       exact⟨v,O1,_,by rw[Ki hwant];exact hop,hK,h.upd hd v,hw,.inr ⟨O,O1,rfl,hop,by rw[h.eval];exact hR⟩⟩
      ·rw[Kj hcb]at hw;refine skip hw ?_;simp only[Region.wanted,hy];simp[hcb]
     ·exact hw.elim
  obtain⟨v,O1,T1,hstep,hK,hr1,hw1,hm⟩:=key;obtain⟨tr,ss,tf,Of,T',h1,h2,h3,h4,h5⟩:=jj2 l ws _ (λj o w hj hw=>hs (j+1) o w (by simpa using hj) (by simpa using hw)) hr1 hw1;refine⟨(tmps,v)::tr,if scOp E o.op then O1::ss else ss,tf,Of,T',by rw[jsF E hstep,h1],h2,h3,?_,?_⟩
  ·intro i x hx;rw[<- hs0]at hx;cases s with
   | true =>
    simp only[Ku]at hx h4;cases i with
    |zero =>
     simp only[Qr,Kg]at hx;subst hx;exact hK rfl
    |succ i =>
     simp only[Qg]at hx;have:=h4 i x hx;rwa[show c+1+i+1=c+(i+1)+1 by omega]at this
   |false =>
    simp only[Km,Ks]at hx h4;exact h4 i x hx
  ·intro j o' hj;cases j with
   |zero =>
    simp only[Qr,Kg]at hj;subst hj;refine⟨tmps,v,(s,ms),rfl,rfl,?_⟩;have:cntO E (o::l) 0=0:=by simp[cntO]
    rw[this];exact hm
   | succ j =>
    simp only[Qg]at hj ⊢;obtain⟨t,v',w,a1,a2,a3⟩:=h5 j o' hj;refine⟨t,v',w,a1,a2,?_⟩;rw[jdA];cases hsc:scOp E o.op with
    |true =>
     simp only[Ku];rw[Jv 1,Qg];exact a3
    | false =>
     have e:O1=O:=by
      split at hstep
      ·exact jjP hsc hstep
      ·simp only[Kg,Kh]at hstep;exact hstep.2.symm
     simp only[Km,Ks,K7];rw[<- e];exact a3
def jwV(ops:Array Oper)(masks:List Nat)(ws:List (Bool × List Nat)):Bool :=
 (List.range ops.size).all λj=>match ops[j]?,ws[j]? with
  |some o,some w=>(w.1==scOp E o.op) && (w.1 || !jbd o.op ||jbs E o.op ||(List.range (jaN E ops ops.size+1)).all λm => !jeZ E ops masks j m ||m==jaN E ops j ||w.2.contains m)
  |_,_=>false
theorem jsH(ops:Array Oper)(j:Nat):cntO E ops.toList j=jaN E ops j:=rfl
theorem jsI {fn:FuncId}{rnd:Option Nat}{id:Nat}{ops:Array Oper}{K:Nat->S->Prop}{ws:List (Bool × List Nat)}{n:Nat}{T:Tm}{tmps:List V}{dfs:List DE}{O:S}{k:Tm->S->Prop}(hp:jdx E ops (jat [] ops.toList)=true)(hM:jwV E ops (jat [] ops.toList) ws=true)(hK:K 0 O)
  (hr:Rep n T tmps) (hw:wpW E (E.mutb fn id) ops n K ops.toList ws 0 T O k) :
  ∃tf Of T',jbf E (ev E) fn rnd (.region id ops true) tmps dfs O=some ⟨.normal,tf,dfs,Of⟩/\Rep n T' tf/\k T' Of:=by
 unfold jwV at hM;rw[K1]at hM
 have hsc:∀(j:Nat) (o:Oper) (w:Bool × List Nat),ops.toList[j]? = some o->ws[j]? = some w->w.1=scOp E o.op:=by
  intro j o w hj hw;rw[Q9]at hj
  have hlt:j<ops.size:=by
   rcases K4 j ops.size with h|h
   ·exact h
   ·rw[Vr h]at hj;simp at hj
  have h6:=hM j (by simpa using hlt);simp only[hj,hw,K8,beq_iff_eq]at h6;exact h6.1
 obtain⟨tr,ss,tf,Of,T',h1,h2,h3,h4,h5⟩:=jj2 E (ops:=ops) ops.toList ws 0 hsc hr hw;refine⟨tf,Of,T',?_,h2,h3⟩
 have hsl:ss.length=jaN E ops ops.size:=by
  have:=(jd0 _ h1).2.1;rw[this];simp[jsH]
 have hc:jgR E ops (jat [] ops.toList) tr (O::ss)=true:=by
  unfold jgR;rw[K1];intro j hj0;have hj:j<ops.size:=by simpa using hj0
  have hoj:ops[j]? = some ops[j]:=Jq hj;have hoj2:ops.toList[j]? = some ops[j]:=by rw[Q9];exact hoj
  obtain⟨t,v,w,ht,hwj,hmade⟩:=h5 j ops[j] hoj2;simp only[hoj,ht];by_cases hs:scOp E ops[j].op=true
  ·simp[hs]
  by_cases hpc:jbs E ops[j].op=true
  ·simp[hpc]
  rcases hmade with hun|⟨s0,s1,he,hop,hrd⟩
  ·simp[hun]
  by_cases ha:(jbp E (ja8 E t) ops[j].op).isSome=true
  ·simp[ha]
  have ha':jbp E (ja8 E t) ops[j].op=none:=by simpa using ha
  have hread:=jjp (by simpa using hs) (by simpa using hpc) ha' hop
  have hreads:jbd ops[j].op=true:=by
   cases hx:jbd ops[j].op with
   |true=>rfl
   |false=>rw[jgG hx]at hread;simp at hread
  rw[Q0];right;rw[K1];intro m hm;have hm:m<(O::ss).length:=by simpa using hm
  have hm2:m<jaN E ops ops.size+1:=by simp at hm;omega
  rw[K5 hm];cases hal:jeZ E ops (jat [] ops.toList) j m with
  |false=>rfl
  | true =>
   have hgood:jbu E (ja8 E t) (O::ss)[m] ops[j].op=some v:=by
    have h6:=hM j hj0;have hw1:w.1=false:=by rw[hsc j _ w hoj2 hwj];simpa using hs
    have hpc':jbs E ops[j].op=false:=by simpa using hpc
    simp only[hoj,hwj,hreads,hw1,hpc',Qz,Jc,K8,K1]at h6;have h7:=h6.2 m (by simpa using hm2);rw[hal]at h7;simp only[Qz,Jc,Q0,beq_iff_eq,List.contains_iff_mem]at h7
    rcases h7 with rfl|h7
    ·rw[jsH,K5 hm,Kg]at he;rw[he];exact hread
    ·refine hrd.mem m h7 _ ?_;cases m with
     |zero=>exact hK
     |succ m =>
      simp only[Ja];have hms:m<ss.length:=by simp at hm;omega
      have:=h4 m _ (K5 hms);rwa[K7]at this
   simp only[hgood,V.beq_refl,Xu]
 simp only[jbf,hp,Ku,h1,hc]
end
section
variable {E:Env}{fn:FuncId}{rnd:Option Nat}{n:Nat}{Q:Post}{ks:List Kt}{m:Bool}{ops:Array Oper}{l:List Oper}{T:Tm}{D:List DE}{O:S}{ws:List (Bool × List Nat)}{c:Nat}
def GW(E:Env)(fn:FuncId)(rnd:Option Nat)(n:Nat)(Q:Post)(ks:List Kt)(m:Bool)(K:Nat->S->Prop)(ops:Array Oper)(l:List Oper)(ws:List (Bool × List Nat))(c:Nat)(T:Tm)(D:List DE)(O:S):Prop :=
 wpW E m ops n K l ws c T O λT O=>(Kt.post E fn rnd n Q ks).norm T D O
def GWS(E:Env)(fn:FuncId)(rnd:Option Nat)(n:Nat)(Q:Post)(ks:List Kt)(m:Bool)(K:Nat->S->Prop)(ops:Array Oper)(l:List Oper)(s:Bool)(ms:List Nat)(ws:List (Bool × List Nat))(c:Nat)(T:Tm)(D:List DE)(d:Option Nat)(op:Op)(o:Option (V × S)):Prop :=
 V1 o λp=>AllM K (λO'=>jbu E (jaK E T) O' op=some p.1) ms/\(s=true->K (c+1) p.2) /\
  (match d with
   |none=>GW E fn rnd n Q ks m K ops l ws (if s then c+1 else c) T D p.2
   |some d=>d<n/\GW E fn rnd n Q ks m K ops l ws (if s then c+1 else c) (upd T d p.1) D p.2)
theorem jsJ {id:Nat}{l:List Oper}(hs:E.stab fn id=true)(ws:List (Bool × List Nat))(K:Nat->S->Prop)(hK:K 0 O)(hp:jdx E l.toArray (jat [] l)=true)(hM:jwV E l.toArray (jat [] l) ws=true)(h:GW E fn rnd n Q ks (E.mutb fn id) K l.toArray l ws 0 T D O) :
  G E fn rnd n Q ks (.region id l.toArray true) T D O:=by
 unfold G wpC;simp only[hs];intro tmps hr;obtain⟨tf,Of,T',h1,h2,h3⟩:=jsI E (rnd:=rnd) (dfs:=D) hp hM hK hr h;exact⟨_,h1,T',h2,h3⟩
theorem jhK(K:Nat->S->Prop):GW E fn rnd n Q ks m K ops [] ws c T D O=G E fn rnd n Q ks .skip T D O:=by unfold GW wpW;rfl
theorem jmi(K:Nat->S->Prop)(d:Option Nat)(op:Op)(t:TypeId)(p:String)(a:Array Edge)(s:Bool)(ms:List Nat):GW E fn rnd n Q ks m K ops (⟨d,op,t,p,a,none⟩::l) ((s,ms)::ws) c T D O=GWS E fn rnd n Q ks m K ops l s ms ws c T D d op (opT E m T O op):=rfl
theorem jmj(K:Nat->S->Prop)(d:Nat)(op:Op)(v:V)(O':S):GWS E fn rnd n Q ks m K ops l false [] ws c T D (some d) op (some (v,O'))=(d<n/\GW E fn rnd n Q ks m K ops l ws c (upd T d v) D O'):=by
 unfold GWS;rw[Yy];simp[jdD]
theorem jhL(K:Nat->S->Prop)(op:Op)(v:V)(O':S):GWS E fn rnd n Q ks m K ops l false [] ws c T D none op (some (v,O'))=GW E fn rnd n Q ks m K ops l ws c T D O':=by
 unfold GWS;rw[Yy];simp[jdD]
theorem jmk(K:Nat->S->Prop)(d:Nat)(op:Op)(ms:List Nat)(v:V)(O':S):GWS E fn rnd n Q ks m K ops l true ms ws c T D (some d) op (some (v,O'))=(AllM K (λO'=>jbu E (jaK E T) O' op=some v) ms/\K (c+1) O'/\d<n/\GW E fn rnd n Q ks m K ops l ws (c+1) (upd T d v) D O'):=by
 unfold GWS;rw[Yy];simp
theorem jhM(K:Nat->S->Prop)(op:Op)(ms:List Nat)(v:V)(O':S):GWS E fn rnd n Q ks m K ops l true ms ws c T D none op (some (v,O'))=(AllM K (λO'=>jbu E (jaK E T) O' op=some v) ms/\K (c+1) O'/\GW E fn rnd n Q ks m K ops l ws (c+1) T D O'):=by
 unfold GWS;rw[Yy];simp
theorem jml(K:Nat->S->Prop)(d:Nat)(op:Op)(m0:Nat)(ms:List Nat)(v:V)(O':S):GWS E fn rnd n Q ks m K ops l false (m0::ms) ws c T D (some d) op (some (v,O'))=(AllM K (λO'=>jbu E (jaK E T) O' op=some v) (m0::ms)/\d<n/\GW E fn rnd n Q ks m K ops l ws c (upd T d v) D O'):=by
 unfold GWS;rw[Yy];simp
theorem jfI(K:Nat->S->Prop)(s:Bool)(ms:List Nat)(d:Option Nat)(op:Op)(x:Prop)[Decidable x](o:Option (V × S)):GWS E fn rnd n Q ks m K ops l s ms ws c T D d op (if x then o else none)=(x/\GWS E fn rnd n Q ks m K ops l s ms ws c T D d op o):=by simp only[GWS,jlf]
theorem jei(K:Nat->S->Prop)(s:Bool)(ms:List Nat)(d:Option Nat)(op:Op)(x:Prop)[Decidable x](o:Option (V × S)):GWS E fn rnd n Q ks m K ops l s ms ws c T D d op (if x then none else o)=(¬x/\GWS E fn rnd n Q ks m K ops l s ms ws c T D d op o):=by simp only[GWS,jiy]
end
def Post.ofP(n:Nat)(Q:Post)(X:V->List V->List DE->S->Prop)(r:Res):Prop :=
 match r.ex with
 | .pan v=>X v r.vals r.dfs r.st
 |_=>Q.of n r
def wpP(E:Env)(fn:FuncId)(rnd:Option Nat)(n:Nat)(X:V->List V->List DE->S->Prop)(c:Code)(T:Tm)(D:List DE)(O:S)(Q:Post):Prop :=
 ∀tmps,Rep n T tmps->∃r,jbf E (ev E) fn rnd c tmps D O=some r/\Post.ofP n Q X r
def PanC(E:Env)(T:Tm)(op:Op)(O:S)(K:V->S->Prop):Prop :=
 match op with
 | .call { callee:=.value g,args,.. }=>∃f first captured as v O',jaK E T g=some (.func f first captured)/\jbw (jaK E T) args.toList=some as/\E.pure f=false/\E.hook f=none/\E.frz f=false/\E.hookS f=none /\
   ev E (.call f (first++as++captured) O)=some ⟨.pan v,[],[],O'⟩/\K v O'
 |_=>False
def PanO(E:Env)(T:Tm)(op:Op)(O:S)(K:V->S->Prop):Prop :=
 match op with
 | .panic x=>∃t v,jaK E T x=some (.iface t v)/\K (.iface t v) O
 |op=>PanC E T op O K
section
variable {E:Env}{fn:FuncId}{rnd:Option Nat}{n:Nat}{X:V->List V->List DE->S->Prop}{T:Tm}{D:List DE}{O:S}{Q:Post}
theorem jvS {c:Code}(h:wpX E fn rnd n c T D O Q):wpP E fn rnd n X c T D O Q:=λtmps hr=>by
 obtain⟨r,h1,h2⟩:=h tmps hr;refine⟨r,h1,?_⟩;obtain⟨ex,vals,d,st⟩:=r;cases ex with
 |pan v=>obtain⟨_,_,h⟩:=h2;exact h.elim
 |normal=>exact h2
 |exit i=>exact h2
 |ret=>exact h2
theorem jrj {c:Code}(h:G E fn rnd n Q [] c T D O):wpP E fn rnd n X c T D O Q:=jvS (jbF E fn rnd n c h)
theorem jhe {a b:Code}(h:wpP E fn rnd n X a T D O ⟨λT D O=>wpP E fn rnd n X b T D O Q,Q.exit,Q.ret⟩):wpP E fn rnd n X (.seq a b) T D O Q:=λtmps hr=>by
 obtain⟨⟨ex,vals,d,st⟩,h1,hq⟩:=h tmps hr;simp only[jbf,h1];cases ex with
 |normal =>
  obtain⟨T1,hr1,hq⟩:=hq;exact hq vals hr1
 |exit i=>exact⟨_,rfl,hq⟩
 |ret=>exact⟨_,rfl,hq⟩
 |pan _=>exact⟨_,rfl,hq⟩
theorem jpY {t:Nat}{x y:Code}{b:Bool}(hT:T t=.bool b)(h:wpP E fn rnd n X (if b then x else y) T D O Q):wpP E fn rnd n X (.cond (.tmp t) x y) T D O Q:=λtmps hr=>by
 simp only[jbf,hr.eval,jaK,hT];cases b with
 |true=>exact h tmps hr
 |false=>exact h tmps hr
theorem jsK {id:Nat}{c:Code}(h:wpP E fn rnd n X c T D O ⟨Q.norm,λi T D O=>if i=id then Q.norm T D O else Q.exit i T D O,Q.ret⟩):wpP E fn rnd n X (.block id c) T D O Q:=λtmps hr=>by
 obtain⟨⟨ex,vals,d,st⟩,h1,hq⟩:=h tmps hr;simp only[jbf,h1];cases ex with
 |normal=>exact⟨_,rfl,hq⟩
 |exit i =>
  refine⟨_,rfl,?_⟩;obtain⟨T1,hr1,hq⟩:=hq;simp only at hq;by_cases e:i=id
  ·simp only[e,Ku]at hq ⊢;exact⟨T1,hr1,hq⟩
  ·simp only[e,Ks]at hq ⊢;exact⟨T1,hr1,hq⟩
 |ret=>exact⟨_,rfl,hq⟩
 |pan _=>exact⟨_,rfl,hq⟩
theorem juA {c:Code}(I:Nat->Tm->List DE->S->Prop)(h:∀m T D O,I m T D O->wpP E fn rnd n X c T D O ⟨λT D O=>∃m',m'<m/\I m' T D O,Q.exit,Q.ret⟩):∀m T D O,I m T D O->wpP E fn rnd n X (.loop c) T D O Q:=by
 have key:∀m T D O,I m T D O->∀tmps,Rep n T tmps->∃r,ev E (.loop fn rnd c tmps D O)=some r/\Post.ofP n Q X r:=by
  intro m
  induction m using Nat.strongRecOn with
  | ind m ih =>
   intro T D O hI tmps hr;obtain⟨⟨ex,vals,d,st⟩,h1,hq⟩:=h m T D O hI tmps hr;cases ex with
   |normal =>
    obtain⟨T1,hr1,m',hm,hI'⟩:=hq;obtain⟨r,h2,h3⟩:=ih m' hm T1 d st hI' vals hr1;exact⟨r,jcf (by simp only[jcS,h1];exact h2),h3⟩
   |exit i=>exact⟨⟨.exit i,vals,d,st⟩,jcf (by simp only[jcS,h1]),hq⟩
   |ret=>exact⟨⟨.ret,vals,d,st⟩,jcf (by simp only[jcS,h1]),hq⟩
   |pan x=>exact⟨⟨.pan x,vals,d,st⟩,jcf (by simp only[jcS,h1]),hq⟩
 intro m T D O hI tmps hr;exact key m T D O hI tmps hr
theorem PanO.opP {op:Op}{K:V->S->Prop}{tmps:List V}(hr:Rep n T tmps)(h:PanO E T op O K):∃v O',opP E (ev E) tmps O op=some (v,O')/\K v O':=by
 unfold PanO at h;split at h
 ·obtain⟨t,v,h1,h2⟩:=h;exact⟨_,_,by simp only[Go.Ab.opP,hr.eval,h1],h2⟩
 ·unfold PanC at h;split at h
  ·obtain⟨f,first,captured,as,v,O',h1,h2,h3,h4,h5,h6,h7,h8⟩:=h;exact⟨v,O',by simp only[Go.Ab.opP,hr.eval,h1,h2,jik,h3,h4,h5,h6,h7,Xl,Km,Ks],h8⟩
  ·exact h.elim
theorem jiC {rec:Task->Option Res}{mutb:Bool}{ops:Array Oper}:∀(pre:List Oper) (l:List Oper) {tmps t':List V} {O O':S},jd2 E rec mutb ops pre tmps O=some (t',O')->∀rc dfs,jcg E rec rnd mutb ops (pre++l) rc tmps dfs O=jcg E rec rnd mutb ops l rc t' dfs O'
 | [],l,tmps,t',O,O',h,rc,dfs=>by
  simp only[jd2,Kg,Kh]at h;obtain⟨rfl,rfl⟩:=h;rfl
 | o::pre,l,tmps,t',O,O',h,rc,dfs=>by
  simp only[jd2]at h;simp only[Ji,jcg];split at h
  ·rename_i hw;rw[Ki hw];split at h
   ·rename_i v O1 hop;exact jiC pre l h rc dfs
   ·simp at h
  ·rename_i hw;rw[Kj hw];exact jiC pre l h rc dfs
theorem jjt {id:Nat}{l:List Oper}(k:Nat)(pre:List Oper)(o:Oper)(hpre:l.take k=pre)(ho:l[k]? = some o)(hg:o.guard=none)
  (h:GL E fn rnd n ⟨λT' _ O'=>PanO E T' o.op O' λv O''=>∀vals,Rep n T' vals->X v vals D O'',λ_ _ _ _=>False,λ_ _ _=>False⟩ [] (E.mutb fn id) l.toArray pre T D O) :
  wpP E fn rnd n X (.region id l.toArray false) T D O Q:=λtmps hr=>by
 subst hpre;obtain⟨tmps',O',T',h1,h2,h3⟩:=jb4 E (l.take k) hr h;have h3':PanO E T' o.op O' λv O''=>∀vals,Rep n T' vals->X v vals D O'':=h3
 obtain⟨v,O'',h4,h5⟩:=h3'.opP h2
 have hl:l=l.take k++o::l.drop (k+1):=by
  have hk:k<l.length:=by
   rcases K4 k l.length with h|h
   ·exact h
   ·rw[Qf h]at ho;cases ho
  have e:l[k]=o:=by rw[K5 hk]at ho;exact Option.some.inj ho
  rw[<- e,<- Q8 hk,J9]
 refine⟨⟨.pan v,tmps',D,O''⟩,?_,h5 _ h2⟩;rw[jeg];have hx:=jiC (rnd:=rnd) (l.take k) (o::l.drop (k+1)) h1 none D;rw[<- hl]at hx;rw[hx];have hw:Region.wanted o (jaD l.toArray tmps')=true:=by simp[Region.wanted,hg]
 simp only[jcg,hw,Ku,jcu h4,h4];rfl
def winP(E:Env)(ops:Array Oper)(masks:List Nat)(J:Nat)(ws:List (Bool × List Nat)):Bool :=
 (List.range J).all λj=>match ops[j]?,ws[j]? with
  |some o,some w=>(w.1==scOp E o.op) && (w.1 || !jbd o.op ||jbs E o.op ||(List.range (jaN E ops J+1)).all λm => !jeZ E ops masks j m ||m==jaN E ops j ||w.2.contains m)
  |_,_=>false
theorem jpZ {rec:Task->Option Res}{mutb:Bool}{ops:Array Oper}:∀(pre:List Oper) {o:Oper} {l:List Oper} {tmps tf:List V} {O Of Ox:S} {tr:List (List V × V)} {ss:List S} {x:V},dRun E rec mutb ops pre tmps O=some (tr,ss,tf,Of) ->
  Region.wanted o (jaD ops tf)=true->opP E rec tf Of o.op=some (x,Ox)->jf1 E rec mutb ops (pre++o::l) tmps O=some (tr,ss,tf,Of,x,Ox)/\dRun E rec mutb ops (pre++o::l) tmps O=none
 | [],o,l,tmps,tf,O,Of,Ox,tr,ss,x,h,hw,hop=>by
  simp only[dRun,Kg,Kh]at h;obtain⟨rfl,rfl,rfl,rfl⟩:=h;simp only[Jt,jf1,dRun,hw,Ku,jcu hop,hop,and_self]
 | p::pre,o,l,tmps,tf,O,Of,Ox,tr,ss,x,h,hw,hop=>by
  simp only[dRun]at h;simp only[Ji,jf1,dRun];split at h
  ·rename_i v O1 h1;split at h
   ·rename_i tr1 ss1 tf1 Of1 h2;simp only[Kg,Kh]at h;obtain⟨rfl,rfl,rfl,rfl⟩:=h;obtain⟨a1,a2⟩:=jpZ pre (l:=l) h2 hw hop;rw[a1,a2];exact⟨rfl,rfl⟩
   ·simp at h
  ·simp at h
theorem jmm {id:Nat}{l:List Oper}(J:Nat)(pre:List Oper)(o:Oper)(ws:List (Bool × List Nat))(K:Nat->S->Prop)(hpre:l.take J=pre)(ho:l[J]? = some o)(hg:o.guard=none)(hK:K 0 O)
  (hp:jdx E l.toArray (jat [] l)=true) (hM:winP E l.toArray (jat [] l) J ws=true) (hpan:jwB E l.toArray (jat [] l) J=true) (hres:jmH (je9 l n) (jrS E fn)=true) (hwl:ws.length=J)
  (h:GW E fn rnd n ⟨λT' _ O'=>PanO E T' o.op O' λv O''=>∀vals,Rep n T vals->X v (vals.take (je9 l n)) D O'',λ_ _ _ _=>False,λ_ _ _=>False⟩ [] (E.mutb fn id) K l.toArray pre ws 0 T D O) :
  wpP E fn rnd n X (.region id l.toArray true) T D O Q:=λtmps hr=>by
 subst hpre
 have hJl:J<l.length:=by
  rcases K4 J l.length with h|h
  ·exact h
  ·rw[Qf h]at ho;cases ho
 unfold winP at hM;rw[K1]at hM
 have hsc:∀(j:Nat) (o:Oper) (w:Bool × List Nat),(l.take J)[j]? = some o->ws[j]? = some w->w.1=scOp E o.op:=by
  intro j o w hj hw
  have hlt:j<J:=by
   rcases K4 j J with h|h
   ·exact h
   ·rw[Qf (by rw[hwl];exact h)]at hw;cases hw
  rw[Xb hlt]at hj;have h6:=hM j (by simpa using hlt);simp only[Je,hj,hw,K8,beq_iff_eq]at h6;exact h6.1
 obtain⟨tr,ss,tf,Of,T',h1,h2,h3,h4,h5⟩:=jj2 E (ops:=l.toArray) (l.take J) ws 0 hsc hr h;have h3':PanO E T' o.op Of λv O''=>∀vals,Rep n T vals->X v (vals.take (je9 l n)) D O'':=h3
 obtain⟨v,O'',h7,h8⟩:=h3'.opP h2
 have hl:l=l.take J++o::l.drop (J+1):=by
  have e:l[J]=o:=by rw[K5 hJl]at ho;exact Option.some.inj ho
  rw[<- e,<- Q8 hJl,J9]
 have hw:Region.wanted o (jaD l.toArray tf)=true:=by simp[Region.wanted,hg]
 obtain⟨a1,a2⟩:=jpZ (l.take J) (l:=l.drop (J+1)) h1 hw h7;rw[<- hl]at a1 a2;have hlen:(l.take J).length=J:=by rw[K9];omega
 obtain⟨htl,hsl,_⟩:=jd0 _ h1;rw[hlen]at htl hsl
 have hcnt:∀j,j<=J->cntO E (l.take J) j=jaN E l.toArray j:=λj hj=>by
  unfold cntO jaN;rw[Vw,J1 hj]
 rw[hcnt J (Kw _)]at hsl
 have hck:jlW E l.toArray (jat [] l) J tr (O::ss)=true:=by
  unfold jlW;rw[K1];intro j hj0;have hj:j<J:=by simpa using hj0
  have hjl:j<l.length:=by omega
  have hoj:l.toArray[j]? = some l[j]:=by simp[hjl]
  have hoj2:(l.take J)[j]? = some l[j]:=by rw[Xb hj];simp[hjl]
  obtain⟨t,v,w,ht,hwj,hmade⟩:=h5 j l[j] hoj2;simp only[hoj,ht];by_cases hs:scOp E l[j].op=true
  ·simp[hs]
  by_cases hpc:jbs E l[j].op=true
  ·simp[hpc]
  rcases hmade with hun|⟨s0,s1,he,hop,hrd⟩
  ·simp[hun]
  by_cases ha:(jbp E (ja8 E t) l[j].op).isSome=true
  ·simp[ha]
  have ha':jbp E (ja8 E t) l[j].op=none:=by simpa using ha
  have hread:=jjp (by simpa using hs) (by simpa using hpc) ha' hop
  have hreads:jbd l[j].op=true:=by
   cases hx:jbd l[j].op with
   |true=>rfl
   |false=>rw[jgG hx]at hread;simp at hread
  rw[Q0];right;rw[K1];intro m hm;have hm:m<(O::ss).length:=by simpa using hm
  have hm2:m<jaN E l.toArray J+1:=by simp at hm;omega
  rw[K5 hm];cases hal:jeZ E l.toArray (jat [] l) j m with
  |false=>rfl
  | true =>
   have hgood:jbu E (ja8 E t) (O::ss)[m] l[j].op=some v:=by
    have h6:=hM j hj0;have hw1:w.1=false:=by rw[hsc j _ w hoj2 hwj];simpa using hs
    have hpc':jbs E l[j].op=false:=by simpa using hpc
    simp only[hoj,hwj,hreads,hw1,hpc',Qz,Jc,K8,K1]at h6;have h7:=h6.2 m (by simpa using hm2);rw[hal]at h7;simp only[Qz,Jc,Q0,beq_iff_eq,List.contains_iff_mem]at h7
    rcases h7 with rfl|h7
    ·rw[hcnt j (by omega),K5 hm,Kg]at he;rw[he];exact hread
    ·refine hrd.mem m h7 _ ?_;cases m with
     |zero=>exact hK
     |succ m =>
      simp only[Ja];have hms:m<ss.length:=by simp at hm;omega
      have:=h4 m _ (K5 hms);rwa[K7]at this
   simp only[hgood,V.beq_refl,Xu]
 refine⟨⟨.pan v,tmps.take (je9 l n),D,O''⟩,?_,h8 tmps hr⟩;have hn:tmps.length=n:=hr.1;simp only[jbf,hp,Ku,a2,dPan,a1,htl,hpan,hck,hn,hres,Bool.and_self,Kx]
def EndD(E:Env)(g:FuncId)(caps:List V)(rs:List ResultVar)(k:V->S->Prop)(T:Tm)(D:List DE)(O:S):Prop :=
 D=[.call g caps]/\∃O',ev E (.dcall g caps none O)=some ⟨.ret,[.bool false],[],O'⟩/\V1 (resT E T O'.heap rs) λvs=>k (jaW vs) O'
def jyd(E:Env)(g:FuncId)(caps:List V)(rs:List ResultVar)(k:V->S->Prop)(v:V)(vals:List V)(D:List DE)(O:S):Prop :=
 D=[.call g caps]/\∃O',ev E (.dcall g caps (some v) O)=some ⟨.ret,[.bool true],[],O'⟩/\V1 (resV E vals O'.heap rs) λvs=>k (jaW vs) O'
theorem jye {f g:FuncId}{args caps:List V}{O:S}{k:V->S->Prop}{F:Go.Func}{body:Code}(hf:E.P.funcs[f]? = some F)(hb:F.body=some body)(hn:F.name ≠ "runtime.NumGoroutine")(hl:args.length<=F.ntmps)
  (hw:wpP E f none F.ntmps (jyd E g caps F.results.toList k) body (argT args) [] O ⟨EndD E g caps F.results.toList k,λ_ _ _ _=>False,EndD E g caps F.results.toList k⟩) :
  ∃v O',ev E (.call f args O)=some ⟨.ret,[v],[],O'⟩/\k v O':=by
 obtain⟨⟨ex,vals,d,st⟩,h1,hq⟩:=hw _ (Rep.args args F.ntmps hl)
 have key:∀T1,Rep F.ntmps T1 vals->EndD E g caps F.results.toList k T1 d st->(∀i,ex ≠ .exit i)->(∀v,ex ≠ .pan v)->∃v O',ev E (.call f args O)=some ⟨.ret,[v],[],O'⟩/\k v O':=by
  intro T1 hr1 ⟨hD,O',hd,vs,hvs,hk⟩ hne hnp;subst hD;refine⟨jaW vs,O',jcf ?_,hk⟩;rw[<- hr1.res]at hvs;have ht:jbI st.heap [DE.call g caps]=none:=rfl;have hu:jcp (ev E) none [DE.call g caps] st=some (none,O'):=by simp only[jcp,hd,Km,Ks]
  simp only[jcS,hf,hb,hn,Ks,h1];cases ex with
  |exit i=>exact absurd rfl (hne i)
  |pan v=>exact absurd rfl (hnp v)
  |normal=>simp only[ht,finD,hu,hvs]
  |ret=>simp only[ht,finD,hu,hvs]
 cases ex with
 |normal=>obtain⟨T1,hr1,h⟩:=hq;exact key T1 hr1 h (λi h=>by cases h) λi h=>by cases h
 |exit i=>obtain⟨_,_,h⟩:=hq;exact h.elim
 |ret=>obtain⟨T1,hr1,h⟩:=hq;exact key T1 hr1 h (λi h=>by cases h) λi h=>by cases h
 |pan v =>
  obtain⟨hD,O',hd,vs,hvs,hk⟩:=hq;simp only at hD hd hvs;subst hD;refine⟨jaW vs,O',jcf ?_,hk⟩;have hu:jcp (ev E) (some v) [DE.call g caps] st=some (none,O'):=by simp only[jcp,hd,Ku]
  simp only[jcS,hf,hb,hn,Ks,h1,finD,hu,hvs]
theorem jp0 {g:FuncId}{args:List V}{pv:Option V}{O O1 O':S}{F:Go.Func}{id:Nat}{ops:Array Oper}{rest:Code}{rc:Option (Option V)}{tmps1:List V}{T1:Tm}(hf:E.P.funcs[g]? = some F)(hb:F.body=some (.seq (.region id ops false) rest))(hn:F.name ≠ "runtime.NumGoroutine")
  (hX:jdu E (ev E) none (E.mutb g id) ops (List.range ops.size) (some pv) (args++List.replicate (F.ntmps-args.length) (.tup [])) [] O=some ⟨none,rc,tmps1,[],O1⟩) (hr:Rep F.ntmps T1 tmps1) (hres:F.results.toList=[])
  (hG:G E g none F.ntmps ⟨λ_ D O''=>D=[]/\O''=O',λ_ _ _ _=>False,λ_ D O''=>D=[]/\O''=O'⟩ [] rest T1 [] O1) :
  ev E (.dcall g args pv O)=some ⟨.ret,[.bool (gotV rc pv)],[],O'⟩:=by
 obtain⟨⟨ex,vals,d,st⟩,h1,T2,hr2,hq⟩:=jbF E g none F.ntmps rest hG _ hr;refine jcf ?_
 have hx:jb8 E (ev E) g (.seq (.region id ops false) rest) pv (args++List.replicate (F.ntmps-args.length) (.tup [])) O=some (gotV rc pv,⟨ex,vals,d,st⟩):=by
  simp only[jb8,hX,h1]
 cases ex with
 |exit i=>exact hq.elim
 |pan v=>exact hq.elim
 |normal =>
  obtain⟨rfl,rfl⟩:=hq;simp only[jcS,hf,hb,hn,Ks,hx,jbI,hres,resV]
 |ret =>
  obtain⟨rfl,rfl⟩:=hq;simp only[jcS,hf,hb,hn,Ks,hx,jbI,hres,resV]
end
def jjf:V->Option Nat
 | .hsl b _ _ _ _=>some b
 |_=>none
def StkV(h:List AObj)(t:TypeId)(w:Nat)(v:V)(n:Nat)(xs:List V):Prop :=
 xs.length=n*w/\((v=.nilsl/\n=0)\/∃b cap cs,v=.hsl b 0 n cap (.grow w)/\h[b]? = some (.cells cs t)/\n<=cap/\cap*w<=cs.length/\cs.take (n*w)=xs)
theorem StkV.nil(h:List AObj)(t:TypeId)(w:Nat):StkV h t w .nilsl 0 []:=⟨by simp,.inl ⟨rfl,rfl⟩⟩
theorem StkV.move {h h':List AObj}{t:TypeId}{w n:Nat}{v:V}{xs:List V}(s:StkV h t w v n xs)(hq:∀b,jjf v=some b->h'[b]? = h[b]?):StkV h' t w v n xs:=by
 obtain⟨hl,⟨rfl,rfl⟩|⟨b,cap,cs,rfl,hb,h1,h2,h3⟩⟩:=s
 ·exact⟨hl,.inl ⟨rfl,rfl⟩⟩
 ·exact⟨hl,.inr ⟨b,cap,cs,rfl,by rw[hq b rfl];exact hb,h1,h2,h3⟩⟩
theorem StkV.lt {h:List AObj}{t:TypeId}{w n:Nat}{v:V}{xs:List V}(s:StkV h t w v n xs){b:Nat}(hb:jjf v=some b):b<h.length:=by
 obtain⟨hl,⟨rfl,rfl⟩|⟨b',cap,cs,rfl,hb',h1,h2,h3⟩⟩:=s
 ·simp[jjf]at hb
 ·simp only[jjf,Kg]at hb;subst hb;exact(Kz.1 hb').1
theorem StkV.cells {h:List AObj}{t:TypeId}{w n:Nat}{v:V}{xs:List V}(s:StkV h t w v n xs):v.cells=[v]/\v.isCell=true:=by
 obtain⟨hl,⟨rfl,rfl⟩|⟨b',cap,cs,rfl,hb',h1,h2,h3⟩⟩:=s<;>exact⟨rfl,rfl⟩
theorem StkV.len {h:List AObj}{t:TypeId}{w n:Nat}{v:V}{xs:List V}(s:StkV h t w v n xs)(e:TypeId):jes (some (.slice e)) v=some (.int .i64 n):=by
 obtain⟨hl,⟨rfl,rfl⟩|⟨b',cap,cs,rfl,hb',h1,h2,h3⟩⟩:=s<;>rfl
theorem StkV.push {E:Env}{L:List AObj}{ts:List Nat}{t ty ty2:TypeId}{w n nb:Nat}{v y:V}{xs new:List V}(s:StkV L t w v n xs)(he:jf0 E ty=some t)(hs:sz E t=some w)(hz:jkK E t=some w)(hb:bys E t=some nb)(hu:∃e2,E.P.underlying ty2=some (.slice e2))
  (hw:0<w) (hlim:(n+1)*nb<=lim/\n+1<=lim) (hy:vLen y=some 1) (hc:jbv L w 1 y=some new) (hnl:new.length=w) (hcell:new.all V.isCell=true) :
  ∃v' L',appO E true ⟨L,ts⟩ ty ty2 v y=some (v',⟨L',ts⟩)/\StkV L' t w v' (n+1) (xs++new)/\(∀q,q<L.length->jjf v ≠ some q->L'[q]? = L[q]?)/\L.length<=L'.length/\(jjf v'=jjf v\/jjf v'=some L.length):=by
 obtain⟨e2,hu⟩:=hu;obtain⟨hl,hcase⟩:=s;have hlen:(xs++new).length=(n+1)*w:=by rw[Kr,hl,hnl,Jb,Vp]
 unfold appO;simp only[he,hs,hb,hu,hz,hy,hc,Kn,Ku]
 rcases hcase with⟨rfl,rfl⟩|⟨b,cap,cs,rfl,hbk,h1,h2,h3⟩
 ·have hx:xs=[]:=Qh (by simpa using hl);subst hx;refine⟨.hsl L.length 0 1 1 (.grow w),L++[.cells new t],?_,⟨hlen,.inr ⟨L.length,1,new,rfl,by simp,by omega,by omega,?_⟩⟩,λq hq _=>by rw[K2 hq],by simp,.inr rfl⟩
  ·have h1:(1:Nat)*nb<=lim/\1<=lim:=by simpa using hlim
   simp[jbT,S.push,by simpa using h1]
  ·rw[Jt];exact Qi (by simp[hnl])
 ·have hblt:=(Kz.1 hbk).1;by_cases hfit:n+1<=cap
  ·have hn1:(n+1)*w<=cap*w:=Qj w hfit;have hn2:n*w+w<=cs.length:=by rw[Jb,Vp]at hn1;omega
   refine⟨.hsl b 0 (n+1) cap (.grow w),L.set b (.cells (jab cs (n*w) new) t),?_,⟨hlen,.inr ⟨b,cap,jab cs (n*w) new,rfl,by simp[hblt],hfit,?_,?_⟩⟩,λq hq hne=>by rw[Kk (λe=>hne (by simp[jjf,e]))],by simp,.inl rfl⟩
   ·simp[jbT,hfit,jbx,hbk,hnl,hn2,hcell,S.set]
   ·simp only[jab,Kr,K9,Qo,hnl];omega
   ·rw[jab,h3,Jb,Vp];have:(xs++new).length=n*w+w:=by rw[Kr,hl,hnl]
    rw[Vu (by omega)];exact Qi (by omega)
  ·have hcl:n*w<=cs.length:=by
    have:n*w<=cap*w:=Qj w h1;omega
   refine⟨.hsl L.length 0 (n+1) (n+1) (.grow w),(L.set b .dead)++[.cells (cs.take (n*w)++new) t],?_,⟨hlen,.inr ⟨L.length,n+1,cs.take (n*w)++new,rfl,by simp,Kw _,?_,?_⟩⟩,λq hq hne => ?_,by simp,.inr rfl⟩
   ·simp[jbT,hfit,hbk,hcl,hlim,hcell,S.push,S.set]
   ·rw[h3,hlen];exact Kw _
   ·rw[h3];exact Qi (by omega)
   ·rw[K2 (by simpa using hq),Kk (λe=>hne (by simp[jjf,e]))]
theorem StkV.cut {E:Env}{h:List AObj}{t ty:TypeId}{w n:Nat}{v:V}{xs:List V}(s:StkV h t w v n xs)(hu:E.P.underlying ty=some (.slice t))(hs:sz E t=some w)(k:Nat)(hk:k<=n)(lo:Option V)(hlo:lo=none\/lo=some (.int .i64 0)) :
  ∃v',jb0 E ty v lo (some (.int .i64 k)) none=some v'/\StkV h t w v' k (xs.take (k*w))/\jjf v'=jjf v:=by
 obtain⟨hl,hcase⟩:=s;have hkw:k*w<=n*w:=Qj w hk;have hlen:(xs.take (k*w)).length=k*w:=by rw[K9];omega
 have hlo2:∀m,jbl lo 0 m=some 0:=by
  intro m
  rcases hlo with rfl|rfl<;>simp[jbl]
 rcases hcase with⟨rfl,rfl⟩|⟨b,cap,cs,rfl,hbk,h1,h2,h3⟩
 ·have:k=0:=by omega
  subst this;exact⟨.nilsl,by rcases hlo with rfl|rfl<;>simp[jb0,hu,hs,jcT,jbl],⟨hlen,.inl ⟨rfl,rfl⟩⟩,rfl⟩
 ·refine⟨.hsl b 0 k cap (.grow w),?_,⟨hlen,.inr ⟨b,cap,cs,rfl,hbk,by omega,h2,?_⟩⟩,rfl⟩
  ·have h5:((k:Nat):Int)<=(cap:Int):=by omega
   rcases hlo with rfl|rfl<;>simp[jb0,hu,hs,jcT,jbl,h5,HCap.cut]
  ·rw[<- h3,Vw,J1 hkw]
def RdS(h:List AObj)(w:Nat)(u:V)(n:Nat)(xs:List V):Prop :=
 xs.length=n*w/\(∀e,jes (some (.slice e)) u=some (.int .i64 n))/\vLen u=some n/\∀i,i<n->∃p,jaJ w u (.int .i64 i)=some p/\jai h w p=some ((xs.drop (i*w)).take w)
theorem RdS.row(h:List AObj)(w:Nat)(xs:List V)(n:Nat)(c:RCap)(hl:xs.length=n*w):RdS h w (.row xs n c) n xs:=by
 refine⟨hl,λe=>rfl,rfl,λi hi=>⟨.rptr (xs.drop (i*w)),?_,?_⟩⟩
 ·have h1:(i:Int)<(n:Int):=by omega
  simp[jaJ,hi]
 ·have:(i+1)*w<=n*w:=Qj w hi;rw[Jb,Vp]at this;simp only[jai,Qo];rw[Ki (by omega)]
theorem RdS.nil(h:List AObj)(w:Nat):RdS h w .nilsl 0 []:=⟨by simp,λe=>rfl,rfl,λi hi=>by omega⟩
theorem RdS.hsl {h:List AObj}{w b off n cap:Nat}{ex:HCap}{cs:List V}{t:TypeId}(hb:h[b]? = some (.cells cs t))(hl:off+n*w<=cs.length):RdS h w (.hsl b off n cap ex) n ((cs.drop off).take (n*w)):=by
 refine⟨by rw[K9,Qo];omega,λe=>rfl,rfl,λi hi=>⟨.ptr b (off+i*w),?_,?_⟩⟩
 ·simp[jaJ,hi]
 ·have:(i+1)*w<=n*w:=Qj w hi;rw[Jb,Vp]at this;simp only[jai,hb];rw[Ki (by omega),List.drop_take,Vw,Xf,J1 (by omega)]
theorem StkV.rd {h:List AObj}{t:TypeId}{w n:Nat}{v:V}{xs:List V}(s:StkV h t w v n xs):RdS h w v n xs:=by
 obtain⟨hl,⟨rfl,rfl⟩|⟨b,cap,cs,rfl,hbk,h1,h2,h3⟩⟩:=s
 ·have hx:xs=[]:=Qh (by simpa using hl);subst hx;exact .nil h w
 ·have:n*w<=cap*w:=Qj w h1;have:=RdS.hsl (w:=w) (n:=n) (cap:=cap) (ex:=.grow w) (off:=0) hbk (by omega);rw[Jn,h3]at this;exact this
theorem ZL1:(∀(α:Type) (d a:α) (l:List α),(a::l).getD 0 d=a)/\(∀(α:Type) (d a:α) (l:List α) (n:Nat),(a::l).getD (n+1) d=l.getD n d)/\(∀(α:Type) (l:List α) (i:Nat),l.toArray[i]? = l[i]?)/\(∀(α:Type) (a:α) (l:List α),(a::l)[0]? = some a)/\(∀(α:Type) (a:α) (l:List α) (n:Nat),(a::l)[n+1]? = l[n]?)/\(∀(α:Type) (l:List α),[]++l=l)/\(∀(α:Type) (a:α) (l r:List α),(a::l)++r=a::(l++r))/\(∀(α:Type) (l:List α),l++[]=l) :=
 ⟨λ_ _ _ _=>rfl,λ_ _ _ _ _=>rfl,λ_ _ _=>Je,λ_ _ _=>rfl,λ_ _ _ _=>rfl,λ_ _=>rfl,λ_ _ _ _=>rfl,λ_ l=>Qx l⟩
theorem ZB1:(∀b:Bool,(b ||false)=b)/\(∀b:Bool,(false ||b)=b)/\(∀b:Bool,(true && b)=b)/\(∀b:Bool,(b ||true)=true)/\(∀b:Bool,(true ||b)=true):=⟨Vl,λb=>Jc b,Xz,λb=>Xu b,X7⟩
set_option linter.unusedSimpArgs false
structure Elt (E:Env) (t e:TypeId) (w nb:Nat):Prop where
 elem:jf0 E t=some e
 size:sz E e=some w
 bytes:bys E e=some nb
 zeros:jkK E e=some w
 slice:E.P.underlying t=some (.slice e)
inductive GrowV (base:Nat) (ts:List Nat) (w:Nat):V->Nat->List V->Prop where
 |nil:GrowV base ts w .nilsl 0 []
 |full (cs:List V) (n:Nat) (hl:cs.length=n*w):GrowV base ts w (.row cs n .full) n cs
 |tok (cs:List V) (n k e:Nat) (hl:cs.length=n*w) (hb:base<=k) (ht:ts[k]? = some e):GrowV base ts w (.row cs n (.tok k e w)) n cs
def Ext(base:Nat)(ts ts':List Nat):Prop:=ts.length<=ts'.length/\∀k,k<base->ts'[k]? = ts[k]?
theorem Ext.rfl'(base:Nat)(ts:List Nat):Ext base ts ts:=⟨Kw _,λ_ _=>rfl⟩
theorem Ext.trans {b:Nat}{ts t2 t3:List Nat}(h:Ext b ts t2)(g:Ext b t2 t3):Ext b ts t3:=⟨Qs h.1 g.1,λk hk=>by rw[g.2 k hk,h.2 k hk]⟩
theorem Ext.mono {b c:Nat}{ts ts':List Nat}(h:Ext c ts ts')(hb:b<=c):Ext b ts ts':=⟨h.1,λk hk=>h.2 k (by omega)⟩
theorem GrowV.ext {base w n:Nat}{ts ts':List Nat}{v:V}{cs:List V}(g:GrowV base ts w v n cs)(h:Ext ts.length ts ts'):GrowV base ts' w v n cs:=by
 cases g with
 |nil=>exact .nil
 |full _ _ hl=>exact .full _ _ hl
 |tok _ _ k e hl hb ht =>
  refine .tok _ _ k e hl hb ?_;rw[h.2 k (Kz.1 ht).1];exact ht
theorem GrowV.weakbase {base b2 w n:Nat}{ts:List Nat}{v:V}{cs:List V}(g:GrowV base ts w v n cs)(h:b2<=base):GrowV b2 ts w v n cs:=by
 cases g with
 |nil=>exact .nil
 |full _ _ hl=>exact .full _ _ hl
 |tok _ _ k e hl hb ht=>exact .tok _ _ k e hl (Qs h hb) ht
theorem GrowV.cells {base w n:Nat}{ts:List Nat}{v:V}{cs:List V}(g:GrowV base ts w v n cs):v.cells=[v]/\v.isCell=true:=by cases g<;>exact⟨rfl,rfl⟩
theorem GrowV.lens {base w n:Nat}{ts:List Nat}{v:V}{cs:List V}(g:GrowV base ts w v n cs):cs.length=n*w:=by cases g<;>simp_all
theorem GrowV.len {base w n:Nat}{ts:List Nat}{v:V}{cs:List V}(g:GrowV base ts w v n cs)(e:TypeId):jes (some (.slice e)) v=some (.int .i64 n):=by cases g<;>rfl
theorem GrowV.vlen {base w n:Nat}{ts:List Nat}{v:V}{cs:List V}(g:GrowV base ts w v n cs):vLen v=some n:=by cases g<;>rfl
theorem GrowV.vcells {base w n:Nat}{ts:List Nat}{v:V}{cs:List V}(g:GrowV base ts w v n cs)(h:List AObj):jbv h w n v=some cs:=by
 cases g with
 |nil=>rfl
 |full _ _ hl=>simp only[jbv];rw[Ki (by omega),Qi (by omega)]
 |tok _ _ k e hl hb ht=>simp only[jbv];rw[Ki (by omega),Qi (by omega)]
theorem GrowV.append {E:Env}{t e t2:TypeId}{base w nb n m:Nat}(he:Elt E t e w nb)(hu:∃e2,E.P.underlying t2=some (.slice e2)){hp:List AObj}{ts:List Nat}{v y:V}{cs new:List V}(g:GrowV base ts w v n cs)(hb:base<=ts.length)(hy:vLen y=some m)(hc:jbv hp w m y=some new)(hnl:new.length=m*w)(hcell:new.all V.isCell=true)
  (hlim:(n+m)*nb<=lim/\n+m<=lim):∃v' ts',appO E false ⟨hp,ts⟩ t t2 v y=some (v',⟨hp,ts'⟩)/\GrowV base ts' w v' (n+m) (cs++new)/\Ext base ts ts':=by
 obtain⟨e2,hu⟩:=hu;unfold appO;simp only[he.elem,he.size,he.bytes,he.zeros,hu,hy,hc,Kn,Ku];by_cases hm:m=0
 ·subst hm;have hn0:new=[]:=Qh (by simpa using hnl);subst hn0;rw[Qx,Q5];refine⟨v,ts,?_,g,.rfl' _ _⟩;cases g<;>simp[jbT]
 have hl:(cs++new).length=(n+m)*w:=by rw[Kr,g.lens,hnl,Jb]
 cases g with
 | nil =>
  refine⟨.row new m (.tok ts.length 0 w),ts++[0],?_,?_,⟨by simp,λk hk=>by rw[K2 (by omega)]⟩⟩
  ·have h1:m*nb<=lim/\m<=lim:=by simpa using hlim
   simp[jbT,hm,h1]
  ·rw[K7,Jt];exact .tok _ _ ts.length 0 hnl hb (by simp)
 |full _ _ hl0 =>
  refine⟨.row (cs++new) (n+m) (.tok ts.length 0 w),ts++[0],?_,.tok _ _ ts.length 0 hl hb (by simp),⟨by simp,λk hk=>by rw[K2 (by omega)]⟩⟩;simp only[jbT];rw[Kj hm,Ki ⟨hlim.1,hlim.2,hl0,hcell⟩];simp
 |tok _ _ k e hl0 hbk ht =>
  have hkl:=(Kz.1 ht).1;refine⟨.row (cs++new) (n+m) (.tok k (e+1) w),ts.set k (e+1),?_,.tok _ _ k (e+1) hl hbk (by simp[hkl]),⟨by simp,λq hq=>by rw[Kk (by omega)]⟩⟩;simp only[jbT];rw[Kj hm,Ki ⟨hlim.1,hlim.2,hl0,hcell⟩,Ki ⟨ht,trivial⟩]
theorem GrowV.push {E:Env}{t e t2:TypeId}{base w nb n:Nat}(he:Elt E t e w nb)(hu:∃e2,E.P.underlying t2=some (.slice e2)){hp:List AObj}{ts:List Nat}{v:V}{cs new:List V}{q:RCap}(g:GrowV base ts w v n cs)(hb:base<=ts.length)(hnl:new.length=w)(hcell:new.all V.isCell=true)
  (hlim:(n+1)*nb<=lim/\n+1<=lim):∃v' ts',appO E false ⟨hp,ts⟩ t t2 v (.row new 1 q)=some (v',⟨hp,ts'⟩)/\GrowV base ts' w v' (n+1) (cs++new)/\Ext base ts ts' :=
 GrowV.append he hu g hb rfl (by simp only[jbv];rw[Ki (by omega),Qi (by omega)]) (by simpa using hnl) hcell hlim
def insO (E:Env)(t:TypeId)(mv kv xv:V)(O:S):Option (V × S) :=
    match E.P.underlying t,mv with
    | some (.map kt _),.map b =>
      match O.heap[b]? with
      | some (.map es clock) =>
        if jdw E 8 kt kv then
          match jcR E kt kv es 0 with
          |some none=>some (.tup [],O.set b (.map (es++[(kv,xv,clock)]) (clock+1)))
          | some (some j) =>
            match es[j]? with
            |some e=>if jlV 8 e.1 kv then some (.tup [],O.set b (.map (es.set j (kv,xv,e.2.2)) clock))else none
            |none=>none
          |none=>none
        else none
      |_=>none
    |_,_=>none
theorem jgJ {E:Env}{m:Bool}{T:Tm}{O:S}(t:TypeId)(a b c:Operand):opT E m T O (.insert t a b c)=(jaK E T a).bind λmv=>(jaK E T b).bind λkv=>(jaK E T c).bind λxv=>insO E t mv kv xv O:=rfl
def newO(E:Env)(t:TypeId)(O:S):Option (V × S) :=
  match E.P.underlying t with
  |some (.map _ _)=>some (.map O.heap.length,O.push (.map [] 0))
  |_=>none
theorem jgK {E:Env}{m:Bool}{T:Tm}{O:S}(t:TypeId):opT E m T O (.makeMap t none)=newO E t O:=rfl
def jnp(E:Env)(t:TypeId)(ok:Bool)(mv kv:V)(O:S):Option V :=
  match E.P.underlying t,mv with
  | some (.map kt et),.map b =>
   match O.heap[b]? with
   |some (.map es _) =>
    if jdw E 8 kt kv then(jbG E et).bind λz=>(jcR E kt kv es 0).map (jrN ok es z)
    else none
   |_=>none
  |_,_=>none
theorem jep {E:Env}{m:Bool}{T:Tm}{O:S}(t:TypeId)(a b:Operand)(ok:Bool):opT E m T O (.lookup t a b ok)=((jaK E T a).bind λmv=>(jaK E T b).bind λkv=>jnp E t ok mv kv O).map λv=>(v,O):=by
 unfold opT;simp only[jbp,jbu]
 change (match ((jaK E T a).bind λmv=>(jaK E T b).bind λkv=>jnp E t ok mv kv O)with|some v=>_|none=>_)=_
 cases((jaK E T a).bind λmv=>(jaK E T b).bind λkv=>jnp E t ok mv kv O)<;>rfl
def mapS:List (List UInt8 × V)->Nat->List (V × V × Nat)
 | [],_=>[]
 |p::r,c=>(.str p.1,p.2,c)::mapS r (c+1)
theorem jp1:∀(ps:List (List UInt8 × V)) (k:List UInt8) (v:V) (c:Nat),mapS (ps++[(k,v)]) c=mapS ps c++[(.str k,v,c+ps.length)]
 | [],k,v,c=>rfl
 |p::r,k,v,c=>by
  simp only[Ji,mapS,jp1 r k v (c+1),K0];rw[show c+1+r.length=c+(r.length+1) by omega]
theorem jp2:∀(ps:List (List UInt8 × V)) (c i:Nat),(mapS ps c)[i]?.map (·.2.1)=ps[i]?.map (·.2)
 | [],c,i=>by simp[mapS]
 |p::r,c,0=>by simp[mapS]
 |p::r,c,i+1=>by simp only[mapS,Qg];exact jp2 r (c+1) i
section
variable {E:Env}{kt:TypeId}(hk:E.P.underlying kt=some .string)
include hk
theorem jyf(a b:List UInt8):eqT E 8 kt (.str a) (.str b)=some (a==b):=by unfold eqT;rw[hk]
theorem jp3(k:List UInt8):∀(ps:List (List UInt8 × V)) (c i:Nat),jcR E kt (.str k) (mapS ps c) i=some ((ps.findIdx? λp=>p.1==k).map (· + i))
 | [],c,i=>rfl
 | p::r,c,i=>by
  simp only[mapS,jcR,jyf hk,Kn,List.findIdx?_cons];by_cases h:k=p.1
  ·subst h;simp
  ·have h1:(k==p.1)=false:=by simpa using h
   have h2:(p.1==k)=false:=by simpa using λe=>h e.symm
   simp only[h1,h2,Km,Ks];rw[jp3 k r (c+1) (i+1),Option.map_map]
   congr 1
   cases List.findIdx? (λp=>p.1==k) r with
   |none=>rfl
   |some n=>simp only[Kx,Function.comp];congr 1;omega
theorem jhN(k:List UInt8):jdw E 8 kt (.str k)=true:=by unfold jdw;rw[hk]
theorem jmn {t et:TypeId}(ht:E.P.underlying t=some (.map kt et)){z:V}(hz:jbG E et=some z){L:List AObj}{ts:List Nat}{b c:Nat}{ps:List (List UInt8 × V)}(h:L[b]? = some (.map (mapS ps 0) c))(k:List UInt8) :
  jnp E t true (.map b) (.str k) ⟨L,ts⟩=some (match ps.find? λp=>p.1==k with|some p=>.tup [p.2,.bool true]|none=>.tup [z,.bool false]):=by
 unfold jnp;simp only[ht,h,jhN hk,Ku,jp3 hk,hz,Kn,Kx,Q5,Kg];have hid:(ps.findIdx? λp=>p.1==k).map (· + 0)=ps.findIdx? λp=>p.1==k:=by cases(ps.findIdx? λp=>p.1==k)<;>rfl
 cases hf:ps.findIdx? λp=>p.1==k with
 | none =>
  have:(ps.find? λp=>p.1==k)=none:=by
   rw[List.find?_eq_none];rw[List.findIdx?_eq_none_iff]at hf;intro x hx;simp[hf x hx]
  rw[this];rfl
 | some j =>
  rw[List.findIdx?_eq_some_iff_getElem]at hf;obtain⟨hj,h1,h2⟩:=hf
  have:(ps.find? λp=>p.1==k)=some ps[j]:=by
   rw[List.find?_eq_some_iff_getElem];exact⟨h1,j,hj,rfl,λi hi=>by simpa using h2 i hi⟩
  rw[this];simp only[Kx,jrN,jwz,Ku];have hg:=jp2 ps 0 j;rw[K5 hj]at hg;simp only[Kx]at hg;rw[hg];rfl
end
theorem Wa:type_of% (Kf @Za (Kf @Zb (Kf @Zc (Kf @Zd (Kf @Ze (Kf @Zf (Kf @Zg (Kf @Zh (Kf @Zi (Kf @Zj (Kf @Zk (@Zl)))))))))))):=Kf @Za (Kf @Zb (Kf @Zc (Kf @Zd (Kf @Ze (Kf @Zf (Kf @Zg (Kf @Zh (Kf @Zi (Kf @Zj (Kf @Zk (@Zl)))))))))))
theorem Wb:type_of% (Kf @Zm (Kf @Zn (Kf @Zq (Kf @Zr (Kf @Zs (Kf @Zt (Kf @Zu (Kf @Zv (Kf @Zw (Kf @Zx (Kf @Zy (@Zz)))))))))))):=Kf @Zm (Kf @Zn (Kf @Zq (Kf @Zr (Kf @Zs (Kf @Zt (Kf @Zu (Kf @Zv (Kf @Zw (Kf @Zx (Kf @Zy (@Zz)))))))))))
theorem Wc:type_of% (Kf @ZA (Kf @ZB (Kf @ZC (Kf @ZD (Kf @ZE (Kf @ZF (Kf @ZG (Kf @ZH (Kf @ZI (Kf @ZJ (Kf @ZK (@ZL)))))))))))):=Kf @ZA (Kf @ZB (Kf @ZC (Kf @ZD (Kf @ZE (Kf @ZF (Kf @ZG (Kf @ZH (Kf @ZI (Kf @ZJ (Kf @ZK (@ZL)))))))))))
theorem Wd:type_of% (Kf @ZM (Kf @ZN (Kf @ZO (Kf @ZP (Kf @ZQ (Kf @ZR (Kf @ZS (Kf @ZT (Kf @ZU (Kf @ZV (Kf @ZW (@ZX)))))))))))):=Kf @ZM (Kf @ZN (Kf @ZO (Kf @ZP (Kf @ZQ (Kf @ZR (Kf @ZS (Kf @ZT (Kf @ZU (Kf @ZV (Kf @ZW (@ZX)))))))))))
theorem We:type_of% (Kf @ZY (Kf @ZZ (Kf @Z0 (Kf @Z1 (Kf @Z2 (Kf @Z3 (Kf @Z4 (Kf @Z5 (Kf @Z6 (Kf @Z7 (Kf @true_and (@Z8)))))))))))):=Kf @ZY (Kf @ZZ (Kf @Z0 (Kf @Z1 (Kf @Z2 (Kf @Z3 (Kf @Z4 (Kf @Z5 (Kf @Z6 (Kf @Z7 (Kf @true_and (@Z8)))))))))))
theorem Wf:type_of% (Kf @Z9 (Kf @jfF (Kf @Ya (Kf @jez (Kf @Yb (Kf @Yc (Kf @Yd (Kf @Ye (Kf @Yf (Kf @Yg (Kf @Yh (@Yi)))))))))))):=Kf @Z9 (Kf @jfF (Kf @Ya (Kf @jez (Kf @Yb (Kf @Yc (Kf @Yd (Kf @Ye (Kf @Yf (Kf @Yg (Kf @Yh (@Yi)))))))))))
theorem Wg:type_of% (Kf @Yj (Kf @Yk (Kf @Yl (Kf @Ym (Kf @Yn (Kf @Yo (Kf @Yp (Kf @Yq (Kf @Yr (Kf @Yt (Kf @Yu (@Yv)))))))))))):=Kf @Yj (Kf @Yk (Kf @Yl (Kf @Ym (Kf @Yn (Kf @Yo (Kf @Yp (Kf @Yq (Kf @Yr (Kf @Yt (Kf @Yu (@Yv)))))))))))
theorem Wh:type_of% (Kf @Yw (Kf @Vk.{0} (Kf @V7.{0} (Kf @Je.{0} (Kf @Qr.{0} (Kf @Qg.{0} (Kf @Jt.{0} (Kf @Ji.{0} (Kf @Qx.{0} (Kf @Yx (Kf @Yy (@Qm)))))))))))):=Kf @Yw (Kf @Vk.{0} (Kf @V7.{0} (Kf @Je.{0} (Kf @Qr.{0} (Kf @Qg.{0} (Kf @Jt.{0} (Kf @Ji.{0} (Kf @Qx.{0} (Kf @Yx (Kf @Yy (@Qm)))))))))))
theorem Wi:type_of% (Kf @Yz (Kf @YA (Kf @YB (Kf @YC (Kf @YD (Kf @YE (Kf @YF (Kf @YG (Kf @YH (Kf @YI (Kf @YJ (@YK)))))))))))):=Kf @Yz (Kf @YA (Kf @YB (Kf @YC (Kf @YD (Kf @YE (Kf @YF (Kf @YG (Kf @YH (Kf @YI (Kf @YJ (@YK)))))))))))
theorem Wj:type_of% (Kf @YL (Kf @YM (Kf @YN (Kf @YO (Kf @Vi.{0} (Kf @YP (Kf @YQ (Kf @YR (Kf @YS (Kf @YT (Kf @YU (@YV)))))))))))):=Kf @YL (Kf @YM (Kf @YN (Kf @YO (Kf @Vi.{0} (Kf @YP (Kf @YQ (Kf @YR (Kf @YS (Kf @YT (Kf @YU (@YV)))))))))))
theorem Wk:type_of% (Kf @YW (Kf @YX (Kf @Q5 (Kf @YY (Kf @YZ (Kf @Y1 (Kf @Y2 (Kf @Y3 (Kf @K3 (Kf @Km (Kf @Jx (@and_self)))))))))))):=Kf @YW (Kf @YX (Kf @Q5 (Kf @YY (Kf @YZ (Kf @Y1 (Kf @Y2 (Kf @Y3 (Kf @K3 (Kf @Km (Kf @Jx (@and_self)))))))))))
theorem Wl:type_of% (Kf @Y4 (Kf @Y5 (Kf @Vb (Kf @Xn (Kf @not_true_eq_false (Kf @decide_true (Kf @decide_false (Kf @true_implies (Kf @false_implies (Kf @Xg (Kf @K0.{0} (@K6.{0})))))))))))):=Kf @Y4 (Kf @Y5 (Kf @Vb (Kf @Xn (Kf @not_true_eq_false (Kf @decide_true (Kf @decide_false (Kf @true_implies (Kf @false_implies (Kf @Xg (Kf @K0.{0} (@K6.{0})))))))))))
theorem Wm:type_of% (Kf @K7 (Kf @Js (Kf @X0 (Kf @Y6 (Kf @Y7 (Kf @Y8 (Kf @Y9 (Kf @Qa (Kf @Qb (Kf @Qc (Kf @Vl (@Jc)))))))))))):=Kf @K7 (Kf @Js (Kf @X0 (Kf @Y6 (Kf @Y7 (Kf @Y8 (Kf @Y9 (Kf @Qa (Kf @Qb (Kf @Qc (Kf @Vl (@Jc)))))))))))
theorem Wn:type_of% (Kf @Xz (Kf @Xu (Kf @X7 (Kf @Qd (@Qe))))):=Kf @Xz (Kf @Xu (Kf @X7 (Kf @Qd (@Qe))))
theorem Kd : type_of% (Kf @Wa (Kf @Wb (Kf @Wc (Kf @Wd (Kf @We (Kf @Wf (Kf @Wg (Kf @Wh (Kf @Wi (Kf @Wj (Kf @Wk (Kf @Wl (Kf @Wm (Kf @Wn (@Zo))))))))))))))) := Kf @Wa (Kf @Wb (Kf @Wc (Kf @Wd (Kf @We (Kf @Wf (Kf @Wg (Kf @Wh (Kf @Wi (Kf @Wj (Kf @Wk (Kf @Wl (Kf @Wm (Kf @Wn (@Zo))))))))))))))
theorem Ka : type_of% (Kf @Wa (Kf @Wb (Kf @Wc (Kf @Wd (Kf @We (Kf @Wf (Kf @Wg (Kf @Wh (Kf @Wi (Kf @Wj (Kf @Wk (Kf @Wl (Kf @Wm (Kf @Wn (Kf @Zo (@Zp)))))))))))))))) := Kf @Wa (Kf @Wb (Kf @Wc (Kf @Wd (Kf @We (Kf @Wf (Kf @Wg (Kf @Wh (Kf @Wi (Kf @Wj (Kf @Wk (Kf @Wl (Kf @Wm (Kf @Wn (Kf @Zo (@Zp)))))))))))))))
theorem Va:type_of% (Kf @Jl.{0} (Kf @Q7.{0} (Kf @Jn.{0} (Kf @Xi.{0} (Kf @List.drop_nil.{0} (Kf @Jz.{0} (Kf @Ud.{0} (Kf @Ue.{0} (Kf @List.set_cons_succ.{0} (Kf @jnn (@jll))))))))))):=Kf @Jl.{0} (Kf @Q7.{0} (Kf @Jn.{0} (Kf @Xi.{0} (Kf @List.drop_nil.{0} (Kf @Jz.{0} (Kf @Ud.{0} (Kf @Ue.{0} (Kf @List.set_cons_succ.{0} (Kf @jnn (@jll))))))))))
theorem Vq:(∀(E:Env) (T:Tm) (t:Tmp),jaK E T (.tmp t)=some (T t))/\(∀(E:Env) (T:Tm) (v:Value),jaK E T (.const v)=je5 v)/\(∀(E:Env) (T:Tm) g,jaK E T (.global g)=E.gl g)/\(∀(E:Env) (T:Tm) f,jaK E T (.func f)=some (.func f [] []))/\(∀b,je5 (.bool b)=some (.bool b))/\(∀k n,je5 (.int k n)=some (.int k n))/\(∀s,je5 (.string s)=some (.str s.data.toList))/\je5 (.pointer none)=some .nilptr/\je5 (.slice none 0 0)=some .nilsl/\je5 .nilFunc=some .nilfn/\je5 .nilIface=some .nilif/\je5 (.map none)=some .nilmap/\(∀l t,argT l t=l.getD t (.tup []))/\(∀(E:Env) T h,resT E T h []=some [])/\(∀(E:Env) T h t r,resT E T h (.tmp t::r)=(resT E T h r).map (T t :: ·))/\(∀(E:Env) T h a t r,resT E T h (.cell a t::r)=(jbi E h t (T a)).bind λv=>(resT E T h r).map (v :: ·))/\(∀T,setT T []=T)/\(∀T t v r,setT T ((t,v)::r)=setT (upd T t v) r) :=
 ⟨λ_ _ _=>rfl,λ_ _ _=>rfl,λ_ _ _=>rfl,λ_ _ _=>rfl,λ_=>rfl,λ_ _=>rfl,λ_=>rfl,rfl,rfl,rfl,rfl,rfl,λ_ _=>rfl,λ_ _ _=>rfl,λ_ _ _ _ _=>rfl,λ_ _ _ _ _ _=>rfl,λ_=>rfl,λ_ _ _ _=>rfl⟩
theorem U2:type_of% (And.intro @Vq (@jap)):=And.intro @Vq (@jap)
theorem Uz:type_of% (And.intro @Vq (@Va)):=And.intro @Vq (@Va)
end Go.Ab
