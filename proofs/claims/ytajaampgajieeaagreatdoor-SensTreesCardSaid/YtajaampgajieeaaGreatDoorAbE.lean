/- Proved here: more rules for stepping. Conditions: each theorem's own. -/
import Derived.Test.YtajaampgajieeaaGreatDoorAbD
import Derived.IntWalk
set_option linter.unusedSimpArgs false
set_option linter.unusedVariables false
namespace Go.Ab
inductive Kt where
 |code (c:Code)
 |blk (id:Nat)
section
variable (E:Env)(fn:FuncId)(rnd:Option Nat)(n:Nat)
def Kt.post(Q:Post):List Kt->Post
 | []=>Q
 | .code b::r=>⟨λT D U=>wpC E fn rnd n b T D U (Kt.post Q r),(Kt.post Q r).exit,(Kt.post Q r).ret⟩
 | .blk id::r=>⟨(Kt.post Q r).norm,λi T D U=>if i=id then(Kt.post Q r).norm T D U else(Kt.post Q r).exit i T D U,(Kt.post Q r).ret⟩
def G(Q:Post)(ks:List Kt)(c:Code)(T:Tm)(D:List DE)(U:S):Prop:=wpC E fn rnd n c T D U (Kt.post E fn rnd n Q ks)
def GL(Q:Post)(ks:List Kt)(m:Bool)(ops:Array Oper)(l:List Oper)(T:Tm)(D:List DE)(U:S):Prop :=
 wpL E m n ops l T U λT U=>(Kt.post E fn rnd n Q ks).norm T D U
def GS(Q:Post)(ks:List Kt)(m:Bool)(ops:Array Oper)(l:List Oper)(T:Tm)(D:List DE)(d:Nat)(o:Option (V × S)):Prop :=
 V1 o λp=>GL E fn rnd n Q ks m ops l (upd T d p.1) D p.2
def GN(Q:Post)(ks:List Kt)(m:Bool)(ops:Array Oper)(l:List Oper)(T:Tm)(D:List DE)(o:Option (V × S)):Prop :=
 V1 o λp=>GL E fn rnd n Q ks m ops l T D p.2
def GB(Q:Post)(ks:List Kt)(a b:Code)(T:Tm)(D:List DE)(U:S)(t:Nat)(v:V):Prop :=
 Br v (G E fn rnd n Q ks a (upd T t (.bool true)) D U) (G E fn rnd n Q ks b (upd T t (.bool false)) D U)
def GG(Q:Post)(ks:List Kt)(m:Bool)(ops:Array Oper)(l:List Oper)(T:Tm)(D:List DE)(U:S)(d:Nat)(op:Op)(b:Bool)(g:Nat)(v:V):Prop :=
 Br3 v
  (match b with
   |true=>GS E fn rnd n Q ks m ops l (upd T g (.bool true)) D d (opT E m (upd T g (.bool true)) U op)
   |false=>GL E fn rnd n Q ks m ops l (upd (upd T g (.bool true)) d (.tup [])) D U)
  (match b with
   |true=>GL E fn rnd n Q ks m ops l (upd (upd T g (.bool false)) d (.tup [])) D U
   |false=>GS E fn rnd n Q ks m ops l (upd T g (.bool false)) D d (opT E m (upd T g (.bool false)) U op))
  (GL E fn rnd n Q ks m ops l (upd T d (.tup [])) D U)
end
section
variable {E:Env}{fn:FuncId}{rnd:Option Nat}{n:Nat}{Q:Post}{ks:List Kt}{m:Bool}{ops:Array Oper}{l:List Oper}{T:Tm}{D:List DE}{U:S}
theorem jaC {c:Code}(h:G E fn rnd n Q [] c T D U):wpC E fn rnd n c T D U Q:=h
theorem Za(a b:Code):G E fn rnd n Q ks (.seq a b) T D U=G E fn rnd n Q (.code b::ks) a T D U:=rfl
theorem Zb(id:Nat)(c:Code):G E fn rnd n Q ks (.block id c) T D U=G E fn rnd n Q (.blk id::ks) c T D U:=rfl
theorem Zc(c:Code):G E fn rnd n Q (.code c::ks) .skip T D U=G E fn rnd n Q ks c T D U:=rfl
theorem Zd(id:Nat):G E fn rnd n Q (.blk id::ks) .skip T D U=G E fn rnd n Q ks .skip T D U:=rfl
theorem Ze:G E fn rnd n Q [] .skip T D U=Q.norm T D U:=rfl
theorem Zf(c:Code)(i:Nat):G E fn rnd n Q (.code c::ks) (.exit i) T D U=G E fn rnd n Q ks (.exit i) T D U:=rfl
theorem Zg(id i:Nat):G E fn rnd n Q (.blk id::ks) (.exit i) T D U=if i=id then G E fn rnd n Q ks .skip T D U else G E fn rnd n Q ks (.exit i) T D U:=rfl
theorem Zh(i:Nat):G E fn rnd n Q [] (.exit i) T D U=Q.exit i T D U:=rfl
theorem Zi(c:Code):G E fn rnd n Q (.code c::ks) .ret T D U=G E fn rnd n Q ks .ret T D U:=rfl
theorem Zj(id:Nat):G E fn rnd n Q (.blk id::ks) .ret T D U=G E fn rnd n Q ks .ret T D U:=rfl
theorem Zk:G E fn rnd n Q [] .ret T D U=Q.ret T D U:=rfl
theorem Zl(t:Nat)(a b:Code):G E fn rnd n Q ks (.cond (.tmp t) a b) T D U=(t<n/\GB E fn rnd n Q ks a b T D U t (T t)):=rfl
theorem Zm(v:Bool)(a b:Code):G E fn rnd n Q ks (.cond (.const (.bool v)) a b) T D U=if v then G E fn rnd n Q ks a T D U else G E fn rnd n Q ks b T D U:=by
 show V1 (some (V.bool v)) _=_;rw[Yy];cases v
 ·exact jkC _ _
 ·exact jnc _ _
theorem Zn(c:Code):G E fn rnd n Q ks (.loop c) T D U=jdx E fn rnd n c T D U (Kt.post E fn rnd n Q ks):=rfl
theorem Qd(c:Code):G E fn rnd n Q ks (.scope c) T D U=G E fn rnd n Q ks c T D U:=rfl
theorem Qe(l:Nat):G E fn rnd n Q ks (.label l) T D U=G E fn rnd n Q ks .skip T D U:=rfl
theorem Zo(id:Nat)(l:List Oper):G E fn rnd n Q ks (.region id l.toArray false) T D U=GL E fn rnd n Q ks (E.mutb fn id) l.toArray l T D U:=rfl
theorem Zp(id:Nat)(l:List Oper)(hs:E.stab fn id=false):G E fn rnd n Q ks (.region id l.toArray true) T D U=(jor E l.toArray=true/\GL E fn rnd n Q ks (E.mutb fn id) l.toArray l T D U):=by
 unfold G wpC;simp only[hs];rfl
def GK(E:Env)(fn:FuncId)(rnd:Option Nat)(n:Nat)(Q:Post)(ks:List Kt)(m:Bool)(K:S->Prop)(l:List Oper)(T:Tm)(D:List DE)(U:S):Prop :=
 wpS E m n K l T U λT U=>(Kt.post E fn rnd n Q ks).norm T D U
def GKS(E:Env)(fn:FuncId)(rnd:Option Nat)(n:Nat)(Q:Post)(ks:List Kt)(m:Bool)(K:S->Prop)(l:List Oper)(T:Tm)(D:List DE)(d:Option Nat)(op:Op)(o:Option (V × S)):Prop :=
 V1 o λp=>(scOp E op=true->K p.2)/\(jaP op=true->∀U',K U'->jbh E (jaN E T) U' op=some p.1) /\
  (match d with
   |none=>GK E fn rnd n Q ks m K l T D p.2
   |some d=>d<n/\GK E fn rnd n Q ks m K l (upd T d p.1) D p.2)
theorem jcI {id:Nat}{l:List Oper}(hs:E.stab fn id=true)(K:S->Prop)(hK:K U)(hp:jcJ E l.toArray (jat [] l)=true)(h:GK E fn rnd n Q ks (E.mutb fn id) K l T D U) :
  G E fn rnd n Q ks (.region id l.toArray true) T D U:=by
 unfold G wpC;simp only[hs];exact jpx E fn rnd n K hK hp h
theorem Y7(K:S->Prop):GK E fn rnd n Q ks m K [] T D U=G E fn rnd n Q ks .skip T D U:=rfl
theorem Y8(K:S->Prop)(d:Option Nat)(op:Op)(t:TypeId)(p:String)(a:Array Edge):GK E fn rnd n Q ks m K (⟨d,op,t,p,a,none⟩::l) T D U=GKS E fn rnd n Q ks m K l T D d op (opT E m T U op):=rfl
theorem Y9(K:S->Prop)(d:Nat)(op:Op)(v:V)(U':S):GKS E fn rnd n Q ks m K l T D (some d) op (some (v,U'))=((scOp E op=true->K U')/\(jaP op=true->∀s,K s->jbh E (jaN E T) s op=some v)/\d<n/\GK E fn rnd n Q ks m K l (upd T d v) D U'):=by
 simp only[GKS,Yy]
theorem Qa(K:S->Prop)(op:Op)(v:V)(U':S):GKS E fn rnd n Q ks m K l T D none op (some (v,U'))=((scOp E op=true->K U')/\(jaP op=true->∀s,K s->jbh E (jaN E T) s op=some v)/\GK E fn rnd n Q ks m K l T D U'):=by
 simp only[GKS,Yy]
theorem Qb(K:S->Prop)(d:Option Nat)(op:Op)(c:Prop)[Decidable c](o:Option (V × S)):GKS E fn rnd n Q ks m K l T D d op (if c then o else none)=(c/\GKS E fn rnd n Q ks m K l T D d op o):=by simp only[GKS,jjJ]
theorem Qc(K:S->Prop)(d:Option Nat)(op:Op)(c:Prop)[Decidable c](o:Option (V × S)):GKS E fn rnd n Q ks m K l T D d op (if c then none else o)=(¬c/\GKS E fn rnd n Q ks m K l T D d op o):=by simp only[GKS,jg7]
theorem Zq:GL E fn rnd n Q ks m ops [] T D U=G E fn rnd n Q ks .skip T D U:=rfl
theorem Zr(d:Nat)(op:Op)(t:TypeId)(p:String)(a:Array Edge):GL E fn rnd n Q ks m ops (⟨some d,op,t,p,a,none⟩::l) T D U=(d<n/\GS E fn rnd n Q ks m ops l T D d (opT E m T U op)):=rfl
theorem Zs(op:Op)(t:TypeId)(p:String)(a:Array Edge):GL E fn rnd n Q ks m ops (⟨none,op,t,p,a,none⟩::l) T D U=GN E fn rnd n Q ks m ops l T D (opT E m T U op):=rfl
theorem Zt(d:Nat)(op:Op)(t:TypeId)(p:String)(a:Array Edge)(j:Nat)(b:Bool):GL E fn rnd n Q ks m ops (⟨some d,op,t,p,a,some (j,b)⟩::l) T D U =
  V1 ((ops[j]?).bind (·.dst)) λg=>g<n/\d<n/\GG E fn rnd n Q ks m ops l T D U d op b g (T g):=by
 unfold GL GG GS;refine congrArg (V1 _) (funext λg => ?_);by_cases hd:d<n
 ·cases b<;>simp only[hd,true_and]<;>rfl
 ·cases b<;>simp only[hd,false_and,and_false,jtn]
theorem Y1:(Kt.post E fn rnd n Q ks).norm T D U=G E fn rnd n Q ks .skip T D U:=rfl
theorem Y2(i:Nat):(Kt.post E fn rnd n Q ks).exit i T D U=G E fn rnd n Q ks (.exit i) T D U:=rfl
theorem Y3:(Kt.post E fn rnd n Q ks).ret T D U=G E fn rnd n Q ks .ret T D U:=rfl
theorem Zu(d:Nat)(v:V)(U':S):GS E fn rnd n Q ks m ops l T D d (some (v,U'))=GL E fn rnd n Q ks m ops l (upd T d v) D U':=by simp only[GS,Yy]
theorem Zv(d:Nat)(c:Prop)[Decidable c](o:Option (V × S)):GS E fn rnd n Q ks m ops l T D d (if c then o else none)=(c/\GS E fn rnd n Q ks m ops l T D d o):=by simp only[GS,jjJ]
theorem Zw(d:Nat)(c:Prop)[Decidable c](o:Option (V × S)):GS E fn rnd n Q ks m ops l T D d (if c then none else o)=(¬c/\GS E fn rnd n Q ks m ops l T D d o):=by simp only[GS,jg7]
theorem Zx(v:V)(U':S):GN E fn rnd n Q ks m ops l T D (some (v,U'))=GL E fn rnd n Q ks m ops l T D U':=by simp only[GN,Yy]
theorem Zy(c:Prop)[Decidable c](o:Option (V × S)):GN E fn rnd n Q ks m ops l T D (if c then o else none)=(c/\GN E fn rnd n Q ks m ops l T D o):=by simp only[GN,jjJ]
theorem Zz(c:Prop)[Decidable c](o:Option (V × S)):GN E fn rnd n Q ks m ops l T D (if c then none else o)=(¬c/\GN E fn rnd n Q ks m ops l T D o):=by simp only[GN,jg7]
theorem ZA(a b:Code)(t:Nat):GB E fn rnd n Q ks a b T D U t (.bool true)=G E fn rnd n Q ks a (upd T t (.bool true)) D U:=jnc _ _
theorem ZB(a b:Code)(t:Nat):GB E fn rnd n Q ks a b T D U t (.bool false)=G E fn rnd n Q ks b (upd T t (.bool false)) D U:=jkC _ _
theorem ZC(a b:Code)(t:Nat)(p:Prop)[Decidable p]:GB E fn rnd n Q ks a b T D U t (.bool (decide p))=((p->G E fn rnd n Q ks a (upd T t (.bool true)) D U)/\(¬p->G E fn rnd n Q ks b (upd T t (.bool false)) D U)):=by
 simp only[GB,jqZ,Jq,decide_eq_false_iff_not]
theorem ZD(d:Nat)(op:Op)(b:Bool)(g:Nat):GG E fn rnd n Q ks m ops l T D U d op b g (.tup [])=GL E fn rnd n Q ks m ops l (upd T d (.tup [])) D U:=jvf _ _ _
theorem ZE(d:Nat)(op:Op)(g:Nat):GG E fn rnd n Q ks m ops l T D U d op true g (.bool true)=GS E fn rnd n Q ks m ops l (upd T g (.bool true)) D d (opT E m (upd T g (.bool true)) U op):=jos _ _ _
theorem ZF(d:Nat)(op:Op)(g:Nat):GG E fn rnd n Q ks m ops l T D U d op true g (.bool false)=GL E fn rnd n Q ks m ops l (upd (upd T g (.bool false)) d (.tup [])) D U:=jlD _ _ _
theorem ZG(d:Nat)(op:Op)(g:Nat):GG E fn rnd n Q ks m ops l T D U d op false g (.bool true)=GL E fn rnd n Q ks m ops l (upd (upd T g (.bool true)) d (.tup [])) D U:=jos _ _ _
theorem ZH(d:Nat)(op:Op)(g:Nat):GG E fn rnd n Q ks m ops l T D U d op false g (.bool false)=GS E fn rnd n Q ks m ops l (upd T g (.bool false)) D d (opT E m (upd T g (.bool false)) U op):=jlD _ _ _
theorem ZI(d:Nat)(op:Op)(g:Nat)(p:Prop)[Decidable p]:GG E fn rnd n Q ks m ops l T D U d op true g (.bool (decide p))=((p->GS E fn rnd n Q ks m ops l (upd T g (.bool true)) D d (opT E m (upd T g (.bool true)) U op))/\(¬p->GL E fn rnd n Q ks m ops l (upd (upd T g (.bool false)) d (.tup [])) D U)):=by
 simp only[GG,jot,Jq,decide_eq_false_iff_not]
theorem ZJ(d:Nat)(op:Op)(g:Nat)(p:Prop)[Decidable p]:GG E fn rnd n Q ks m ops l T D U d op false g (.bool (decide p))=((p->GL E fn rnd n Q ks m ops l (upd (upd T g (.bool true)) d (.tup [])) D U)/\(¬p->GS E fn rnd n Q ks m ops l (upd T g (.bool false)) D d (opT E m (upd T g (.bool false)) U op))):=by
 simp only[GG,jot,Jq,decide_eq_false_iff_not]
end
section
variable {E:Env}{m:Bool}{T:Tm}{U:S}
theorem jbn {op:Op}(h:jbh E (jaN E T) U op=none)(h2:jbG E m (jaN E T) U op=none)(h3:∀c,op ≠ .call c):opT E m T U op=(jbK E (jaN E T) op).map λv=>(v,U):=by
 unfold opT;cases hp:jbK E (jaN E T) op with
 |some v=>rfl
 |none =>
  simp only[h,Te];split
  ·exact absurd rfl (h3 _)
  ·exact absurd rfl (h3 _)
  ·exact h2
theorem ZK(x:Operand):opT E m T U (.move x)=(jaN E T x).map λv=>(v,U):=jbn rfl rfl (λ_ h=>by cases h)
theorem ZL(x:Operand):opT E m T U (.assign x)=(jaN E T x).map λv=>(v,U):=jbn rfl rfl (λ_ h=>by cases h)
def jto(c a b:Option V):Option V:=match c with|some (.bool t)=>a.bind λx=>b.bind λy=>some (if t then x else y)|_=>none
theorem ZN(a b:V):jto (some (.bool true)) (some a) (some b)=some a:=rfl
theorem ZO(a b:V):jto (some (.bool false)) (some a) (some b)=some b:=rfl
theorem ZM(c a b:Operand):opT E m T U (.pick c a b)=(jto (jaN E T c) (jaN E T a) (jaN E T b)).map λv=>(v,U):=by
 rw[jbn rfl rfl (λ_ h=>by cases h)];simp only[jbK,jto];cases jaN E T c with
 |none=>rfl
 |some u=>cases u<;>rfl
def binO(E:Env)(t:TypeId)(c:Bool)(op:BinOp)(x y:Option V):Option V:=x.bind λa=>y.bind λb=>jlh E t c op a b
theorem jgD {E:Env}{t:TypeId}{c:Bool}{op:BinOp}{a b:V}(h:jth E t op a b=none):jlh E t c op a b=jbV (E.P.underlying t) c op a b:=by
 unfold jlh;rw[h];cases jbV (E.P.underlying t) c op a b<;>rfl
theorem ZQ(E:Env)(t:TypeId)(c:Bool)(op:BinOp)(k k':IntKind)(a b:Int):binO E t c op (some (.int k a)) (some (.int k' b))=jbV (E.P.underlying t) c op (.int k a) (.int k' b):=jgD (by cases op<;>rfl)
theorem ZR(E:Env)(t:TypeId)(c:Bool)(op:BinOp)(a b:List UInt8):binO E t c op (some (.str a)) (some (.str b))=jbV (E.P.underlying t) c op (.str a) (.str b):=jgD (by cases op<;>rfl)
theorem ZS(E:Env)(t:TypeId)(c:Bool)(op:BinOp)(a b:Bool):binO E t c op (some (.bool a)) (some (.bool b))=jbV (E.P.underlying t) c op (.bool a) (.bool b):=jgD (by cases op<;>rfl)
theorem ZP(op:BinOp)(t u:TypeId)(x y:Operand):opT E m T U (.binOp op t x y u)=(binO E t (jdi x ||jdi y) op (jaN E T x) (jaN E T y)).map λv=>(v,U) :=
 jbn rfl rfl (λ_ h=>by cases h)
theorem ZT(op:UnOp)(t:TypeId)(x:Operand):opT E m T U (.unOp op t x)=((jaN E T x).bind (vUn op)).map λv=>(v,U) :=
 jbn rfl rfl (λ_ h=>by cases h)
def jwy(i:Nat):V->Option V
 | .tup vs=>vs[i]?
 |_=>none
theorem ZV(i:Nat)(vs:List V):jwy i (.tup vs)=vs[i]? := rfl
theorem ZU(x:Operand)(i:Nat):opT E m T U (.extract x i)=((jaN E T x).bind (jwy i)).map λv=>(v,U) :=
 jbn rfl rfl (λ_ h=>by cases h)
def idxO(d:Option TypeDesc)(s:TypeId->Option Nat)(v i:Option V):Option V:=v.bind λv=>i.bind λi=>match d with
  |some (.slice e)=>(s e).bind λs=>jaw s v i
  |some (.array n e)=>(s e).bind λs=>jfc n s v i
  |_=>none
theorem ZX(e:TypeId)(s:TypeId->Option Nat)(v i:V):idxO (some (.slice e)) s (some v) (some i)=(s e).bind λs=>jaw s v i:=rfl
theorem ZW(t:TypeId)(x ix:Operand):opT E m T U (.indexAddr t x ix)=(idxO (E.P.underlying t) (sz E) (jaN E T x) (jaN E T ix)).map λv=>(v,U) :=
 jbn rfl rfl (λ_ h=>by cases h)
theorem ZY(t:TypeId)(x:Operand):opT E m T U (.load t x)=((jaN E T x).bind (jaH E U.heap t)).map λv=>(v,U):=by
 unfold opT;simp only[jbK,jbh,jbG];cases jaN E T x with
 |none=>rfl
 |some p=>cases h:jaH E U.heap t p<;>simp only[Kq,K9,Te,h]
theorem YZ(t:TypeId):opT E m T U (.alloc t)=(jba E t).map λz=>(.ptr U.heap.length 0,U.push (.cells z.cells t)):=rfl
theorem YY(t:TypeId)(x:Operand):opT E m T U (.box t x)=(jaN E T x).map λv=>(.ptr U.heap.length 0,U.push (.cells v.cells t)):=rfl
theorem YC(t:TypeId)(a x:Operand):opT E m T U (.store t a x)=(jaN E T a).bind λp=>(jaN E T x).bind λv=>(sz E t).bind λs =>
      if v.cells.length=s then(jcg U v.cells p).map λU'=>(.tup [],U')else none:=rfl
theorem YP(f:FuncId)(a c:Array Operand):opT E m T U (.makeFunc (.func f) a c)=((jb1 (jaN E T) a.toList).bind λa=>(jb1 (jaN E T) c.toList).map λc=>.func f a c).map λv=>(v,U) :=
 jbn rfl rfl (λ_ h=>by cases h)
theorem ZZ(g:Operand)(as:Array Operand)(ts:Array TypeId):opT E m T U (.call ⟨.value g,as,ts⟩)=(jaN E T g).bind λgv=>(jb1 (jaN E T) as.toList).bind λvs=>jeL E (ev E) gv vs U:=rfl
def lenM(U:S)(d:Option TypeDesc)(v:V):Option (V × S) :=
 match d,v with
 |some (.map _ _),.nilmap=>some (.int .i64 0,U)
 |some (.map _ _),.map b =>
  match U.heap[b]? with
  |some (.map es _)=>some (.int .i64 es.length,U)
  |_=>none
 |_,_=>none
def lenO(U:S)(d:Option TypeDesc)(v:V):Option (V × S) :=
 match jbb d v with
 |some r=>some (r,U)
 |none=>lenM U d v
theorem Z1(U:S)(e:TypeId)(v:V):lenO U (some (.slice e)) v=(jbb (some (.slice e)) v).map λr=>(r,U):=by
 unfold lenO;cases jbb (some (.slice e)) v<;>rfl
theorem Z2(U:S)(v:V):lenO U (some .string) v=(jbb (some .string) v).map λr=>(r,U):=by
 unfold lenO;cases jbb (some .string) v<;>rfl
theorem jtp(U:S)(k e:TypeId)(b:Nat){es:List (V × V × Nat)}{c:Nat}(h:U.heap[b]? = some (.map es c)):lenO U (some (.map k e)) (.map b)=some (.int .i64 es.length,U):=by
 simp only[lenO,jbb,lenM,h]
theorem Z0(x:Operand)(t:TypeId):opT E m T U (.call ⟨.builtin .len,#[x],#[t]⟩)=(jaN E T x).bind (lenO U (E.P.underlying t)):=by
 unfold opT;simp only[jbK,jbh,jbG,jb1,K9];cases jaN E T x with
 |none=>rfl
 |some v =>
  simp only[Kq,Xm,Q9];unfold lenO lenM;cases h:jbb (E.P.underlying t) v<;>rfl
theorem jq0(x:Operand)(t:TypeId):opT E m T U (.call ⟨.builtin .cap,#[x],#[t]⟩)=((jaN E T x).bind (jpp (E.P.underlying t))).map λv=>(v,U):=by
 unfold opT;simp only[jbK,jbh,jbG,jb1,K9];cases jaN E T x with
 |none=>rfl
 |some v =>
  simp only[Kq,Xm,Q9];cases h:jpp (E.P.underlying t) v<;>rfl
theorem jfP(x:Operand)(name:String)(as:Array Operand)(ts:Array TypeId):opT E m T U (.call ⟨.invoke x name,as,ts⟩)=(jaN E T x).bind λxv=>(jgV E xv name).bind λp=>(jb1 (jaN E T) as.toList).bind λvs=>jah E (ev E) p.1 (p.2::vs) U:=rfl
theorem YL(as:Array Operand)(ts:Array TypeId):opT E m T U (.call ⟨.builtin .max,as,ts⟩)=((jb1 (jaN E T) as.toList).bind (jdE true)).map λv=>(v,U):=by
 unfold opT;simp only[jbK,jbh,jbG];cases(jb1 (jaN E T) as.toList).bind (jdE true)<;>rfl
theorem YM(as:Array Operand)(ts:Array TypeId):opT E m T U (.call ⟨.builtin .min,as,ts⟩)=((jb1 (jaN E T) as.toList).bind (jdE false)).map λv=>(v,U):=by
 unfold opT;simp only[jbK,jbh,jbG];cases(jb1 (jaN E T) as.toList).bind (jdE false)<;>rfl
theorem YN(k:IntKind)(a b:Int):jdE true [.int k a,.int k b]=some (.int k (if b>a then b else a)):=rfl
theorem YO(k:IntKind)(a b:Int):jdE false [.int k a,.int k b]=some (.int k (if b<a then b else a)):=rfl
def jas(E:Env)(t:TypeId)(f:Nat):Option Nat :=
 match E.P.underlying t with
 |some (.struct fields)=>(fields[f]?).bind λfd=>(sz E fd.type).bind λs=>if s=0 then none else some fd.offset
 |_=>none
theorem YQ(t:TypeId)(x:Operand)(f:Nat):opT E m T U (.fieldAddr t x f)=(jaN E T x).bind λv=>(jas E t f).bind λoff=>(jdV off v).map λv=>(v,U):=by
 rw[jbn rfl rfl (λ_ h=>by cases h)];simp only[jbK,jas];cases jaN E T x with
 |none=>rfl
 | some v =>
  simp only[Kq];cases E.P.underlying t with
  |none=>rfl
  | some d =>
   cases d<;>try rfl
   rename_i fields;simp only;cases fields[f]? with
   |none=>rfl
   | some fd =>
    simp only[Kq];cases sz E fd.type with
    |none=>rfl
    |some s =>
     simp only[Kq];by_cases hs:s=0<;>simp[hs]
def jbD(E:Env)(t:TypeId)(ps:List (Nat × V)):Option V:=(jba E t).bind λz=>(jfG E t).bind λpl=>(jeK pl z.cells ps).map .agg
theorem YR(t:TypeId)(parts:Array (Nat × Operand)):opT E m T U (.build t parts)=(jcH (jaN E T) parts.toList).bind λps=>(jbD E t ps).map λv=>(v,U):=by
 rw[jbn rfl rfl (λ_ h=>by cases h)];simp only[jbK,jbD];cases jcH (jaN E T) parts.toList<;>rfl
theorem YS(ρ:Operand->Option V):jcH ρ []=some []:=rfl
theorem YT(ρ:Operand->Option V)(i:Nat)(x:Operand)(r:List (Nat × Operand)):jcH ρ ((i,x)::r)=(ρ x).bind λv=>(jcH ρ r).map λl=>(i,v)::l:=rfl
theorem YU(off b o:Nat):jdV off (.ptr b o)=some (.ptr b (o+off)):=rfl
theorem YV(off:Nat)(cs:List V):jdV off (.rptr cs)=some (.rptr (cs.drop off)):=rfl
theorem YW(cs:List V):(V.agg cs).cells=cs:=rfl
theorem YX(U:S)(o:AObj):(U.push o).heap[U.heap.length]? = some o:=by simp[S.push]
def jwz(us ud:Option TypeDesc)(v:V):Option V :=
 match us,ud,v with
 |some _,some (.int k),.int _ n=>some (.int k (k.wrap n))
 |some _,some .string,.str s=>some (.str s)
 |some _,some .string,.int _ n=>if 0<=n/\n<128 then some (.str [UInt8.ofNat n.toNat])else none
 |_,_,_=>none
def jwA(E:Env)(h:List AObj)(us ud:Option TypeDesc)(v:V):Option V :=
 match us,ud with
 |some (.slice e),some .string =>
  match E.P.underlying e,v with
  |some (.int .u8),.row cells len cap=>(jaV h 1 len (.row cells len cap)).bind λcs=>(jeJ cs).map .str
  |some (.int .u8),.hsl b off len cap ex=>(jaV h 1 len (.hsl b off len cap ex)).bind λcs=>(jeJ cs).map .str
  |some (.int .u8),.nilsl=>some (.str [])
  |_,_=>none
 |some us,some ud=>jib E h us ud v
 |_,_=>none
def jwB(E:Env)(U:S)(src dst:TypeId)(us ud:Option TypeDesc)(v:V):Option (V × S) :=
 match us,ud,v with
 |some _,some (.slice e),.str s =>
  match E.P.underlying e with
  |some (.int .u8)=>some (.row (jdv s) s.length .unk,U)
  |_=>none
 | some (.slice _),some (.slice e),.hsl b off len cap _ =>
  if src=dst then
   match E.P.underlying e,U.heap[b]? with
   |some (.int .u8),some (.cells cs t)=>if len<=cap/\off+len<=cs.length then some (.row ((cs.drop off).take len) len .unk,U.set b (.ro cs t))else none
   |_,_=>none
  else none
 |_,_,_=>none
def jvi(E:Env)(U:S)(src dst:TypeId)(us ud:Option TypeDesc)(v:V):Option (V × S) :=
 match jwz us ud v with
 |some u=>some (u,U)
 |none =>
  match jwA E U.heap us ud v with
  |some u=>some (u,U)
  |none=>jwB E U src dst us ud v
theorem Z5(E:Env)(U:S)(src dst:TypeId)(d:TypeDesc)(k k':IntKind)(n:Int):jvi E U src dst (some d) (some (.int k)) (.int k' n)=some (.int k (k.wrap n),U):=rfl
theorem Z4(s d:TypeId)(x:Operand):opT E m T U (.convert s d x)=(jaN E T x).bind λv=>jvi E U s d (E.P.underlying s) (E.P.underlying d) v:=by
 unfold opT;simp only[jbK,jbh,jbG];cases jaN E T x with
 |none=>rfl
 | some v =>
  simp only[Kq]
  show(match jwz (E.P.underlying s) (E.P.underlying d) v with
   |some v=>some (v,U)
   |none=>match jwA E U.heap (E.P.underlying s) (E.P.underlying d) v with
    |some v=>some (v,U)
    |none=>jwB E U s d (E.P.underlying s) (E.P.underlying d) v)=_
  unfold jvi;rfl
def appO(E:Env)(m:Bool)(U:S)(t t2:TypeId)(a b:V):Option (V × S) :=
 (jf1 E t).bind λe=>(sz E e).bind λs=>(bys E e).bind λby' =>
  match E.P.underlying t2 with
  |some (.int _)=>jqB E m s by' e a b U
  |some _=>(vLen b).bind λmm=>(jaV U.heap s mm b).bind λnew=>if jhG E e=some s then jbk m s by' mm e new a U else none
  |none=>none
theorem Z3(x y:Operand)(t t2:TypeId):opT E m T U (.call ⟨.builtin .append,#[x,y],#[t,t2]⟩)=(jaN E T x).bind λa=>(jaN E T y).bind λb=>appO E m U t t2 a b:=by
 unfold opT appO;simp only[jbK,jbh,jbG,jb1,K9];cases jaN E T x with
 |none=>rfl
 |some a =>
  cases jaN E T y with
  |none=>rfl
  |some b=>rfl
end
theorem jou {α β:Type}(f:α->β)(c:Prop)[Decidable c](o:Option α):(if c then o else none).map f=if c then o.map f else none:=by by_cases h:c<;>simp[h]
theorem Ya {α β:Type}(f:α->β)(c:Prop)[Decidable c](o:Option α):(if c then none else o).map f=if c then none else o.map f:=by by_cases h:c<;>simp[h]
theorem jlH {α β:Type}(f:α->Option β)(c:Prop)[Decidable c](o:Option α):(if c then o else none).bind f=if c then o.bind f else none:=by by_cases h:c<;>simp[h]
theorem Yb {α β:Type}(f:α->Option β)(c:Prop)[Decidable c](o:Option α):(if c then none else o).bind f=if c then none else o.bind f:=by by_cases h:c<;>simp[h]
theorem Z8 {α β:Type}(f:α->β)(v:α):(some v).map f=some (f v):=rfl
theorem Y4 {α β:Type}(f:α->β):(none:Option α).map f=none:=rfl
theorem Y5 {α β:Type}(f:α->Option β):(none:Option α).bind f=none:=rfl
theorem Z9 {α β:Type}(f:α->Option β)(v:α):(some v).bind f=f v:=rfl
theorem jq1(k:IntKind)(a b:Int):vBin .add (.int k a) (.int k b)=some (.int k (k.wrap (a+b))):=by simp[vBin,jee]
theorem Yc(us:Option TypeDesc)(cc:Bool)(k:IntKind)(a b:Int):jbV us cc .add (.int k a) (.int k b)=some (.int k (k.wrap (a+b))):=by
 unfold jbV;rw[jq1]
theorem jq2(k:IntKind)(a b:Int):vBin .sub (.int k a) (.int k b)=some (.int k (k.wrap (a-b))):=by simp[vBin,jee]
theorem Yd(us:Option TypeDesc)(cc:Bool)(k:IntKind)(a b:Int):jbV us cc .sub (.int k a) (.int k b)=some (.int k (k.wrap (a-b))):=by
 unfold jbV;rw[jq2]
theorem jq3(k:IntKind)(a b:Int):vBin .mul (.int k a) (.int k b)=some (.int k (k.wrap (a*b))):=by simp[vBin,jee]
theorem Ye(us:Option TypeDesc)(cc:Bool)(k:IntKind)(a b:Int):jbV us cc .mul (.int k a) (.int k b)=some (.int k (k.wrap (a*b))):=by
 unfold jbV;rw[jq3]
theorem jq4(k:IntKind)(a b:Int):vBin .quo (.int k a) (.int k b)=if b=0 then none else some (.int k (k.wrap (a.tdiv b))):=by simp[vBin,jee]
theorem Ym(us:Option TypeDesc)(cc:Bool)(k:IntKind)(a b:Int):jbV us cc .quo (.int k a) (.int k b)=if b=0 then none else some (.int k (k.wrap (a.tdiv b))):=by
 unfold jbV;rw[jq4];split<;>split at * <;>simp_all
theorem jq5(k:IntKind)(a b:Int):vBin .rem (.int k a) (.int k b)=if b=0 then none else some (.int k (a.tmod b)):=by simp[vBin,jee]
theorem Yl(us:Option TypeDesc)(cc:Bool)(k:IntKind)(a b:Int):jbV us cc .rem (.int k a) (.int k b)=if b=0 then none else some (.int k (a.tmod b)):=by
 unfold jbV;rw[jq5];split<;>split at * <;>simp_all
theorem jq6(k:IntKind)(a b:Int):vBin .eql (.int k a) (.int k b)=some (.bool (decide (a=b))):=by simp[vBin,jee];rfl
theorem Yf(us:Option TypeDesc)(cc:Bool)(k:IntKind)(a b:Int):jbV us cc .eql (.int k a) (.int k b)=some (.bool (decide (a=b))):=by
 unfold jbV;rw[jq6]
theorem jq7(k:IntKind)(a b:Int):vBin .neq (.int k a) (.int k b)=some (.bool (decide (¬a=b))):=by simp[vBin,jee];rfl
theorem Yg(us:Option TypeDesc)(cc:Bool)(k:IntKind)(a b:Int):jbV us cc .neq (.int k a) (.int k b)=some (.bool (decide (¬a=b))):=by
 unfold jbV;rw[jq7]
theorem jq8(k:IntKind)(a b:Int):vBin .lss (.int k a) (.int k b)=some (.bool (decide (a<b))):=by simp[vBin,jee]
theorem Yh(us:Option TypeDesc)(cc:Bool)(k:IntKind)(a b:Int):jbV us cc .lss (.int k a) (.int k b)=some (.bool (decide (a<b))):=by
 unfold jbV;rw[jq8]
theorem jq9(k:IntKind)(a b:Int):vBin .leq (.int k a) (.int k b)=some (.bool (decide (a<=b))):=by simp[vBin,jee]
theorem Yi(us:Option TypeDesc)(cc:Bool)(k:IntKind)(a b:Int):jbV us cc .leq (.int k a) (.int k b)=some (.bool (decide (a<=b))):=by
 unfold jbV;rw[jq9]
theorem jra(k:IntKind)(a b:Int):vBin .gtr (.int k a) (.int k b)=some (.bool (decide (b<a))):=by simp[vBin,jee]
theorem Yj(us:Option TypeDesc)(cc:Bool)(k:IntKind)(a b:Int):jbV us cc .gtr (.int k a) (.int k b)=some (.bool (decide (b<a))):=by
 unfold jbV;rw[jra]
theorem jrb(k:IntKind)(a b:Int):vBin .geq (.int k a) (.int k b)=some (.bool (decide (b<=a))):=by simp[vBin,jee]
theorem Yk(us:Option TypeDesc)(cc:Bool)(k:IntKind)(a b:Int):jbV us cc .geq (.int k a) (.int k b)=some (.bool (decide (b<=a))):=by
 unfold jbV;rw[jrb]
theorem jrc(k k':IntKind)(a b:Int):vBin .shl (.int k a) (.int k' b)=if b<0 then none else some (.int k (k.wrap (a*2^min b.toNat k.bits))):=by simp[vBin,jjz]
theorem jtq(us:Option TypeDesc)(cc:Bool)(k k':IntKind)(a b:Int):jbV us cc .shl (.int k a) (.int k' b)=if b<0 then none else some (.int k (k.wrap (a*2^min b.toNat k.bits))):=by
 unfold jbV;rw[jrc];split<;>split at * <;>simp_all
theorem jrd(k k':IntKind)(a b:Int):vBin .shr (.int k a) (.int k' b)=if b<0 then none else some (.int k (a.fdiv (2^min b.toNat k.bits))):=by simp[vBin,jjz]
theorem jov(us:Option TypeDesc)(cc:Bool)(k k':IntKind)(a b:Int):jbV us cc .shr (.int k a) (.int k' b)=if b<0 then none else some (.int k (a.fdiv (2^min b.toNat k.bits))):=by
 unfold jbV;rw[jrd];split<;>split at * <;>simp_all
theorem jpA(a b:List UInt8):vBin .eql (.str a) (.str b)=some (.bool (decide (a=b))):=by simp only[vBin,jlg];rw[show(a==b)=decide (a=b)from Ta.2 ae]
theorem jax(us:Option TypeDesc)(cc:Bool)(a b:List UInt8):jbV us cc .eql (.str a) (.str b)=some (.bool (decide (a=b))):=by
 unfold jbV;rw[jpA]
theorem jpB(a b:List UInt8):vBin .neq (.str a) (.str b)=some (.bool (decide (¬a=b))):=by simp only[vBin,jlg];rw[show(a==b)=decide (a=b)from Ta.2 ae];simp
theorem jaF(us:Option TypeDesc)(cc:Bool)(a b:List UInt8):jbV us cc .neq (.str a) (.str b)=some (.bool (decide (¬a=b))):=by
 unfold jbV;rw[jpB]
theorem Yn(cc:Bool)(a b:Bool):jbV (some .bool) cc .eql (.bool a) (.bool b)=some (.bool (decide (a=b))):=by cases a<;>cases b<;>rfl
theorem Yo(cc:Bool)(a b:Bool):jbV (some .bool) cc .neq (.bool a) (.bool b)=some (.bool (decide (¬a=b))):=by cases a<;>cases b<;>rfl
theorem Yp(p:Prop)[Decidable p]:vUn .not (.bool (decide p))=some (.bool (decide (¬p))):=by simp[vUn]
theorem YK(k:IntKind)(a:Int):vUn .neg (.int k a)=some (.int k (k.wrap (0-a))):=rfl
theorem Yq:vUn .not (.bool true)=some (.bool false):=rfl
theorem Yr:vUn .not (.bool false)=some (.bool true):=rfl
theorem Ys(s:Nat)(cells:List V)(len:Nat)(c:RCap)(k:IntKind)(i:Int):jaw s (.row cells len c) (.int k i)=if 0<=i/\i<len then some (.rptr (cells.drop (i.toNat*s)))else none:=rfl
theorem jre(s b off len cap:Nat)(ex:HCap)(k:IntKind)(i:Int):jaw s (.hsl b off len cap ex) (.int k i)=if 0<=i/\i<len then some (.ptr b (off+i.toNat*s))else none:=rfl
theorem Yt(e:TypeId)(cells:List V)(len:Nat)(c:RCap):jbb (some (.slice e)) (.row cells len c)=some (.int .i64 len):=rfl
theorem jrf(e:TypeId)(b off len cap:Nat)(ex:HCap):jbb (some (.slice e)) (.hsl b off len cap ex)=some (.int .i64 len):=rfl
theorem Yu(e:TypeId):jbb (some (.slice e)) .nilsl=some (.int .i64 0):=rfl
theorem jaX(b:List UInt8):jbb (some .string) (.str b)=some (.int .i64 b.length):=rfl
theorem Z6 {E:Env}{rec:Task->Option Res}(f:FuncId)(a c:List V)(as:List V)(U:S):jeL E rec (.func f a c) as U=jah E rec f (a++as++c) U:=rfl
theorem Yv(ρ:Operand->Option V):jb1 ρ []=some []:=rfl
theorem Yw(ρ:Operand->Option V)(x:Operand)(l:List Operand):jb1 ρ (x::l)=(ρ x).bind λv=>(jb1 ρ l).map λr=>v::r:=rfl
theorem jay {E:Env}{h:List AObj}{t:TypeId}{p:V}(ha:aggT E t=some false):jaH E h t p=(jab h 1 p).bind (·[0]?):=by
 simp only[jaH,ha];rfl
theorem Yz(h:List AObj)(cells:List V)(i:Nat):(jab h 1 (.rptr (cells.drop i))).bind (·[0]?)=cells[i]? := by
 simp only[jab,Jy];by_cases hi:1<=cells.length-i
 ·simp only[hi,Kl,Kq];rw[Jw,X9];simp
 ·simp only[hi,Kn,Option.bind_none];rw[Qo aa]
theorem Y0(k:IntKind)(zs:List Int)(i:Nat):(zs.map (V.int k))[i]? = if i<zs.length then some (V.int k (zs.getD i 0))else none:=by
 rw[J9];by_cases h:i<zs.length
 ·simp[h]
 ·simp[h]
theorem wrap_i64 {x:Int}(h1 : -9223372036854775808<=x)(h2:x<=9223372036854775807):IntKind.i64.wrap x=x:=by
 rw[IntKind.wrap_i64];omega
def setT(T:Tm):List (Tmp × V)->Tm
 | []=>T
 |(t,v)::r=>setT (upd T t v) r
theorem Rep.sets {n:Nat}:∀(l:List (Tmp × V)) {T:Tm} {tmps:List V},Rep n T tmps->(∀p∈l,p.1<n)->Rep n (setT T l) (l.foldl (λts (x:Tmp × V)=>ts.set x.1 x.2) tmps)
 | [],T,tmps,h,_=>h
 |(t,v)::r,T,tmps,h,hl=>by
  simp only[X4,setT];exact Rep.sets r (h.upd (hl (t,v) ae) v) λp hp=>hl p (by simp[hp])
section
variable {E:Env}{fn:FuncId}{rnd:Option Nat}{n:Nat}{Q:Post}{ks:List Kt}{T:Tm}{D:List DE}{U:S}
theorem jfQ {l:Nat}{args:List V}{tmps:List V}{ps:Array Tmp}{asg body:Code}{d:Nat}{lo:AObj}{K:S->Prop}
  (hlo:lo=.loop .ready none fn tmps ps asg body d) (hl:U.heap[l]? = some lo) (hr:Rep n T tmps) (ha:args.length=ps.size) (hp:∀p∈ps.toList.zip args,p.1<n)
  (hw:∀lb,lb=AObj.loop .busy none fn tmps ps asg body d->G E fn (some l) n ⟨λT1 D1 U1=>D1=[]/\U1.heap[l]? = some lo /\
   G E fn (some l) n ⟨λ_ D2 U2=>D2=[]/\U2.heap[l]? = some lb/\K (U2.set l lo),λ_ _ _ _=>False,λ_ _ _=>False⟩ [] body T1 []
    (U1.set l lb),λ_ _ _ _=>False,λ_ _ _=>False⟩ [] asg (setT T (ps.toList.zip args)) [] U) :
  ∃U',jeL E (ev E) (.yld l) args U=some (.bool true,U')/\K U':=by
 subst hlo;obtain⟨⟨ex,vals,dd,st⟩,h1,T1,hr1,hq⟩:=jbM E fn (some l) n asg (hw _ rfl) _ (hr.sets _ hp);cases ex with
 |exit i=>exact hq.elim
 |ret=>exact hq.elim
 | normal =>
  obtain⟨hd,hl1,hw2⟩:=hq;simp only at hd hl1 hw2;subst hd;obtain⟨⟨ex2,vals2,d2,st2⟩,g1,T2,gr1,gq⟩:=jbM E fn (some l) n body hw2 _ hr1;cases ex2 with
  |exit i=>exact gq.elim
  |ret=>exact gq.elim
  | normal =>
   obtain⟨hd2,hl2,hK⟩:=gq;simp only at hd2 hl2 hK;subst hd2;refine⟨_,?_,hK⟩
   have:ev E (.round l args U)=some ⟨.ret,[.bool true],[],st2.set l (.loop .ready none fn tmps ps asg body d)⟩:=by
    apply jis;simp only[jf3,hl];rw[Ke (by simpa using ha)];simp only[h1,hl1,g1,hl2]
   simp only[jeL,this]
theorem jkE {f:Operand}{ps:Array Tmp}{asg body:Code}{fid:FuncId}{first captured:List V}(hf:jaN E T f=some (.func fid first captured))
  (h:∀tmps lo lx,Rep n T tmps->lo=AObj.loop .ready none fn tmps ps asg body U.heap.length->lx=AObj.loop .exhausted none fn tmps ps asg body U.heap.length ->
   ∃v U2,ev E (.call fid (first++[V.yld (U.heap.length+1)]++captured) ⟨U.heap++[.defd true,lo],U.toks⟩)=some ⟨.ret,[v],[],U2⟩ /\
   U2.heap[U.heap.length+1]? = some lo /\
   G E fn none n Q ks .skip T (.mark U.heap.length::D) (U2.set (U.heap.length+1) lx)) :
  G E fn none n Q ks (.rangeFunc f ps asg body) T D U:=by
 intro tmps hr;obtain⟨v,U2,h1,h2,h3⟩:=h tmps _ _ hr rfl rfl;refine⟨⟨.normal,tmps,.mark U.heap.length::D,U2.set (U.heap.length+1) (.loop .exhausted none fn tmps ps asg body U.heap.length)⟩,?_,T,hr,h3⟩;simp only[ja6,hr.eval,hf,h1,h2,reduceCtorEq,Kn]
end
theorem jb0 {E:Env}{f:FuncId}{args:List V}{U U':S}{v:V}{F:Go.Func}{body:Code}(hp:E.pure f=false)(hk:E.hook f=none)(hf:E.P.funcs[f]? = some F)(hb:F.body=some body)
  (hn:F.name ≠ "runtime.NumGoroutine") (hl:args.length<=F.ntmps)
  (hw:G E f none F.ntmps ⟨wpR E F.results.toList λv' U''=>v'=v/\U''=U',λ_ _ _ _=>False,wpR E F.results.toList λv' U''=>v'=v/\U''=U'⟩ [] body (argT args) [] U) :
  jah E (ev E) f args U=some (v,U'):=by
 obtain⟨v',U'',h1,rfl,rfl⟩:=jjL hp hk hf hb hn hl hw;exact h1
def jce(o:Option AObj)(off:Nat):Option V :=
 match o with
 |some (.cells cs _)=>cs[off]?
 |some (.ro cs _)=>cs[off]?
 |_=>none
theorem YB(cs:List V)(t:TypeId)(off:Nat):jce (some (.cells cs t)) off=cs[off]? := rfl
theorem YA(h:List AObj)(b off:Nat):(jab h 1 (.ptr b off)).bind (·[0]?)=jce h[b]? off:=by
 simp only[jab,jce];cases h[b]? with
 |none=>rfl
 | some o =>
  cases o with
  | cells cs t =>
   simp only;by_cases hi:off+1<=cs.length
   ·simp only[hi,Kl,Kq];rw[Jw,X9];simp
   ·simp only[hi,Kn,Option.bind_none];rw[Qo aa]
  | ro cs t =>
   simp only;by_cases hi:off+1<=cs.length
   ·simp only[hi,Kl,Kq];rw[Jw,X9];simp
   ·simp only[hi,Kn,Option.bind_none];rw[Qo aa]
  |_=>rfl
def storeAt(U:S)(new:List V)(b off:Nat)(o:Option AObj):Option S :=
 match o with
 |some (.cells cs t)=>if off+new.length<=cs.length/\new.all V.isCell then some (U.set b (.cells (jaa cs off new) t))else none
 |_=>none
theorem YE(U:S)(new:List V)(b off:Nat)(cs:List V)(t:TypeId):storeAt U new b off (some (.cells cs t))=if off+new.length<=cs.length/\new.all V.isCell then some (U.set b (.cells (jaa cs off new) t))else none:=rfl
theorem YD(U:S)(new:List V)(b off:Nat):jcg U new (.ptr b off)=storeAt U new b off U.heap[b]? := by
 simp only[jcg,storeAt];cases U.heap[b]? with
 |none=>rfl
 |some o=>cases o<;>rfl
theorem YI(h:List AObj)(t:List Nat)(o:AObj):S.push ⟨h,t⟩ o=⟨h++[o],t⟩:=rfl
theorem YJ(h:List AObj)(t:List Nat)(b:Nat)(o:AObj):S.set ⟨h,t⟩ b o=⟨h.set b o,t⟩:=rfl
theorem jai:S.empty=⟨[],[]⟩:=rfl
theorem YF(cs:List V)(n:Nat)(c:RCap):(V.row cs n c).cells=[.row cs n c]:=rfl
theorem YH:V.nilsl.cells=[.nilsl]:=rfl
theorem YG(cs:List V)(n:Nat)(c:RCap):(V.row cs n c).isCell=true:=rfl
theorem Y6(k:IntKind)(x:Int):(V.int k x).cells=[.int k x]:=rfl
theorem jac(k:IntKind)(x:Int):(V.int k x).isCell=true:=rfl
structure One (E:Env) (t e:TypeId) (by':Nat):Prop where
 elem:jf1 E t=some e
 size:sz E e=some 1
 bytes:bys E e=some by'
 zeros:jhG E e=some 1
 slice:E.P.underlying t=some (.slice e)
 zero:∃z,jba E e=some z/\z.cells.length=1
section
variable {E:Env}{t e:TypeId}{by':Nat}{T:Tm}{U:S}{x:Operand}
theorem jpC(h:One E t e by'):opT E false T U (.buildSlice t 0 #[])=some (.row [] 0 .full,U):=by
 unfold opT;simp[jbK,jbh,jbG,jcH,h.elem,h.size,jeK]
inductive Grow (ts:List Nat):V->List V->Prop where
 |nil:Grow ts .nilsl []
 |full (cs:List V):Grow ts (.row cs cs.length .full) cs
 |tok (cs:List V) (k e:Nat) (h:ts[k]? = some e):Grow ts (.row cs cs.length (.tok k e 1)) cs
theorem Grow.len(h:One E t e by'){ts:List Nat}{v:V}{cs:List V}(g:Grow ts v cs):jbb (E.P.underlying t) v=some (.int .i64 cs.length):=by
 rw[h.slice];cases g with
 |nil=>rfl
 |full=>rfl
 |tok=>rfl
theorem Grow.append(h:One E t e by'){hp:List AObj}{ts:List Nat}{v:V}{cs:List V}(g:Grow ts v cs){new:List V}{c:RCap}(hn:new.length ≠ 0)(hc:new.all V.isCell=true)
  (hb:(cs.length+new.length)*by'<=lim) (hb2:cs.length+new.length<=lim) :
  ∃k e' ts',appO E false ⟨hp,ts⟩ t t v (.row new new.length c)=some (.row (cs++new) (cs++new).length (.tok k e' 1),⟨hp,ts'⟩)/\ts'[k]? = some e':=by
 have hnew:jaV hp 1 new.length (.row new new.length c)=some new:=by simp[jaV]
 have hn0:new ≠ []:=λe=>hn (by rw[e];rfl)
 unfold appO;simp only[h.elem,h.size,h.bytes,h.slice,h.zeros,vLen,hnew,Kq,Kl];cases g with
 |nil =>
  simp only[Qr,Jk]at hb hb2;refine⟨ts.length,0,ts++[0],?_,ae⟩;simp[jbk,hn0,hb,hb2]
 |full =>
  refine⟨ts.length,0,ts++[0],?_,ae⟩;simp only[jbk,hn,Kn,hb,hb2,hc,Xc,and_self,Kl,Ku,Kk]
 | tok _ k e' hk =>
  refine⟨k,e'+1,ts.set k (e'+1),?_,?_⟩
  ·simp only[jbk,hn,Kn,hb,hb2,hc,Xc,and_self,Kl,hk,Kk]
  ·have:k<ts.length:=by
    rcases Ql k ts.length with h1|h1
    ·exact h1
    ·rw[Qo h1]at hk;simp at hk
   simp[this]
structure GrowN (N:Nat) (ts:List Nat) (v:V) (cs:List V):Prop where
 grow:Grow ts v cs
 low:∀k,(∃cs n e s,v=.row cs n (.tok k e s))->N<=k
theorem GrowN.keep {N:Nat}{ts ts':List Nat}{v:V}{cs:List V}(g:GrowN N ts v cs)(h:∀k e,N<=k->ts[k]? = some e->ts'[k]? = some e):GrowN N ts' v cs:=by
 refine⟨?_,g.low⟩;have hl:=g.low;cases g.grow with
 |nil=>exact .nil
 |full=>exact .full _
 |tok _ k e hk=>exact .tok _ k e (h k e (hl k ⟨_,_,_,_,rfl⟩) hk)
theorem GrowN.append(h:One E t e by'){N:Nat}{hp:List AObj}{ts:List Nat}{v v2:V}{cs cs2:List V}(g:GrowN N ts v cs)(hN:N<=ts.length)(g2:Grow ts v2 cs2)(hc:cs2.all V.isCell=true)
  (hb:(cs.length+cs2.length)*by'<=lim) (hb2:cs.length+cs2.length<=lim) :
  ∃v' ts',appO E false ⟨hp,ts⟩ t t v v2=some (v',⟨hp,ts'⟩)/\GrowN N ts' v' (cs++cs2)/\ts.length<=ts'.length/\(∀k,k<N->ts'[k]? = ts[k]?)/\(v'=.nilsl->v=.nilsl/\cs2=[]):=by
 by_cases hn:cs2=[]
 ·subst hn;refine⟨v,ts,?_,by rw[Jb];exact g,Kw _,λ_ _=>rfl,λh=>⟨h,rfl⟩⟩;have hlen:vLen v2=some 0:=by cases g2<;>rfl
  have hcell:jaV hp 1 0 v2=some []:=by cases g2<;>simp[jaV]
  unfold appO;simp only[h.elem,h.size,h.bytes,h.slice,h.zeros,hlen,hcell,Kq,Kl];cases g.grow<;>simp[jbk]
 ·have hn2:cs2.length ≠ 0:=λe=>hn (Q6 e)
  have key:∃c,v2=.row cs2 cs2.length c:=by cases g2<;>first|exact absurd rfl hn|exact⟨_,rfl⟩
  obtain⟨c,rfl⟩:=key;have hnew:jaV hp 1 cs2.length (.row cs2 cs2.length c)=some cs2:=by simp[jaV]
  have hl:=g.low;unfold appO;simp only[h.elem,h.size,h.bytes,h.slice,h.zeros,vLen,hnew,Kq,Kl];have hge:=g.grow;generalize hv:v=v0 at hge;cases hge with
  |nil =>
   simp only[Qr,Jk]at hb hb2;refine⟨.row cs2 cs2.length (.tok ts.length 0 1),⟨ts++[0],?_,⟨.tok cs2 ts.length 0 ae,?_⟩,ae,?_,ae⟩⟩
   ·simp[jbk,hn,hb,hb2]
   ·rintro k ⟨_,_,_,_,he⟩;cases he;exact hN
   ·intro k hk;exact Kj aa
  |full =>
   refine⟨.row (cs++cs2) (cs++cs2).length (.tok ts.length 0 1),⟨ts++[0],?_,⟨.tok _ ts.length 0 ae,?_⟩,ae,?_,ae⟩⟩
   ·simp only[jbk,hn2,Kn,hb,hb2,hc,Xc,and_self,Kl,Ku,Kk]
   ·rintro k ⟨_,_,_,_,he⟩;cases he;exact hN
   ·intro k hk;exact Kj aa
  | tok _ k e' hk =>
   have hkN:N<=k:=hl k ⟨_,_,_,_,hv⟩
   have hkl:k<ts.length:=by
    rcases Ql k ts.length with h1|h1
    ·exact h1
    ·rw[Qo h1]at hk;simp at hk
   refine⟨.row (cs++cs2) (cs++cs2).length (.tok k (e'+1) 1),⟨ts.set k (e'+1),?_,⟨.tok _ k (e'+1) (by simp[hkl]),?_⟩,ae,?_,ae⟩⟩
   ·simp only[jbk,hn2,Kn,hb,hb2,hc,Xc,and_self,Kl,hk,Kk]
   ·rintro k' ⟨_,_,_,_,he⟩;cases he;exact hkN
   ·intro k' hk';exact Kh aa
end
section
variable {E:Env}{m:Bool}{T:Tm}{U:S}
def jrg(E:Env)(m:Bool)(U:S)(t:TypeId)(lv cv:V):Option (V × S) :=
 (jf1 E t).bind λe=>(sz E e).bind λs=>(bys E e).bind λby' =>
   match lv,cv with
   | .int .i64 l,.int .i64 c =>
    if 0<=l/\l<=c/\c<=lim/\c*by'<=lim then
     (if c.toNat*s=0 then some (.agg [])else jba E e).bind λz =>
     if z.cells.length=s\/c.toNat*s=0 then
      if m then some (.hsl U.heap.length 0 l.toNat c.toNat .exact,U.push (.cells (List.replicate c.toNat z.cells).flatten e))
      else if l=c then some (.row (List.replicate c.toNat z.cells).flatten c.toNat .full,U)
      else some (.row ((List.replicate c.toNat z.cells).flatten.take (l.toNat*s)) l.toNat (.tok U.toks.length 0 s),⟨U.heap,U.toks++[0]⟩)
     else none
    else none
   |_,_=>none
theorem jgE(t:TypeId)(l c:Operand):opT E m T U (.makeSlice t l c)=(jaN E T l).bind λlv=>(jaN E T c).bind λcv=>jrg E m U t lv cv:=rfl
def jbN(E:Env)(t:TypeId)(v:V)(l h mx:Option V):Option V :=
  match E.P.underlying t with
  |some .string=>(match v with| .str b=>jcM 0 (.str b) l h mx|_=>none)
  |some (.slice e)=>(sz E e).bind λs =>
   match v with
   | .str _=>none
   |v=>jcM s v l h mx
  |some (.array n e)=>(sz E e).bind λs=>jfb n s v l h mx
  |_=>none
theorem jbO(t:TypeId)(x:Operand)(lo hi mx:Option Operand):opT E m T U (.slice t x lo hi mx)=(jaN E T x).bind λv=>(optO (jaN E T) lo).bind λl=>(optO (jaN E T) hi).bind λh=>(optO (jaN E T) mx).bind λmm=>(jbN E t v l h mm).map λu=>(u,U):=by
 rw[jbn rfl rfl (λ_ h=>by cases h)];simp only[jbK,jbN];cases jaN E T x with
 |none=>rfl
 | some v =>
  simp only[Kq];cases optO (jaN E T) lo with
  |none=>rfl
  | some l =>
   simp only[Kq];cases optO (jaN E T) hi with
   |none=>rfl
   |some h =>
    simp only[Kq];cases optO (jaN E T) mx with
    |none=>rfl
    |some mm=>rfl
theorem jbP(ρ:Operand->Option V):optO ρ none=some none:=rfl
theorem jbT(ρ:Operand->Option V)(x:Operand):optO ρ (some x)=(ρ x).map some:=rfl
end
theorem jdG(E:Env)(t:TypeId)(x:Operand):scOp E (.load t x)=false:=rfl
theorem jdH(E:Env)(x:Operand):scOp E (.move x)=false:=rfl
theorem jck(E:Env)(x:Operand):scOp E (.assign x)=false:=rfl
theorem jrh(E:Env)(c x y:Operand):scOp E (.pick c x y)=false:=rfl
theorem jc4(E:Env)(o:BinOp)(t u:TypeId)(x y:Operand):scOp E (.binOp o t x y u)=false:=rfl
theorem jri(E:Env)(o:UnOp)(t:TypeId)(x:Operand):scOp E (.unOp o t x)=false:=rfl
theorem jbE(E:Env)(t:TypeId)(x y:Operand):scOp E (.indexAddr t x y)=false:=rfl
theorem jbs(E:Env)(t:TypeId)(x:Operand)(f:Nat):scOp E (.fieldAddr t x f)=false:=rfl
theorem jjO(E:Env)(x:Operand)(i:Nat):scOp E (.extract x i)=false:=rfl
theorem jc5(E:Env)(t:TypeId)(x y:Operand):scOp E (.store t x y)=true:=rfl
theorem jow(E:Env)(t:Tmp)(as:Array Operand)(ts:Array TypeId):scOp E (.call ⟨.value (.tmp t),as,ts⟩)=true:=rfl
theorem jdI(t:TypeId)(x:Operand):jaP (.load t x)=true:=rfl
theorem jdJ(x:Operand):jaP (.move x)=false:=rfl
theorem jcl(x:Operand):jaP (.assign x)=false:=rfl
theorem jrj(c x y:Operand):jaP (.pick c x y)=false:=rfl
theorem jc6(o:BinOp)(t u:TypeId)(x y:Operand):jaP (.binOp o t x y u)=false:=rfl
theorem jrk(o:UnOp)(t:TypeId)(x:Operand):jaP (.unOp o t x)=false:=rfl
theorem jbF(t:TypeId)(x y:Operand):jaP (.indexAddr t x y)=false:=rfl
theorem jbt(t:TypeId)(x:Operand)(f:Nat):jaP (.fieldAddr t x f)=false:=rfl
theorem jjP(x:Operand)(i:Nat):jaP (.extract x i)=false:=rfl
theorem jc7(t:TypeId)(x y:Operand):jaP (.store t x y)=false:=rfl
theorem jdK(c:Call):jaP (.call c)=false:=rfl
theorem jbH(E:Env)(T:Tm)(s:S)(t:TypeId)(x:Operand):jbh E (jaN E T) s (.load t x)=(jaN E T x).bind (jaH E s.heap t):=rfl
theorem jlI(h:List AObj)(d b off len cap:Nat)(ex:HCap)(cs:List V)(t:TypeId)(hb:h[b]? = some (.cells cs t))(hl:len<=cap):jaK h (d+1) (.hsl b off len cap ex)=((cs.drop off).mapM (jaK h d)).map λc=>.row c len .unk:=by
 show(match h[b]? with
  |some (.cells cs _)=>if len<=cap then((cs.drop off).mapM (jaK h d)).map (λc=>V.row c len .unk)else none
  |_=>none)=_
 rw[hb];exact Kg hl
def jbQ:Nat->Code->Code
 |0,c=>c
 |k+1,.seq _ b=>jbQ k b
 |_+1,_=>.skip
def jaz(F:Go.Func):Code:=F.body.getD .skip
section
variable {E:Env}{m:Bool}{T:Tm}{U:S}
def jiu(E:Env)(t:TypeId)(v i:V):Option V :=
  match E.P.underlying t,v,i with
  |some .string,.str s,.int _ n=>if 0<=n/\n<s.length then some (.int .u8 (s.getD n.toNat 0).toNat)else none
  |some (.array len e),.agg cs,.int _ n=>if 0<=n/\n<len then(sz E e).bind λs=>(aggT E e).bind λg=>jh9 g s cs (n.toNat*s)else none
  |_,_,_=>none
theorem jb5(t:TypeId)(x ix:Operand):opT E m T U (.index t x ix)=((jaN E T x).bind λv=>(jaN E T ix).bind λi=>jiu E t v i).map λv=>(v,U) :=
 jbn rfl rfl (λ_ h=>by cases h)
theorem jbX {t:TypeId}(h:E.P.underlying t=some .string)(s:List UInt8)(k:IntKind)(n:Int):jiu E t (.str s) (.int k n)=if 0<=n/\n<s.length then some (.int .u8 (s.getD n.toNat 0).toNat)else none:=by
 simp only[jiu,h]
theorem jpD(a b:List UInt8):vBin .lss (.str a) (.str b)=some (.bool (Op.bytesLess a b)):=rfl
theorem jlJ(us:Option TypeDesc)(cc:Bool)(a b:List UInt8):jbV us cc .lss (.str a) (.str b)=some (.bool (Op.bytesLess a b)):=by
 unfold jbV;rw[jpD]
theorem jrl {t e:TypeId}{n s:Nat}{cells:List V}(hu:E.P.underlying t=some (.array n e))(hs:sz E e=some s)(hl:cells.length=n*s):jbN E t (.rptr cells) none none none=some (.row cells n .full):=by
 simp only[jbN,hu,hs,Kq,jfb,ja0,Nat.zero_mul,Qz,Nat.sub_zero,Kl];rw[<- hl,Jh]
def jrm(E:Env)(t:TypeId)(f:Nat)(v:V):Option V :=
  match E.P.underlying t,v with
  |some (.struct fields),.agg cs=>(fields[f]?).bind λfd=>(sz E fd.type).bind λs=>(aggT E fd.type).bind λg=>jh9 g s cs fd.offset
  |_,_=>none
theorem jlK(t:TypeId)(x:Operand)(f:Nat):opT E m T U (.field t x f)=((jaN E T x).bind (jrm E t f)).map λv=>(v,U) :=
 jbn rfl rfl (λ_ h=>by cases h)
def nilO(E:Env):V->Option V
 | .ptr b o=>some (.ptr b o)
 | .rptr cs=>some (.rptr cs)
 | .meth name r=>(jgV E r name).map λ_=>.meth name r
 |_=>none
theorem jaf(x:Operand):opT E m T U (.nilCheck x)=((jaN E T x).bind (nilO E)).map λv=>(v,U) :=
 jbn rfl rfl (λ_ h=>by cases h)
theorem jap(b o:Nat):nilO E (.ptr b o)=some (.ptr b o):=rfl
theorem K3:type_of% (And.intro @jaf (@jap)):=And.intro @jaf (@jap)
theorem jlL(a:List UInt8):Op.bytesLess a a=false:=by
 induction a with
 |nil=>rfl
 |cons x r ih=>simp[Op.bytesLess,ih]
end
theorem jeV:∀ws:List (List UInt8),V.closed.closedL (ws.map V.str)=true
 | []=>rfl
 |w::ws=>by simp only[K6,V.closed.closedL,V.closed,Xh];exact jeV ws
theorem jdt(ws:List (List UInt8))(i:Nat):(ws.map V.str)[i]? = if i<ws.length then some (V.str (ws.getD i []))else none:=by
 rw[J9];by_cases h:i<ws.length
 ·simp[h]
 ·simp[h]
section
variable {E:Env}{T:Tm}{U:S}
def rowO(E:Env)(t:TypeId)(len:Nat)(ps:List (Nat × V)):Option V:=(jf1 E t).bind λe=>(sz E e).bind λs =>
      (if len*s=0 then some (.agg [])else jba E e).bind λz =>
      if len*s<=2^24/\(z.cells.length=s\/len*s=0)then
        (jeK (λi=>some (i*s,s)) (List.replicate len z.cells).flatten ps).map λcs=>.row cs len .full
      else none
theorem jar(t:TypeId)(len:Nat)(parts:Array (Nat × Operand)):opT E false T U (.buildSlice t len parts)=(jcH (jaN E T) parts.toList).bind λps=>(rowO E t len ps).map λv=>(v,U):=by
 unfold opT rowO;simp only[jbK,jbh,jbG,Bool.false_and,Ku,Kn];cases jcH (jaN E T) parts.toList with
 |none=>rfl
 | some ps =>
  simp only[Kq];cases jf1 E t with
  |none=>rfl
  | some e =>
   simp only[Kq];cases sz E e with
   |none=>rfl
   | some s =>
    simp only[Kq];generalize (if len*s=0 then some (V.agg [])else jba E e)=oz;cases oz with
    |none=>rfl
    |some z =>
     simp only[Kq];split
     ·cases jeK (λi=>some (i*s,s)) (List.replicate len z.cells).flatten ps<;>rfl
     ·rfl
end
theorem jao {L:List AObj}{p:Nat}{x:AObj}(hp:L[p]? = some x):p<L.length:=by
 rcases Ql p L.length with h|h
 ·exact h
 ·rw[Qo h]at hp;simp at hp
theorem jaE {L:List AObj}{p:Nat}{x:AObj}(hp:L[p]? = some x)(X:List AObj):(L++X)[p]? = some x:=by
 rw[Kj (jao hp)];exact hp
theorem jhR {L:List AObj}{p:Nat}{x:V}{t:TypeId}(hp:L[p]? = some (.cells [x] t)):(jab L 1 (.ptr p 0)).bind (·[0]?)=some x:=by
 rw[YA,hp];rfl
theorem jpE(f:FuncId)(a b:List V):(V.func f a b).cells=[.func f a b]:=rfl
theorem Qp(t:TypeId)(x:Operand):jbl (.load t x)=false:=rfl
theorem Qs(t:TypeId)(x y:Operand):jbl (.store t x y)=false:=rfl
theorem Qv(x:Operand):jbl (.move x)=false:=rfl
theorem QH(o:BinOp)(t u:TypeId)(x y:Operand):jbl (.binOp o t x y u)=false:=rfl
theorem QI(o:BinOp)(t u:TypeId)(x y:Operand):jqC (.binOp o t x y u)=false:=rfl
theorem QP(t:TypeId)(x y:Operand):jbl (.indexAddr t x y)=false:=rfl
theorem QR(t:TypeId)(x y:Operand):jqD (.indexAddr t x y)=false:=rfl
theorem QT(t:TypeId)(x:Operand)(f:Nat):jbl (.fieldAddr t x f)=false:=rfl
theorem QV(t:TypeId)(x:Operand)(f:Nat):jqD (.fieldAddr t x f)=false:=rfl
theorem Q2(c:Call):jqC (.call c)=false:=rfl
theorem Q3(c:Call):jqD (.call c)=false:=rfl
def regO(id:Nat):Code->Option (Array Oper)
 | .region i ops true=>if i=id then some ops else none
 | .seq a b=>(regO id a).or (regO id b)
 | .cond _ a b=>(regO id a).or (regO id b)
 | .block _ c=>regO id c
 | .loop c=>regO id c
 | .scope c=>regO id c
 |_=>none
def regB(id:Nat)(c:Code):Code:=.region id ((regO id c).getD #[]) true
theorem jfr {E:Env}{t e:TypeId}(hu:E.P.underlying t=some (.slice e))(c:Bool):binO E t c .eql (some .nilsl) (some .nilsl)=some (.bool true):=by
 show jlh E t c .eql .nilsl .nilsl=_;rw[jgD (by rfl),hu];rfl
theorem jdy {E:Env}{t e:TypeId}(hu:E.P.underlying t=some (.slice e))(c:Bool)(cs:List V)(n:Nat)(q:RCap):binO E t c .eql (some (.row cs n q)) (some .nilsl)=some (.bool false):=by
 show jlh E t c .eql (.row cs n q) .nilsl=_;rw[jgD (by rfl),hu];rfl
theorem jlM(b off len cap:Nat)(q:HCap):(V.hsl b off len cap q).cells=[.hsl b off len cap q]:=rfl
theorem jjQ(b off len cap:Nat)(q:HCap):(V.hsl b off len cap q).isCell=true:=rfl
def regA(id:Nat):Code->Option Code
 | .region i ops d=>if i=id then some (.region i ops d)else none
 | .seq a b=>(regA id a).or (regA id b)
 | .cond _ a b=>(regA id a).or (regA id b)
 | .block _ c=>regA id c
 | .loop c=>regA id c
 | .scope c=>regA id c
 |_=>none
def regZ(id:Nat)(c:Code):Code:=(regA id c).getD .skip
theorem wrap_u64 {x:Int}(h1:0<=x)(h2:x<18446744073709551616):IntKind.u64.wrap x=x:=by
 show(let m:=x % (2^64:Int);if false && decide (m >= 2^63)then m-2^64 else m)=x;simp only[Bool.false_and,Ku,Kn];omega
def blkC(id:Nat):Code->Option Code
 | .block i c=>if i=id then some c else blkC id c
 | .seq a b=>(blkC id a).or (blkC id b)
 | .cond _ a b=>(blkC id a).or (blkC id b)
 | .loop c=>blkC id c
 | .scope c=>blkC id c
 |_=>none
def jcK(id:Nat)(c:Code):Code:=match blkC id c with
 |some (.loop c)=>c
 |_=>.skip
theorem jd5 {E:Env}{fn:FuncId}{rnd:Option Nat}{n:Nat}{Q:Post}{ks:List Kt}{T:Tm}{D:List DE}{U:S}(stop:Nat)(id:Nat)(l:List Oper)(h:(id==stop)=false):G E fn rnd n Q ks (.region id l.toArray false) T D U=GL E fn rnd n Q ks (E.mutb fn id) l.toArray l T D U:=rfl
def jdR:V->Option Nat
 | .hsl b _ _ _ _=>some b
 |_=>none
def StkV(h:List AObj)(t:TypeId)(w:Nat)(v:V)(n:Nat)(xs:List V):Prop :=
 xs.length=n*w/\((v=.nilsl/\n=0)\/∃b cap cs,v=.hsl b 0 n cap (.grow w)/\h[b]? = some (.cells cs t)/\n<=cap/\cap*w<=cs.length/\cs.take (n*w)=xs)
theorem StkV.nil(h:List AObj)(t:TypeId)(w:Nat):StkV h t w .nilsl 0 []:=⟨ae,.inl ⟨rfl,rfl⟩⟩
theorem StkV.move {h h':List AObj}{t:TypeId}{w n:Nat}{v:V}{xs:List V}(s:StkV h t w v n xs)(hq:∀b,jdR v=some b->h'[b]? = h[b]?):StkV h' t w v n xs:=by
 obtain⟨hl,⟨rfl,rfl⟩|⟨b,cap,cs,rfl,hb,h1,h2,h3⟩⟩:=s
 ·exact⟨hl,.inl ⟨rfl,rfl⟩⟩
 ·exact⟨hl,.inr ⟨b,cap,cs,rfl,by rw[hq b rfl];exact hb,h1,h2,h3⟩⟩
theorem StkV.lt {h:List AObj}{t:TypeId}{w n:Nat}{v:V}{xs:List V}(s:StkV h t w v n xs){b:Nat}(hb:jdR v=some b):b<h.length:=by
 obtain⟨hl,⟨rfl,rfl⟩|⟨b',cap,cs,rfl,hb',h1,h2,h3⟩⟩:=s
 ·simp[jdR]at hb
 ·simp only[jdR,Ki]at hb;subst hb;exact(K4.1 hb').1
theorem StkV.cells {h:List AObj}{t:TypeId}{w n:Nat}{v:V}{xs:List V}(s:StkV h t w v n xs):v.cells=[v]/\v.isCell=true:=by
 obtain⟨hl,⟨rfl,rfl⟩|⟨b',cap,cs,rfl,hb',h1,h2,h3⟩⟩:=s<;>exact⟨rfl,rfl⟩
theorem StkV.len {h:List AObj}{t:TypeId}{w n:Nat}{v:V}{xs:List V}(s:StkV h t w v n xs)(e:TypeId):jbb (some (.slice e)) v=some (.int .i64 n):=by
 obtain⟨hl,⟨rfl,rfl⟩|⟨b',cap,cs,rfl,hb',h1,h2,h3⟩⟩:=s<;>rfl
theorem StkV.push {E:Env}{L:List AObj}{ts:List Nat}{t ty ty2:TypeId}{w n nb:Nat}{v y:V}{xs new:List V}(s:StkV L t w v n xs)(he:jf1 E ty=some t)(hs:sz E t=some w)(hz:jhG E t=some w)(hb:bys E t=some nb)(hu:∃e2,E.P.underlying ty2=some (.slice e2))
  (hw:0<w) (hlim:(n+1)*nb<=lim/\n+1<=lim) (hy:vLen y=some 1) (hc:jaV L w 1 y=some new) (hnl:new.length=w) (hcell:new.all V.isCell=true) :
  ∃v' L',appO E true ⟨L,ts⟩ ty ty2 v y=some (v',⟨L',ts⟩)/\StkV L' t w v' (n+1) (xs++new)/\(∀q,q<L.length->jdR v ≠ some q->L'[q]? = L[q]?)/\L.length<=L'.length/\(jdR v'=jdR v\/jdR v'=some L.length):=by
 obtain⟨e2,hu⟩:=hu;obtain⟨hl,hcase⟩:=s;have hlen:(xs++new).length=(n+1)*w:=by rw[Kk,hl,hnl,Jz,Ub]
 unfold appO;simp only[he,hs,hb,hu,hz,hy,hc,Kq,Kl]
 rcases hcase with⟨rfl,rfl⟩|⟨b,cap,cs,rfl,hbk,h1,h2,h3⟩
 ·have hx:xs=[]:=Q6 (by simpa using hl);subst hx;refine⟨.hsl L.length 0 1 1 (.grow w),L++[.cells new t],?_,⟨hlen,.inr ⟨L.length,1,new,rfl,ae,aa,aa,?_⟩⟩,λq hq _=>by rw[Kj hq],ae,.inr rfl⟩
  ·have h1:(1:Nat)*nb<=lim/\1<=lim:=by simpa using hlim
   simp[jbk,S.push,by simpa using h1]
  ·rw[Ja];exact Qu (by simp[hnl])
 ·have hblt:=(K4.1 hbk).1;by_cases hfit:n+1<=cap
  ·have hn1:(n+1)*w<=cap*w:=Jc w hfit;have hn2:n*w+w<=cs.length:=by rw[Jz,Ub]at hn1;omega
   refine⟨.hsl b 0 (n+1) cap (.grow w),L.set b (.cells (jaa cs (n*w) new) t),?_,⟨hlen,.inr ⟨b,cap,jaa cs (n*w) new,rfl,by simp[hblt],hfit,?_,?_⟩⟩,λq hq hne=>by rw[Kh (λe=>hne (by simp[jdR,e]))],ae,.inl rfl⟩
   ·simp[jbk,hfit,jcg,hbk,hnl,hn2,hcell,S.set]
   ·simp only[jaa,Kk,Qx,Jy,hnl];omega
   ·rw[jaa,h3,Jz,Ub];have:(xs++new).length=n*w+w:=by rw[Kk,hl,hnl]
    rw[List.take_append_of_le_length aa];exact Qu aa
  ·have hcl:n*w<=cs.length:=by
    have:n*w<=cap*w:=Jc w h1;omega
   refine⟨.hsl L.length 0 (n+1) (n+1) (.grow w),(L.set b .dead)++[.cells (cs.take (n*w)++new) t],?_,⟨hlen,.inr ⟨L.length,n+1,cs.take (n*w)++new,rfl,ae,Kw _,?_,?_⟩⟩,λq hq hne => ?_,ae,.inr rfl⟩
   ·simp[jbk,hfit,hbk,hcl,hlim,hcell,S.push,S.set]
   ·rw[h3,hlen];exact Kw _
   ·rw[h3];exact Qu aa
   ·rw[Kj (by simpa using hq),Kh (λe=>hne (by simp[jdR,e]))]
theorem StkV.cut {E:Env}{h:List AObj}{t ty:TypeId}{w n:Nat}{v:V}{xs:List V}(s:StkV h t w v n xs)(hu:E.P.underlying ty=some (.slice t))(hs:sz E t=some w)(k:Nat)(hk:k<=n)(lo:Option V)(hlo:lo=none\/lo=some (.int .i64 0)) :
  ∃v',jbN E ty v lo (some (.int .i64 k)) none=some v'/\StkV h t w v' k (xs.take (k*w))/\jdR v'=jdR v:=by
 obtain⟨hl,hcase⟩:=s;have hkw:k*w<=n*w:=Jc w hk;have hlen:(xs.take (k*w)).length=k*w:=by rw[Qx];omega
 have hlo2:∀m,ja0 lo 0 m=some 0:=by
  intro m
  rcases hlo with rfl|rfl<;>simp[ja0]
 rcases hcase with⟨rfl,rfl⟩|⟨b,cap,cs,rfl,hbk,h1,h2,h3⟩
 ·have:k=0:=by omega
  subst this;exact⟨.nilsl,by rcases hlo with rfl|rfl<;>simp[jbN,hu,hs,jcM,ja0],⟨hlen,.inl ⟨rfl,rfl⟩⟩,rfl⟩
 ·refine⟨.hsl b 0 k cap (.grow w),?_,⟨hlen,.inr ⟨b,cap,cs,rfl,hbk,aa,h2,?_⟩⟩,rfl⟩
  ·have h5:((k:Nat):Int)<=(cap:Int):=by omega
   rcases hlo with rfl|rfl<;>simp[jbN,hu,hs,jcM,ja0,h5,HCap.cut]
  ·rw[<- h3,List.take_take,Xt hkw]
def RdS(h:List AObj)(w:Nat)(u:V)(n:Nat)(xs:List V):Prop :=
 xs.length=n*w/\(∀e,jbb (some (.slice e)) u=some (.int .i64 n))/\vLen u=some n/\∀i,i<n->∃p,jaw w u (.int .i64 i)=some p/\jab h w p=some ((xs.drop (i*w)).take w)
theorem RdS.row(h:List AObj)(w:Nat)(xs:List V)(n:Nat)(c:RCap)(hl:xs.length=n*w):RdS h w (.row xs n c) n xs:=by
 refine⟨hl,λe=>rfl,rfl,λi hi=>⟨.rptr (xs.drop (i*w)),?_,?_⟩⟩
 ·have h1:(i:Int)<(n:Int):=by omega
  simp[jaw,hi]
 ·have:(i+1)*w<=n*w:=Jc w hi;rw[Jz,Ub]at this;simp only[jab,Jy];rw[Kg aa]
theorem RdS.nil(h:List AObj)(w:Nat):RdS h w .nilsl 0 []:=⟨ae,λe=>rfl,rfl,λi hi=>aa⟩
theorem RdS.hsl {h:List AObj}{w b off n cap:Nat}{ex:HCap}{cs:List V}{t:TypeId}(hb:h[b]? = some (.cells cs t))(hl:off+n*w<=cs.length):RdS h w (.hsl b off n cap ex) n ((cs.drop off).take (n*w)):=by
 refine⟨by rw[Qx,Jy];omega,λe=>rfl,rfl,λi hi=>⟨.ptr b (off+i*w),?_,?_⟩⟩
 ·simp[jaw,hi]
 ·have:(i+1)*w<=n*w:=Jc w hi;rw[Jz,Ub]at this;simp only[jab,hb];rw[Kg aa,List.drop_take,List.take_take,List.drop_drop,Xt aa]
theorem StkV.rd {h:List AObj}{t:TypeId}{w n:Nat}{v:V}{xs:List V}(s:StkV h t w v n xs):RdS h w v n xs:=by
 obtain⟨hl,⟨rfl,rfl⟩|⟨b,cap,cs,rfl,hbk,h1,h2,h3⟩⟩:=s
 ·have hx:xs=[]:=Q6 (by simpa using hl);subst hx;exact .nil h w
 ·have:n*w<=cap*w:=Jc w h1;have:=RdS.hsl (w:=w) (n:=n) (cap:=cap) (ex:=.grow w) (off:=0) hbk aa;rw[Qz,h3]at this;exact this
theorem StkV.tail {E:Env}{h:List AObj}{t ty:TypeId}{w n:Nat}{v:V}{xs:List V}(s:StkV h t w v n xs)(hu:E.P.underlying ty=some (.slice t))(hs:sz E t=some w)(k:Nat)(hk:k<=n) :
  ∃u,jbN E ty v (some (.int .i64 k)) none none=some u/\RdS h w u (n-k) (xs.drop (k*w)):=by
 obtain⟨hl,hcase⟩:=s;have hkw:k*w<=n*w:=Jc w hk
 rcases hcase with⟨rfl,rfl⟩|⟨b,cap,cs,rfl,hbk,h1,h2,h3⟩
 ·have:k=0:=by omega
  subst this;have hx:xs=[]:=Q6 (by simpa using hl);subst hx;exact⟨.nilsl,by simp[jbN,hu,hs,jcM,ja0],by simpa using RdS.nil h w⟩
 ·have hncw:n*w<=cap*w:=Jc w h1;have hnk:(n-k)*w=n*w-k*w:=Um n k w;by_cases hc:k<cap\/k=0
  ·refine⟨.hsl b (0+k*w) (n-k) (cap-k) ((HCap.grow w).cut w),?_,?_⟩
   ·have h5:(k:Int)<=(n:Int):=by omega
    simp[jbN,hu,hs,jcM,ja0,hk,hc]
   ·have:=RdS.hsl (w:=w) (n:=n-k) (cap:=cap-k) (ex:=(HCap.grow w).cut w) (off:=0+k*w) hbk (by rw[hnk];omega)
    have e:(cs.drop (0+k*w)).take ((n-k)*w)=xs.drop (k*w):=by
     rw[<- h3,List.drop_take,hnk,Jk]
    rw[e]at this;exact this
  ·have hkn:k=n:=by omega
   have hcn:cap=n:=aa;subst hkn;refine⟨.row [] 0 .unk,?_,?_⟩
   ·simp[jbN,hu,hs,jcM,ja0,hc]
   ·have:=RdS.row h w [] 0 .unk ae;rw[Xn,Uz aa];exact this
def wpB(v:V)(b:Bool)(run skip:Prop):Prop :=
 match v with
 | .tup []=>skip
 | .bool c=>if c=b then run else skip
 |_=>False
theorem jbW(b:Bool)(r s:Prop):wpB (.tup []) b r s=s:=rfl
theorem jcw(r s:Prop):wpB (.bool true) true r s=r:=by simp[wpB]
theorem jcx(r s:Prop):wpB (.bool true) false r s=s:=by simp[wpB]
theorem jcy(r s:Prop):wpB (.bool false) true r s=s:=by simp[wpB]
theorem jcz(r s:Prop):wpB (.bool false) false r s=r:=by simp[wpB]
section
variable (E:Env)
def wpS2(mutb:Bool)(ops:Array Oper)(n:Nat)(K:S->Prop):List Oper->Tm->S->(Tm->S->Prop)->Prop
 | [],T,U,k=>k T U
 | ⟨dst,op,_,_,_,none⟩::l,T,U,k=>V1 (opT E mutb T U op) λp=>(scOp E op=true->K p.2)/\(jaP op=true->∀U',K U'->jbh E (jaN E T) U' op=some p.1) /\
  (match dst with
   |none=>wpS2 mutb ops n K l T p.2 k
   |some d=>d<n/\wpS2 mutb ops n K l (upd T d p.1) p.2 k)
 | ⟨some d,op,_,_,_,some (j,b)⟩::l,T,U,k=>V1 ((ops[j]?).bind (·.dst)) λdj=>d<n/\wpB (T dj) b
   (V1 (opT E mutb T U op) λp=>(scOp E op=true->K p.2)/\(jaP op=true->∀U',K U'->jbh E (jaN E T) U' op=some p.1)/\wpS2 mutb ops n K l (upd T d p.1) p.2 k)
   ((scOp E op=true->K U)/\wpS2 mutb ops n K l (upd T d (.tup [])) U k)
 |⟨none,_,_,_,_,some _⟩::_,_,_,_=>False
theorem jlN {rec:Task->Option Res}{mutb:Bool}{ops:Array Oper}{tmps:List V}{U U1:S}{o:Oper}{l:List Oper}{v:V}(h:(if Region.wanted o (jaG ops tmps)then opV E rec mutb tmps U o.op else some (.tup [],U))=some (v,U1)) :
  dRun E rec mutb ops (o::l) tmps U=(match dRun E rec mutb ops l (putT tmps o.dst v) U1 with
   |some (tr,ss,tf,Uf)=>some ((tmps,v)::tr,if scOp E o.op then U1::ss else ss,tf,Uf)
   |none=>none):=by
 simp only[dRun,h];cases dRun E rec mutb ops l (putT tmps o.dst v) U1<;>rfl
def Made(ops:Array Oper)(mutb:Bool)(K:S->Prop)(o:Oper)(t:List V)(v:V):Prop :=
 Region.wanted o (jaG ops t)=false\/∃(U0 U1:S),opV E (ev E) mutb t U0 o.op=some (v,U1)/\(jaP o.op=true->∀U',K U'->jbh E (jbv E t) U' o.op=some v)
theorem jjR {mutb:Bool}{n:Nat}{ops:Array Oper}{K:S->Prop}:∀(l:List Oper) {T:Tm} {tmps:List V} {U:S} {k:Tm->S->Prop},Rep n T tmps->wpS2 E mutb ops n K l T U k ->
  ∃(tr:List (List V × V)) (ss:List S) (tf:List V) (Uf:S) (T':Tm),dRun E (ev E) mutb ops l tmps U=some (tr,ss,tf,Uf)/\Rep n T' tf/\k T' Uf/\(∀s∈ss,K s) /\
   ∀(j:Nat) (o:Oper),l[j]? = some o->∃(t:List V) (v:V),tr[j]? = some (t,v)/\Made E ops mutb K o t v
 | [],T,tmps,U,k,h,hw=>⟨[],[],tmps,U,T,rfl,h,hw,λs hs=>by simp at hs,λj o hj=>by simp at hj⟩
 | o::l,T,tmps,U,k,h,hw=>by
  have key:∃v U1 T1,(if Region.wanted o (jaG ops tmps)then opV E (ev E) mutb tmps U o.op else some (.tup [],U))=some (v,U1)/\(scOp E o.op=true->K U1)/\Rep n T1 (putT tmps o.dst v)/\wpS2 E mutb ops n K l T1 U1 k/\Made E ops mutb K o tmps v:=by
   obtain⟨dst,op,t,p,a,g⟩:=o;cases g with
   |none =>
    simp only[wpS2]at hw;obtain⟨⟨v,U1⟩,hop,hK,hR,hw⟩:=hw;rw[jeU E h]at hop;simp only at hK hR hw;have hm:Made E ops mutb K ⟨dst,op,t,p,a,none⟩ tmps v:=.inr ⟨U,U1,hop,λhrd U' hU'=>by rw[h.eval];exact hR hrd U' hU'⟩;have hwant:Region.wanted ⟨dst,op,t,p,a,none⟩ (jaG ops tmps)=true:=rfl;cases dst with
    |none=>exact⟨v,U1,T,by rw[Kg hwant];exact hop,hK,h,hw,hm⟩
    |some d=>exact⟨v,U1,_,by rw[Kg hwant];exact hop,hK,h.upd hw.1 v,hw.2,hm⟩
   | some jb =>
    obtain⟨j,b⟩:=jb;cases dst with
    |none=>exact hw.elim
    | some d =>
     simp only[wpS2]at hw;obtain⟨dj,hdj,hd,hw⟩:=hw
     have skip:(scOp E op=true->K U)/\wpS2 E mutb ops n K l (upd T d (.tup [])) U k->Region.wanted ⟨some d,op,t,p,a,some (j,b)⟩ (jaG ops tmps)=false ->
       ∃v U1 T1,(if Region.wanted ⟨some d,op,t,p,a,some (j,b)⟩ (jaG ops tmps)then opV E (ev E) mutb tmps U op else some (.tup [],U))=some (v,U1)/\(scOp E op=true->K U1)/\Rep n T1 (putT tmps (some d) v)/\wpS2 E mutb ops n K l T1 U1 k/\Made E ops mutb K ⟨some d,op,t,p,a,some (j,b)⟩ tmps v:=λhs hn =>
      ⟨.tup [],U,_,by rw[hn];rfl,hs.1,h.upd hd _,hs.2,.inl hn⟩
     unfold wpB at hw;split at hw
     ·rename_i htup;refine skip hw ?_;simp only[Region.wanted,jeT h hdj htup];rfl
     ·rename_i c hc;have hy:=jeS (ops:=ops) h hdj hc;by_cases hcb:c=b
      ·rw[Kg hcb]at hw;obtain⟨⟨v,U1⟩,hop,hK,hR,hw⟩:=hw;rw[jeU E h]at hop;simp only at hK hR hw
       have hwant:Region.wanted ⟨some d,op,t,p,a,some (j,b)⟩ (jaG ops tmps)=true:=by
        simp only[Region.wanted,hy,hcb];simp
       exact⟨v,U1,_,by rw[Kg hwant];exact hop,hK,h.upd hd v,hw,.inr ⟨U,U1,hop,λhrd U' hU'=>by rw[h.eval];exact hR hrd U' hU'⟩⟩
      ·rw[Ke hcb]at hw;refine skip hw ?_;simp only[Region.wanted,hy];simp[hcb]
     ·exact hw.elim
  obtain⟨v,U1,T1,hstep,hK,hr1,hw1,hm⟩:=key;obtain⟨tr,ss,tf,Uf,T',h1,h2,h3,h4,h5⟩:=jjR l hr1 hw1;refine⟨(tmps,v)::tr,if scOp E o.op then U1::ss else ss,tf,Uf,T',by rw[jlN E hstep,h1],h2,h3,?_,?_⟩
  ·intro s hs;by_cases hsc:scOp E o.op=true
   ·simp only[hsc,Kl,Jg]at hs
    rcases hs with rfl|hs
    ·exact hK hsc
    ·exact h4 s hs
   ·simp only[hsc,Ku,Kn]at hs;exact h4 s hs
  ·intro j o' hj;cases j with
   |zero =>
    simp only[Q9,Ki]at hj;subst hj;exact⟨tmps,v,rfl,hm⟩
   |succ j =>
    simp only[Q7]at hj ⊢;exact h5 j o' hj
theorem jkF {fn:FuncId}{rnd:Option Nat}{id:Nat}{ops:Array Oper}{K:S->Prop}{n:Nat}{T:Tm}{tmps:List V}{dfs:List DE}{U:S}{k:Tm->S->Prop}(hp:jcJ E ops (jat [] ops.toList)=true)(hK:K U)
  (hr:Rep n T tmps) (hw:wpS2 E (E.mutb fn id) ops n K ops.toList T U k) :
  ∃tf Uf T',ja6 E (ev E) fn rnd (.region id ops true) tmps dfs U=some ⟨.normal,tf,dfs,Uf⟩/\Rep n T' tf/\k T' Uf:=by
 obtain⟨tr,ss,tf,Uf,T',h1,h2,h3,h4,h5⟩:=jjR E (ops:=ops) ops.toList hr hw;refine⟨tf,Uf,T',?_,h2,h3⟩
 have hc:jeq E ops (jat [] ops.toList) tr (U::ss)=true:=by
  unfold jeq;rw[Qq];intro j hj;have hj:j<ops.size:=by simpa using hj
  have hoj:ops[j]? = some ops[j]:=J6 hj;have hoj2:ops.toList[j]? = some ops[j]:=by rw[Xl];exact hoj
  obtain⟨t,v,ht,hmade⟩:=h5 j ops[j] hoj2;simp only[hoj,ht];by_cases hs:scOp E ops[j].op=true
  ·simp[hs]
  by_cases hpc:jby E ops[j].op=true
  ·simp[hpc]
  rcases hmade with hun|⟨U0,U1,hop,hrd⟩
  ·simp[hun]
  by_cases ha:(jbK E (jbv E t) ops[j].op).isSome=true
  ·simp[ha]
  have ha':jbK E (jbv E t) ops[j].op=none:=by simpa using ha
  have hread:=jgC (by simpa using hs) (by simpa using hpc) ha' hop
  have hreads:jaP ops[j].op=true:=by
   cases hx:jaP ops[j].op with
   |true=>rfl
   |false=>rw[jex hx]at hread;simp at hread
  rw[Xe];right;rw[Qq];intro m hm;have hm:m<(U::ss).length:=by simpa using hm
  have hKm:K (U::ss)[m]:=by
   have:(U::ss)[m]∈U::ss:=J7 hm
   rcases Jg.1 this with h|h
   ·rw[h];exact hK
   ·exact h4 _ h
  rw[Kz hm];simp only[hrd hreads _ hKm,V.beq_refl,Xj]
 simp only[ja6,hp,Kl,h1,hc]
end
section
variable {E:Env}{fn:FuncId}{rnd:Option Nat}{n:Nat}{Q:Post}{ks:List Kt}{m:Bool}{ops:Array Oper}{l:List Oper}{T:Tm}{D:List DE}{U:S}
def GQ(E:Env)(fn:FuncId)(rnd:Option Nat)(n:Nat)(Q:Post)(ks:List Kt)(m:Bool)(K:S->Prop)(ops:Array Oper)(l:List Oper)(T:Tm)(D:List DE)(U:S):Prop :=
 wpS2 E m ops n K l T U λT U=>(Kt.post E fn rnd n Q ks).norm T D U
def GQS(E:Env)(fn:FuncId)(rnd:Option Nat)(n:Nat)(Q:Post)(ks:List Kt)(m:Bool)(K:S->Prop)(ops:Array Oper)(l:List Oper)(T:Tm)(D:List DE)(d:Option Nat)(op:Op)(o:Option (V × S)):Prop :=
 V1 o λp=>(scOp E op=true->K p.2)/\(jaP op=true->∀U',K U'->jbh E (jaN E T) U' op=some p.1) /\
  (match d with
   |none=>GQ E fn rnd n Q ks m K ops l T D p.2
   |some d=>d<n/\GQ E fn rnd n Q ks m K ops l (upd T d p.1) D p.2)
theorem jrn {id:Nat}{l:List Oper}(hs:E.stab fn id=true)(K:S->Prop)(hK:K U)(hp:jcJ E l.toArray (jat [] l)=true)(h:GQ E fn rnd n Q ks (E.mutb fn id) K l.toArray l T D U) :
  G E fn rnd n Q ks (.region id l.toArray true) T D U:=by
 unfold G wpC;simp only[hs];intro tmps hr;obtain⟨tf,Uf,T',h1,h2,h3⟩:=jkF E (rnd:=rnd) (dfs:=D) hp hK hr h;exact⟨_,h1,T',h2,h3⟩
theorem jox(K:S->Prop):GQ E fn rnd n Q ks m K ops [] T D U=G E fn rnd n Q ks .skip T D U:=rfl
theorem jdz(K:S->Prop)(d:Option Nat)(op:Op)(t:TypeId)(p:String)(a:Array Edge):GQ E fn rnd n Q ks m K ops (⟨d,op,t,p,a,none⟩::l) T D U=GQS E fn rnd n Q ks m K ops l T D d op (opT E m T U op):=rfl
theorem jbj(K:S->Prop)(d:Nat)(op:Op)(t:TypeId)(p:String)(a:Array Edge)(j:Nat)(b:Bool):GQ E fn rnd n Q ks m K ops (⟨some d,op,t,p,a,some (j,b)⟩::l) T D U =
  V1 ((ops[j]?).bind (·.dst)) λdj=>d<n/\wpB (T dj) b (GQS E fn rnd n Q ks m K ops l (T) D (some d) op (opT E m T U op)) ((scOp E op=true->K U)/\GQ E fn rnd n Q ks m K ops l (upd T d (.tup [])) D U):=by
 unfold GQ GQS;simp only[wpS2];refine congrArg (V1 _) (funext λdj => ?_);by_cases hd:d<n
 ·simp only[hd,true_and];rfl
 ·simp only[hd,false_and]
def jiv(ops:Array Oper)(T:Tm)(j:Nat):Option V:=((ops[j]?).bind (·.dst)).map T
theorem jro(K:S->Prop)(d:Nat)(op:Op)(t:TypeId)(p:String)(a:Array Edge)(j:Nat)(b:Bool)(h:jiv ops T j=some (.bool b)):GQ E fn rnd n Q ks m K ops (⟨some d,op,t,p,a,some (j,b)⟩::l) T D U =
  (d<n/\GQS E fn rnd n Q ks m K ops l T D (some d) op (opT E m T U op)):=by
 rw[jbj];unfold jiv at h;cases ho:(ops[j]?).bind (·.dst)with
 |none=>rw[ho]at h;cases h
 |some dj =>
  rw[ho]at h;simp only[K9,Ki]at h;rw[Yy,h];cases b<;>simp only[jcw,jcz]
theorem jni(K:S->Prop)(d:Nat)(op:Op)(t:TypeId)(p:String)(a:Array Edge)(j:Nat)(b:Bool)(h:jiv ops T j=some (.bool (!b))):GQ E fn rnd n Q ks m K ops (⟨some d,op,t,p,a,some (j,b)⟩::l) T D U =
  (d<n/\(scOp E op=true->K U)/\GQ E fn rnd n Q ks m K ops l (upd T d (.tup [])) D U):=by
 rw[jbj];unfold jiv at h;cases ho:(ops[j]?).bind (·.dst)with
 |none=>rw[ho]at h;cases h
 |some dj =>
  rw[ho]at h;simp only[K9,Ki]at h;rw[Yy,h];cases b<;>simp only[Q8,Ji,jcx,jcy]
theorem ja7(K:S->Prop)(d:Nat)(op:Op)(v:V)(U':S):GQS E fn rnd n Q ks m K ops l T D (some d) op (some (v,U'))=((scOp E op=true->K U')/\(jaP op=true->∀s,K s->jbh E (jaN E T) s op=some v)/\d<n/\GQ E fn rnd n Q ks m K ops l (upd T d v) D U'):=by
 simp only[GQS,Yy]
theorem ja8(K:S->Prop)(op:Op)(v:V)(U':S):GQS E fn rnd n Q ks m K ops l T D none op (some (v,U'))=((scOp E op=true->K U')/\(jaP op=true->∀s,K s->jbh E (jaN E T) s op=some v)/\GQ E fn rnd n Q ks m K ops l T D U'):=by
 simp only[GQS,Yy]
theorem jbL(K:S->Prop)(d:Option Nat)(op:Op)(c:Prop)[Decidable c](o:Option (V × S)):GQS E fn rnd n Q ks m K ops l T D d op (if c then o else none)=(c/\GQS E fn rnd n Q ks m K ops l T D d op o):=by simp only[GQS,jjJ]
theorem jbe(K:S->Prop)(d:Option Nat)(op:Op)(c:Prop)[Decidable c](o:Option (V × S)):GQS E fn rnd n Q ks m K ops l T D d op (if c then none else o)=(¬c/\GQS E fn rnd n Q ks m K ops l T D d op o):=by simp only[GQS,jg7]
theorem K1:type_of% (And.intro @jdz (And.intro @jbj (And.intro @ja7 (And.intro @ja8 (And.intro @jbL (And.intro @jbe (And.intro @jbW (And.intro @jcw (And.intro @jcx (And.intro @jcy (@jcz))))))))))):=And.intro @jdz (And.intro @jbj (And.intro @ja7 (And.intro @ja8 (And.intro @jbL (And.intro @jbe (And.intro @jbW (And.intro @jcw (And.intro @jcx (And.intro @jcy (@jcz))))))))))
end
section
variable (E:Env)(n:Nat)
def wpG(m:Bool)(masks:List Nat)(N sz:Nat)(St:Nat->S):List Oper->Nat->Nat->Tm->S->(Tm->S->Prop)->Prop
 | [],_,_,T,U,k=>k T U
 | ⟨dst,op,_,_,_,none⟩::l,j,r,T,U,k =>
  match jbl op with
  | true=>(∀c,c<2^sz->jcZ masks j c->∃ty z,op=.alloc ty/\jba E ty=some z/\(St c).heap[N+r]? = some .resv/\St (c |||2^j)=(St c).set (N+r) (.cells z.cells ty)) /\
   (match dst with
    |none=>wpG m masks N sz St l (j+1) (r+1) T U k
    |some d=>d<n/\wpG m masks N sz St l (j+1) (r+1) (upd T d (.ptr (N+r) 0)) U k)
  | false=>V1 (opT E m T U op) λp=>(∀c,c<2^sz->jcZ masks j c->opT E m T (St c) op=some (p.1,St (c |||2^j))) /\
   (match dst with
    |none=>wpG m masks N sz St l (j+1) r T p.2 k
    |some d=>d<n/\wpG m masks N sz St l (j+1) r (upd T d p.1) p.2 k)
 |⟨_,_,_,_,_,some _⟩::_,_,_,_,_,_=>False
theorem jiw {m:Bool}{ops:Array Oper}{masks:List Nat}{N sz:Nat}{St:Nat->S}:∀(l:List Oper) (j r:Nat) {T:Tm} {tmps:List V} {U:S} {k:Tm->S->Prop},Rep n T tmps->wpG E n m masks N sz St l j r T U k ->
  ∃ (tr:List (List V × V)) (tf:List V) (Uf:S) (T':Tm),jf2 E (ev E) m ops N l r tmps U=some (tr,tf,Uf)/\Rep n T' tf/\k T' Uf /\
   ∀(i:Nat) (o:Oper) (t:List V) (v:V),l[i]? = some o->tr[i]? = some (t,v)->∀c,c<2^sz->jcZ masks (j+i) c->Region.wanted o (jaG ops t)=true /\
    (jbl o.op=true->∃n ty z,o.op=.alloc ty/\v=.ptr n 0/\(St c).heap[n]? = some .resv/\jba E ty=some z/\St (c |||2^(j+i))=(St c).set n (.cells z.cells ty)) /\
    (jbl o.op=false->opV E (ev E) m t (St c) o.op=some (v,St (c |||2^(j+i))))
 | [],j,r,T,tmps,U,k,h,hw=>⟨[],tmps,U,T,rfl,h,hw,λi o t v hi=>by simp at hi⟩
 | ⟨dst,op,ty,p,a,none⟩::l,j,r,T,tmps,U,k,h,hw=>by
  simp only[wpG]at hw;have hjk:∀i,j+1+i=j+(i+1):=λi=>aa
  cases hal:jbl op with
  | true =>
   simp only[hal]at hw;obtain⟨hc,hw⟩:=hw
   have hput:∃T1,Rep n T1 (putT tmps dst (.ptr (N+r) 0))/\wpG E n m masks N sz St l (j+1) (r+1) T1 U k:=by
    cases dst with
    |none=>exact⟨T,h,hw⟩
    |some d=>exact⟨_,h.upd hw.1 _,hw.2⟩
   obtain⟨T1,hr1,hw1⟩:=hput;obtain⟨tr,tf,Uf,T',h1,h2,h3,h4⟩:=jiw (ops:=ops) l (j+1) (r+1) hr1 hw1;refine⟨(tmps,.ptr (N+r) 0)::tr,tf,Uf,T',by simp only[jf2,Region.wanted,Kl,hal,h1],h2,h3,λi o t v hi ht c hcl hall => ?_⟩;cases i with
   |zero =>
    simp only[Q9,Ki,Qg]at hi ht;subst hi;obtain⟨rfl,rfl⟩:=ht;obtain⟨ty,z,e1,e2,e3,e4⟩:=hc c hcl hall;refine⟨rfl,λ_=>⟨N+r,ty,z,e1,rfl,e3,e2,e4⟩,?_⟩;intro hf;have hf:jbl op=false:=hf;rw[hal]at hf;cases hf
   |succ i =>
    simp only[Q7]at hi ht;have:=h4 i o t v hi ht c hcl (by rw[hjk];exact hall);rw[hjk]at this;exact this
  | false =>
   simp only[hal]at hw;obtain⟨⟨v0,U1⟩,hop,hc,hw⟩:=hw;rw[jeU E h]at hop;simp only at hc hw
   have hput:∃T1,Rep n T1 (putT tmps dst v0)/\wpG E n m masks N sz St l (j+1) r T1 U1 k:=by
    cases dst with
    |none=>exact⟨T,h,hw⟩
    |some d=>exact⟨_,h.upd hw.1 v0,hw.2⟩
   obtain⟨T1,hr1,hw1⟩:=hput;obtain⟨tr,tf,Uf,T',h1,h2,h3,h4⟩:=jiw (ops:=ops) l (j+1) r hr1 hw1;refine⟨(tmps,v0)::tr,tf,Uf,T',by simp only[jf2,Region.wanted,Kl,hal,Ku,Kn,hop,h1],h2,h3,λi o t v hi ht c hcl hall => ?_⟩;cases i with
   | zero =>
    simp only[Q9,Ki,Qg]at hi ht;subst hi;obtain⟨rfl,rfl⟩:=ht;have hal:jbl op=false:=hal;refine⟨rfl,?_,λ_ => ?_⟩
    ·intro hf;have hf:jbl op=true:=hf;rw[hal]at hf;cases hf
    have:=hc c hcl hall;rw[jeU E h]at this;exact this
   |succ i =>
    simp only[Q7]at hi ht;have:=h4 i o t v hi ht c hcl (by rw[hjk];exact hall);rw[hjk]at this;exact this
 |⟨_,_,_,_,_,some _⟩::_,j,r,T,tmps,U,k,h,hw=>hw.elim
theorem jvj {fn:FuncId}{rnd:Option Nat}{id:Nat}{ops:Array Oper}{T:Tm}{D:List DE}{U:S}{Q:Post}(St:Nat->S){L:List AObj}{masks:List Nat}(hnp:jcJ E ops (jat [] ops.toList)=false)
  (hs:jti ops (jat [] ops.toList)=true) (hL:preL E ops.toList=some L) (hm:jat [] ops.toList=masks) (h0:St 0=⟨U.heap++List.replicate L.length .resv,U.toks⟩)
  (h:wpG E n (E.mutb fn id) masks U.heap.length ops.size St ops.toList 0 0 T ⟨U.heap++L,U.toks⟩ λT U'=>(∀c,(∀i,i<ops.size->c.testBit i=true)->St c=U')/\Q.norm T D U'):wpX E fn rnd n (.region id ops true) T D U Q:=λtmps hr=>by
 subst hm;obtain⟨tr,tf,Uf,T',h1,h2,⟨h3,h4⟩,h5⟩:=jiw E n (ops:=ops) ops.toList 0 0 hr h
 have hsets:jog E (ev E) (E.mutb fn id) ops (jat [] ops.toList) L.length U Uf tr St:=by
  refine⟨h0,λc hc _=>h3 c hc,λi o t v ho ht c hcl hall => ?_⟩;have:=h5 i o t v (by simpa using ho) ht c hcl (by rw[Jk];exact hall);rw[Jk]at this;rw[Kg this.1];exact this.2
 have hx:jgw E (ev E) (E.mutb fn id) ops tmps U=some (tf,Uf):=by
  unfold jgw;simp only[hs,Kl,hL,h1];rw[Kg ⟨St,hsets⟩]
 refine⟨⟨.normal,tf,D,Uf⟩,?_,T',h2,h4⟩;simp only[ja6,hnp,Ku,Kn,hx,K9]
end
section
variable {E:Env}{fn:FuncId}{rnd:Option Nat}{n:Nat}{Q:Post}{ks:List Kt}{T:Tm}{D:List DE}{U:S}{m:Bool}
def GZ(E:Env)(fn:FuncId)(rnd:Option Nat)(n:Nat)(Q:Post)(ks:List Kt)(m:Bool)(masks:List Nat)(N sz:Nat)(St:Nat->S)(l:List Oper)(j r:Nat)(T:Tm)(D:List DE)(U:S):Prop :=
 wpG E n m masks N sz St l j r T U λT U=>(∀c,(∀i,i<sz->c.testBit i=true)->St c=U)/\(Kt.post E fn rnd n Q ks).norm T D U
theorem jwC {id:Nat}{l:List Oper}(hs:E.stab fn id=true)(St:Nat->S){L:List AObj}{masks:List Nat}(hnp:jcJ E l.toArray (jat [] l)=false)(hso:jti l.toArray (jat [] l)=true)
  (hL:preL E l=some L) (hm:jat [] l=masks) (h0:St 0=⟨U.heap++List.replicate L.length .resv,U.toks⟩) (h:GZ E fn rnd n Q ks (E.mutb fn id) masks U.heap.length l.length St l 0 0 T D ⟨U.heap++L,U.toks⟩) :
  G E fn rnd n Q ks (.region id l.toArray true) T D U:=by
 unfold G wpC;simp only[hs];exact jvj E n St hnp hso hL hm h0 h
def GZS(E:Env)(fn:FuncId)(rnd:Option Nat)(n:Nat)(Q:Post)(ks:List Kt)(m:Bool)(masks:List Nat)(N sz:Nat)(St:Nat->S)(l:List Oper)(j r:Nat)(T:Tm)(D:List DE)(d:Option Nat)(op:Op)(o:Option (V × S)):Prop :=
 V1 o λp=>(∀c,c<2^sz->jcZ masks j c->opT E m T (St c) op=some (p.1,St (c |||2^j))) /\
  (match d with
   |none=>GZ E fn rnd n Q ks m masks N sz St l (j+1) r T D p.2
   |some d=>d<n/\GZ E fn rnd n Q ks m masks N sz St l (j+1) r (upd T d p.1) D p.2)
theorem juF(masks:List Nat)(N sz:Nat)(St:Nat->S)(j r:Nat):GZ E fn rnd n Q ks m masks N sz St [] j r T D U=((∀c,(∀i,i<sz->c.testBit i=true)->St c=U)/\G E fn rnd n Q ks .skip T D U):=rfl
theorem joy(masks:List Nat)(N sz:Nat)(St:Nat->S)(l:List Oper)(j r:Nat)(d:Nat)(ty t:TypeId)(p:String)(a:Array Edge):GZ E fn rnd n Q ks m masks N sz St (⟨some d,.alloc ty,t,p,a,none⟩::l) j r T D U =
  ((∀c,c<2^sz->jcZ masks j c->∃ty' z,Op.alloc ty=.alloc ty'/\jba E ty'=some z/\(St c).heap[N+r]? = some .resv/\St (c |||2^j)=(St c).set (N+r) (.cells z.cells ty'))/\d<n/\GZ E fn rnd n Q ks m masks N sz St l (j+1) (r+1) (upd T d (.ptr (N+r) 0)) D U):=rfl
theorem jwD(masks:List Nat)(N sz:Nat)(St:Nat->S)(l:List Oper)(j r:Nat)(d:Option Nat)(op:Op)(t:TypeId)(p:String)(a:Array Edge)(ho:jbl op=false):GZ E fn rnd n Q ks m masks N sz St (⟨d,op,t,p,a,none⟩::l) j r T D U =
  GZS E fn rnd n Q ks m masks N sz St l j r T D d op (opT E m T U op):=by
 unfold GZ GZS;simp only[wpG,ho];rfl
theorem joz(masks:List Nat)(N sz:Nat)(St:Nat->S)(l:List Oper)(j r:Nat)(d:Nat)(op:Op)(v:V)(U':S):GZS E fn rnd n Q ks m masks N sz St l j r T D (some d) op (some (v,U'))=((∀c,c<2^sz->jcZ masks j c->opT E m T (St c) op=some (v,St (c |||2^j)))/\d<n/\GZ E fn rnd n Q ks m masks N sz St l (j+1) r (upd T d v) D U'):=by
 simp only[GZS,Yy]
theorem joA(masks:List Nat)(N sz:Nat)(St:Nat->S)(l:List Oper)(j r:Nat)(op:Op)(v:V)(U':S):GZS E fn rnd n Q ks m masks N sz St l j r T D none op (some (v,U'))=((∀c,c<2^sz->jcZ masks j c->opT E m T (St c) op=some (v,St (c |||2^j)))/\GZ E fn rnd n Q ks m masks N sz St l (j+1) r T D U'):=by
 simp only[GZS,Yy]
theorem jrp(masks:List Nat)(N sz:Nat)(St:Nat->S)(l:List Oper)(j r:Nat)(d:Option Nat)(op:Op)(c:Prop)[Decidable c](o:Option (V × S)):GZS E fn rnd n Q ks m masks N sz St l j r T D d op (if c then o else none)=(c/\GZS E fn rnd n Q ks m masks N sz St l j r T D d op o):=by simp only[GZS,jjJ]
theorem joB(masks:List Nat)(N sz:Nat)(St:Nat->S)(l:List Oper)(j r:Nat)(d:Option Nat)(op:Op)(c:Prop)[Decidable c](o:Option (V × S)):GZS E fn rnd n Q ks m masks N sz St l j r T D d op (if c then none else o)=(¬c/\GZS E fn rnd n Q ks m masks N sz St l j r T D d op o):=by simp only[GZS,jg7]
theorem jjj(c i j:Nat):(c |||2^j).testBit i=(c.testBit i ||decide (j=i)):=by rw[Nat.testBit_or,Nat.testBit_two_pow]
end
open Go
section
variable (E:Env)
def wpM(mutb:Bool)(n:Nat)(K:S->Prop)(M:Nat):List Oper->Nat->Tm->S->(Tm->S->Prop)->Prop
 | [],_,T,U,k=>k T U
 | ⟨dst,op,_,_,_,none⟩::l,m,T,U,k=>V1 (opT E mutb T U op) λp=>(scOp E op=true->m+1<M->K p.2)/\(jaP op=true->∀U',K U'->jbh E (jaN E T) U' op=some p.1) /\
  (match dst with
   |none=>wpM mutb n K M l (if scOp E op then m+1 else m) T p.2 k
   |some d=>d<n/\wpM mutb n K M l (if scOp E op then m+1 else m) (upd T d p.1) p.2 k)
 |⟨_,_,_,_,_,some _⟩::_,_,_,_,_=>False
theorem jlO {mutb:Bool}{n:Nat}{ops:Array Oper}{K:S->Prop}{M:Nat}:∀(l:List Oper) (m:Nat) {T:Tm} {tmps:List V} {U:S} {k:Tm->S->Prop},Rep n T tmps->wpM E mutb n K M l m T U k ->
  ∃(tr:List (List V × V)) (ss:List S) (tf:List V) (Uf:S) (T':Tm),dRun E (ev E) mutb ops l tmps U=some (tr,ss,tf,Uf)/\Rep n T' tf/\k T' Uf/\(∀i s,ss[i]? = some s->m+i+1<M->K s) /\
   ∀(j:Nat) (o:Oper),l[j]? = some o->∃(t:List V) (v:V) (U0 U1:S),tr[j]? = some (t,v)/\opV E (ev E) mutb t U0 o.op=some (v,U1)/\(jaP o.op=true->∀U',K U'->jbh E (jbv E t) U' o.op=some v)
 | [],m,T,tmps,U,k,h,hw=>⟨[],[],tmps,U,T,rfl,h,hw,λi s hs=>by simp at hs,λj o hj=>by simp at hj⟩
 | ⟨dst,op,t,p,a,none⟩::l,m,T,tmps,U,k,h,hw=>by
  simp only[wpM]at hw;obtain⟨⟨v,U1⟩,hop,hK,hR,hw⟩:=hw;rw[jeU E h]at hop;simp only at hK hR hw
  have hput:∃T1,Rep n T1 (putT tmps dst v)/\wpM E mutb n K M l (if scOp E op then m+1 else m) T1 U1 k:=by
   cases dst with
   |none=>exact⟨T,h,hw⟩
   |some d=>exact⟨_,h.upd hw.1 v,hw.2⟩
  obtain⟨T1,hr1,hw1⟩:=hput;obtain⟨tr,ss,tf,Uf,T',h1,h2,h3,h4,h5⟩:=jlO l _ hr1 hw1;refine⟨(tmps,v)::tr,if scOp E op then U1::ss else ss,tf,Uf,T',by rw[jlE E hop,h1],h2,h3,?_,?_⟩
  ·intro i s hs hM;by_cases hsc:scOp E op=true
   ·simp only[hsc,Kl]at hs h4;cases i with
    |zero =>
     simp only[Q9,Ki]at hs;subst hs;exact hK hsc aa
    |succ i =>
     simp only[Q7]at hs;exact h4 i s hs aa
   ·simp only[hsc,Ku,Kn]at hs h4;exact h4 i s hs hM
  ·intro j o hj;cases j with
   |zero =>
    simp only[Q9,Ki]at hj;subst hj;exact⟨tmps,v,U,U1,rfl,hop,λhrd U' hU'=>by rw[h.eval];exact hR hrd U' hU'⟩
   |succ j =>
    simp only[Q7]at hj ⊢;exact h5 j o hj
 |⟨_,_,_,_,_,some _⟩::_,m,T,tmps,U,k,h,hw=>hw.elim
def jrq(ops:Array Oper)(masks:List Nat)(M:Nat):Bool :=
 (List.range ops.size).all λj=>match ops[j]? with
  |some o=>scOp E o.op || !jaP o.op ||(List.range (ops.size+1)).all λm=>decide (m<M) || !jfd E ops masks j m
  |none=>true
theorem joC {rec:Task->Option Res}{mutb:Bool}{ops:Array Oper}:∀(l:List Oper) {tmps:List V} {U:S} {tr:List (List V × V)} {ss:List S} {tf:List V} {Uf:S},dRun E rec mutb ops l tmps U=some (tr,ss,tf,Uf)->ss.length<=l.length
 | [],tmps,U,tr,ss,tf,Uf,h=>by simp only[dRun,Ki,Qg]at h;rw[<- h.2.1];exact Kw _
 | o::l,tmps,U,tr,ss,tf,Uf,h=>by
  simp only[dRun]at h;split at h
  ·split at h
   ·rename_i h2;have:=joC l h2;simp only[Ki,Qg]at h;rw[<- h.2.1];split<;>simp<;>omega
   ·simp at h
  ·simp at h
theorem jpF {fn:FuncId}{rnd:Option Nat}{id:Nat}{ops:Array Oper}{K:S->Prop}{M:Nat}{n:Nat}{T:Tm}{tmps:List V}{dfs:List DE}{U:S}{k:Tm->S->Prop}(hp:jcJ E ops (jat [] ops.toList)=true)(hM:jrq E ops (jat [] ops.toList) M=true)(hK:0<M->K U)
  (hr:Rep n T tmps) (hw:wpM E (E.mutb fn id) n K M ops.toList 0 T U k) :
  ∃tf Uf T',ja6 E (ev E) fn rnd (.region id ops true) tmps dfs U=some ⟨.normal,tf,dfs,Uf⟩/\Rep n T' tf/\k T' Uf:=by
 obtain⟨tr,ss,tf,Uf,T',h1,h2,h3,h4,h5⟩:=jlO E (ops:=ops) ops.toList 0 hr hw;refine⟨tf,Uf,T',?_,h2,h3⟩;have hsl:=joC E _ h1
 have hc:jeq E ops (jat [] ops.toList) tr (U::ss)=true:=by
  unfold jeq;rw[Qq];intro j hj0;have hj:j<ops.size:=by simpa using hj0
  have hoj:ops[j]? = some ops[j]:=J6 hj;have hoj2:ops.toList[j]? = some ops[j]:=by rw[Xl];exact hoj
  obtain⟨t,v,U0,U1,ht,hop,hrd⟩:=h5 j ops[j] hoj2;simp only[hoj,ht];by_cases hs:scOp E ops[j].op=true
  ·simp[hs]
  by_cases hpc:jby E ops[j].op=true
  ·simp[hpc]
  by_cases ha:(jbK E (jbv E t) ops[j].op).isSome=true
  ·simp[ha]
  have ha':jbK E (jbv E t) ops[j].op=none:=by simpa using ha
  have hread:=jgC (by simpa using hs) (by simpa using hpc) ha' hop
  have hreads:jaP ops[j].op=true:=by
   cases hx:jaP ops[j].op with
   |true=>rfl
   |false=>rw[jex hx]at hread;simp at hread
  rw[Xe];right;rw[Qq];intro m hm;have hm:m<(U::ss).length:=by simpa using hm
  have hm2:m<ops.size+1:=by simp at hm hsl;omega
  rw[Kz hm];cases hal:jfd E ops (jat [] ops.toList) j m with
  |false=>rfl
  | true =>
   have hlt:m<M:=by
    unfold jrq at hM;rw[Qq]at hM;have h6:=hM j hj0;simp only[hoj,hs,hreads,Q8,Xq,Qq]at h6;have h7:=h6 m (by simpa using hm2);rw[hal]at h7;simpa using h7
   have hKm:K (U::ss)[m]:=by
    cases m with
    |zero=>exact hK aa
    |succ m =>
     simp only[Xb];have hms:m<ss.length:=by simp at hm;omega
     exact h4 m _ (Kz hms) aa
   simp only[hrd hreads _ hKm,V.beq_refl,Xj]
 simp only[ja6,hp,Kl,h1,hc]
variable (fn:FuncId)(rnd:Option Nat)(n:Nat)(Q:Post)(ks:List Kt)
def GM(m:Bool)(K:S->Prop)(M:Nat)(l:List Oper)(c:Nat)(T:Tm)(D:List DE)(U:S):Prop :=
 wpM E m n K M l c T U λT U=>(Kt.post E fn rnd n Q ks).norm T D U
end
section
variable {E:Env}{fn:FuncId}{rnd:Option Nat}{n:Nat}{Q:Post}{ks:List Kt}{m:Bool}{T:Tm}{D:List DE}{U:S}
theorem jrr {id:Nat}{l:List Oper}(hs:E.stab fn id=true)(K:S->Prop)(M:Nat)(hK:0<M->K U)(hp:jcJ E l.toArray (jat [] l)=true)(hM:jrq E l.toArray (jat [] l) M=true)(h:GM E fn rnd n Q ks (E.mutb fn id) K M l 0 T D U) :
  G E fn rnd n Q ks (.region id l.toArray true) T D U:=by
 unfold G wpC;simp only[hs];intro tmps hr;obtain⟨tf,Uf,T',h1,h2,h3⟩:=jpF E (rnd:=rnd) (dfs:=D) hp hM hK hr h;exact⟨_,h1,T',h2,h3⟩
theorem jrs(K:S->Prop)(M c:Nat):GM E fn rnd n Q ks m K M [] c T D U=G E fn rnd n Q ks .skip T D U:=rfl
def GMS(E:Env)(fn:FuncId)(rnd:Option Nat)(n:Nat)(Q:Post)(ks:List Kt)(m:Bool)(K:S->Prop)(M:Nat)(l:List Oper)(c:Nat)(T:Tm)(D:List DE)(d:Option Nat)(op:Op)(o:Option (V × S)):Prop :=
 V1 o λp=>(scOp E op=true->c+1<M->K p.2)/\(jaP op=true->∀U',K U'->jbh E (jaN E T) U' op=some p.1) /\
  (match d with
   |none=>GM E fn rnd n Q ks m K M l (if scOp E op then c+1 else c) T D p.2
   |some d=>d<n/\GM E fn rnd n Q ks m K M l (if scOp E op then c+1 else c) (upd T d p.1) D p.2)
theorem jvk(K:S->Prop)(M:Nat)(l:List Oper)(c:Nat)(d:Option Nat)(op:Op)(t:TypeId)(p:String)(a:Array Edge):GM E fn rnd n Q ks m K M (⟨d,op,t,p,a,none⟩::l) c T D U=GMS E fn rnd n Q ks m K M l c T D d op (opT E m T U op):=rfl
theorem jkG(K:S->Prop)(M:Nat)(l:List Oper)(c d:Nat)(op:Op)(v:V)(U':S):GMS E fn rnd n Q ks m K M l c T D (some d) op (some (v,U'))=((scOp E op=true->c+1<M->K U')/\(jaP op=true->∀s,K s->jbh E (jaN E T) s op=some v)/\d<n/\GM E fn rnd n Q ks m K M l (if scOp E op then c+1 else c) (upd T d v) D U'):=by
 unfold GMS V1;simp
theorem jkH(K:S->Prop)(M:Nat)(l:List Oper)(c:Nat)(op:Op)(v:V)(U':S):GMS E fn rnd n Q ks m K M l c T D none op (some (v,U'))=((scOp E op=true->c+1<M->K U')/\(jaP op=true->∀s,K s->jbh E (jaN E T) s op=some v)/\GM E fn rnd n Q ks m K M l (if scOp E op then c+1 else c) T D U'):=by
 unfold GMS V1;simp
theorem jnj(K:S->Prop)(M:Nat)(l:List Oper)(c:Nat)(d:Option Nat)(op:Op)(x:Prop)[Decidable x](o:Option (V × S)):GMS E fn rnd n Q ks m K M l c T D d op (if x then o else none)=(x/\GMS E fn rnd n Q ks m K M l c T D d op o):=by
 by_cases h:x<;>simp[h,GMS,V1]
theorem jkI(K:S->Prop)(M:Nat)(l:List Oper)(c:Nat)(d:Option Nat)(op:Op)(x:Prop)[Decidable x](o:Option (V × S)):GMS E fn rnd n Q ks m K M l c T D d op (if x then none else o)=(¬x/\GMS E fn rnd n Q ks m K M l c T D d op o):=by
 by_cases h:x<;>simp[h,GMS,V1]
end
structure Elt (E:Env) (t e:TypeId) (w nb:Nat):Prop where
 elem:jf1 E t=some e
 size:sz E e=some w
 bytes:bys E e=some nb
 zeros:jhG E e=some w
 slice:E.P.underlying t=some (.slice e)
inductive GrowV (base:Nat) (ts:List Nat) (w:Nat):V->Nat->List V->Prop where
 |nil:GrowV base ts w .nilsl 0 []
 |full (cs:List V) (n:Nat) (hl:cs.length=n*w):GrowV base ts w (.row cs n .full) n cs
 |tok (cs:List V) (n k e:Nat) (hl:cs.length=n*w) (hb:base<=k) (ht:ts[k]? = some e):GrowV base ts w (.row cs n (.tok k e w)) n cs
def Ext(base:Nat)(ts ts':List Nat):Prop:=ts.length<=ts'.length/\∀k,k<base->ts'[k]? = ts[k]?
theorem Ext.rfl'(base:Nat)(ts:List Nat):Ext base ts ts:=⟨Kw _,λ_ _=>rfl⟩
theorem Ext.trans {b:Nat}{ts t2 t3:List Nat}(h:Ext b ts t2)(g:Ext b t2 t3):Ext b ts t3:=⟨Jp h.1 g.1,λk hk=>by rw[g.2 k hk,h.2 k hk]⟩
theorem Ext.mono {b c:Nat}{ts ts':List Nat}(h:Ext c ts ts')(hb:b<=c):Ext b ts ts':=⟨h.1,λk hk=>h.2 k aa⟩
theorem GrowV.ext {base w n:Nat}{ts ts':List Nat}{v:V}{cs:List V}(g:GrowV base ts w v n cs)(h:Ext ts.length ts ts'):GrowV base ts' w v n cs:=by
 cases g with
 |nil=>exact .nil
 |full _ _ hl=>exact .full _ _ hl
 |tok _ _ k e hl hb ht =>
  refine .tok _ _ k e hl hb ?_;rw[h.2 k (K4.1 ht).1];exact ht
theorem GrowV.weakbase {base b2 w n:Nat}{ts:List Nat}{v:V}{cs:List V}(g:GrowV base ts w v n cs)(h:b2<=base):GrowV b2 ts w v n cs:=by
 cases g with
 |nil=>exact .nil
 |full _ _ hl=>exact .full _ _ hl
 |tok _ _ k e hl hb ht=>exact .tok _ _ k e hl (Jp h hb) ht
theorem GrowV.cells {base w n:Nat}{ts:List Nat}{v:V}{cs:List V}(g:GrowV base ts w v n cs):v.cells=[v]/\v.isCell=true:=by cases g<;>exact⟨rfl,rfl⟩
theorem GrowV.lens {base w n:Nat}{ts:List Nat}{v:V}{cs:List V}(g:GrowV base ts w v n cs):cs.length=n*w:=by cases g<;>simp_all
theorem GrowV.len {base w n:Nat}{ts:List Nat}{v:V}{cs:List V}(g:GrowV base ts w v n cs)(e:TypeId):jbb (some (.slice e)) v=some (.int .i64 n):=by cases g<;>rfl
theorem GrowV.vlen {base w n:Nat}{ts:List Nat}{v:V}{cs:List V}(g:GrowV base ts w v n cs):vLen v=some n:=by cases g<;>rfl
theorem GrowV.vcells {base w n:Nat}{ts:List Nat}{v:V}{cs:List V}(g:GrowV base ts w v n cs)(h:List AObj):jaV h w n v=some cs:=by
 cases g with
 |nil=>rfl
 |full _ _ hl=>simp only[jaV];rw[Kg aa,Qu aa]
 |tok _ _ k e hl hb ht=>simp only[jaV];rw[Kg aa,Qu aa]
theorem GrowV.isrow {base w n:Nat}{ts:List Nat}{v:V}{cs:List V}(g:GrowV base ts w v n cs)(h:0<n):∃q,v=.row cs n q:=by
 cases g with
 |nil=>omega
 |full _ _ hl=>exact⟨_,rfl⟩
 |tok _ _ k e hl hb ht=>exact⟨_,rfl⟩
theorem GrowV.append {E:Env}{t e t2:TypeId}{base w nb n m:Nat}(he:Elt E t e w nb)(hu:∃e2,E.P.underlying t2=some (.slice e2)){hp:List AObj}{ts:List Nat}{v y:V}{cs new:List V}(g:GrowV base ts w v n cs)(hb:base<=ts.length)(hy:vLen y=some m)(hc:jaV hp w m y=some new)(hnl:new.length=m*w)(hcell:new.all V.isCell=true)
  (hlim:(n+m)*nb<=lim/\n+m<=lim):∃v' ts',appO E false ⟨hp,ts⟩ t t2 v y=some (v',⟨hp,ts'⟩)/\GrowV base ts' w v' (n+m) (cs++new)/\Ext base ts ts':=by
 obtain⟨e2,hu⟩:=hu;unfold appO;simp only[he.elem,he.size,he.bytes,he.zeros,hu,hy,hc,Kq,Kl];by_cases hm:m=0
 ·subst hm;have hn0:new=[]:=Q6 (by simpa using hnl);subst hn0;rw[Jb,Vo];refine⟨v,ts,?_,g,.rfl' _ _⟩;cases g<;>simp[jbk]
 have hl:(cs++new).length=(n+m)*w:=by rw[Kk,g.lens,hnl,Jz]
 cases g with
 | nil =>
  refine⟨.row new m (.tok ts.length 0 w),ts++[0],?_,?_,⟨ae,λk hk=>by rw[Kj aa]⟩⟩
  ·have h1:m*nb<=lim/\m<=lim:=by simpa using hlim
   simp[jbk,hm,h1]
  ·rw[Jk,Ja];exact .tok _ _ ts.length 0 hnl hb ae
 |full _ _ hl0 =>
  refine⟨.row (cs++new) (n+m) (.tok ts.length 0 w),ts++[0],?_,.tok _ _ ts.length 0 hl hb ae,⟨ae,λk hk=>by rw[Kj aa]⟩⟩;simp only[jbk];rw[Ke hm,Kg ⟨hlim.1,hlim.2,hl0,hcell⟩];simp
 |tok _ _ k e hl0 hbk ht =>
  have hkl:=(K4.1 ht).1;refine⟨.row (cs++new) (n+m) (.tok k (e+1) w),ts.set k (e+1),?_,.tok _ _ k (e+1) hl hbk (by simp[hkl]),⟨ae,λq hq=>by rw[Kh aa]⟩⟩;simp only[jbk];rw[Ke hm,Kg ⟨hlim.1,hlim.2,hl0,hcell⟩,Kg ⟨ht,trivial⟩]
theorem GrowV.push {E:Env}{t e t2:TypeId}{base w nb n:Nat}(he:Elt E t e w nb)(hu:∃e2,E.P.underlying t2=some (.slice e2)){hp:List AObj}{ts:List Nat}{v:V}{cs new:List V}{q:RCap}(g:GrowV base ts w v n cs)(hb:base<=ts.length)(hnl:new.length=w)(hcell:new.all V.isCell=true)
  (hlim:(n+1)*nb<=lim/\n+1<=lim):∃v' ts',appO E false ⟨hp,ts⟩ t t2 v (.row new 1 q)=some (v',⟨hp,ts'⟩)/\GrowV base ts' w v' (n+1) (cs++new)/\Ext base ts ts' :=
 GrowV.append he hu g hb rfl (by simp only[jaV];rw[Kg aa,Qu aa]) (by simpa using hnl) hcell hlim
theorem Wa:type_of% (Kd @Za (Kd @Zb (Kd @Zc (Kd @Zd (Kd @Ze (Kd @Zf (Kd @Zg (Kd @Zh (Kd @Zi (Kd @Zj (Kd @Zk (@Zl)))))))))))):=Kd @Za (Kd @Zb (Kd @Zc (Kd @Zd (Kd @Ze (Kd @Zf (Kd @Zg (Kd @Zh (Kd @Zi (Kd @Zj (Kd @Zk (@Zl)))))))))))
theorem Wb:type_of% (Kd @Zm (Kd @Zn (Kd @Zq (Kd @Zr (Kd @Zs (Kd @Zt (Kd @Zu (Kd @Zv (Kd @Zw (Kd @Zx (Kd @Zy (@Zz)))))))))))):=Kd @Zm (Kd @Zn (Kd @Zq (Kd @Zr (Kd @Zs (Kd @Zt (Kd @Zu (Kd @Zv (Kd @Zw (Kd @Zx (Kd @Zy (@Zz)))))))))))
theorem Wc:type_of% (Kd @ZA (Kd @ZB (Kd @ZC (Kd @ZD (Kd @ZE (Kd @ZF (Kd @ZG (Kd @ZH (Kd @ZI (Kd @ZJ (Kd @ZK (@ZL)))))))))))):=Kd @ZA (Kd @ZB (Kd @ZC (Kd @ZD (Kd @ZE (Kd @ZF (Kd @ZG (Kd @ZH (Kd @ZI (Kd @ZJ (Kd @ZK (@ZL)))))))))))
theorem Wd:type_of% (Kd @ZM (Kd @ZN (Kd @ZO (Kd @ZP (Kd @ZQ (Kd @ZR (Kd @ZS (Kd @ZT (Kd @ZU (Kd @ZV (Kd @ZW (@ZX)))))))))))):=Kd @ZM (Kd @ZN (Kd @ZO (Kd @ZP (Kd @ZQ (Kd @ZR (Kd @ZS (Kd @ZT (Kd @ZU (Kd @ZV (Kd @ZW (@ZX)))))))))))
theorem We:type_of% (Kd @ZY (Kd @ZZ (Kd @Z0 (Kd @Z1 (Kd @Z2 (Kd @Z3 (Kd @Z4 (Kd @Z5 (Kd @Z6 (Kd @Z7 (Kd @true_and (@Z8)))))))))))):=Kd @ZY (Kd @ZZ (Kd @Z0 (Kd @Z1 (Kd @Z2 (Kd @Z3 (Kd @Z4 (Kd @Z5 (Kd @Z6 (Kd @Z7 (Kd @true_and (@Z8)))))))))))
theorem Wf:type_of% (Kd @Z9 (Kd @jou (Kd @Ya (Kd @jlH (Kd @Yb (Kd @Yc (Kd @Yd (Kd @Ye (Kd @Yf (Kd @Yg (Kd @Yh (@Yi)))))))))))):=Kd @Z9 (Kd @jou (Kd @Ya (Kd @jlH (Kd @Yb (Kd @Yc (Kd @Yd (Kd @Ye (Kd @Yf (Kd @Yg (Kd @Yh (@Yi)))))))))))
theorem Wg:type_of% (Kd @Yj (Kd @Yk (Kd @Yl (Kd @Ym (Kd @Yn (Kd @Yo (Kd @Yp (Kd @Yq (Kd @Yr (Kd @Yt (Kd @Yu (@Yv)))))))))))):=Kd @Yj (Kd @Yk (Kd @Yl (Kd @Ym (Kd @Yn (Kd @Yo (Kd @Yp (Kd @Yq (Kd @Yr (Kd @Yt (Kd @Yu (@Yv)))))))))))
theorem Wh:type_of% (Kd @Yw (Kd @V6.{0} (Kd @X7.{0} (Kd @Xm.{0} (Kd @Q9.{0} (Kd @Q7.{0} (Kd @Ja.{0} (Kd @Jn.{0} (Kd @Jb.{0} (Kd @Yx (Kd @Yy (@Xc)))))))))))):=Kd @Yw (Kd @V6.{0} (Kd @X7.{0} (Kd @Xm.{0} (Kd @Q9.{0} (Kd @Q7.{0} (Kd @Ja.{0} (Kd @Jn.{0} (Kd @Jb.{0} (Kd @Yx (Kd @Yy (@Xc)))))))))))
theorem Wi:type_of% (Kd @Yz (Kd @YA (Kd @YB (Kd @YC (Kd @YD (Kd @YE (Kd @YF (Kd @YG (Kd @YH (Kd @YI (Kd @YJ (@YK)))))))))))):=Kd @Yz (Kd @YA (Kd @YB (Kd @YC (Kd @YD (Kd @YE (Kd @YF (Kd @YG (Kd @YH (Kd @YI (Kd @YJ (@YK)))))))))))
theorem Wj:type_of% (Kd @YL (Kd @YM (Kd @YN (Kd @YO (Kd @List.append_eq.{0} (Kd @YP (Kd @YQ (Kd @YR (Kd @YS (Kd @YT (Kd @YU (@YV)))))))))))):=Kd @YL (Kd @YM (Kd @YN (Kd @YO (Kd @List.append_eq.{0} (Kd @YP (Kd @YQ (Kd @YR (Kd @YS (Kd @YT (Kd @YU (@YV)))))))))))
theorem Wk:type_of% (Kd @YW (Kd @YX (Kd @Vo (Kd @YY (Kd @YZ (Kd @Y1 (Kd @Y2 (Kd @Y3 (Kd @Qj (Kd @Ku (Kd @Je (@and_self)))))))))))):=Kd @YW (Kd @YX (Kd @Vo (Kd @YY (Kd @YZ (Kd @Y1 (Kd @Y2 (Kd @Y3 (Kd @Qj (Kd @Ku (Kd @Je (@and_self)))))))))))
theorem Wl:type_of% (Kd @Y4 (Kd @Y5 (Kd @Xk (Kd @Int.cast_ofNat_Int (Kd @not_true_eq_false (Kd @decide_true (Kd @decide_false (Kd @true_implies (Kd @false_implies (Kd @Int.toNat_zero (Kd @Qh.{0} (@Qr.{0})))))))))))):=Kd @Y4 (Kd @Y5 (Kd @Xk (Kd @Int.cast_ofNat_Int (Kd @not_true_eq_false (Kd @decide_true (Kd @decide_false (Kd @true_implies (Kd @false_implies (Kd @Int.toNat_zero (Kd @Qh.{0} (@Qr.{0})))))))))))
theorem Wm:type_of% (Kd @Jk (Kd @Bool.false_and (Kd @Uh (Kd @Y6 (Kd @Y7 (Kd @Y8 (Kd @Y9 (Kd @Qa (Kd @Qb (Kd @Qc (Kd @Xr (@Xq)))))))))))):=Kd @Jk (Kd @Bool.false_and (Kd @Uh (Kd @Y6 (Kd @Y7 (Kd @Y8 (Kd @Y9 (Kd @Qa (Kd @Qb (Kd @Qc (Kd @Xr (@Xq)))))))))))
theorem Wn:type_of% (Kd @Xh (Kd @Xj (Kd @Ui (Kd @Qd (@Qe))))):=Kd @Xh (Kd @Xj (Kd @Ui (Kd @Qd (@Qe))))
theorem Kb : type_of% (Kd @Wa (Kd @Wb (Kd @Wc (Kd @Wd (Kd @We (Kd @Wf (Kd @Wg (Kd @Wh (Kd @Wi (Kd @Wj (Kd @Wk (Kd @Wl (Kd @Wm (@Wn)))))))))))))) := Kd @Wa (Kd @Wb (Kd @Wc (Kd @Wd (Kd @We (Kd @Wf (Kd @Wg (Kd @Wh (Kd @Wi (Kd @Wj (Kd @Wk (Kd @Wl (Kd @Wm (@Wn)))))))))))))
theorem Ka : type_of% (Kd @Wa (Kd @Wb (Kd @Wc (Kd @Wd (Kd @We (Kd @Wf (Kd @Wg (Kd @Wh (Kd @Wi (Kd @Wj (Kd @Wk (Kd @Wl (Kd @Wm (Kd @Wn (Kd @Zo (@Zp)))))))))))))))) := Kd @Wa (Kd @Wb (Kd @Wc (Kd @Wd (Kd @We (Kd @Wf (Kd @Wg (Kd @Wh (Kd @Wi (Kd @Wj (Kd @Wk (Kd @Wl (Kd @Wm (Kd @Wn (Kd @Zo (@Zp)))))))))))))))
theorem Va:type_of% (Kd @Jj.{0} (Kd @Jx.{0} (Kd @Qz.{0} (Kd @K5.{0} (Kd @Xa.{0} (Kd @Ks.{0} (Kd @Qn.{0} (Kd @Xd.{0} (Kd @List.set_cons_succ.{0} (Kd @jlM (@jjQ))))))))))):=Kd @Jj.{0} (Kd @Jx.{0} (Kd @Qz.{0} (Kd @K5.{0} (Kd @Xa.{0} (Kd @Ks.{0} (Kd @Qn.{0} (Kd @Xd.{0} (Kd @List.set_cons_succ.{0} (Kd @jlM (@jjQ))))))))))
theorem Vq:(∀(E:Env) (T:Tm) (t:Tmp),jaN E T (.tmp t)=some (T t))/\(∀(E:Env) (T:Tm) (v:Value),jaN E T (.const v)=jgv v)/\(∀(E:Env) (T:Tm) g,jaN E T (.global g)=E.gl g)/\(∀(E:Env) (T:Tm) f,jaN E T (.func f)=some (.func f [] []))/\(∀b,jgv (.bool b)=some (.bool b))/\(∀k n,jgv (.int k n)=some (.int k n))/\(∀s,jgv (.string s)=some (.str s.data.toList))/\jgv (.pointer none)=some .nilptr/\jgv (.slice none 0 0)=some .nilsl/\jgv .nilFunc=some .nilfn/\jgv .nilIface=some .nilif/\jgv (.map none)=some .nilmap/\(∀l t,argT l t=l.getD t (.tup []))/\(∀(E:Env) T h,resT E T h []=some [])/\(∀(E:Env) T h t r,resT E T h (.tmp t::r)=(resT E T h r).map (T t :: ·))/\(∀(E:Env) T h a t r,resT E T h (.cell a t::r)=(jaH E h t (T a)).bind λv=>(resT E T h r).map (v :: ·))/\(∀T,setT T []=T)/\(∀T t v r,setT T ((t,v)::r)=setT (upd T t v) r) :=
 ⟨λ_ _ _=>rfl,λ_ _ _=>rfl,λ_ _ _=>rfl,λ_ _ _=>rfl,λ_=>rfl,λ_ _=>rfl,λ_=>rfl,rfl,rfl,rfl,rfl,rfl,λ_ _=>rfl,λ_ _ _=>rfl,λ_ _ _ _ _=>rfl,λ_ _ _ _ _ _=>rfl,λ_=>rfl,λ_ _ _ _=>rfl⟩
theorem K0:type_of% (And.intro @Vq (@Va)):=And.intro @Vq (@Va)
section
variable {E:Env}{fn:FuncId}{rnd:Option Nat}{n:Nat}{Q:Post}{ks:List Kt}{T:Tm}{D:List DE}{U:S}
end
def insO (E:Env)(t:TypeId)(mv kv xv:V)(U:S):Option (V × S) :=
    match E.P.underlying t,mv with
    | some (.map kt _),.map b =>
      match U.heap[b]? with
      | some (.map es clock) =>
        if jcY E 8 kt kv then
          match jcj E kt kv es 0 with
          |some none=>some (.tup [],U.set b (.map (es++[(kv,xv,clock)]) (clock+1)))
          | some (some j) =>
            match es[j]? with
            |some e=>if jhH 8 e.1 kv then some (.tup [],U.set b (.map (es.set j (kv,xv,e.2.2)) clock))else none
            |none=>none
          |none=>none
        else none
      |_=>none
    |_,_=>none
theorem jpG {E:Env}{m:Bool}{T:Tm}{U:S}(t:TypeId)(a b c:Operand):opT E m T U (.insert t a b c)=(jaN E T a).bind λmv=>(jaN E T b).bind λkv=>(jaN E T c).bind λxv=>insO E t mv kv xv U:=rfl
def newO(E:Env)(t:TypeId)(U:S):Option (V × S) :=
  match E.P.underlying t with
  |some (.map _ _)=>some (.map U.heap.length,U.push (.map [] 0))
  |_=>none
theorem jg9 {E:Env}{m:Bool}{T:Tm}{U:S}(t:TypeId):opT E m T U (.makeMap t none)=newO E t U:=rfl
def jjk(E:Env)(t:TypeId)(ok:Bool)(mv kv:V)(U:S):Option V :=
  match E.P.underlying t,mv with
  | some (.map kt et),.map b =>
   match U.heap[b]? with
   |some (.map es _) =>
    if jcY E 8 kt kv then(jba E et).bind λz=>(jcj E kt kv es 0).map (jqA ok es z)
    else none
   |_=>none
  |_,_=>none
theorem jez {E:Env}{m:Bool}{T:Tm}{U:S}(t:TypeId)(a b:Operand)(ok:Bool):opT E m T U (.lookup t a b ok)=((jaN E T a).bind λmv=>(jaN E T b).bind λkv=>jjk E t ok mv kv U).map λv=>(v,U):=by
 unfold opT;simp only[jbK,jbh]
 change (match ((jaN E T a).bind λmv=>(jaN E T b).bind λkv=>jjk E t ok mv kv U)with|some v=>_|none=>_)=_
 cases((jaN E T a).bind λmv=>(jaN E T b).bind λkv=>jjk E t ok mv kv U)<;>rfl
theorem jpH(E:Env)(T:Tm)(s:S)(t:TypeId)(a b:Operand)(ok:Bool):jbh E (jaN E T) s (.lookup t a b ok)=(jaN E T a).bind λmv=>(jaN E T b).bind λkv=>jjk E t ok mv kv s:=rfl
section
variable {E:Env}{kt:TypeId}(hk:E.P.underlying kt=some .string)
include hk
end
def Chg(C:Nat->Prop)(H H':List AObj):Prop:=H.length<=H'.length/\∀j,j<H.length->¬C j->H'[j]? = H[j]?
theorem Chg.rfl'(C:Nat->Prop)(H:List AObj):Chg C H H:=⟨Kw _,λ_ _ _=>rfl⟩
theorem Chg.trans {C:Nat->Prop}{A B D:List AObj}(h:Chg C A B)(g:Chg C B D):Chg C A D:=⟨Jp h.1 g.1,λj hj hc=>(g.2 j (Vp hj h.1) hc).trans (h.2 j hj hc)⟩
theorem Chg.mono {C D:Nat->Prop}{A B:List AObj}(h:Chg C A B)(hs:∀j,j<A.length->C j->D j):Chg D A B:=⟨h.1,λj hj hd=>h.2 j hj λhc=>hd (hs j hj hc)⟩
theorem Chg.app(C:Nat->Prop)(H l:List AObj):Chg C H (H++l):=⟨ae,λj hj _=>by rw[Kj hj]⟩
theorem Chg.set {C:Nat->Prop}{b:Nat}(hb:C b)(H:List AObj)(o:AObj):Chg C H (H.set b o):=⟨ae,λj _ hc=>by rw[Kh (λe=>hc (by rw[<- e];exact hb))]⟩
section
variable (E:Env)
structure Takes (M l:Nat) (C I:Nat->Prop) (xs:List V) (R:List V->S->Prop):Prop where
 step:∀(pre:List V) (x:V) (post:List V) (U:S),xs=pre++x::post->M<=U.heap.length->R pre U->∃U',jeL E (ev E) (.yld l) [x] U=some (.bool true,U')/\R (pre++[x]) U'/\Chg C U.heap U'.heap
 stay:∀(pre:List V) (U U':S),R pre U->U'.toks=U.toks->M<=U.heap.length->U.heap.length<=U'.heap.length->(∀j,j<M->¬I j->U'.heap[j]? = U.heap[j]?)->R pre U'
structure Seqs (g:V) (D I:Nat->Prop) (P:List AObj->Prop) (xs:List V):Prop where
 sub:∀j,I j->D j
 stay:∀H H':List AObj,P H->(∀j,D j->H'[j]? = H[j]?)->P H'
 call:∃fid first cap,g=.func fid first cap/\∀(M l:Nat) (C:Nat->Prop) (R:List V->S->Prop) (U:S),P U.heap->(∀j,D j->j<M)->(∀j,C j->¬D j/\j<M)->M<=U.heap.length->Takes E M l C I xs R->R [] U ->
  ∃v U',ev E (.call fid (first++[.yld l]++cap) U)=some ⟨.ret,[v],[],U'⟩/\R xs U'/\Chg (λj=>C j\/I j) U.heap U'.heap
end
def okN(F:Go.Func)(n:Nat):Bool:=(F.name != "runtime.NumGoroutine") && decide (n<=F.ntmps)
theorem jrt {F:Go.Func}{n:Nat}(h:okN F n=true):F.name ≠ "runtime.NumGoroutine" := by simp[okN]at h;exact h.1
theorem jru {F:Go.Func}{n:Nat}(h:okN F n=true):n<=F.ntmps:=by simp[okN]at h;exact h.2
theorem jaj {E:Env}{f:FuncId}{args:List V}{v:V}{F:Go.Func}{body:Code}(hc:args.all V.closed=true)(hf:E.P.funcs[f]? = some F)(hb:F.body=some body)(hw:G E f none F.ntmps ⟨wpR E F.results.toList λv' U'=>jaK U'.heap jak v'=some v,λ_ _ _ _=>False,wpR E F.results.toList λv' U'=>jaK U'.heap jak v'=some v⟩ [] body (argT args) [] S.empty)(U:S)(hp:E.pure f=true:=by rfl)(hk:E.hook f=none:=by rfl)(ho:okN F args.length=true:=by kernel_rfl):jah E (ev E) f args U=some (v,U):=jnd hp hk hc hf hb (jrt ho) (jru ho) hw U
theorem jaD {E:Env}{f:FuncId}{args:List V}{U:S}{k:V->S->Prop}{F:Go.Func}{body:Code}(hf:E.P.funcs[f]? = some F)(hb:F.body=some body)(hw:G E f none F.ntmps ⟨wpR E F.results.toList k,λ_ _ _ _=>False,wpR E F.results.toList k⟩ [] body (argT args) [] U)(hp:E.pure f=false:=by rfl)(hk:E.hook f=none:=by rfl)(ho:okN F args.length=true:=by kernel_rfl):∃v U',jah E (ev E) f args U=some (v,U')/\k v U':=jjL hp hk hf hb (jrt ho) (jru ho) hw
theorem jaL {E:Env}{f:FuncId}{args:List V}{U U':S}{v:V}{F:Go.Func}{body:Code}(hf:E.P.funcs[f]? = some F)(hb:F.body=some body)(hw:G E f none F.ntmps ⟨wpR E F.results.toList λv' U''=>v'=v/\U''=U',λ_ _ _ _=>False,wpR E F.results.toList λv' U''=>v'=v/\U''=U'⟩ [] body (argT args) [] U)(hp:E.pure f=false:=by rfl)(hk:E.hook f=none:=by rfl)(ho:okN F args.length=true:=by kernel_rfl):jah E (ev E) f args U=some (v,U'):=jb0 hp hk hf hb (jrt ho) (jru ho) hw
theorem jlP {E:Env}{f:FuncId}{args:List V}{F:Go.Func}{body:Code}(hf:E.P.funcs[f]? = some F)(hb:F.body=some body)(hw:G E f none F.ntmps ⟨wpR E F.results.toList λv _=>v=.bool true,λ_ _ _ _=>False,wpR E F.results.toList λv _=>v=.bool true⟩ [] body (argT args) [] S.empty)(ho:okN F args.length=true:=by kernel_rfl):Found E f args:=jnf hf hb (jrt ho) (jru ho) hw
end Go.Ab
