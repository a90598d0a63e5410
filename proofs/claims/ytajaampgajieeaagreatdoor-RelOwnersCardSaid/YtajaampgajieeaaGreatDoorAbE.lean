/- Proved here: more rules for stepping. Conditions: each theorem's own. -/
import Derived.Test.YtajaampgajieeaaGreatDoorAbD
import Derived.IntWalk
set_option linter.unusedSimpArgs false
set_option linter.unusedVariables false
namespace Go.Ab
inductive Kt where
 |code (c:Code)
 |blk (id:Nat)
section
variable (E:Env)(fn:FuncId)(rnd:Option Nat)(n:Nat)
def Kt.post(Q:Post):List Kt->Post
 | []=>Q
 | .code b::r=>⟨λT D U=>wpC E fn rnd n b T D U (Kt.post Q r),(Kt.post Q r).exit,(Kt.post Q r).ret⟩
 | .blk id::r=>⟨(Kt.post Q r).norm,λi T D U=>if i=id then(Kt.post Q r).norm T D U else(Kt.post Q r).exit i T D U,(Kt.post Q r).ret⟩
def G(Q:Post)(ks:List Kt)(c:Code)(T:Tm)(D:List DE)(U:S):Prop:=wpC E fn rnd n c T D U (Kt.post E fn rnd n Q ks)
def GL(Q:Post)(ks:List Kt)(m:Bool)(ops:Array Oper)(l:List Oper)(T:Tm)(D:List DE)(U:S):Prop :=
 wpL E m n ops l T U λT U=>(Kt.post E fn rnd n Q ks).norm T D U
def GS(Q:Post)(ks:List Kt)(m:Bool)(ops:Array Oper)(l:List Oper)(T:Tm)(D:List DE)(d:Nat)(o:Option (V × S)):Prop :=
 V1 o λp=>GL E fn rnd n Q ks m ops l (upd T d p.1) D p.2
def GN(Q:Post)(ks:List Kt)(m:Bool)(ops:Array Oper)(l:List Oper)(T:Tm)(D:List DE)(o:Option (V × S)):Prop :=
 V1 o λp=>GL E fn rnd n Q ks m ops l T D p.2
def GB(Q:Post)(ks:List Kt)(a b:Code)(T:Tm)(D:List DE)(U:S)(t:Nat)(v:V):Prop :=
 Br v (G E fn rnd n Q ks a (upd T t (.bool true)) D U) (G E fn rnd n Q ks b (upd T t (.bool false)) D U)
def GG(Q:Post)(ks:List Kt)(m:Bool)(ops:Array Oper)(l:List Oper)(T:Tm)(D:List DE)(U:S)(d:Nat)(op:Op)(b:Bool)(g:Nat)(v:V):Prop :=
 Br3 v
  (match b with
   |true=>GS E fn rnd n Q ks m ops l (upd T g (.bool true)) D d (opT E m (upd T g (.bool true)) U op)
   |false=>GL E fn rnd n Q ks m ops l (upd (upd T g (.bool true)) d (.tup [])) D U)
  (match b with
   |true=>GL E fn rnd n Q ks m ops l (upd (upd T g (.bool false)) d (.tup [])) D U
   |false=>GS E fn rnd n Q ks m ops l (upd T g (.bool false)) D d (opT E m (upd T g (.bool false)) U op))
  (GL E fn rnd n Q ks m ops l (upd T d (.tup [])) D U)
end
section
variable {E:Env}{fn:FuncId}{rnd:Option Nat}{n:Nat}{Q:Post}{ks:List Kt}{m:Bool}{ops:Array Oper}{l:List Oper}{T:Tm}{D:List DE}{U:S}
theorem jaB {c:Code}(h:G E fn rnd n Q [] c T D U):wpC E fn rnd n c T D U Q:=h
theorem Za(a b:Code):G E fn rnd n Q ks (.seq a b) T D U=G E fn rnd n Q (.code b::ks) a T D U:=rfl
theorem Zb(id:Nat)(c:Code):G E fn rnd n Q ks (.block id c) T D U=G E fn rnd n Q (.blk id::ks) c T D U:=rfl
theorem Zc(c:Code):G E fn rnd n Q (.code c::ks) .skip T D U=G E fn rnd n Q ks c T D U:=rfl
theorem Zd(id:Nat):G E fn rnd n Q (.blk id::ks) .skip T D U=G E fn rnd n Q ks .skip T D U:=rfl
theorem Ze:G E fn rnd n Q [] .skip T D U=Q.norm T D U:=rfl
theorem Zf(c:Code)(i:Nat):G E fn rnd n Q (.code c::ks) (.exit i) T D U=G E fn rnd n Q ks (.exit i) T D U:=rfl
theorem Zg(id i:Nat):G E fn rnd n Q (.blk id::ks) (.exit i) T D U=if i=id then G E fn rnd n Q ks .skip T D U else G E fn rnd n Q ks (.exit i) T D U:=rfl
theorem Zh(i:Nat):G E fn rnd n Q [] (.exit i) T D U=Q.exit i T D U:=rfl
theorem Zi(c:Code):G E fn rnd n Q (.code c::ks) .ret T D U=G E fn rnd n Q ks .ret T D U:=rfl
theorem Zj(id:Nat):G E fn rnd n Q (.blk id::ks) .ret T D U=G E fn rnd n Q ks .ret T D U:=rfl
theorem Zk:G E fn rnd n Q [] .ret T D U=Q.ret T D U:=rfl
theorem Zl(t:Nat)(a b:Code):G E fn rnd n Q ks (.cond (.tmp t) a b) T D U=(t<n/\GB E fn rnd n Q ks a b T D U t (T t)):=rfl
theorem Zm(v:Bool)(a b:Code):G E fn rnd n Q ks (.cond (.const (.bool v)) a b) T D U=if v then G E fn rnd n Q ks a T D U else G E fn rnd n Q ks b T D U:=by
 show V1 (some (V.bool v)) _=_;rw[Yy];cases v
 ·exact jj5 _ _
 ·exact jmr _ _
theorem Zn(c:Code):G E fn rnd n Q ks (.loop c) T D U=je6 E fn rnd n c T D U (Kt.post E fn rnd n Q ks):=rfl
theorem Qd(c:Code):G E fn rnd n Q ks (.scope c) T D U=G E fn rnd n Q ks c T D U:=rfl
theorem Qe(l:Nat):G E fn rnd n Q ks (.label l) T D U=G E fn rnd n Q ks .skip T D U:=rfl
theorem Zo(id:Nat)(l:List Oper):G E fn rnd n Q ks (.region id l.toArray false) T D U=GL E fn rnd n Q ks (E.mutb fn id) l.toArray l T D U:=rfl
theorem Zp(id:Nat)(l:List Oper)(hs:E.stab fn id=false):G E fn rnd n Q ks (.region id l.toArray true) T D U=(jhe E l.toArray=true/\GL E fn rnd n Q ks (E.mutb fn id) l.toArray l T D U):=by
 unfold G wpC;simp only[hs];rfl
def GK(E:Env)(fn:FuncId)(rnd:Option Nat)(n:Nat)(Q:Post)(ks:List Kt)(m:Bool)(K:S->Prop)(l:List Oper)(T:Tm)(D:List DE)(U:S):Prop :=
 wpS E m n K l T U λT U=>(Kt.post E fn rnd n Q ks).norm T D U
def GKS(E:Env)(fn:FuncId)(rnd:Option Nat)(n:Nat)(Q:Post)(ks:List Kt)(m:Bool)(K:S->Prop)(l:List Oper)(T:Tm)(D:List DE)(d:Option Nat)(op:Op)(o:Option (V × S)):Prop :=
 V1 o λp=>(scOp E op=true->K p.2)/\(jaO op=true->∀U',K U'->jbp E (jaP E T) U' op=some p.1) /\
  (match d with
   |none=>GK E fn rnd n Q ks m K l T D p.2
   |some d=>d<n/\GK E fn rnd n Q ks m K l (upd T d p.1) D p.2)
theorem jcE {id:Nat}{l:List Oper}(hs:E.stab fn id=true)(K:S->Prop)(hK:K U)(hp:jcK E l.toArray (jat [] l)=true)(h:GK E fn rnd n Q ks (E.mutb fn id) K l T D U) :
  G E fn rnd n Q ks (.region id l.toArray true) T D U:=by
 unfold G wpC;simp only[hs];exact joy E fn rnd n K hK hp h
theorem Y7(K:S->Prop):GK E fn rnd n Q ks m K [] T D U=G E fn rnd n Q ks .skip T D U:=rfl
theorem Y8(K:S->Prop)(d:Option Nat)(op:Op)(t:TypeId)(p:String)(a:Array Edge):GK E fn rnd n Q ks m K (⟨d,op,t,p,a,none⟩::l) T D U=GKS E fn rnd n Q ks m K l T D d op (opT E m T U op):=rfl
theorem Y9(K:S->Prop)(d:Nat)(op:Op)(v:V)(U':S):GKS E fn rnd n Q ks m K l T D (some d) op (some (v,U'))=((scOp E op=true->K U')/\(jaO op=true->∀s,K s->jbp E (jaP E T) s op=some v)/\d<n/\GK E fn rnd n Q ks m K l (upd T d v) D U'):=by
 simp only[GKS,Yy]
theorem Qa(K:S->Prop)(op:Op)(v:V)(U':S):GKS E fn rnd n Q ks m K l T D none op (some (v,U'))=((scOp E op=true->K U')/\(jaO op=true->∀s,K s->jbp E (jaP E T) s op=some v)/\GK E fn rnd n Q ks m K l T D U'):=by
 simp only[GKS,Yy]
theorem Qb(K:S->Prop)(d:Option Nat)(op:Op)(c:Prop)[Decidable c](o:Option (V × S)):GKS E fn rnd n Q ks m K l T D d op (if c then o else none)=(c/\GKS E fn rnd n Q ks m K l T D d op o):=by simp only[GKS,jkZ]
theorem Qc(K:S->Prop)(d:Option Nat)(op:Op)(c:Prop)[Decidable c](o:Option (V × S)):GKS E fn rnd n Q ks m K l T D d op (if c then none else o)=(¬c/\GKS E fn rnd n Q ks m K l T D d op o):=by simp only[GKS,jh7]
theorem Zq:GL E fn rnd n Q ks m ops [] T D U=G E fn rnd n Q ks .skip T D U:=rfl
theorem Zr(d:Nat)(op:Op)(t:TypeId)(p:String)(a:Array Edge):GL E fn rnd n Q ks m ops (⟨some d,op,t,p,a,none⟩::l) T D U=(d<n/\GS E fn rnd n Q ks m ops l T D d (opT E m T U op)):=rfl
theorem Zs(op:Op)(t:TypeId)(p:String)(a:Array Edge):GL E fn rnd n Q ks m ops (⟨none,op,t,p,a,none⟩::l) T D U=GN E fn rnd n Q ks m ops l T D (opT E m T U op):=rfl
theorem Zt(d:Nat)(op:Op)(t:TypeId)(p:String)(a:Array Edge)(j:Nat)(b:Bool):GL E fn rnd n Q ks m ops (⟨some d,op,t,p,a,some (j,b)⟩::l) T D U =
  V1 ((ops[j]?).bind (·.dst)) λg=>g<n/\d<n/\GG E fn rnd n Q ks m ops l T D U d op b g (T g):=by
 unfold GL GG GS;refine congrArg (V1 _) (funext λg => ?_);by_cases hd:d<n
 ·cases b<;>simp only[hd,true_and]<;>rfl
 ·cases b<;>simp only[hd,false_and,and_false,jrO]
theorem Y1:(Kt.post E fn rnd n Q ks).norm T D U=G E fn rnd n Q ks .skip T D U:=rfl
theorem Y2(i:Nat):(Kt.post E fn rnd n Q ks).exit i T D U=G E fn rnd n Q ks (.exit i) T D U:=rfl
theorem Y3:(Kt.post E fn rnd n Q ks).ret T D U=G E fn rnd n Q ks .ret T D U:=rfl
theorem Zu(d:Nat)(v:V)(U':S):GS E fn rnd n Q ks m ops l T D d (some (v,U'))=GL E fn rnd n Q ks m ops l (upd T d v) D U':=by simp only[GS,Yy]
theorem Zv(d:Nat)(c:Prop)[Decidable c](o:Option (V × S)):GS E fn rnd n Q ks m ops l T D d (if c then o else none)=(c/\GS E fn rnd n Q ks m ops l T D d o):=by simp only[GS,jkZ]
theorem Zw(d:Nat)(c:Prop)[Decidable c](o:Option (V × S)):GS E fn rnd n Q ks m ops l T D d (if c then none else o)=(¬c/\GS E fn rnd n Q ks m ops l T D d o):=by simp only[GS,jh7]
theorem Zx(v:V)(U':S):GN E fn rnd n Q ks m ops l T D (some (v,U'))=GL E fn rnd n Q ks m ops l T D U':=by simp only[GN,Yy]
theorem Zy(c:Prop)[Decidable c](o:Option (V × S)):GN E fn rnd n Q ks m ops l T D (if c then o else none)=(c/\GN E fn rnd n Q ks m ops l T D o):=by simp only[GN,jkZ]
theorem Zz(c:Prop)[Decidable c](o:Option (V × S)):GN E fn rnd n Q ks m ops l T D (if c then none else o)=(¬c/\GN E fn rnd n Q ks m ops l T D o):=by simp only[GN,jh7]
theorem ZA(a b:Code)(t:Nat):GB E fn rnd n Q ks a b T D U t (.bool true)=G E fn rnd n Q ks a (upd T t (.bool true)) D U:=jmr _ _
theorem ZB(a b:Code)(t:Nat):GB E fn rnd n Q ks a b T D U t (.bool false)=G E fn rnd n Q ks b (upd T t (.bool false)) D U:=jj5 _ _
theorem ZC(a b:Code)(t:Nat)(p:Prop)[Decidable p]:GB E fn rnd n Q ks a b T D U t (.bool (decide p))=((p->G E fn rnd n Q ks a (upd T t (.bool true)) D U)/\(¬p->G E fn rnd n Q ks b (upd T t (.bool false)) D U)):=by
 simp only[GB,jpO,Jc,decide_eq_false_iff_not]
theorem ZD(d:Nat)(op:Op)(b:Bool)(g:Nat):GG E fn rnd n Q ks m ops l T D U d op b g (.tup [])=GL E fn rnd n Q ks m ops l (upd T d (.tup [])) D U:=jtt _ _ _
theorem ZE(d:Nat)(op:Op)(g:Nat):GG E fn rnd n Q ks m ops l T D U d op true g (.bool true)=GS E fn rnd n Q ks m ops l (upd T g (.bool true)) D d (opT E m (upd T g (.bool true)) U op):=jnv _ _ _
theorem ZF(d:Nat)(op:Op)(g:Nat):GG E fn rnd n Q ks m ops l T D U d op true g (.bool false)=GL E fn rnd n Q ks m ops l (upd (upd T g (.bool false)) d (.tup [])) D U:=jk0 _ _ _
theorem ZG(d:Nat)(op:Op)(g:Nat):GG E fn rnd n Q ks m ops l T D U d op false g (.bool true)=GL E fn rnd n Q ks m ops l (upd (upd T g (.bool true)) d (.tup [])) D U:=jnv _ _ _
theorem ZH(d:Nat)(op:Op)(g:Nat):GG E fn rnd n Q ks m ops l T D U d op false g (.bool false)=GS E fn rnd n Q ks m ops l (upd T g (.bool false)) D d (opT E m (upd T g (.bool false)) U op):=jk0 _ _ _
theorem ZI(d:Nat)(op:Op)(g:Nat)(p:Prop)[Decidable p]:GG E fn rnd n Q ks m ops l T D U d op true g (.bool (decide p))=((p->GS E fn rnd n Q ks m ops l (upd T g (.bool true)) D d (opT E m (upd T g (.bool true)) U op))/\(¬p->GL E fn rnd n Q ks m ops l (upd (upd T g (.bool false)) d (.tup [])) D U)):=by
 simp only[GG,jnw,Jc,decide_eq_false_iff_not]
theorem ZJ(d:Nat)(op:Op)(g:Nat)(p:Prop)[Decidable p]:GG E fn rnd n Q ks m ops l T D U d op false g (.bool (decide p))=((p->GL E fn rnd n Q ks m ops l (upd (upd T g (.bool true)) d (.tup [])) D U)/\(¬p->GS E fn rnd n Q ks m ops l (upd T g (.bool false)) D d (opT E m (upd T g (.bool false)) U op))):=by
 simp only[GG,jnw,Jc,decide_eq_false_iff_not]
end
section
variable {E:Env}{m:Bool}{T:Tm}{U:S}
theorem jbi {op:Op}(h:jbp E (jaP E T) U op=none)(h2:jbs E m (jaP E T) U op=none)(h3:∀c,op ≠ .call c):opT E m T U op=(jba E (jaP E T) op).map λv=>(v,U):=by
 unfold opT;cases hp:jba E (jaP E T) op with
 |some v=>rfl
 |none =>
  simp only[h,U6];split
  ·exact absurd rfl (h3 _)
  ·exact absurd rfl (h3 _)
  ·exact h2
theorem ZK(x:Operand):opT E m T U (.move x)=(jaP E T x).map λv=>(v,U):=jbi rfl rfl (λ_ h=>by cases h)
theorem ZL(x:Operand):opT E m T U (.assign x)=(jaP E T x).map λv=>(v,U):=jbi rfl rfl (λ_ h=>by cases h)
def jrP(c a b:Option V):Option V:=match c with|some (.bool t)=>a.bind λx=>b.bind λy=>some (if t then x else y)|_=>none
theorem ZN(a b:V):jrP (some (.bool true)) (some a) (some b)=some a:=rfl
theorem ZO(a b:V):jrP (some (.bool false)) (some a) (some b)=some b:=rfl
theorem ZM(c a b:Operand):opT E m T U (.pick c a b)=(jrP (jaP E T c) (jaP E T a) (jaP E T b)).map λv=>(v,U):=by
 rw[jbi rfl rfl (λ_ h=>by cases h)];simp only[jba,jrP];cases jaP E T c with
 |none=>rfl
 |some u=>cases u<;>rfl
def binO(E:Env)(t:TypeId)(c:Bool)(op:BinOp)(x y:Option V):Option V:=x.bind λa=>y.bind λb=>jgI E t c op a b
theorem jgn {E:Env}{t:TypeId}{c:Bool}{op:BinOp}{a b:V}(h:jpm E t op a b=none):jgI E t c op a b=jbP (E.P.underlying t) c op a b:=by
 unfold jgI;rw[h];cases jbP (E.P.underlying t) c op a b<;>rfl
theorem ZQ(E:Env)(t:TypeId)(c:Bool)(op:BinOp)(k k':IntKind)(a b:Int):binO E t c op (some (.int k a)) (some (.int k' b))=jbP (E.P.underlying t) c op (.int k a) (.int k' b):=jgn (by cases op<;>rfl)
theorem ZR(E:Env)(t:TypeId)(c:Bool)(op:BinOp)(a b:List UInt8):binO E t c op (some (.str a)) (some (.str b))=jbP (E.P.underlying t) c op (.str a) (.str b):=jgn (by cases op<;>rfl)
theorem ZS(E:Env)(t:TypeId)(c:Bool)(op:BinOp)(a b:Bool):binO E t c op (some (.bool a)) (some (.bool b))=jbP (E.P.underlying t) c op (.bool a) (.bool b):=jgn (by cases op<;>rfl)
theorem ZP(op:BinOp)(t u:TypeId)(x y:Operand):opT E m T U (.binOp op t x y u)=(binO E t (jcr x ||jcr y) op (jaP E T x) (jaP E T y)).map λv=>(v,U) :=
 jbi rfl rfl (λ_ h=>by cases h)
theorem ZT(op:UnOp)(t:TypeId)(x:Operand):opT E m T U (.unOp op t x)=((jaP E T x).bind (vUn op)).map λv=>(v,U) :=
 jbi rfl rfl (λ_ h=>by cases h)
def juZ(i:Nat):V->Option V
 | .tup vs=>vs[i]?
 |_=>none
theorem ZV(i:Nat)(vs:List V):juZ i (.tup vs)=vs[i]? := rfl
theorem ZU(x:Operand)(i:Nat):opT E m T U (.extract x i)=((jaP E T x).bind (juZ i)).map λv=>(v,U) :=
 jbi rfl rfl (λ_ h=>by cases h)
def idxO(d:Option TypeDesc)(s:TypeId->Option Nat)(v i:Option V):Option V:=v.bind λv=>i.bind λi=>match d with
  |some (.slice e)=>(s e).bind λs=>jaw s v i
  |some (.array n e)=>(s e).bind λs=>jeh n s v i
  |_=>none
theorem ZX(e:TypeId)(s:TypeId->Option Nat)(v i:V):idxO (some (.slice e)) s (some v) (some i)=(s e).bind λs=>jaw s v i:=rfl
theorem ZW(t:TypeId)(x ix:Operand):opT E m T U (.indexAddr t x ix)=(idxO (E.P.underlying t) (sz E) (jaP E T x) (jaP E T ix)).map λv=>(v,U) :=
 jbi rfl rfl (λ_ h=>by cases h)
theorem ZY(t:TypeId)(x:Operand):opT E m T U (.load t x)=((jaP E T x).bind (jaF E U.heap t)).map λv=>(v,U):=by
 unfold opT;simp only[jba,jbp,jbs];cases jaP E T x with
 |none=>rfl
 |some p=>cases h:jaF E U.heap t p<;>simp only[Kl,Kw,U6,h]
theorem YZ(t:TypeId):opT E m T U (.alloc t)=(ja8 E t).map λz=>(.ptr U.heap.length 0,U.push (.cells z.cells t)):=rfl
theorem YY(t:TypeId)(x:Operand):opT E m T U (.box t x)=(jaP E T x).map λv=>(.ptr U.heap.length 0,U.push (.cells v.cells t)):=rfl
theorem YC(t:TypeId)(a x:Operand):opT E m T U (.store t a x)=(jaP E T a).bind λp=>(jaP E T x).bind λv=>(sz E t).bind λs =>
      if v.cells.length=s then(jbZ U v.cells p).map λU'=>(.tup [],U')else none:=rfl
theorem YP(f:FuncId)(a c:Array Operand):opT E m T U (.makeFunc (.func f) a c)=((jbK (jaP E T) a.toList).bind λa=>(jbK (jaP E T) c.toList).map λc=>.func f a c).map λv=>(v,U) :=
 jbi rfl rfl (λ_ h=>by cases h)
theorem ZZ(g:Operand)(as:Array Operand)(ts:Array TypeId):opT E m T U (.call ⟨.value g,as,ts⟩)=(jaP E T g).bind λgv=>(jbK (jaP E T) as.toList).bind λvs=>jd9 E (ev E) gv vs U:=rfl
def lenM(U:S)(d:Option TypeDesc)(v:V):Option (V × S) :=
 match d,v with
 |some (.map _ _),.nilmap=>some (.int .i64 0,U)
 |some (.map _ _),.map b =>
  match U.heap[b]? with
  |some (.map es _)=>some (.int .i64 es.length,U)
  |_=>none
 |_,_=>none
def lenO(U:S)(d:Option TypeDesc)(v:V):Option (V × S) :=
 match ja9 d v with
 |some r=>some (r,U)
 |none=>lenM U d v
theorem Z1(U:S)(e:TypeId)(v:V):lenO U (some (.slice e)) v=(ja9 (some (.slice e)) v).map λr=>(r,U):=by
 unfold lenO;cases ja9 (some (.slice e)) v<;>rfl
theorem Z2(U:S)(v:V):lenO U (some .string) v=(ja9 (some .string) v).map λr=>(r,U):=by
 unfold lenO;cases ja9 (some .string) v<;>rfl
theorem jrQ(U:S)(k e:TypeId)(b:Nat){es:List (V × V × Nat)}{c:Nat}(h:U.heap[b]? = some (.map es c)):lenO U (some (.map k e)) (.map b)=some (.int .i64 es.length,U):=by
 simp only[lenO,ja9,lenM,h]
theorem Z0(x:Operand)(t:TypeId):opT E m T U (.call ⟨.builtin .len,#[x],#[t]⟩)=(jaP E T x).bind (lenO U (E.P.underlying t)):=by
 unfold opT;simp only[jba,jbp,jbs,jbK,Kw];cases jaP E T x with
 |none=>rfl
 |some v =>
  simp only[Kl,Xe,Jb];unfold lenO lenM;cases h:ja9 (E.P.underlying t) v<;>rfl
theorem jpP(x:Operand)(t:TypeId):opT E m T U (.call ⟨.builtin .cap,#[x],#[t]⟩)=((jaP E T x).bind (jon (E.P.underlying t))).map λv=>(v,U):=by
 unfold opT;simp only[jba,jbp,jbs,jbK,Kw];cases jaP E T x with
 |none=>rfl
 |some v =>
  simp only[Kl,Xe,Jb];cases h:jon (E.P.underlying t) v<;>rfl
theorem jfu(x:Operand)(name:String)(as:Array Operand)(ts:Array TypeId):opT E m T U (.call ⟨.invoke x name,as,ts⟩)=(jaP E T x).bind λxv=>(jfT E xv name).bind λp=>(jbK (jaP E T) as.toList).bind λvs=>jaf E (ev E) p.1 (p.2::vs) U:=rfl
theorem YL(as:Array Operand)(ts:Array TypeId):opT E m T U (.call ⟨.builtin .max,as,ts⟩)=((jbK (jaP E T) as.toList).bind (jdr true)).map λv=>(v,U):=by
 unfold opT;simp only[jba,jbp,jbs];cases(jbK (jaP E T) as.toList).bind (jdr true)<;>rfl
theorem YM(as:Array Operand)(ts:Array TypeId):opT E m T U (.call ⟨.builtin .min,as,ts⟩)=((jbK (jaP E T) as.toList).bind (jdr false)).map λv=>(v,U):=by
 unfold opT;simp only[jba,jbp,jbs];cases(jbK (jaP E T) as.toList).bind (jdr false)<;>rfl
theorem YN(k:IntKind)(a b:Int):jdr true [.int k a,.int k b]=some (.int k (if b>a then b else a)):=rfl
theorem YO(k:IntKind)(a b:Int):jdr false [.int k a,.int k b]=some (.int k (if b<a then b else a)):=rfl
def jas(E:Env)(t:TypeId)(f:Nat):Option Nat :=
 match E.P.underlying t with
 |some (.struct fields)=>(fields[f]?).bind λfd=>(sz E fd.type).bind λs=>if s=0 then none else some fd.offset
 |_=>none
theorem YQ(t:TypeId)(x:Operand)(f:Nat):opT E m T U (.fieldAddr t x f)=(jaP E T x).bind λv=>(jas E t f).bind λoff=>(jcO off v).map λv=>(v,U):=by
 rw[jbi rfl rfl (λ_ h=>by cases h)];simp only[jba,jas];cases jaP E T x with
 |none=>rfl
 | some v =>
  simp only[Kl];cases E.P.underlying t with
  |none=>rfl
  | some d =>
   cases d<;>try rfl
   rename_i fields;simp only;cases fields[f]? with
   |none=>rfl
   | some fd =>
    simp only[Kl];cases sz E fd.type with
    |none=>rfl
    |some s =>
     simp only[Kl];by_cases hs:s=0<;>simp[hs]
def jbV(E:Env)(t:TypeId)(ps:List (Nat × V)):Option V:=(ja8 E t).bind λz=>(jey E t).bind λpl=>(jei pl z.cells ps).map .agg
theorem YR(t:TypeId)(parts:Array (Nat × Operand)):opT E m T U (.build t parts)=(jcs (jaP E T) parts.toList).bind λps=>(jbV E t ps).map λv=>(v,U):=by
 rw[jbi rfl rfl (λ_ h=>by cases h)];simp only[jba,jbV];cases jcs (jaP E T) parts.toList<;>rfl
theorem YS(ρ:Operand->Option V):jcs ρ []=some []:=rfl
theorem YT(ρ:Operand->Option V)(i:Nat)(x:Operand)(r:List (Nat × Operand)):jcs ρ ((i,x)::r)=(ρ x).bind λv=>(jcs ρ r).map λl=>(i,v)::l:=rfl
theorem YU(off b o:Nat):jcO off (.ptr b o)=some (.ptr b (o+off)):=rfl
theorem YV(off:Nat)(cs:List V):jcO off (.rptr cs)=some (.rptr (cs.drop off)):=rfl
theorem YW(cs:List V):(V.agg cs).cells=cs:=rfl
theorem YX(U:S)(o:AObj):(U.push o).heap[U.heap.length]? = some o:=by simp[S.push]
def ju0(us ud:Option TypeDesc)(v:V):Option V :=
 match us,ud,v with
 |some _,some (.int k),.int _ n=>some (.int k (k.wrap n))
 |some _,some .string,.str s=>some (.str s)
 |some _,some .string,.int _ n=>if 0<=n/\n<128 then some (.str [UInt8.ofNat n.toNat])else none
 |_,_,_=>none
def ju1(E:Env)(h:List AObj)(us ud:Option TypeDesc)(v:V):Option V :=
 match us,ud with
 |some (.slice e),some .string =>
  match E.P.underlying e,v with
  |some (.int .u8),.row cells len cap=>(jaT h 1 len (.row cells len cap)).bind λcs=>(jex cs).map .str
  |some (.int .u8),.hsl b off len cap ex=>(jaT h 1 len (.hsl b off len cap ex)).bind λcs=>(jex cs).map .str
  |some (.int .u8),.nilsl=>some (.str [])
  |_,_=>none
 |some us,some ud=>jhM E h us ud v
 |_,_=>none
def ju2(E:Env)(U:S)(src dst:TypeId)(us ud:Option TypeDesc)(v:V):Option (V × S) :=
 match us,ud,v with
 |some _,some (.slice e),.str s =>
  match E.P.underlying e with
  |some (.int .u8)=>some (.row (jdi s) s.length .unk,U)
  |_=>none
 | some (.slice _),some (.slice e),.hsl b off len cap _ =>
  if src=dst then
   match E.P.underlying e,U.heap[b]? with
   |some (.int .u8),some (.cells cs t)=>if len<=cap/\off+len<=cs.length then some (.row ((cs.drop off).take len) len .unk,U.set b (.ro cs t))else none
   |_,_=>none
  else none
 |_,_,_=>none
def jtx(E:Env)(U:S)(src dst:TypeId)(us ud:Option TypeDesc)(v:V):Option (V × S) :=
 match ju0 us ud v with
 |some u=>some (u,U)
 |none =>
  match ju1 E U.heap us ud v with
  |some u=>some (u,U)
  |none=>ju2 E U src dst us ud v
theorem Z5(E:Env)(U:S)(src dst:TypeId)(d:TypeDesc)(k k':IntKind)(n:Int):jtx E U src dst (some d) (some (.int k)) (.int k' n)=some (.int k (k.wrap n),U):=rfl
theorem Z4(s d:TypeId)(x:Operand):opT E m T U (.convert s d x)=(jaP E T x).bind λv=>jtx E U s d (E.P.underlying s) (E.P.underlying d) v:=by
 unfold opT;simp only[jba,jbp,jbs];cases jaP E T x with
 |none=>rfl
 | some v =>
  simp only[Kl]
  show(match ju0 (E.P.underlying s) (E.P.underlying d) v with
   |some v=>some (v,U)
   |none=>match ju1 E U.heap (E.P.underlying s) (E.P.underlying d) v with
    |some v=>some (v,U)
    |none=>ju2 E U s d (E.P.underlying s) (E.P.underlying d) v)=_
  unfold jtx;rfl
def appO(E:Env)(m:Bool)(U:S)(t t2:TypeId)(a b:V):Option (V × S) :=
 (jfE E t).bind λe=>(sz E e).bind λs=>(bys E e).bind λby' =>
  match E.P.underlying t2 with
  |some (.int _)=>jpp E m s by' e a b U
  |some _=>(vLen b).bind λmm=>(jaT U.heap s mm b).bind λnew=>if jhm E e=some s then jbf m s by' mm e new a U else none
  |none=>none
theorem Z3(x y:Operand)(t t2:TypeId):opT E m T U (.call ⟨.builtin .append,#[x,y],#[t,t2]⟩)=(jaP E T x).bind λa=>(jaP E T y).bind λb=>appO E m U t t2 a b:=by
 unfold opT appO;simp only[jba,jbp,jbs,jbK,Kw];cases jaP E T x with
 |none=>rfl
 |some a =>
  cases jaP E T y with
  |none=>rfl
  |some b=>rfl
end
theorem jnx {α β:Type}(f:α->β)(c:Prop)[Decidable c](o:Option α):(if c then o else none).map f=if c then o.map f else none:=by by_cases h:c<;>simp[h]
theorem Ya {α β:Type}(f:α->β)(c:Prop)[Decidable c](o:Option α):(if c then none else o).map f=if c then none else o.map f:=by by_cases h:c<;>simp[h]
theorem jk5 {α β:Type}(f:α->Option β)(c:Prop)[Decidable c](o:Option α):(if c then o else none).bind f=if c then o.bind f else none:=by by_cases h:c<;>simp[h]
theorem Yb {α β:Type}(f:α->Option β)(c:Prop)[Decidable c](o:Option α):(if c then none else o).bind f=if c then none else o.bind f:=by by_cases h:c<;>simp[h]
theorem Z8 {α β:Type}(f:α->β)(v:α):(some v).map f=some (f v):=rfl
theorem Y4 {α β:Type}(f:α->β):(none:Option α).map f=none:=rfl
theorem Y5 {α β:Type}(f:α->Option β):(none:Option α).bind f=none:=rfl
theorem Z9 {α β:Type}(f:α->Option β)(v:α):(some v).bind f=f v:=rfl
theorem jpQ(k:IntKind)(a b:Int):vBin .add (.int k a) (.int k b)=some (.int k (k.wrap (a+b))):=by simp[vBin,jca]
theorem Yc(us:Option TypeDesc)(cc:Bool)(k:IntKind)(a b:Int):jbP us cc .add (.int k a) (.int k b)=some (.int k (k.wrap (a+b))):=by
 unfold jbP;rw[jpQ]
theorem jpR(k:IntKind)(a b:Int):vBin .sub (.int k a) (.int k b)=some (.int k (k.wrap (a-b))):=by simp[vBin,jca]
theorem Yd(us:Option TypeDesc)(cc:Bool)(k:IntKind)(a b:Int):jbP us cc .sub (.int k a) (.int k b)=some (.int k (k.wrap (a-b))):=by
 unfold jbP;rw[jpR]
theorem jpS(k:IntKind)(a b:Int):vBin .mul (.int k a) (.int k b)=some (.int k (k.wrap (a*b))):=by simp[vBin,jca]
theorem Ye(us:Option TypeDesc)(cc:Bool)(k:IntKind)(a b:Int):jbP us cc .mul (.int k a) (.int k b)=some (.int k (k.wrap (a*b))):=by
 unfold jbP;rw[jpS]
theorem jpT(k:IntKind)(a b:Int):vBin .quo (.int k a) (.int k b)=if b=0 then none else some (.int k (k.wrap (a.tdiv b))):=by simp[vBin,jca]
theorem Ym(us:Option TypeDesc)(cc:Bool)(k:IntKind)(a b:Int):jbP us cc .quo (.int k a) (.int k b)=if b=0 then none else some (.int k (k.wrap (a.tdiv b))):=by
 unfold jbP;rw[jpT];split<;>split at * <;>simp_all
theorem jpU(k:IntKind)(a b:Int):vBin .rem (.int k a) (.int k b)=if b=0 then none else some (.int k (a.tmod b)):=by simp[vBin,jca]
theorem Yl(us:Option TypeDesc)(cc:Bool)(k:IntKind)(a b:Int):jbP us cc .rem (.int k a) (.int k b)=if b=0 then none else some (.int k (a.tmod b)):=by
 unfold jbP;rw[jpU];split<;>split at * <;>simp_all
theorem jpV(k:IntKind)(a b:Int):vBin .eql (.int k a) (.int k b)=some (.bool (decide (a=b))):=by simp[vBin,jca];rfl
theorem Yf(us:Option TypeDesc)(cc:Bool)(k:IntKind)(a b:Int):jbP us cc .eql (.int k a) (.int k b)=some (.bool (decide (a=b))):=by
 unfold jbP;rw[jpV]
theorem jpW(k:IntKind)(a b:Int):vBin .neq (.int k a) (.int k b)=some (.bool (decide (¬a=b))):=by simp[vBin,jca];rfl
theorem Yg(us:Option TypeDesc)(cc:Bool)(k:IntKind)(a b:Int):jbP us cc .neq (.int k a) (.int k b)=some (.bool (decide (¬a=b))):=by
 unfold jbP;rw[jpW]
theorem jpX(k:IntKind)(a b:Int):vBin .lss (.int k a) (.int k b)=some (.bool (decide (a<b))):=by simp[vBin,jca]
theorem Yh(us:Option TypeDesc)(cc:Bool)(k:IntKind)(a b:Int):jbP us cc .lss (.int k a) (.int k b)=some (.bool (decide (a<b))):=by
 unfold jbP;rw[jpX]
theorem jpY(k:IntKind)(a b:Int):vBin .leq (.int k a) (.int k b)=some (.bool (decide (a<=b))):=by simp[vBin,jca]
theorem Yi(us:Option TypeDesc)(cc:Bool)(k:IntKind)(a b:Int):jbP us cc .leq (.int k a) (.int k b)=some (.bool (decide (a<=b))):=by
 unfold jbP;rw[jpY]
theorem jpZ(k:IntKind)(a b:Int):vBin .gtr (.int k a) (.int k b)=some (.bool (decide (b<a))):=by simp[vBin,jca]
theorem Yj(us:Option TypeDesc)(cc:Bool)(k:IntKind)(a b:Int):jbP us cc .gtr (.int k a) (.int k b)=some (.bool (decide (b<a))):=by
 unfold jbP;rw[jpZ]
theorem jp0(k:IntKind)(a b:Int):vBin .geq (.int k a) (.int k b)=some (.bool (decide (b<=a))):=by simp[vBin,jca]
theorem Yk(us:Option TypeDesc)(cc:Bool)(k:IntKind)(a b:Int):jbP us cc .geq (.int k a) (.int k b)=some (.bool (decide (b<=a))):=by
 unfold jbP;rw[jp0]
theorem jp1(k k':IntKind)(a b:Int):vBin .shr (.int k a) (.int k' b)=if b<0 then none else some (.int k (a.fdiv (2^min b.toNat k.bits))):=by simp[vBin,jkC]
theorem jny(us:Option TypeDesc)(cc:Bool)(k k':IntKind)(a b:Int):jbP us cc .shr (.int k a) (.int k' b)=if b<0 then none else some (.int k (a.fdiv (2^min b.toNat k.bits))):=by
 unfold jbP;rw[jp1];split<;>split at * <;>simp_all
theorem joA(a b:List UInt8):vBin .eql (.str a) (.str b)=some (.bool (decide (a=b))):=by simp only[vBin,jkD];rw[show(a==b)=decide (a=b)from Uz.2 ae]
theorem jaA(us:Option TypeDesc)(cc:Bool)(a b:List UInt8):jbP us cc .eql (.str a) (.str b)=some (.bool (decide (a=b))):=by
 unfold jbP;rw[joA]
theorem joB(a b:List UInt8):vBin .neq (.str a) (.str b)=some (.bool (decide (¬a=b))):=by simp only[vBin,jkD];rw[show(a==b)=decide (a=b)from Uz.2 ae];simp
theorem jaE(us:Option TypeDesc)(cc:Bool)(a b:List UInt8):jbP us cc .neq (.str a) (.str b)=some (.bool (decide (¬a=b))):=by
 unfold jbP;rw[joB]
theorem Yn(cc:Bool)(a b:Bool):jbP (some .bool) cc .eql (.bool a) (.bool b)=some (.bool (decide (a=b))):=by cases a<;>cases b<;>rfl
theorem Yo(cc:Bool)(a b:Bool):jbP (some .bool) cc .neq (.bool a) (.bool b)=some (.bool (decide (¬a=b))):=by cases a<;>cases b<;>rfl
theorem Yp(p:Prop)[Decidable p]:vUn .not (.bool (decide p))=some (.bool (decide (¬p))):=by simp[vUn]
theorem YK(k:IntKind)(a:Int):vUn .neg (.int k a)=some (.int k (k.wrap (0-a))):=rfl
theorem Yq:vUn .not (.bool true)=some (.bool false):=rfl
theorem Yr:vUn .not (.bool false)=some (.bool true):=rfl
theorem Ys(s:Nat)(cells:List V)(len:Nat)(c:RCap)(k:IntKind)(i:Int):jaw s (.row cells len c) (.int k i)=if 0<=i/\i<len then some (.rptr (cells.drop (i.toNat*s)))else none:=rfl
theorem jp2(s b off len cap:Nat)(ex:HCap)(k:IntKind)(i:Int):jaw s (.hsl b off len cap ex) (.int k i)=if 0<=i/\i<len then some (.ptr b (off+i.toNat*s))else none:=rfl
theorem Yt(e:TypeId)(cells:List V)(len:Nat)(c:RCap):ja9 (some (.slice e)) (.row cells len c)=some (.int .i64 len):=rfl
theorem jp3(e:TypeId)(b off len cap:Nat)(ex:HCap):ja9 (some (.slice e)) (.hsl b off len cap ex)=some (.int .i64 len):=rfl
theorem Yu(e:TypeId):ja9 (some (.slice e)) .nilsl=some (.int .i64 0):=rfl
theorem jaW(b:List UInt8):ja9 (some .string) (.str b)=some (.int .i64 b.length):=rfl
theorem Z6 {E:Env}{rec:Task->Option Res}(f:FuncId)(a c:List V)(as:List V)(U:S):jd9 E rec (.func f a c) as U=jaf E rec f (a++as++c) U:=rfl
theorem Yv(ρ:Operand->Option V):jbK ρ []=some []:=rfl
theorem Yw(ρ:Operand->Option V)(x:Operand)(l:List Operand):jbK ρ (x::l)=(ρ x).bind λv=>(jbK ρ l).map λr=>v::r:=rfl
theorem jau {E:Env}{h:List AObj}{t:TypeId}{p:V}(ha:aggT E t=some false):jaF E h t p=(jab h 1 p).bind (·[0]?):=by
 simp only[jaF,ha];rfl
theorem Yz(h:List AObj)(cells:List V)(i:Nat):(jab h 1 (.rptr (cells.drop i))).bind (·[0]?)=cells[i]? := by
 simp only[jab,Jo];by_cases hi:1<=cells.length-i
 ·simp only[hi,Km,Kl];rw[Jr,X6];simp
 ·simp only[hi,Kq,Option.bind_none];rw[Ql aa]
theorem Y0(k:IntKind)(zs:List Int)(i:Nat):(zs.map (V.int k))[i]? = if i<zs.length then some (V.int k (zs.getD i 0))else none:=by
 rw[J4];by_cases h:i<zs.length
 ·simp[h]
 ·simp[h]
theorem wrap_i64 {x:Int}(h1 : -9223372036854775808<=x)(h2:x<=9223372036854775807):IntKind.i64.wrap x=x:=by
 rw[IntKind.wrap_i64];omega
def setT(T:Tm):List (Tmp × V)->Tm
 | []=>T
 |(t,v)::r=>setT (upd T t v) r
theorem Rep.sets {n:Nat}:∀(l:List (Tmp × V)) {T:Tm} {tmps:List V},Rep n T tmps->(∀p∈l,p.1<n)->Rep n (setT T l) (l.foldl (λts (x:Tmp × V)=>ts.set x.1 x.2) tmps)
 | [],T,tmps,h,_=>h
 |(t,v)::r,T,tmps,h,hl=>by
  simp only[Ux,setT];exact Rep.sets r (h.upd (hl (t,v) ae) v) λp hp=>hl p (by simp[hp])
section
variable {E:Env}{fn:FuncId}{rnd:Option Nat}{n:Nat}{Q:Post}{ks:List Kt}{T:Tm}{D:List DE}{U:S}
theorem jfv {l:Nat}{args:List V}{tmps:List V}{ps:Array Tmp}{asg body:Code}{d:Nat}{lo:AObj}{K:S->Prop}
  (hlo:lo=.loop .ready none fn tmps ps asg body d) (hl:U.heap[l]? = some lo) (hr:Rep n T tmps) (ha:args.length=ps.size) (hp:∀p∈ps.toList.zip args,p.1<n)
  (hw:∀lb,lb=AObj.loop .busy none fn tmps ps asg body d->G E fn (some l) n ⟨λT1 D1 U1=>D1=[]/\U1.heap[l]? = some lo /\
   G E fn (some l) n ⟨λ_ D2 U2=>D2=[]/\U2.heap[l]? = some lb/\K (U2.set l lo),λ_ _ _ _=>False,λ_ _ _=>False⟩ [] body T1 []
    (U1.set l lb),λ_ _ _ _=>False,λ_ _ _=>False⟩ [] asg (setT T (ps.toList.zip args)) [] U) :
  ∃U',jd9 E (ev E) (.yld l) args U=some (.bool true,U')/\K U':=by
 subst hlo;obtain⟨⟨ex,vals,dd,st⟩,h1,T1,hr1,hq⟩:=jbH E fn (some l) n asg (hw _ rfl) _ (hr.sets _ hp);cases ex with
 |exit i=>exact hq.elim
 |ret=>exact hq.elim
 | normal =>
  obtain⟨hd,hl1,hw2⟩:=hq;simp only at hd hl1 hw2;subst hd;obtain⟨⟨ex2,vals2,d2,st2⟩,g1,T2,gr1,gq⟩:=jbH E fn (some l) n body hw2 _ hr1;cases ex2 with
  |exit i=>exact gq.elim
  |ret=>exact gq.elim
  | normal =>
   obtain⟨hd2,hl2,hK⟩:=gq;simp only at hd2 hl2 hK;subst hd2;refine⟨_,?_,hK⟩
   have:ev E (.round l args U)=some ⟨.ret,[.bool true],[],st2.set l (.loop .ready none fn tmps ps asg body d)⟩:=by
    apply jed;simp only[jea,hl];rw[Kh (by simpa using ha)];simp only[h1,hl1,g1,hl2]
   simp only[jd9,this]
theorem jj7 {f:Operand}{ps:Array Tmp}{asg body:Code}{fid:FuncId}{first captured:List V}(hf:jaP E T f=some (.func fid first captured))
  (h:∀tmps lo lx,Rep n T tmps->lo=AObj.loop .ready none fn tmps ps asg body U.heap.length->lx=AObj.loop .exhausted none fn tmps ps asg body U.heap.length ->
   ∃v U2,ev E (.call fid (first++[V.yld (U.heap.length+1)]++captured) ⟨U.heap++[.defd true,lo],U.toks⟩)=some ⟨.ret,[v],[],U2⟩ /\
   U2.heap[U.heap.length+1]? = some lo /\
   G E fn none n Q ks .skip T (.mark U.heap.length::D) (U2.set (U.heap.length+1) lx)) :
  G E fn none n Q ks (.rangeFunc f ps asg body) T D U:=by
 intro tmps hr;obtain⟨v,U2,h1,h2,h3⟩:=h tmps _ _ hr rfl rfl;refine⟨⟨.normal,tmps,.mark U.heap.length::D,U2.set (U.heap.length+1) (.loop .exhausted none fn tmps ps asg body U.heap.length)⟩,?_,T,hr,h3⟩;simp only[ja0,hr.eval,hf,h1,h2,reduceCtorEq,Kq]
end
theorem jbW {E:Env}{f:FuncId}{args:List V}{U U':S}{v:V}{F:Go.Func}{body:Code}(hp:E.pure f=false)(hk:E.hook f=none)(hf:E.P.funcs[f]? = some F)(hb:F.body=some body)
  (hn:F.name ≠ "runtime.NumGoroutine") (hl:args.length<=F.ntmps)
  (hw:G E f none F.ntmps ⟨wpR E F.results.toList λv' U''=>v'=v/\U''=U',λ_ _ _ _=>False,wpR E F.results.toList λv' U''=>v'=v/\U''=U'⟩ [] body (argT args) [] U) (hz:E.frz f=false:=by rfl) (hs:E.hookS f=none:=by rfl) :
  jaf E (ev E) f args U=some (v,U'):=by
 obtain⟨v',U'',h1,rfl,rfl⟩:=ji9 hp hk hf hb hn hl hw hz hs;exact h1
def jcm(o:Option AObj)(off:Nat):Option V :=
 match o with
 |some (.cells cs _)=>cs[off]?
 |some (.ro cs _)=>cs[off]?
 |_=>none
theorem YB(cs:List V)(t:TypeId)(off:Nat):jcm (some (.cells cs t)) off=cs[off]? := rfl
theorem YA(h:List AObj)(b off:Nat):(jab h 1 (.ptr b off)).bind (·[0]?)=jcm h[b]? off:=by
 simp only[jab,jcm];cases h[b]? with
 |none=>rfl
 | some o =>
  cases o with
  | cells cs t =>
   simp only;by_cases hi:off+1<=cs.length
   ·simp only[hi,Km,Kl];rw[Jr,X6];simp
   ·simp only[hi,Kq,Option.bind_none];rw[Ql aa]
  | ro cs t =>
   simp only;by_cases hi:off+1<=cs.length
   ·simp only[hi,Km,Kl];rw[Jr,X6];simp
   ·simp only[hi,Kq,Option.bind_none];rw[Ql aa]
  |_=>rfl
def storeAt(U:S)(new:List V)(b off:Nat)(o:Option AObj):Option S :=
 match o with
 |some (.cells cs t)=>if off+new.length<=cs.length/\new.all V.isCell then some (U.set b (.cells (jaa cs off new) t))else none
 |_=>none
theorem YE(U:S)(new:List V)(b off:Nat)(cs:List V)(t:TypeId):storeAt U new b off (some (.cells cs t))=if off+new.length<=cs.length/\new.all V.isCell then some (U.set b (.cells (jaa cs off new) t))else none:=rfl
theorem YD(U:S)(new:List V)(b off:Nat):jbZ U new (.ptr b off)=storeAt U new b off U.heap[b]? := by
 simp only[jbZ,storeAt];cases U.heap[b]? with
 |none=>rfl
 |some o=>cases o<;>rfl
theorem YI(h:List AObj)(t:List Nat)(o:AObj):S.push ⟨h,t⟩ o=⟨h++[o],t⟩:=rfl
theorem YJ(h:List AObj)(t:List Nat)(b:Nat)(o:AObj):S.set ⟨h,t⟩ b o=⟨h.set b o,t⟩:=rfl
theorem jaj:S.empty=⟨[],[]⟩:=rfl
theorem YF(cs:List V)(n:Nat)(c:RCap):(V.row cs n c).cells=[.row cs n c]:=rfl
theorem YH:V.nilsl.cells=[.nilsl]:=rfl
theorem YG(cs:List V)(n:Nat)(c:RCap):(V.row cs n c).isCell=true:=rfl
theorem Y6(k:IntKind)(x:Int):(V.int k x).cells=[.int k x]:=rfl
theorem jac(k:IntKind)(x:Int):(V.int k x).isCell=true:=rfl
structure One (E:Env) (t e:TypeId) (by':Nat):Prop where
 elem:jfE E t=some e
 size:sz E e=some 1
 bytes:bys E e=some by'
 zeros:jhm E e=some 1
 slice:E.P.underlying t=some (.slice e)
 zero:∃z,ja8 E e=some z/\z.cells.length=1
section
variable {E:Env}{t e:TypeId}{by':Nat}{T:Tm}{U:S}{x:Operand}
theorem joC(h:One E t e by'):opT E false T U (.buildSlice t 0 #[])=some (.row [] 0 .full,U):=by
 unfold opT;simp[jba,jbp,jbs,jcs,h.elem,h.size,jei]
inductive Grow (ts:List Nat):V->List V->Prop where
 |nil:Grow ts .nilsl []
 |full (cs:List V):Grow ts (.row cs cs.length .full) cs
 |tok (cs:List V) (k e:Nat) (h:ts[k]? = some e):Grow ts (.row cs cs.length (.tok k e 1)) cs
theorem Grow.len(h:One E t e by'){ts:List Nat}{v:V}{cs:List V}(g:Grow ts v cs):ja9 (E.P.underlying t) v=some (.int .i64 cs.length):=by
 rw[h.slice];cases g with
 |nil=>rfl
 |full=>rfl
 |tok=>rfl
theorem Grow.append(h:One E t e by'){hp:List AObj}{ts:List Nat}{v:V}{cs:List V}(g:Grow ts v cs){new:List V}{c:RCap}(hn:new.length ≠ 0)(hc:new.all V.isCell=true)
  (hb:(cs.length+new.length)*by'<=lim) (hb2:cs.length+new.length<=lim) :
  ∃k e' ts',appO E false ⟨hp,ts⟩ t t v (.row new new.length c)=some (.row (cs++new) (cs++new).length (.tok k e' 1),⟨hp,ts'⟩)/\ts'[k]? = some e':=by
 have hnew:jaT hp 1 new.length (.row new new.length c)=some new:=by simp[jaT]
 have hn0:new ≠ []:=λe=>hn (by rw[e];rfl)
 unfold appO;simp only[h.elem,h.size,h.bytes,h.slice,h.zeros,vLen,hnew,Kl,Km];cases g with
 |nil =>
  simp only[Qx,Jn]at hb hb2;refine⟨ts.length,0,ts++[0],?_,ae⟩;simp[jbf,hn0,hb,hb2]
 |full =>
  refine⟨ts.length,0,ts++[0],?_,ae⟩;simp only[jbf,hn,Kq,hb,hb2,hc,Xa,and_self,Km,Kr,Kk]
 | tok _ k e' hk =>
  refine⟨k,e'+1,ts.set k (e'+1),?_,?_⟩
  ·simp only[jbf,hn,Kq,hb,hb2,hc,Xa,and_self,Km,hk,Kk]
  ·have:k<ts.length:=by
    rcases Qm k ts.length with h1|h1
    ·exact h1
    ·rw[Ql h1]at hk;simp at hk
   simp[this]
structure GrowN (N:Nat) (ts:List Nat) (v:V) (cs:List V):Prop where
 grow:Grow ts v cs
 low:∀k,(∃cs n e s,v=.row cs n (.tok k e s))->N<=k
theorem GrowN.keep {N:Nat}{ts ts':List Nat}{v:V}{cs:List V}(g:GrowN N ts v cs)(h:∀k e,N<=k->ts[k]? = some e->ts'[k]? = some e):GrowN N ts' v cs:=by
 refine⟨?_,g.low⟩;have hl:=g.low;cases g.grow with
 |nil=>exact .nil
 |full=>exact .full _
 |tok _ k e hk=>exact .tok _ k e (h k e (hl k ⟨_,_,_,_,rfl⟩) hk)
theorem GrowN.append(h:One E t e by'){N:Nat}{hp:List AObj}{ts:List Nat}{v v2:V}{cs cs2:List V}(g:GrowN N ts v cs)(hN:N<=ts.length)(g2:Grow ts v2 cs2)(hc:cs2.all V.isCell=true)
  (hb:(cs.length+cs2.length)*by'<=lim) (hb2:cs.length+cs2.length<=lim) :
  ∃v' ts',appO E false ⟨hp,ts⟩ t t v v2=some (v',⟨hp,ts'⟩)/\GrowN N ts' v' (cs++cs2)/\ts.length<=ts'.length/\(∀k,k<N->ts'[k]? = ts[k]?)/\(v'=.nilsl->v=.nilsl/\cs2=[]):=by
 by_cases hn:cs2=[]
 ·subst hn;refine⟨v,ts,?_,by rw[Jl];exact g,K8 _,λ_ _=>rfl,λh=>⟨h,rfl⟩⟩;have hlen:vLen v2=some 0:=by cases g2<;>rfl
  have hcell:jaT hp 1 0 v2=some []:=by cases g2<;>simp[jaT]
  unfold appO;simp only[h.elem,h.size,h.bytes,h.slice,h.zeros,hlen,hcell,Kl,Km];cases g.grow<;>simp[jbf]
 ·have hn2:cs2.length ≠ 0:=λe=>hn (Q5 e)
  have key:∃c,v2=.row cs2 cs2.length c:=by cases g2<;>first|exact absurd rfl hn|exact⟨_,rfl⟩
  obtain⟨c,rfl⟩:=key;have hnew:jaT hp 1 cs2.length (.row cs2 cs2.length c)=some cs2:=by simp[jaT]
  have hl:=g.low;unfold appO;simp only[h.elem,h.size,h.bytes,h.slice,h.zeros,vLen,hnew,Kl,Km];have hge:=g.grow;generalize hv:v=v0 at hge;cases hge with
  |nil =>
   simp only[Qx,Jn]at hb hb2;refine⟨.row cs2 cs2.length (.tok ts.length 0 1),⟨ts++[0],?_,⟨.tok cs2 ts.length 0 ae,?_⟩,ae,?_,ae⟩⟩
   ·simp[jbf,hn,hb,hb2]
   ·rintro k ⟨_,_,_,_,he⟩;cases he;exact hN
   ·intro k hk;exact Ki aa
  |full =>
   refine⟨.row (cs++cs2) (cs++cs2).length (.tok ts.length 0 1),⟨ts++[0],?_,⟨.tok _ ts.length 0 ae,?_⟩,ae,?_,ae⟩⟩
   ·simp only[jbf,hn2,Kq,hb,hb2,hc,Xa,and_self,Km,Kr,Kk]
   ·rintro k ⟨_,_,_,_,he⟩;cases he;exact hN
   ·intro k hk;exact Ki aa
  | tok _ k e' hk =>
   have hkN:N<=k:=hl k ⟨_,_,_,_,hv⟩
   have hkl:k<ts.length:=by
    rcases Qm k ts.length with h1|h1
    ·exact h1
    ·rw[Ql h1]at hk;simp at hk
   refine⟨.row (cs++cs2) (cs++cs2).length (.tok k (e'+1) 1),⟨ts.set k (e'+1),?_,⟨.tok _ k (e'+1) (by simp[hkl]),?_⟩,ae,?_,ae⟩⟩
   ·simp only[jbf,hn2,Kq,hb,hb2,hc,Xa,and_self,Km,hk,Kk]
   ·rintro k' ⟨_,_,_,_,he⟩;cases he;exact hkN
   ·intro k' hk';exact Kg aa
end
section
variable {E:Env}{m:Bool}{T:Tm}{U:S}
def jty(E:Env)(m:Bool)(U:S)(t:TypeId)(lv cv:V):Option (V × S) :=
 (jfE E t).bind λe=>(sz E e).bind λs=>(bys E e).bind λby' =>
   match lv,cv with
   | .int .i64 l,.int .i64 c =>
    if 0<=l/\l<=c/\c<=lim/\c*by'<=lim then
     (if c.toNat*s=0 then some (.agg [])else ja8 E e).bind λz =>
     if z.cells.length=s\/c.toNat*s=0 then
      if m then some (.hsl U.heap.length 0 l.toNat c.toNat .exact,U.push (.cells (List.replicate c.toNat z.cells).flatten e))
      else if l=c then some (.row (List.replicate c.toNat z.cells).flatten c.toNat .full,U)
      else some (.row ((List.replicate c.toNat z.cells).flatten.take (l.toNat*s)) l.toNat (.tok U.toks.length 0 s),⟨U.heap,U.toks++[0]⟩)
     else none
    else none
   |_,_=>none
theorem jj8(t:TypeId)(l c:Operand):opT E m T U (.makeSlice t l c)=(jaP E T l).bind λlv=>(jaP E T c).bind λcv=>jty E m U t lv cv:=rfl
def jb2(E:Env)(t:TypeId)(v:V)(l h mx:Option V):Option V :=
  match E.P.underlying t with
  |some .string=>(match v with| .str b=>jcV 0 (.str b) l h mx|_=>none)
  |some (.slice e)=>(sz E e).bind λs =>
   match v with
   | .str _=>none
   |v=>jcV s v l h mx
  |some (.array n e)=>(sz E e).bind λs=>jeT n s v l h mx
  |_=>none
theorem jbX(t:TypeId)(x:Operand)(lo hi mx:Option Operand):opT E m T U (.slice t x lo hi mx)=(jaP E T x).bind λv=>(optO (jaP E T) lo).bind λl=>(optO (jaP E T) hi).bind λh=>(optO (jaP E T) mx).bind λmm=>(jb2 E t v l h mm).map λu=>(u,U):=by
 rw[jbi rfl rfl (λ_ h=>by cases h)];simp only[jba,jb2];cases jaP E T x with
 |none=>rfl
 | some v =>
  simp only[Kl];cases optO (jaP E T) lo with
  |none=>rfl
  | some l =>
   simp only[Kl];cases optO (jaP E T) hi with
   |none=>rfl
   |some h =>
    simp only[Kl];cases optO (jaP E T) mx with
    |none=>rfl
    |some mm=>rfl
theorem jbY(ρ:Operand->Option V):optO ρ none=some none:=rfl
theorem jb3(ρ:Operand->Option V)(x:Operand):optO ρ (some x)=(ρ x).map some:=rfl
end
theorem jds(E:Env)(t:TypeId)(x:Operand):scOp E (.load t x)=false:=rfl
theorem jdt(E:Env)(x:Operand):scOp E (.move x)=false:=rfl
theorem jcb(E:Env)(x:Operand):scOp E (.assign x)=false:=rfl
theorem jp4(E:Env)(c x y:Operand):scOp E (.pick c x y)=false:=rfl
theorem jc0(E:Env)(o:BinOp)(t u:TypeId)(x y:Operand):scOp E (.binOp o t x y u)=false:=rfl
theorem jp5(E:Env)(o:UnOp)(t:TypeId)(x:Operand):scOp E (.unOp o t x)=false:=rfl
theorem jbC(E:Env)(t:TypeId)(x y:Operand):scOp E (.indexAddr t x y)=false:=rfl
theorem jbm(E:Env)(t:TypeId)(x:Operand)(f:Nat):scOp E (.fieldAddr t x f)=false:=rfl
theorem jjb(E:Env)(x:Operand)(i:Nat):scOp E (.extract x i)=false:=rfl
theorem jc1(E:Env)(t:TypeId)(x y:Operand):scOp E (.store t x y)=true:=rfl
theorem jnz(E:Env)(t:Tmp)(as:Array Operand)(ts:Array TypeId):scOp E (.call ⟨.value (.tmp t),as,ts⟩)=true:=rfl
theorem jdu(t:TypeId)(x:Operand):jaO (.load t x)=true:=rfl
theorem jdv(x:Operand):jaO (.move x)=false:=rfl
theorem jcc(x:Operand):jaO (.assign x)=false:=rfl
theorem jp6(c x y:Operand):jaO (.pick c x y)=false:=rfl
theorem jc2(o:BinOp)(t u:TypeId)(x y:Operand):jaO (.binOp o t x y u)=false:=rfl
theorem jp7(o:UnOp)(t:TypeId)(x:Operand):jaO (.unOp o t x)=false:=rfl
theorem jbD(t:TypeId)(x y:Operand):jaO (.indexAddr t x y)=false:=rfl
theorem jbn(t:TypeId)(x:Operand)(f:Nat):jaO (.fieldAddr t x f)=false:=rfl
theorem jjc(x:Operand)(i:Nat):jaO (.extract x i)=false:=rfl
theorem jc3(t:TypeId)(x y:Operand):jaO (.store t x y)=false:=rfl
theorem jdw(c:Call):jaO (.call c)=false:=rfl
theorem jbS(E:Env)(T:Tm)(s:S)(t:TypeId)(x:Operand):jbp E (jaP E T) s (.load t x)=(jaP E T x).bind (jaF E s.heap t):=rfl
theorem jk6(h:List AObj)(d b off len cap:Nat)(ex:HCap)(cs:List V)(t:TypeId)(hb:h[b]? = some (.cells cs t))(hl:len<=cap):jaL h (d+1) (.hsl b off len cap ex)=((cs.drop off).mapM (jaL h d)).map λc=>.row c len .unk:=by
 show(match h[b]? with
  |some (.cells cs _)=>if len<=cap then((cs.drop off).mapM (jaL h d)).map (λc=>V.row c len .unk)else none
  |_=>none)=_
 rw[hb];exact Kj hl
def jbJ:Nat->Code->Code
 |0,c=>c
 |k+1,.seq _ b=>jbJ k b
 |_+1,_=>.skip
def jaC(F:Go.Func):Code:=F.body.getD .skip
section
variable {E:Env}{m:Bool}{T:Tm}{U:S}
def jp8(E:Env)(t:TypeId)(v i:V):Option V :=
  match E.P.underlying t,v,i with
  |some .string,.str s,.int _ n=>if 0<=n/\n<s.length then some (.int .u8 (s.getD n.toNat 0).toNat)else none
  |some (.array len e),.agg cs,.int _ n=>if 0<=n/\n<len then(sz E e).bind λs=>(aggT E e).bind λg=>jgH g s cs (n.toNat*s)else none
  |_,_,_=>none
theorem jcd(t:TypeId)(x ix:Operand):opT E m T U (.index t x ix)=((jaP E T x).bind λv=>(jaP E T ix).bind λi=>jp8 E t v i).map λv=>(v,U) :=
 jbi rfl rfl (λ_ h=>by cases h)
theorem jbT {t:TypeId}(h:E.P.underlying t=some .string)(s:List UInt8)(k:IntKind)(n:Int):jp8 E t (.str s) (.int k n)=if 0<=n/\n<s.length then some (.int .u8 (s.getD n.toNat 0).toNat)else none:=by
 simp only[jp8,h]
theorem joD(a b:List UInt8):vBin .lss (.str a) (.str b)=some (.bool (Op.bytesLess a b)):=rfl
theorem jk7(us:Option TypeDesc)(cc:Bool)(a b:List UInt8):jbP us cc .lss (.str a) (.str b)=some (.bool (Op.bytesLess a b)):=by
 unfold jbP;rw[joD]
theorem jp9 {t e:TypeId}{n s:Nat}{cells:List V}(hu:E.P.underlying t=some (.array n e))(hs:sz E e=some s)(hl:cells.length=n*s):jb2 E t (.rptr cells) none none none=some (.row cells n .full):=by
 simp only[jb2,hu,hs,Kl,jeT,ja4,Nat.zero_mul,Q6,Nat.sub_zero,Km];rw[<- hl,Jp]
def jqa(E:Env)(t:TypeId)(f:Nat)(v:V):Option V :=
  match E.P.underlying t,v with
  |some (.struct fields),.agg cs=>(fields[f]?).bind λfd=>(sz E fd.type).bind λs=>(aggT E fd.type).bind λg=>jgH g s cs fd.offset
  |_,_=>none
theorem jk8(t:TypeId)(x:Operand)(f:Nat):opT E m T U (.field t x f)=((jaP E T x).bind (jqa E t f)).map λv=>(v,U) :=
 jbi rfl rfl (λ_ h=>by cases h)
def nilO(E:Env):V->Option V
 | .ptr b o=>some (.ptr b o)
 | .rptr cs=>some (.rptr cs)
 | .meth name r=>(jfT E r name).map λ_=>.meth name r
 |_=>none
theorem jah(x:Operand):opT E m T U (.nilCheck x)=((jaP E T x).bind (nilO E)).map λv=>(v,U) :=
 jbi rfl rfl (λ_ h=>by cases h)
theorem jap(b o:Nat):nilO E (.ptr b o)=some (.ptr b o):=rfl
theorem K3:type_of% (And.intro @jah (@jap)):=And.intro @jah (@jap)
theorem jk9(a:List UInt8):Op.bytesLess a a=false:=by
 induction a with
 |nil=>rfl
 |cons x r ih=>simp[Op.bytesLess,ih]
end
theorem jeG:∀ws:List (List UInt8),V.closed.closedL (ws.map V.str)=true
 | []=>rfl
 |w::ws=>by simp only[K7,V.closed.closedL,V.closed,J6];exact jeG ws
theorem jdf(ws:List (List UInt8))(i:Nat):(ws.map V.str)[i]? = if i<ws.length then some (V.str (ws.getD i []))else none:=by
 rw[J4];by_cases h:i<ws.length
 ·simp[h]
 ·simp[h]
section
variable {E:Env}{T:Tm}{U:S}
def rowO(E:Env)(t:TypeId)(len:Nat)(ps:List (Nat × V)):Option V:=(jfE E t).bind λe=>(sz E e).bind λs =>
      (if len*s=0 then some (.agg [])else ja8 E e).bind λz =>
      if len*s<=2^24/\(z.cells.length=s\/len*s=0)then
        (jei (λi=>some (i*s,s)) (List.replicate len z.cells).flatten ps).map λcs=>.row cs len .full
      else none
theorem jaq(t:TypeId)(len:Nat)(parts:Array (Nat × Operand)):opT E false T U (.buildSlice t len parts)=(jcs (jaP E T) parts.toList).bind λps=>(rowO E t len ps).map λv=>(v,U):=by
 unfold opT rowO;simp only[jba,jbp,jbs,Bool.false_and,Kr,Kq];cases jcs (jaP E T) parts.toList with
 |none=>rfl
 | some ps =>
  simp only[Kl];cases jfE E t with
  |none=>rfl
  | some e =>
   simp only[Kl];cases sz E e with
   |none=>rfl
   | some s =>
    simp only[Kl];generalize (if len*s=0 then some (V.agg [])else ja8 E e)=oz;cases oz with
    |none=>rfl
    |some z =>
     simp only[Kl];split
     ·cases jei (λi=>some (i*s,s)) (List.replicate len z.cells).flatten ps<;>rfl
     ·rfl
end
theorem jan {L:List AObj}{p:Nat}{x:AObj}(hp:L[p]? = some x):p<L.length:=by
 rcases Qm p L.length with h|h
 ·exact h
 ·rw[Ql h]at hp;simp at hp
theorem jaG {L:List AObj}{p:Nat}{x:AObj}(hp:L[p]? = some x)(X:List AObj):(L++X)[p]? = some x:=by
 rw[Ki (jan hp)];exact hp
theorem jhy {L:List AObj}{p:Nat}{x:V}{t:TypeId}(hp:L[p]? = some (.cells [x] t)):(jab L 1 (.ptr p 0)).bind (·[0]?)=some x:=by
 rw[YA,hp];rfl
theorem joE(f:FuncId)(a b:List V):(V.func f a b).cells=[.func f a b]:=rfl
theorem Qp(t:TypeId)(x:Operand):jbg (.load t x)=false:=rfl
theorem Qs(t:TypeId)(x y:Operand):jbg (.store t x y)=false:=rfl
theorem Qv(x:Operand):jbg (.move x)=false:=rfl
theorem QH(o:BinOp)(t u:TypeId)(x y:Operand):jbg (.binOp o t x y u)=false:=rfl
theorem QI(o:BinOp)(t u:TypeId)(x y:Operand):jpq (.binOp o t x y u)=false:=rfl
theorem QP(t:TypeId)(x y:Operand):jbg (.indexAddr t x y)=false:=rfl
theorem QR(t:TypeId)(x y:Operand):jpr (.indexAddr t x y)=false:=rfl
theorem QT(t:TypeId)(x:Operand)(f:Nat):jbg (.fieldAddr t x f)=false:=rfl
theorem QV(t:TypeId)(x:Operand)(f:Nat):jpr (.fieldAddr t x f)=false:=rfl
theorem Q2(c:Call):jpq (.call c)=false:=rfl
theorem Q3(c:Call):jpr (.call c)=false:=rfl
def regO(id:Nat):Code->Option (Array Oper)
 | .region i ops true=>if i=id then some ops else none
 | .seq a b=>(regO id a).or (regO id b)
 | .cond _ a b=>(regO id a).or (regO id b)
 | .block _ c=>regO id c
 | .loop c=>regO id c
 | .scope c=>regO id c
 |_=>none
def regB(id:Nat)(c:Code):Code:=.region id ((regO id c).getD #[]) true
theorem je8 {E:Env}{t e:TypeId}(hu:E.P.underlying t=some (.slice e))(c:Bool):binO E t c .eql (some .nilsl) (some .nilsl)=some (.bool true):=by
 show jgI E t c .eql .nilsl .nilsl=_;rw[jgn (by rfl),hu];rfl
theorem jdn {E:Env}{t e:TypeId}(hu:E.P.underlying t=some (.slice e))(c:Bool)(cs:List V)(n:Nat)(q:RCap):binO E t c .eql (some (.row cs n q)) (some .nilsl)=some (.bool false):=by
 show jgI E t c .eql (.row cs n q) .nilsl=_;rw[jgn (by rfl),hu];rfl
theorem jla(b off len cap:Nat)(q:HCap):(V.hsl b off len cap q).cells=[.hsl b off len cap q]:=rfl
theorem jjd(b off len cap:Nat)(q:HCap):(V.hsl b off len cap q).isCell=true:=rfl
def regA(id:Nat):Code->Option Code
 | .region i ops d=>if i=id then some (.region i ops d)else none
 | .seq a b=>(regA id a).or (regA id b)
 | .cond _ a b=>(regA id a).or (regA id b)
 | .block _ c=>regA id c
 | .loop c=>regA id c
 | .scope c=>regA id c
 |_=>none
def regZ(id:Nat)(c:Code):Code:=(regA id c).getD .skip
theorem wrap_u64 {x:Int}(h1:0<=x)(h2:x<18446744073709551616):IntKind.u64.wrap x=x:=by
 show(let m:=x % (2^64:Int);if false && decide (m >= 2^63)then m-2^64 else m)=x;simp only[Bool.false_and,Kr,Kq];omega
def blkC(id:Nat):Code->Option Code
 | .block i c=>if i=id then some c else blkC id c
 | .seq a b=>(blkC id a).or (blkC id b)
 | .cond _ a b=>(blkC id a).or (blkC id b)
 | .loop c=>blkC id c
 | .scope c=>blkC id c
 |_=>none
def jeH(id:Nat)(c:Code):Code:=match blkC id c with
 |some (.loop c)=>c
 |_=>.skip
theorem jdQ {E:Env}{fn:FuncId}{rnd:Option Nat}{n:Nat}{Q:Post}{ks:List Kt}{T:Tm}{D:List DE}{U:S}(stop:Nat)(id:Nat)(l:List Oper)(h:(id==stop)=false):G E fn rnd n Q ks (.region id l.toArray false) T D U=GL E fn rnd n Q ks (E.mutb fn id) l.toArray l T D U:=rfl
def jdE:V->Option Nat
 | .hsl b _ _ _ _=>some b
 |_=>none
def StkV(h:List AObj)(t:TypeId)(w:Nat)(v:V)(n:Nat)(xs:List V):Prop :=
 xs.length=n*w/\((v=.nilsl/\n=0)\/∃b cap cs,v=.hsl b 0 n cap (.grow w)/\h[b]? = some (.cells cs t)/\n<=cap/\cap*w<=cs.length/\cs.take (n*w)=xs)
theorem StkV.nil(h:List AObj)(t:TypeId)(w:Nat):StkV h t w .nilsl 0 []:=⟨ae,.inl ⟨rfl,rfl⟩⟩
theorem StkV.move {h h':List AObj}{t:TypeId}{w n:Nat}{v:V}{xs:List V}(s:StkV h t w v n xs)(hq:∀b,jdE v=some b->h'[b]? = h[b]?):StkV h' t w v n xs:=by
 obtain⟨hl,⟨rfl,rfl⟩|⟨b,cap,cs,rfl,hb,h1,h2,h3⟩⟩:=s
 ·exact⟨hl,.inl ⟨rfl,rfl⟩⟩
 ·exact⟨hl,.inr ⟨b,cap,cs,rfl,by rw[hq b rfl];exact hb,h1,h2,h3⟩⟩
theorem StkV.lt {h:List AObj}{t:TypeId}{w n:Nat}{v:V}{xs:List V}(s:StkV h t w v n xs){b:Nat}(hb:jdE v=some b):b<h.length:=by
 obtain⟨hl,⟨rfl,rfl⟩|⟨b',cap,cs,rfl,hb',h1,h2,h3⟩⟩:=s
 ·simp[jdE]at hb
 ·simp only[jdE,Ke]at hb;subst hb;exact(K4.1 hb').1
theorem StkV.cells {h:List AObj}{t:TypeId}{w n:Nat}{v:V}{xs:List V}(s:StkV h t w v n xs):v.cells=[v]/\v.isCell=true:=by
 obtain⟨hl,⟨rfl,rfl⟩|⟨b',cap,cs,rfl,hb',h1,h2,h3⟩⟩:=s<;>exact⟨rfl,rfl⟩
theorem StkV.len {h:List AObj}{t:TypeId}{w n:Nat}{v:V}{xs:List V}(s:StkV h t w v n xs)(e:TypeId):ja9 (some (.slice e)) v=some (.int .i64 n):=by
 obtain⟨hl,⟨rfl,rfl⟩|⟨b',cap,cs,rfl,hb',h1,h2,h3⟩⟩:=s<;>rfl
theorem StkV.push {E:Env}{L:List AObj}{ts:List Nat}{t ty ty2:TypeId}{w n nb:Nat}{v y:V}{xs new:List V}(s:StkV L t w v n xs)(he:jfE E ty=some t)(hs:sz E t=some w)(hz:jhm E t=some w)(hb:bys E t=some nb)(hu:∃e2,E.P.underlying ty2=some (.slice e2))
  (hw:0<w) (hlim:(n+1)*nb<=lim/\n+1<=lim) (hy:vLen y=some 1) (hc:jaT L w 1 y=some new) (hnl:new.length=w) (hcell:new.all V.isCell=true) :
  ∃v' L',appO E true ⟨L,ts⟩ ty ty2 v y=some (v',⟨L',ts⟩)/\StkV L' t w v' (n+1) (xs++new)/\(∀q,q<L.length->jdE v ≠ some q->L'[q]? = L[q]?)/\L.length<=L'.length/\(jdE v'=jdE v\/jdE v'=some L.length):=by
 obtain⟨e2,hu⟩:=hu;obtain⟨hl,hcase⟩:=s;have hlen:(xs++new).length=(n+1)*w:=by rw[Kk,hl,hnl,Jy,V5]
 unfold appO;simp only[he,hs,hb,hu,hz,hy,hc,Kl,Km]
 rcases hcase with⟨rfl,rfl⟩|⟨b,cap,cs,rfl,hbk,h1,h2,h3⟩
 ·have hx:xs=[]:=Q5 (by simpa using hl);subst hx;refine⟨.hsl L.length 0 1 1 (.grow w),L++[.cells new t],?_,⟨hlen,.inr ⟨L.length,1,new,rfl,ae,aa,aa,?_⟩⟩,λq hq _=>by rw[Ki hq],ae,.inr rfl⟩
  ·have h1:(1:Nat)*nb<=lim/\1<=lim:=by simpa using hlim
   simp[jbf,S.push,by simpa using h1]
  ·rw[Jk];exact Qu (by simp[hnl])
 ·have hblt:=(K4.1 hbk).1;by_cases hfit:n+1<=cap
  ·have hn1:(n+1)*w<=cap*w:=Ja w hfit;have hn2:n*w+w<=cs.length:=by rw[Jy,V5]at hn1;omega
   refine⟨.hsl b 0 (n+1) cap (.grow w),L.set b (.cells (jaa cs (n*w) new) t),?_,⟨hlen,.inr ⟨b,cap,jaa cs (n*w) new,rfl,by simp[hblt],hfit,?_,?_⟩⟩,λq hq hne=>by rw[Kg (λe=>hne (by simp[jdE,e]))],ae,.inl rfl⟩
   ·simp[jbf,hfit,jbZ,hbk,hnl,hn2,hcell,S.set]
   ·simp only[jaa,Kk,Qz,Jo,hnl];omega
   ·rw[jaa,h3,Jy,V5];have:(xs++new).length=n*w+w:=by rw[Kk,hl,hnl]
    rw[List.take_append_of_le_length aa];exact Qu aa
  ·have hcl:n*w<=cs.length:=by
    have:n*w<=cap*w:=Ja w h1;omega
   refine⟨.hsl L.length 0 (n+1) (n+1) (.grow w),(L.set b .dead)++[.cells (cs.take (n*w)++new) t],?_,⟨hlen,.inr ⟨L.length,n+1,cs.take (n*w)++new,rfl,ae,K8 _,?_,?_⟩⟩,λq hq hne => ?_,ae,.inr rfl⟩
   ·simp[jbf,hfit,hbk,hcl,hlim,hcell,S.push,S.set]
   ·rw[h3,hlen];exact K8 _
   ·rw[h3];exact Qu aa
   ·rw[Ki (by simpa using hq),Kg (λe=>hne (by simp[jdE,e]))]
theorem StkV.cut {E:Env}{h:List AObj}{t ty:TypeId}{w n:Nat}{v:V}{xs:List V}(s:StkV h t w v n xs)(hu:E.P.underlying ty=some (.slice t))(hs:sz E t=some w)(k:Nat)(hk:k<=n)(lo:Option V)(hlo:lo=none\/lo=some (.int .i64 0)) :
  ∃v',jb2 E ty v lo (some (.int .i64 k)) none=some v'/\StkV h t w v' k (xs.take (k*w))/\jdE v'=jdE v:=by
 obtain⟨hl,hcase⟩:=s;have hkw:k*w<=n*w:=Ja w hk;have hlen:(xs.take (k*w)).length=k*w:=by rw[Qz];omega
 have hlo2:∀m,ja4 lo 0 m=some 0:=by
  intro m
  rcases hlo with rfl|rfl<;>simp[ja4]
 rcases hcase with⟨rfl,rfl⟩|⟨b,cap,cs,rfl,hbk,h1,h2,h3⟩
 ·have:k=0:=by omega
  subst this;exact⟨.nilsl,by rcases hlo with rfl|rfl<;>simp[jb2,hu,hs,jcV,ja4],⟨hlen,.inl ⟨rfl,rfl⟩⟩,rfl⟩
 ·refine⟨.hsl b 0 k cap (.grow w),?_,⟨hlen,.inr ⟨b,cap,cs,rfl,hbk,aa,h2,?_⟩⟩,rfl⟩
  ·have h5:((k:Nat):Int)<=(cap:Int):=by omega
   rcases hlo with rfl|rfl<;>simp[jb2,hu,hs,jcV,ja4,h5,HCap.cut]
  ·rw[<- h3,List.take_take,Xy hkw]
def RdS(h:List AObj)(w:Nat)(u:V)(n:Nat)(xs:List V):Prop :=
 xs.length=n*w/\(∀e,ja9 (some (.slice e)) u=some (.int .i64 n))/\vLen u=some n/\∀i,i<n->∃p,jaw w u (.int .i64 i)=some p/\jab h w p=some ((xs.drop (i*w)).take w)
theorem RdS.row(h:List AObj)(w:Nat)(xs:List V)(n:Nat)(c:RCap)(hl:xs.length=n*w):RdS h w (.row xs n c) n xs:=by
 refine⟨hl,λe=>rfl,rfl,λi hi=>⟨.rptr (xs.drop (i*w)),?_,?_⟩⟩
 ·have h1:(i:Int)<(n:Int):=by omega
  simp[jaw,hi]
 ·have:(i+1)*w<=n*w:=Ja w hi;rw[Jy,V5]at this;simp only[jab,Jo];rw[Kj aa]
theorem RdS.nil(h:List AObj)(w:Nat):RdS h w .nilsl 0 []:=⟨ae,λe=>rfl,rfl,λi hi=>aa⟩
theorem RdS.hsl {h:List AObj}{w b off n cap:Nat}{ex:HCap}{cs:List V}{t:TypeId}(hb:h[b]? = some (.cells cs t))(hl:off+n*w<=cs.length):RdS h w (.hsl b off n cap ex) n ((cs.drop off).take (n*w)):=by
 refine⟨by rw[Qz,Jo];omega,λe=>rfl,rfl,λi hi=>⟨.ptr b (off+i*w),?_,?_⟩⟩
 ·simp[jaw,hi]
 ·have:(i+1)*w<=n*w:=Ja w hi;rw[Jy,V5]at this;simp only[jab,hb];rw[Kj aa,List.drop_take,List.take_take,List.drop_drop,Xy aa]
theorem StkV.rd {h:List AObj}{t:TypeId}{w n:Nat}{v:V}{xs:List V}(s:StkV h t w v n xs):RdS h w v n xs:=by
 obtain⟨hl,⟨rfl,rfl⟩|⟨b,cap,cs,rfl,hbk,h1,h2,h3⟩⟩:=s
 ·have hx:xs=[]:=Q5 (by simpa using hl);subst hx;exact .nil h w
 ·have:n*w<=cap*w:=Ja w h1;have:=RdS.hsl (w:=w) (n:=n) (cap:=cap) (ex:=.grow w) (off:=0) hbk aa;rw[Q6,h3]at this;exact this
theorem StkV.tail {E:Env}{h:List AObj}{t ty:TypeId}{w n:Nat}{v:V}{xs:List V}(s:StkV h t w v n xs)(hu:E.P.underlying ty=some (.slice t))(hs:sz E t=some w)(k:Nat)(hk:k<=n) :
  ∃u,jb2 E ty v (some (.int .i64 k)) none none=some u/\RdS h w u (n-k) (xs.drop (k*w)):=by
 obtain⟨hl,hcase⟩:=s;have hkw:k*w<=n*w:=Ja w hk
 rcases hcase with⟨rfl,rfl⟩|⟨b,cap,cs,rfl,hbk,h1,h2,h3⟩
 ·have:k=0:=by omega
  subst this;have hx:xs=[]:=Q5 (by simpa using hl);subst hx;exact⟨.nilsl,by simp[jb2,hu,hs,jcV,ja4],by simpa using RdS.nil h w⟩
 ·have hncw:n*w<=cap*w:=Ja w h1;have hnk:(n-k)*w=n*w-k*w:=Ud n k w;by_cases hc:k<cap\/k=0
  ·refine⟨.hsl b (0+k*w) (n-k) (cap-k) ((HCap.grow w).cut w),?_,?_⟩
   ·have h5:(k:Int)<=(n:Int):=by omega
    simp[jb2,hu,hs,jcV,ja4,hk,hc]
   ·have:=RdS.hsl (w:=w) (n:=n-k) (cap:=cap-k) (ex:=(HCap.grow w).cut w) (off:=0+k*w) hbk (by rw[hnk];omega)
    have e:(cs.drop (0+k*w)).take ((n-k)*w)=xs.drop (k*w):=by
     rw[<- h3,List.drop_take,hnk,Jn]
    rw[e]at this;exact this
  ·have hkn:k=n:=by omega
   have hcn:cap=n:=aa;subst hkn;refine⟨.row [] 0 .unk,?_,?_⟩
   ·simp[jb2,hu,hs,jcV,ja4,hc]
   ·have:=RdS.row h w [] 0 .unk ae;rw[Xh,Ut aa];exact this
def wpB(v:V)(b:Bool)(run skip:Prop):Prop :=
 match v with
 | .tup []=>skip
 | .bool c=>if c=b then run else skip
 |_=>False
theorem jbQ(b:Bool)(r s:Prop):wpB (.tup []) b r s=s:=rfl
theorem jct(r s:Prop):wpB (.bool true) true r s=r:=by simp[wpB]
theorem jcu(r s:Prop):wpB (.bool true) false r s=s:=by simp[wpB]
theorem jcv(r s:Prop):wpB (.bool false) true r s=s:=by simp[wpB]
theorem jcw(r s:Prop):wpB (.bool false) false r s=r:=by simp[wpB]
section
variable (E:Env)
def wpS2(mutb:Bool)(ops:Array Oper)(n:Nat)(K:S->Prop):List Oper->Tm->S->(Tm->S->Prop)->Prop
 | [],T,U,k=>k T U
 | ⟨dst,op,_,_,_,none⟩::l,T,U,k=>V1 (opT E mutb T U op) λp=>(scOp E op=true->K p.2)/\(jaO op=true->∀U',K U'->jbp E (jaP E T) U' op=some p.1) /\
  (match dst with
   |none=>wpS2 mutb ops n K l T p.2 k
   |some d=>d<n/\wpS2 mutb ops n K l (upd T d p.1) p.2 k)
 | ⟨some d,op,_,_,_,some (j,b)⟩::l,T,U,k=>V1 ((ops[j]?).bind (·.dst)) λdj=>d<n/\wpB (T dj) b
   (V1 (opT E mutb T U op) λp=>(scOp E op=true->K p.2)/\(jaO op=true->∀U',K U'->jbp E (jaP E T) U' op=some p.1)/\wpS2 mutb ops n K l (upd T d p.1) p.2 k)
   ((scOp E op=true->K U)/\wpS2 mutb ops n K l (upd T d (.tup [])) U k)
 |⟨none,_,_,_,_,some _⟩::_,_,_,_=>False
theorem jqb {rec:Task->Option Res}{mutb:Bool}{ops:Array Oper}{tmps:List V}{U U1:S}{o:Oper}{l:List Oper}{v:V}(h:(if Region.wanted o (jaJ ops tmps)then opV E rec mutb tmps U o.op else some (.tup [],U))=some (v,U1)) :
  dRun E rec mutb ops (o::l) tmps U=(match dRun E rec mutb ops l (putT tmps o.dst v) U1 with
   |some (tr,ss,tf,Uf)=>some ((tmps,v)::tr,if scOp E o.op then U1::ss else ss,tf,Uf)
   |none=>none):=by
 simp only[dRun,h];cases dRun E rec mutb ops l (putT tmps o.dst v) U1<;>rfl
def Made(ops:Array Oper)(mutb:Bool)(K:S->Prop)(o:Oper)(t:List V)(v:V):Prop :=
 Region.wanted o (jaJ ops t)=false\/∃(U0 U1:S),opV E (ev E) mutb t U0 o.op=some (v,U1)/\(jaO o.op=true->∀U',K U'->jbp E (jbr E t) U' o.op=some v)
theorem jje {mutb:Bool}{n:Nat}{ops:Array Oper}{K:S->Prop}:∀(l:List Oper) {T:Tm} {tmps:List V} {U:S} {k:Tm->S->Prop},Rep n T tmps->wpS2 E mutb ops n K l T U k ->
  ∃(tr:List (List V × V)) (ss:List S) (tf:List V) (Uf:S) (T':Tm),dRun E (ev E) mutb ops l tmps U=some (tr,ss,tf,Uf)/\Rep n T' tf/\k T' Uf/\(∀s∈ss,K s) /\
   ∀(j:Nat) (o:Oper),l[j]? = some o->∃(t:List V) (v:V),tr[j]? = some (t,v)/\Made E ops mutb K o t v
 | [],T,tmps,U,k,h,hw=>⟨[],[],tmps,U,T,rfl,h,hw,λs hs=>by simp at hs,λj o hj=>by simp at hj⟩
 | o::l,T,tmps,U,k,h,hw=>by
  have key:∃v U1 T1,(if Region.wanted o (jaJ ops tmps)then opV E (ev E) mutb tmps U o.op else some (.tup [],U))=some (v,U1)/\(scOp E o.op=true->K U1)/\Rep n T1 (putT tmps o.dst v)/\wpS2 E mutb ops n K l T1 U1 k/\Made E ops mutb K o tmps v:=by
   obtain⟨dst,op,t,p,a,g⟩:=o;cases g with
   |none =>
    simp only[wpS2]at hw;obtain⟨⟨v,U1⟩,hop,hK,hR,hw⟩:=hw;rw[jgV E h]at hop;simp only at hK hR hw;have hm:Made E ops mutb K ⟨dst,op,t,p,a,none⟩ tmps v:=.inr ⟨U,U1,hop,λhrd U' hU'=>by rw[h.eval];exact hR hrd U' hU'⟩;have hwant:Region.wanted ⟨dst,op,t,p,a,none⟩ (jaJ ops tmps)=true:=rfl;cases dst with
    |none=>exact⟨v,U1,T,by rw[Kj hwant];exact hop,hK,h,hw,hm⟩
    |some d=>exact⟨v,U1,_,by rw[Kj hwant];exact hop,hK,h.upd hw.1 v,hw.2,hm⟩
   | some jb =>
    obtain⟨j,b⟩:=jb;cases dst with
    |none=>exact hw.elim
    | some d =>
     simp only[wpS2]at hw;obtain⟨dj,hdj,hd,hw⟩:=hw
     have skip:(scOp E op=true->K U)/\wpS2 E mutb ops n K l (upd T d (.tup [])) U k->Region.wanted ⟨some d,op,t,p,a,some (j,b)⟩ (jaJ ops tmps)=false ->
       ∃v U1 T1,(if Region.wanted ⟨some d,op,t,p,a,some (j,b)⟩ (jaJ ops tmps)then opV E (ev E) mutb tmps U op else some (.tup [],U))=some (v,U1)/\(scOp E op=true->K U1)/\Rep n T1 (putT tmps (some d) v)/\wpS2 E mutb ops n K l T1 U1 k/\Made E ops mutb K ⟨some d,op,t,p,a,some (j,b)⟩ tmps v:=λhs hn =>
      ⟨.tup [],U,_,by rw[hn];rfl,hs.1,h.upd hd _,hs.2,.inl hn⟩
     unfold wpB at hw;split at hw
     ·rename_i htup;refine skip hw ?_;simp only[Region.wanted,jh9 h hdj htup];rfl
     ·rename_i c hc;have hy:=jh8 (ops:=ops) h hdj hc;by_cases hcb:c=b
      ·rw[Kj hcb]at hw;obtain⟨⟨v,U1⟩,hop,hK,hR,hw⟩:=hw;rw[jgV E h]at hop;simp only at hK hR hw
       have hwant:Region.wanted ⟨some d,op,t,p,a,some (j,b)⟩ (jaJ ops tmps)=true:=by
        simp only[Region.wanted,hy,hcb];simp
       exact⟨v,U1,_,by rw[Kj hwant];exact hop,hK,h.upd hd v,hw,.inr ⟨U,U1,hop,λhrd U' hU'=>by rw[h.eval];exact hR hrd U' hU'⟩⟩
      ·rw[Kh hcb]at hw;refine skip hw ?_;simp only[Region.wanted,hy];simp[hcb]
     ·exact hw.elim
  obtain⟨v,U1,T1,hstep,hK,hr1,hw1,hm⟩:=key;obtain⟨tr,ss,tf,Uf,T',h1,h2,h3,h4,h5⟩:=jje l hr1 hw1;refine⟨(tmps,v)::tr,if scOp E o.op then U1::ss else ss,tf,Uf,T',by rw[jqb E hstep,h1],h2,h3,?_,?_⟩
  ·intro s hs;by_cases hsc:scOp E o.op=true
   ·simp only[hsc,Km,Jh]at hs
    rcases hs with rfl|hs
    ·exact hK hsc
    ·exact h4 s hs
   ·simp only[hsc,Kr,Kq]at hs;exact h4 s hs
  ·intro j o' hj;cases j with
   |zero =>
    simp only[Jb,Ke]at hj;subst hj;exact⟨tmps,v,rfl,hm⟩
   |succ j =>
    simp only[Q8]at hj ⊢;exact h5 j o' hj
theorem jj9 {fn:FuncId}{rnd:Option Nat}{id:Nat}{ops:Array Oper}{K:S->Prop}{n:Nat}{T:Tm}{tmps:List V}{dfs:List DE}{U:S}{k:Tm->S->Prop}(hp:jcK E ops (jat [] ops.toList)=true)(hK:K U)
  (hr:Rep n T tmps) (hw:wpS2 E (E.mutb fn id) ops n K ops.toList T U k) :
  ∃tf Uf T',ja0 E (ev E) fn rnd (.region id ops true) tmps dfs U=some ⟨.normal,tf,dfs,Uf⟩/\Rep n T' tf/\k T' Uf:=by
 obtain⟨tr,ss,tf,Uf,T',h1,h2,h3,h4,h5⟩:=jje E (ops:=ops) ops.toList hr hw;refine⟨tf,Uf,T',?_,h2,h3⟩
 have hc:jeP E ops (jat [] ops.toList) tr (U::ss)=true:=by
  unfold jeP;rw[Qq];intro j hj;have hj:j<ops.size:=by simpa using hj
  have hoj:ops[j]? = some ops[j]:=Xc hj;have hoj2:ops.toList[j]? = some ops[j]:=by rw[Xp];exact hoj
  obtain⟨t,v,ht,hmade⟩:=h5 j ops[j] hoj2;simp only[hoj,ht];by_cases hs:scOp E ops[j].op=true
  ·simp[hs]
  by_cases hpc:jbO E ops[j].op=true
  ·simp[hpc]
  rcases hmade with hun|⟨U0,U1,hop,hrd⟩
  ·simp[hun]
  by_cases ha:(jba E (jbr E t) ops[j].op).isSome=true
  ·simp[ha]
  have ha':jba E (jbr E t) ops[j].op=none:=by simpa using ha
  have hread:=jhw (by simpa using hs) (by simpa using hpc) ha' hop
  have hreads:jaO ops[j].op=true:=by
   cases hx:jaO ops[j].op with
   |true=>rfl
   |false=>rw[jfs hx]at hread;simp at hread
  rw[Xi];right;rw[Qq];intro m hm;have hm:m<(U::ss).length:=by simpa using hm
  have hKm:K (U::ss)[m]:=by
   have:(U::ss)[m]∈U::ss:=Xb hm
   rcases Jh.1 this with h|h
   ·rw[h];exact hK
   ·exact h4 _ h
  rw[Kz hm];simp only[hrd hreads _ hKm,V.beq_refl,Xj]
 simp only[ja0,hp,Km,h1,hc]
end
section
variable {E:Env}{fn:FuncId}{rnd:Option Nat}{n:Nat}{Q:Post}{ks:List Kt}{m:Bool}{ops:Array Oper}{l:List Oper}{T:Tm}{D:List DE}{U:S}
def GQ(E:Env)(fn:FuncId)(rnd:Option Nat)(n:Nat)(Q:Post)(ks:List Kt)(m:Bool)(K:S->Prop)(ops:Array Oper)(l:List Oper)(T:Tm)(D:List DE)(U:S):Prop :=
 wpS2 E m ops n K l T U λT U=>(Kt.post E fn rnd n Q ks).norm T D U
def GQS(E:Env)(fn:FuncId)(rnd:Option Nat)(n:Nat)(Q:Post)(ks:List Kt)(m:Bool)(K:S->Prop)(ops:Array Oper)(l:List Oper)(T:Tm)(D:List DE)(d:Option Nat)(op:Op)(o:Option (V × S)):Prop :=
 V1 o λp=>(scOp E op=true->K p.2)/\(jaO op=true->∀U',K U'->jbp E (jaP E T) U' op=some p.1) /\
  (match d with
   |none=>GQ E fn rnd n Q ks m K ops l T D p.2
   |some d=>d<n/\GQ E fn rnd n Q ks m K ops l (upd T d p.1) D p.2)
theorem jqc {id:Nat}{l:List Oper}(hs:E.stab fn id=true)(K:S->Prop)(hK:K U)(hp:jcK E l.toArray (jat [] l)=true)(h:GQ E fn rnd n Q ks (E.mutb fn id) K l.toArray l T D U) :
  G E fn rnd n Q ks (.region id l.toArray true) T D U:=by
 unfold G wpC;simp only[hs];intro tmps hr;obtain⟨tf,Uf,T',h1,h2,h3⟩:=jj9 E (rnd:=rnd) (dfs:=D) hp hK hr h;exact⟨_,h1,T',h2,h3⟩
theorem jnA(K:S->Prop):GQ E fn rnd n Q ks m K ops [] T D U=G E fn rnd n Q ks .skip T D U:=rfl
theorem jdo(K:S->Prop)(d:Option Nat)(op:Op)(t:TypeId)(p:String)(a:Array Edge):GQ E fn rnd n Q ks m K ops (⟨d,op,t,p,a,none⟩::l) T D U=GQS E fn rnd n Q ks m K ops l T D d op (opT E m T U op):=rfl
theorem jbd(K:S->Prop)(d:Nat)(op:Op)(t:TypeId)(p:String)(a:Array Edge)(j:Nat)(b:Bool):GQ E fn rnd n Q ks m K ops (⟨some d,op,t,p,a,some (j,b)⟩::l) T D U =
  V1 ((ops[j]?).bind (·.dst)) λdj=>d<n/\wpB (T dj) b (GQS E fn rnd n Q ks m K ops l (T) D (some d) op (opT E m T U op)) ((scOp E op=true->K U)/\GQ E fn rnd n Q ks m K ops l (upd T d (.tup [])) D U):=by
 unfold GQ GQS;simp only[wpS2];refine congrArg (V1 _) (funext λdj => ?_);by_cases hd:d<n
 ·simp only[hd,true_and];rfl
 ·simp only[hd,false_and]
def jia(ops:Array Oper)(T:Tm)(j:Nat):Option V:=((ops[j]?).bind (·.dst)).map T
theorem jqd(K:S->Prop)(d:Nat)(op:Op)(t:TypeId)(p:String)(a:Array Edge)(j:Nat)(b:Bool)(h:jia ops T j=some (.bool b)):GQ E fn rnd n Q ks m K ops (⟨some d,op,t,p,a,some (j,b)⟩::l) T D U =
  (d<n/\GQS E fn rnd n Q ks m K ops l T D (some d) op (opT E m T U op)):=by
 rw[jbd];unfold jia at h;cases ho:(ops[j]?).bind (·.dst)with
 |none=>rw[ho]at h;cases h
 |some dj =>
  rw[ho]at h;simp only[Kw,Ke]at h;rw[Yy,h];cases b<;>simp only[jct,jcw]
theorem jmx(K:S->Prop)(d:Nat)(op:Op)(t:TypeId)(p:String)(a:Array Edge)(j:Nat)(b:Bool)(h:jia ops T j=some (.bool (!b))):GQ E fn rnd n Q ks m K ops (⟨some d,op,t,p,a,some (j,b)⟩::l) T D U =
  (d<n/\(scOp E op=true->K U)/\GQ E fn rnd n Q ks m K ops l (upd T d (.tup [])) D U):=by
 rw[jbd];unfold jia at h;cases ho:(ops[j]?).bind (·.dst)with
 |none=>rw[ho]at h;cases h
 |some dj =>
  rw[ho]at h;simp only[Kw,Ke]at h;rw[Yy,h];cases b<;>simp only[Q7,Jd,jcu,jcv]
theorem ja6(K:S->Prop)(d:Nat)(op:Op)(v:V)(U':S):GQS E fn rnd n Q ks m K ops l T D (some d) op (some (v,U'))=((scOp E op=true->K U')/\(jaO op=true->∀s,K s->jbp E (jaP E T) s op=some v)/\d<n/\GQ E fn rnd n Q ks m K ops l (upd T d v) D U'):=by
 simp only[GQS,Yy]
theorem ja7(K:S->Prop)(op:Op)(v:V)(U':S):GQS E fn rnd n Q ks m K ops l T D none op (some (v,U'))=((scOp E op=true->K U')/\(jaO op=true->∀s,K s->jbp E (jaP E T) s op=some v)/\GQ E fn rnd n Q ks m K ops l T D U'):=by
 simp only[GQS,Yy]
theorem jbG(K:S->Prop)(d:Option Nat)(op:Op)(c:Prop)[Decidable c](o:Option (V × S)):GQS E fn rnd n Q ks m K ops l T D d op (if c then o else none)=(c/\GQS E fn rnd n Q ks m K ops l T D d op o):=by simp only[GQS,jkZ]
theorem jbb(K:S->Prop)(d:Option Nat)(op:Op)(c:Prop)[Decidable c](o:Option (V × S)):GQS E fn rnd n Q ks m K ops l T D d op (if c then none else o)=(¬c/\GQS E fn rnd n Q ks m K ops l T D d op o):=by simp only[GQS,jh7]
theorem K0:type_of% (And.intro @jdo (And.intro @jbd (And.intro @ja6 (And.intro @ja7 (And.intro @jbG (And.intro @jbb (And.intro @jbQ (And.intro @jct (And.intro @jcu (And.intro @jcv (@jcw))))))))))):=And.intro @jdo (And.intro @jbd (And.intro @ja6 (And.intro @ja7 (And.intro @jbG (And.intro @jbb (And.intro @jbQ (And.intro @jct (And.intro @jcu (And.intro @jcv (@jcw))))))))))
end
section
variable (E:Env)(n:Nat)
def wpG(m:Bool)(masks:List Nat)(N sz:Nat)(St:Nat->S):List Oper->Nat->Nat->Tm->S->(Tm->S->Prop)->Prop
 | [],_,_,T,U,k=>k T U
 | ⟨dst,op,_,_,_,none⟩::l,j,r,T,U,k =>
  match jbg op with
  | true=>(∀c,c<2^sz->jcW masks j c->∃ty z,op=.alloc ty/\ja8 E ty=some z/\(St c).heap[N+r]? = some .resv/\St (c |||2^j)=(St c).set (N+r) (.cells z.cells ty)) /\
   (match dst with
    |none=>wpG m masks N sz St l (j+1) (r+1) T U k
    |some d=>d<n/\wpG m masks N sz St l (j+1) (r+1) (upd T d (.ptr (N+r) 0)) U k)
  | false=>V1 (opT E m T U op) λp=>(∀c,c<2^sz->jcW masks j c->opT E m T (St c) op=some (p.1,St (c |||2^j))) /\
   (match dst with
    |none=>wpG m masks N sz St l (j+1) r T p.2 k
    |some d=>d<n/\wpG m masks N sz St l (j+1) r (upd T d p.1) p.2 k)
 |⟨_,_,_,_,_,some _⟩::_,_,_,_,_,_=>False
theorem jib {m:Bool}{ops:Array Oper}{masks:List Nat}{N sz:Nat}{St:Nat->S}:∀(l:List Oper) (j r:Nat) {T:Tm} {tmps:List V} {U:S} {k:Tm->S->Prop},Rep n T tmps->wpG E n m masks N sz St l j r T U k ->
  ∃ (tr:List (List V × V)) (tf:List V) (Uf:S) (T':Tm),jfF E (ev E) m ops N l r tmps U=some (tr,tf,Uf)/\Rep n T' tf/\k T' Uf /\
   ∀(i:Nat) (o:Oper) (t:List V) (v:V),l[i]? = some o->tr[i]? = some (t,v)->∀c,c<2^sz->jcW masks (j+i) c->Region.wanted o (jaJ ops t)=true /\
    (jbg o.op=true->∃n ty z,o.op=.alloc ty/\v=.ptr n 0/\(St c).heap[n]? = some .resv/\ja8 E ty=some z/\St (c |||2^(j+i))=(St c).set n (.cells z.cells ty)) /\
    (jbg o.op=false->opV E (ev E) m t (St c) o.op=some (v,St (c |||2^(j+i))))
 | [],j,r,T,tmps,U,k,h,hw=>⟨[],tmps,U,T,rfl,h,hw,λi o t v hi=>by simp at hi⟩
 | ⟨dst,op,ty,p,a,none⟩::l,j,r,T,tmps,U,k,h,hw=>by
  simp only[wpG]at hw;have hjk:∀i,j+1+i=j+(i+1):=λi=>aa
  cases hal:jbg op with
  | true =>
   simp only[hal]at hw;obtain⟨hc,hw⟩:=hw
   have hput:∃T1,Rep n T1 (putT tmps dst (.ptr (N+r) 0))/\wpG E n m masks N sz St l (j+1) (r+1) T1 U k:=by
    cases dst with
    |none=>exact⟨T,h,hw⟩
    |some d=>exact⟨_,h.upd hw.1 _,hw.2⟩
   obtain⟨T1,hr1,hw1⟩:=hput;obtain⟨tr,tf,Uf,T',h1,h2,h3,h4⟩:=jib (ops:=ops) l (j+1) (r+1) hr1 hw1;refine⟨(tmps,.ptr (N+r) 0)::tr,tf,Uf,T',by simp only[jfF,Region.wanted,Km,hal,h1],h2,h3,λi o t v hi ht c hcl hall => ?_⟩;cases i with
   |zero =>
    simp only[Jb,Ke,K5]at hi ht;subst hi;obtain⟨rfl,rfl⟩:=ht;obtain⟨ty,z,e1,e2,e3,e4⟩:=hc c hcl hall;refine⟨rfl,λ_=>⟨N+r,ty,z,e1,rfl,e3,e2,e4⟩,?_⟩;intro hf;have hf:jbg op=false:=hf;rw[hal]at hf;cases hf
   |succ i =>
    simp only[Q8]at hi ht;have:=h4 i o t v hi ht c hcl (by rw[hjk];exact hall);rw[hjk]at this;exact this
  | false =>
   simp only[hal]at hw;obtain⟨⟨v0,U1⟩,hop,hc,hw⟩:=hw;rw[jgV E h]at hop;simp only at hc hw
   have hput:∃T1,Rep n T1 (putT tmps dst v0)/\wpG E n m masks N sz St l (j+1) r T1 U1 k:=by
    cases dst with
    |none=>exact⟨T,h,hw⟩
    |some d=>exact⟨_,h.upd hw.1 v0,hw.2⟩
   obtain⟨T1,hr1,hw1⟩:=hput;obtain⟨tr,tf,Uf,T',h1,h2,h3,h4⟩:=jib (ops:=ops) l (j+1) r hr1 hw1;refine⟨(tmps,v0)::tr,tf,Uf,T',by simp only[jfF,Region.wanted,Km,hal,Kr,Kq,hop,h1],h2,h3,λi o t v hi ht c hcl hall => ?_⟩;cases i with
   | zero =>
    simp only[Jb,Ke,K5]at hi ht;subst hi;obtain⟨rfl,rfl⟩:=ht;have hal:jbg op=false:=hal;refine⟨rfl,?_,λ_ => ?_⟩
    ·intro hf;have hf:jbg op=true:=hf;rw[hal]at hf;cases hf
    have:=hc c hcl hall;rw[jgV E h]at this;exact this
   |succ i =>
    simp only[Q8]at hi ht;have:=h4 i o t v hi ht c hcl (by rw[hjk];exact hall);rw[hjk]at this;exact this
 |⟨_,_,_,_,_,some _⟩::_,j,r,T,tmps,U,k,h,hw=>hw.elim
theorem jtz {fn:FuncId}{rnd:Option Nat}{id:Nat}{ops:Array Oper}{T:Tm}{D:List DE}{U:S}{Q:Post}(St:Nat->S){L:List AObj}{masks:List Nat}(hnp:jcK E ops (jat [] ops.toList)=false)
  (hs:jrG ops (jat [] ops.toList)=true) (hL:preL E ops.toList=some L) (hm:jat [] ops.toList=masks) (h0:St 0=⟨U.heap++List.replicate L.length .resv,U.toks⟩)
  (h:wpG E n (E.mutb fn id) masks U.heap.length ops.size St ops.toList 0 0 T ⟨U.heap++L,U.toks⟩ λT U'=>(∀c,(∀i,i<ops.size->c.testBit i=true)->St c=U')/\Q.norm T D U'):wpX E fn rnd n (.region id ops true) T D U Q:=λtmps hr=>by
 subst hm;obtain⟨tr,tf,Uf,T',h1,h2,⟨h3,h4⟩,h5⟩:=jib E n (ops:=ops) ops.toList 0 0 hr h
 have hsets:jnk E (ev E) (E.mutb fn id) ops (jat [] ops.toList) L.length U Uf tr St:=by
  refine⟨h0,λc hc _=>h3 c hc,λi o t v ho ht c hcl hall => ?_⟩;have:=h5 i o t v (by simpa using ho) ht c hcl (by rw[Jn];exact hall);rw[Jn]at this;rw[Kj this.1];exact this.2
 have hx:jga E (ev E) (E.mutb fn id) ops tmps U=some (tf,Uf):=by
  unfold jga;simp only[hs,Km,hL,h1];rw[Kj ⟨St,hsets⟩]
 refine⟨⟨.normal,tf,D,Uf⟩,?_,T',h2,h4⟩;simp only[ja0,hnp,Kr,Kq,hx,Kw]
end
section
variable {E:Env}{fn:FuncId}{rnd:Option Nat}{n:Nat}{Q:Post}{ks:List Kt}{T:Tm}{D:List DE}{U:S}{m:Bool}
def GZ(E:Env)(fn:FuncId)(rnd:Option Nat)(n:Nat)(Q:Post)(ks:List Kt)(m:Bool)(masks:List Nat)(N sz:Nat)(St:Nat->S)(l:List Oper)(j r:Nat)(T:Tm)(D:List DE)(U:S):Prop :=
 wpG E n m masks N sz St l j r T U λT U=>(∀c,(∀i,i<sz->c.testBit i=true)->St c=U)/\(Kt.post E fn rnd n Q ks).norm T D U
theorem ju3 {id:Nat}{l:List Oper}(hs:E.stab fn id=true)(St:Nat->S){L:List AObj}{masks:List Nat}(hnp:jcK E l.toArray (jat [] l)=false)(hso:jrG l.toArray (jat [] l)=true)
  (hL:preL E l=some L) (hm:jat [] l=masks) (h0:St 0=⟨U.heap++List.replicate L.length .resv,U.toks⟩) (h:GZ E fn rnd n Q ks (E.mutb fn id) masks U.heap.length l.length St l 0 0 T D ⟨U.heap++L,U.toks⟩) :
  G E fn rnd n Q ks (.region id l.toArray true) T D U:=by
 unfold G wpC;simp only[hs];exact jtz E n St hnp hso hL hm h0 h
def GZS(E:Env)(fn:FuncId)(rnd:Option Nat)(n:Nat)(Q:Post)(ks:List Kt)(m:Bool)(masks:List Nat)(N sz:Nat)(St:Nat->S)(l:List Oper)(j r:Nat)(T:Tm)(D:List DE)(d:Option Nat)(op:Op)(o:Option (V × S)):Prop :=
 V1 o λp=>(∀c,c<2^sz->jcW masks j c->opT E m T (St c) op=some (p.1,St (c |||2^j))) /\
  (match d with
   |none=>GZ E fn rnd n Q ks m masks N sz St l (j+1) r T D p.2
   |some d=>d<n/\GZ E fn rnd n Q ks m masks N sz St l (j+1) r (upd T d p.1) D p.2)
theorem jsO(masks:List Nat)(N sz:Nat)(St:Nat->S)(j r:Nat):GZ E fn rnd n Q ks m masks N sz St [] j r T D U=((∀c,(∀i,i<sz->c.testBit i=true)->St c=U)/\G E fn rnd n Q ks .skip T D U):=rfl
theorem jnB(masks:List Nat)(N sz:Nat)(St:Nat->S)(l:List Oper)(j r:Nat)(d:Nat)(ty t:TypeId)(p:String)(a:Array Edge):GZ E fn rnd n Q ks m masks N sz St (⟨some d,.alloc ty,t,p,a,none⟩::l) j r T D U =
  ((∀c,c<2^sz->jcW masks j c->∃ty' z,Op.alloc ty=.alloc ty'/\ja8 E ty'=some z/\(St c).heap[N+r]? = some .resv/\St (c |||2^j)=(St c).set (N+r) (.cells z.cells ty'))/\d<n/\GZ E fn rnd n Q ks m masks N sz St l (j+1) (r+1) (upd T d (.ptr (N+r) 0)) D U):=rfl
theorem ju4(masks:List Nat)(N sz:Nat)(St:Nat->S)(l:List Oper)(j r:Nat)(d:Option Nat)(op:Op)(t:TypeId)(p:String)(a:Array Edge)(ho:jbg op=false):GZ E fn rnd n Q ks m masks N sz St (⟨d,op,t,p,a,none⟩::l) j r T D U =
  GZS E fn rnd n Q ks m masks N sz St l j r T D d op (opT E m T U op):=by
 unfold GZ GZS;simp only[wpG,ho];rfl
theorem jnC(masks:List Nat)(N sz:Nat)(St:Nat->S)(l:List Oper)(j r:Nat)(d:Nat)(op:Op)(v:V)(U':S):GZS E fn rnd n Q ks m masks N sz St l j r T D (some d) op (some (v,U'))=((∀c,c<2^sz->jcW masks j c->opT E m T (St c) op=some (v,St (c |||2^j)))/\d<n/\GZ E fn rnd n Q ks m masks N sz St l (j+1) r (upd T d v) D U'):=by
 simp only[GZS,Yy]
theorem jnD(masks:List Nat)(N sz:Nat)(St:Nat->S)(l:List Oper)(j r:Nat)(op:Op)(v:V)(U':S):GZS E fn rnd n Q ks m masks N sz St l j r T D none op (some (v,U'))=((∀c,c<2^sz->jcW masks j c->opT E m T (St c) op=some (v,St (c |||2^j)))/\GZ E fn rnd n Q ks m masks N sz St l (j+1) r T D U'):=by
 simp only[GZS,Yy]
theorem jqe(masks:List Nat)(N sz:Nat)(St:Nat->S)(l:List Oper)(j r:Nat)(d:Option Nat)(op:Op)(c:Prop)[Decidable c](o:Option (V × S)):GZS E fn rnd n Q ks m masks N sz St l j r T D d op (if c then o else none)=(c/\GZS E fn rnd n Q ks m masks N sz St l j r T D d op o):=by simp only[GZS,jkZ]
theorem jnE(masks:List Nat)(N sz:Nat)(St:Nat->S)(l:List Oper)(j r:Nat)(d:Option Nat)(op:Op)(c:Prop)[Decidable c](o:Option (V × S)):GZS E fn rnd n Q ks m masks N sz St l j r T D d op (if c then none else o)=(¬c/\GZS E fn rnd n Q ks m masks N sz St l j r T D d op o):=by simp only[GZS,jh7]
theorem jiN(c i j:Nat):(c |||2^j).testBit i=(c.testBit i ||decide (j=i)):=by rw[Nat.testBit_or,Nat.testBit_two_pow]
end
open Go
section
variable (E:Env)
def wpM(mutb:Bool)(n:Nat)(K:S->Prop)(M:Nat):List Oper->Nat->Tm->S->(Tm->S->Prop)->Prop
 | [],_,T,U,k=>k T U
 | ⟨dst,op,_,_,_,none⟩::l,m,T,U,k=>V1 (opT E mutb T U op) λp=>(scOp E op=true->m+1<M->K p.2)/\(jaO op=true->∀U',K U'->jbp E (jaP E T) U' op=some p.1) /\
  (match dst with
   |none=>wpM mutb n K M l (if scOp E op then m+1 else m) T p.2 k
   |some d=>d<n/\wpM mutb n K M l (if scOp E op then m+1 else m) (upd T d p.1) p.2 k)
 |⟨_,_,_,_,_,some _⟩::_,_,_,_,_=>False
theorem jlb {mutb:Bool}{n:Nat}{ops:Array Oper}{K:S->Prop}{M:Nat}:∀(l:List Oper) (m:Nat) {T:Tm} {tmps:List V} {U:S} {k:Tm->S->Prop},Rep n T tmps->wpM E mutb n K M l m T U k ->
  ∃(tr:List (List V × V)) (ss:List S) (tf:List V) (Uf:S) (T':Tm),dRun E (ev E) mutb ops l tmps U=some (tr,ss,tf,Uf)/\Rep n T' tf/\k T' Uf/\(∀i s,ss[i]? = some s->m+i+1<M->K s) /\
   ∀(j:Nat) (o:Oper),l[j]? = some o->∃(t:List V) (v:V) (U0 U1:S),tr[j]? = some (t,v)/\opV E (ev E) mutb t U0 o.op=some (v,U1)/\(jaO o.op=true->∀U',K U'->jbp E (jbr E t) U' o.op=some v)
 | [],m,T,tmps,U,k,h,hw=>⟨[],[],tmps,U,T,rfl,h,hw,λi s hs=>by simp at hs,λj o hj=>by simp at hj⟩
 | ⟨dst,op,t,p,a,none⟩::l,m,T,tmps,U,k,h,hw=>by
  simp only[wpM]at hw;obtain⟨⟨v,U1⟩,hop,hK,hR,hw⟩:=hw;rw[jgV E h]at hop;simp only at hK hR hw
  have hput:∃T1,Rep n T1 (putT tmps dst v)/\wpM E mutb n K M l (if scOp E op then m+1 else m) T1 U1 k:=by
   cases dst with
   |none=>exact⟨T,h,hw⟩
   |some d=>exact⟨_,h.upd hw.1 v,hw.2⟩
  obtain⟨T1,hr1,hw1⟩:=hput;obtain⟨tr,ss,tf,Uf,T',h1,h2,h3,h4,h5⟩:=jlb l _ hr1 hw1;refine⟨(tmps,v)::tr,if scOp E op then U1::ss else ss,tf,Uf,T',by rw[jk1 E hop,h1],h2,h3,?_,?_⟩
  ·intro i s hs hM;by_cases hsc:scOp E op=true
   ·simp only[hsc,Km]at hs h4;cases i with
    |zero =>
     simp only[Jb,Ke]at hs;subst hs;exact hK hsc aa
    |succ i =>
     simp only[Q8]at hs;exact h4 i s hs aa
   ·simp only[hsc,Kr,Kq]at hs h4;exact h4 i s hs hM
  ·intro j o hj;cases j with
   |zero =>
    simp only[Jb,Ke]at hj;subst hj;exact⟨tmps,v,U,U1,rfl,hop,λhrd U' hU'=>by rw[h.eval];exact hR hrd U' hU'⟩
   |succ j =>
    simp only[Q8]at hj ⊢;exact h5 j o hj
 |⟨_,_,_,_,_,some _⟩::_,m,T,tmps,U,k,h,hw=>hw.elim
def jqf(ops:Array Oper)(masks:List Nat)(M:Nat):Bool :=
 (List.range ops.size).all λj=>match ops[j]? with
  |some o=>scOp E o.op || !jaO o.op ||(List.range (ops.size+1)).all λm=>decide (m<M) || !jgJ E ops masks j m
  |none=>true
theorem jnF {rec:Task->Option Res}{mutb:Bool}{ops:Array Oper}:∀(l:List Oper) {tmps:List V} {U:S} {tr:List (List V × V)} {ss:List S} {tf:List V} {Uf:S},dRun E rec mutb ops l tmps U=some (tr,ss,tf,Uf)->ss.length<=l.length
 | [],tmps,U,tr,ss,tf,Uf,h=>by simp only[dRun,Ke,K5]at h;rw[<- h.2.1];exact K8 _
 | o::l,tmps,U,tr,ss,tf,Uf,h=>by
  simp only[dRun]at h;split at h
  ·split at h
   ·rename_i h2;have:=jnF l h2;simp only[Ke,K5]at h;rw[<- h.2.1];split<;>simp<;>omega
   ·simp at h
  ·simp at h
theorem joF {fn:FuncId}{rnd:Option Nat}{id:Nat}{ops:Array Oper}{K:S->Prop}{M:Nat}{n:Nat}{T:Tm}{tmps:List V}{dfs:List DE}{U:S}{k:Tm->S->Prop}(hp:jcK E ops (jat [] ops.toList)=true)(hM:jqf E ops (jat [] ops.toList) M=true)(hK:0<M->K U)
  (hr:Rep n T tmps) (hw:wpM E (E.mutb fn id) n K M ops.toList 0 T U k) :
  ∃tf Uf T',ja0 E (ev E) fn rnd (.region id ops true) tmps dfs U=some ⟨.normal,tf,dfs,Uf⟩/\Rep n T' tf/\k T' Uf:=by
 obtain⟨tr,ss,tf,Uf,T',h1,h2,h3,h4,h5⟩:=jlb E (ops:=ops) ops.toList 0 hr hw;refine⟨tf,Uf,T',?_,h2,h3⟩;have hsl:=jnF E _ h1
 have hc:jeP E ops (jat [] ops.toList) tr (U::ss)=true:=by
  unfold jeP;rw[Qq];intro j hj0;have hj:j<ops.size:=by simpa using hj0
  have hoj:ops[j]? = some ops[j]:=Xc hj;have hoj2:ops.toList[j]? = some ops[j]:=by rw[Xp];exact hoj
  obtain⟨t,v,U0,U1,ht,hop,hrd⟩:=h5 j ops[j] hoj2;simp only[hoj,ht];by_cases hs:scOp E ops[j].op=true
  ·simp[hs]
  by_cases hpc:jbO E ops[j].op=true
  ·simp[hpc]
  by_cases ha:(jba E (jbr E t) ops[j].op).isSome=true
  ·simp[ha]
  have ha':jba E (jbr E t) ops[j].op=none:=by simpa using ha
  have hread:=jhw (by simpa using hs) (by simpa using hpc) ha' hop
  have hreads:jaO ops[j].op=true:=by
   cases hx:jaO ops[j].op with
   |true=>rfl
   |false=>rw[jfs hx]at hread;simp at hread
  rw[Xi];right;rw[Qq];intro m hm;have hm:m<(U::ss).length:=by simpa using hm
  have hm2:m<ops.size+1:=by simp at hm hsl;omega
  rw[Kz hm];cases hal:jgJ E ops (jat [] ops.toList) j m with
  |false=>rfl
  | true =>
   have hlt:m<M:=by
    unfold jqf at hM;rw[Qq]at hM;have h6:=hM j hj0;simp only[hoj,hs,hreads,Q7,Xx,Qq]at h6;have h7:=h6 m (by simpa using hm2);rw[hal]at h7;simpa using h7
   have hKm:K (U::ss)[m]:=by
    cases m with
    |zero=>exact hK aa
    |succ m =>
     simp only[Xd];have hms:m<ss.length:=by simp at hm;omega
     exact h4 m _ (Kz hms) aa
   simp only[hrd hreads _ hKm,V.beq_refl,Xj]
 simp only[ja0,hp,Km,h1,hc]
variable (fn:FuncId)(rnd:Option Nat)(n:Nat)(Q:Post)(ks:List Kt)
def GM(m:Bool)(K:S->Prop)(M:Nat)(l:List Oper)(c:Nat)(T:Tm)(D:List DE)(U:S):Prop :=
 wpM E m n K M l c T U λT U=>(Kt.post E fn rnd n Q ks).norm T D U
end
section
variable {E:Env}{fn:FuncId}{rnd:Option Nat}{n:Nat}{Q:Post}{ks:List Kt}{m:Bool}{T:Tm}{D:List DE}{U:S}
theorem jqg {id:Nat}{l:List Oper}(hs:E.stab fn id=true)(K:S->Prop)(M:Nat)(hK:0<M->K U)(hp:jcK E l.toArray (jat [] l)=true)(hM:jqf E l.toArray (jat [] l) M=true)(h:GM E fn rnd n Q ks (E.mutb fn id) K M l 0 T D U) :
  G E fn rnd n Q ks (.region id l.toArray true) T D U:=by
 unfold G wpC;simp only[hs];intro tmps hr;obtain⟨tf,Uf,T',h1,h2,h3⟩:=joF E (rnd:=rnd) (dfs:=D) hp hM hK hr h;exact⟨_,h1,T',h2,h3⟩
theorem jqh(K:S->Prop)(M c:Nat):GM E fn rnd n Q ks m K M [] c T D U=G E fn rnd n Q ks .skip T D U:=rfl
def GMS(E:Env)(fn:FuncId)(rnd:Option Nat)(n:Nat)(Q:Post)(ks:List Kt)(m:Bool)(K:S->Prop)(M:Nat)(l:List Oper)(c:Nat)(T:Tm)(D:List DE)(d:Option Nat)(op:Op)(o:Option (V × S)):Prop :=
 V1 o λp=>(scOp E op=true->c+1<M->K p.2)/\(jaO op=true->∀U',K U'->jbp E (jaP E T) U' op=some p.1) /\
  (match d with
   |none=>GM E fn rnd n Q ks m K M l (if scOp E op then c+1 else c) T D p.2
   |some d=>d<n/\GM E fn rnd n Q ks m K M l (if scOp E op then c+1 else c) (upd T d p.1) D p.2)
theorem jtA(K:S->Prop)(M:Nat)(l:List Oper)(c:Nat)(d:Option Nat)(op:Op)(t:TypeId)(p:String)(a:Array Edge):GM E fn rnd n Q ks m K M (⟨d,op,t,p,a,none⟩::l) c T D U=GMS E fn rnd n Q ks m K M l c T D d op (opT E m T U op):=rfl
theorem jka(K:S->Prop)(M:Nat)(l:List Oper)(c d:Nat)(op:Op)(v:V)(U':S):GMS E fn rnd n Q ks m K M l c T D (some d) op (some (v,U'))=((scOp E op=true->c+1<M->K U')/\(jaO op=true->∀s,K s->jbp E (jaP E T) s op=some v)/\d<n/\GM E fn rnd n Q ks m K M l (if scOp E op then c+1 else c) (upd T d v) D U'):=by
 unfold GMS V1;simp
theorem jkb(K:S->Prop)(M:Nat)(l:List Oper)(c:Nat)(op:Op)(v:V)(U':S):GMS E fn rnd n Q ks m K M l c T D none op (some (v,U'))=((scOp E op=true->c+1<M->K U')/\(jaO op=true->∀s,K s->jbp E (jaP E T) s op=some v)/\GM E fn rnd n Q ks m K M l (if scOp E op then c+1 else c) T D U'):=by
 unfold GMS V1;simp
theorem jmy(K:S->Prop)(M:Nat)(l:List Oper)(c:Nat)(d:Option Nat)(op:Op)(x:Prop)[Decidable x](o:Option (V × S)):GMS E fn rnd n Q ks m K M l c T D d op (if x then o else none)=(x/\GMS E fn rnd n Q ks m K M l c T D d op o):=by
 by_cases h:x<;>simp[h,GMS,V1]
theorem jkc(K:S->Prop)(M:Nat)(l:List Oper)(c:Nat)(d:Option Nat)(op:Op)(x:Prop)[Decidable x](o:Option (V × S)):GMS E fn rnd n Q ks m K M l c T D d op (if x then none else o)=(¬x/\GMS E fn rnd n Q ks m K M l c T D d op o):=by
 by_cases h:x<;>simp[h,GMS,V1]
end
structure Elt (E:Env) (t e:TypeId) (w nb:Nat):Prop where
 elem:jfE E t=some e
 size:sz E e=some w
 bytes:bys E e=some nb
 zeros:jhm E e=some w
 slice:E.P.underlying t=some (.slice e)
inductive GrowV (base:Nat) (ts:List Nat) (w:Nat):V->Nat->List V->Prop where
 |nil:GrowV base ts w .nilsl 0 []
 |full (cs:List V) (n:Nat) (hl:cs.length=n*w):GrowV base ts w (.row cs n .full) n cs
 |tok (cs:List V) (n k e:Nat) (hl:cs.length=n*w) (hb:base<=k) (ht:ts[k]? = some e):GrowV base ts w (.row cs n (.tok k e w)) n cs
def Ext(base:Nat)(ts ts':List Nat):Prop:=ts.length<=ts'.length/\∀k,k<base->ts'[k]? = ts[k]?
theorem Ext.rfl'(base:Nat)(ts:List Nat):Ext base ts ts:=⟨K8 _,λ_ _=>rfl⟩
theorem Ext.trans {b:Nat}{ts t2 t3:List Nat}(h:Ext b ts t2)(g:Ext b t2 t3):Ext b ts t3:=⟨Je h.1 g.1,λk hk=>by rw[g.2 k hk,h.2 k hk]⟩
theorem Ext.mono {b c:Nat}{ts ts':List Nat}(h:Ext c ts ts')(hb:b<=c):Ext b ts ts':=⟨h.1,λk hk=>h.2 k aa⟩
theorem GrowV.ext {base w n:Nat}{ts ts':List Nat}{v:V}{cs:List V}(g:GrowV base ts w v n cs)(h:Ext ts.length ts ts'):GrowV base ts' w v n cs:=by
 cases g with
 |nil=>exact .nil
 |full _ _ hl=>exact .full _ _ hl
 |tok _ _ k e hl hb ht =>
  refine .tok _ _ k e hl hb ?_;rw[h.2 k (K4.1 ht).1];exact ht
theorem GrowV.weakbase {base b2 w n:Nat}{ts:List Nat}{v:V}{cs:List V}(g:GrowV base ts w v n cs)(h:b2<=base):GrowV b2 ts w v n cs:=by
 cases g with
 |nil=>exact .nil
 |full _ _ hl=>exact .full _ _ hl
 |tok _ _ k e hl hb ht=>exact .tok _ _ k e hl (Je h hb) ht
theorem GrowV.cells {base w n:Nat}{ts:List Nat}{v:V}{cs:List V}(g:GrowV base ts w v n cs):v.cells=[v]/\v.isCell=true:=by cases g<;>exact⟨rfl,rfl⟩
theorem GrowV.lens {base w n:Nat}{ts:List Nat}{v:V}{cs:List V}(g:GrowV base ts w v n cs):cs.length=n*w:=by cases g<;>simp_all
theorem GrowV.len {base w n:Nat}{ts:List Nat}{v:V}{cs:List V}(g:GrowV base ts w v n cs)(e:TypeId):ja9 (some (.slice e)) v=some (.int .i64 n):=by cases g<;>rfl
theorem GrowV.vlen {base w n:Nat}{ts:List Nat}{v:V}{cs:List V}(g:GrowV base ts w v n cs):vLen v=some n:=by cases g<;>rfl
theorem GrowV.vcells {base w n:Nat}{ts:List Nat}{v:V}{cs:List V}(g:GrowV base ts w v n cs)(h:List AObj):jaT h w n v=some cs:=by
 cases g with
 |nil=>rfl
 |full _ _ hl=>simp only[jaT];rw[Kj aa,Qu aa]
 |tok _ _ k e hl hb ht=>simp only[jaT];rw[Kj aa,Qu aa]
theorem GrowV.isrow {base w n:Nat}{ts:List Nat}{v:V}{cs:List V}(g:GrowV base ts w v n cs)(h:0<n):∃q,v=.row cs n q:=by
 cases g with
 |nil=>omega
 |full _ _ hl=>exact⟨_,rfl⟩
 |tok _ _ k e hl hb ht=>exact⟨_,rfl⟩
theorem GrowV.append {E:Env}{t e t2:TypeId}{base w nb n m:Nat}(he:Elt E t e w nb)(hu:∃e2,E.P.underlying t2=some (.slice e2)){hp:List AObj}{ts:List Nat}{v y:V}{cs new:List V}(g:GrowV base ts w v n cs)(hb:base<=ts.length)(hy:vLen y=some m)(hc:jaT hp w m y=some new)(hnl:new.length=m*w)(hcell:new.all V.isCell=true)
  (hlim:(n+m)*nb<=lim/\n+m<=lim):∃v' ts',appO E false ⟨hp,ts⟩ t t2 v y=some (v',⟨hp,ts'⟩)/\GrowV base ts' w v' (n+m) (cs++new)/\Ext base ts ts':=by
 obtain⟨e2,hu⟩:=hu;unfold appO;simp only[he.elem,he.size,he.bytes,he.zeros,hu,hy,hc,Kl,Km];by_cases hm:m=0
 ·subst hm;have hn0:new=[]:=Q5 (by simpa using hnl);subst hn0;rw[Jl,Vh];refine⟨v,ts,?_,g,.rfl' _ _⟩;cases g<;>simp[jbf]
 have hl:(cs++new).length=(n+m)*w:=by rw[Kk,g.lens,hnl,Jy]
 cases g with
 | nil =>
  refine⟨.row new m (.tok ts.length 0 w),ts++[0],?_,?_,⟨ae,λk hk=>by rw[Ki aa]⟩⟩
  ·have h1:m*nb<=lim/\m<=lim:=by simpa using hlim
   simp[jbf,hm,h1]
  ·rw[Jn,Jk];exact .tok _ _ ts.length 0 hnl hb ae
 |full _ _ hl0 =>
  refine⟨.row (cs++new) (n+m) (.tok ts.length 0 w),ts++[0],?_,.tok _ _ ts.length 0 hl hb ae,⟨ae,λk hk=>by rw[Ki aa]⟩⟩;simp only[jbf];rw[Kh hm,Kj ⟨hlim.1,hlim.2,hl0,hcell⟩];simp
 |tok _ _ k e hl0 hbk ht =>
  have hkl:=(K4.1 ht).1;refine⟨.row (cs++new) (n+m) (.tok k (e+1) w),ts.set k (e+1),?_,.tok _ _ k (e+1) hl hbk (by simp[hkl]),⟨ae,λq hq=>by rw[Kg aa]⟩⟩;simp only[jbf];rw[Kh hm,Kj ⟨hlim.1,hlim.2,hl0,hcell⟩,Kj ⟨ht,trivial⟩]
theorem GrowV.push {E:Env}{t e t2:TypeId}{base w nb n:Nat}(he:Elt E t e w nb)(hu:∃e2,E.P.underlying t2=some (.slice e2)){hp:List AObj}{ts:List Nat}{v:V}{cs new:List V}{q:RCap}(g:GrowV base ts w v n cs)(hb:base<=ts.length)(hnl:new.length=w)(hcell:new.all V.isCell=true)
  (hlim:(n+1)*nb<=lim/\n+1<=lim):∃v' ts',appO E false ⟨hp,ts⟩ t t2 v (.row new 1 q)=some (v',⟨hp,ts'⟩)/\GrowV base ts' w v' (n+1) (cs++new)/\Ext base ts ts' :=
 GrowV.append he hu g hb rfl (by simp only[jaT];rw[Kj aa,Qu aa]) (by simpa using hnl) hcell hlim
theorem Wa:type_of% (Kd @Za (Kd @Zb (Kd @Zc (Kd @Zd (Kd @Ze (Kd @Zf (Kd @Zg (Kd @Zh (Kd @Zi (Kd @Zj (Kd @Zk (@Zl)))))))))))):=Kd @Za (Kd @Zb (Kd @Zc (Kd @Zd (Kd @Ze (Kd @Zf (Kd @Zg (Kd @Zh (Kd @Zi (Kd @Zj (Kd @Zk (@Zl)))))))))))
theorem Wb:type_of% (Kd @Zm (Kd @Zn (Kd @Zq (Kd @Zr (Kd @Zs (Kd @Zt (Kd @Zu (Kd @Zv (Kd @Zw (Kd @Zx (Kd @Zy (@Zz)))))))))))):=Kd @Zm (Kd @Zn (Kd @Zq (Kd @Zr (Kd @Zs (Kd @Zt (Kd @Zu (Kd @Zv (Kd @Zw (Kd @Zx (Kd @Zy (@Zz)))))))))))
theorem Wc:type_of% (Kd @ZA (Kd @ZB (Kd @ZC (Kd @ZD (Kd @ZE (Kd @ZF (Kd @ZG (Kd @ZH (Kd @ZI (Kd @ZJ (Kd @ZK (@ZL)))))))))))):=Kd @ZA (Kd @ZB (Kd @ZC (Kd @ZD (Kd @ZE (Kd @ZF (Kd @ZG (Kd @ZH (Kd @ZI (Kd @ZJ (Kd @ZK (@ZL)))))))))))
theorem Wd:type_of% (Kd @ZM (Kd @ZN (Kd @ZO (Kd @ZP (Kd @ZQ (Kd @ZR (Kd @ZS (Kd @ZT (Kd @ZU (Kd @ZV (Kd @ZW (@ZX)))))))))))):=Kd @ZM (Kd @ZN (Kd @ZO (Kd @ZP (Kd @ZQ (Kd @ZR (Kd @ZS (Kd @ZT (Kd @ZU (Kd @ZV (Kd @ZW (@ZX)))))))))))
theorem We:type_of% (Kd @ZY (Kd @ZZ (Kd @Z0 (Kd @Z1 (Kd @Z2 (Kd @Z3 (Kd @Z4 (Kd @Z5 (Kd @Z6 (Kd @Z7 (Kd @true_and (@Z8)))))))))))):=Kd @ZY (Kd @ZZ (Kd @Z0 (Kd @Z1 (Kd @Z2 (Kd @Z3 (Kd @Z4 (Kd @Z5 (Kd @Z6 (Kd @Z7 (Kd @true_and (@Z8)))))))))))
theorem Wf:type_of% (Kd @Z9 (Kd @jnx (Kd @Ya (Kd @jk5 (Kd @Yb (Kd @Yc (Kd @Yd (Kd @Ye (Kd @Yf (Kd @Yg (Kd @Yh (@Yi)))))))))))):=Kd @Z9 (Kd @jnx (Kd @Ya (Kd @jk5 (Kd @Yb (Kd @Yc (Kd @Yd (Kd @Ye (Kd @Yf (Kd @Yg (Kd @Yh (@Yi)))))))))))
theorem Wg:type_of% (Kd @Yj (Kd @Yk (Kd @Yl (Kd @Ym (Kd @Yn (Kd @Yo (Kd @Yp (Kd @Yq (Kd @Yr (Kd @Yt (Kd @Yu (@Yv)))))))))))):=Kd @Yj (Kd @Yk (Kd @Yl (Kd @Ym (Kd @Yn (Kd @Yo (Kd @Yp (Kd @Yq (Kd @Yr (Kd @Yt (Kd @Yu (@Yv)))))))))))
theorem Wh:type_of% (Kd @Yw (Kd @Vw.{0} (Kd @X4.{0} (Kd @Xe.{0} (Kd @Jb.{0} (Kd @Q8.{0} (Kd @Jk.{0} (Kd @Jz.{0} (Kd @Jl.{0} (Kd @Yx (Kd @Yy (@Xa)))))))))))):=Kd @Yw (Kd @Vw.{0} (Kd @X4.{0} (Kd @Xe.{0} (Kd @Jb.{0} (Kd @Q8.{0} (Kd @Jk.{0} (Kd @Jz.{0} (Kd @Jl.{0} (Kd @Yx (Kd @Yy (@Xa)))))))))))
theorem Wi:type_of% (Kd @Yz (Kd @YA (Kd @YB (Kd @YC (Kd @YD (Kd @YE (Kd @YF (Kd @YG (Kd @YH (Kd @YI (Kd @YJ (@YK)))))))))))):=Kd @Yz (Kd @YA (Kd @YB (Kd @YC (Kd @YD (Kd @YE (Kd @YF (Kd @YG (Kd @YH (Kd @YI (Kd @YJ (@YK)))))))))))
theorem Wj:type_of% (Kd @YL (Kd @YM (Kd @YN (Kd @YO (Kd @List.append_eq.{0} (Kd @YP (Kd @YQ (Kd @YR (Kd @YS (Kd @YT (Kd @YU (@YV)))))))))))):=Kd @YL (Kd @YM (Kd @YN (Kd @YO (Kd @List.append_eq.{0} (Kd @YP (Kd @YQ (Kd @YR (Kd @YS (Kd @YT (Kd @YU (@YV)))))))))))
theorem Wk:type_of% (Kd @YW (Kd @YX (Kd @Vh (Kd @YY (Kd @YZ (Kd @Y1 (Kd @Y2 (Kd @Y3 (Kd @Qi (Kd @Kr (Kd @Q9 (@and_self)))))))))))):=Kd @YW (Kd @YX (Kd @Vh (Kd @YY (Kd @YZ (Kd @Y1 (Kd @Y2 (Kd @Y3 (Kd @Qi (Kd @Kr (Kd @Q9 (@and_self)))))))))))
theorem Wl:type_of% (Kd @Y4 (Kd @Y5 (Kd @Xk (Kd @Int.cast_ofNat_Int (Kd @not_true_eq_false (Kd @decide_true (Kd @decide_false (Kd @true_implies (Kd @false_implies (Kd @Int.toNat_zero (Kd @Qn.{0} (@Qx.{0})))))))))))):=Kd @Y4 (Kd @Y5 (Kd @Xk (Kd @Int.cast_ofNat_Int (Kd @not_true_eq_false (Kd @decide_true (Kd @decide_false (Kd @true_implies (Kd @false_implies (Kd @Int.toNat_zero (Kd @Qn.{0} (@Qx.{0})))))))))))
theorem Wm:type_of% (Kd @Jn (Kd @Bool.false_and (Kd @Un (Kd @Y6 (Kd @Y7 (Kd @Y8 (Kd @Y9 (Kd @Qa (Kd @Qb (Kd @Qc (Kd @Xo (@Xx)))))))))))):=Kd @Jn (Kd @Bool.false_and (Kd @Un (Kd @Y6 (Kd @Y7 (Kd @Y8 (Kd @Y9 (Kd @Qa (Kd @Qb (Kd @Qc (Kd @Xo (@Xx)))))))))))
theorem Wn:type_of% (Kd @J6 (Kd @Xj (Kd @Ua (Kd @Qd (@Qe))))):=Kd @J6 (Kd @Xj (Kd @Ua (Kd @Qd (@Qe))))
theorem Kb : type_of% (Kd @Wa (Kd @Wb (Kd @Wc (Kd @Wd (Kd @We (Kd @Wf (Kd @Wg (Kd @Wh (Kd @Wi (Kd @Wj (Kd @Wk (Kd @Wl (Kd @Wm (@Wn)))))))))))))) := Kd @Wa (Kd @Wb (Kd @Wc (Kd @Wd (Kd @We (Kd @Wf (Kd @Wg (Kd @Wh (Kd @Wi (Kd @Wj (Kd @Wk (Kd @Wl (Kd @Wm (@Wn)))))))))))))
theorem Ka : type_of% (Kd @Wa (Kd @Wb (Kd @Wc (Kd @Wd (Kd @We (Kd @Wf (Kd @Wg (Kd @Wh (Kd @Wi (Kd @Wj (Kd @Wk (Kd @Wl (Kd @Wm (Kd @Wn (Kd @Zo (@Zp)))))))))))))))) := Kd @Wa (Kd @Wb (Kd @Wc (Kd @Wd (Kd @We (Kd @Wf (Kd @Wg (Kd @Wh (Kd @Wi (Kd @Wj (Kd @Wk (Kd @Wl (Kd @Wm (Kd @Wn (Kd @Zo (@Zp)))))))))))))))
theorem Va:type_of% (Kd @Jj.{0} (Kd @Ju.{0} (Kd @Q6.{0} (Kd @K9.{0} (Kd @J7.{0} (Kd @Ku.{0} (Kd @Qk.{0} (Kd @J8.{0} (Kd @List.set_cons_succ.{0} (Kd @jla (@jjd))))))))))):=Kd @Jj.{0} (Kd @Ju.{0} (Kd @Q6.{0} (Kd @K9.{0} (Kd @J7.{0} (Kd @Ku.{0} (Kd @Qk.{0} (Kd @J8.{0} (Kd @List.set_cons_succ.{0} (Kd @jla (@jjd))))))))))
theorem Vq:(∀(E:Env) (T:Tm) (t:Tmp),jaP E T (.tmp t)=some (T t))/\(∀(E:Env) (T:Tm) (v:Value),jaP E T (.const v)=jfS v)/\(∀(E:Env) (T:Tm) g,jaP E T (.global g)=E.gl g)/\(∀(E:Env) (T:Tm) f,jaP E T (.func f)=some (.func f [] []))/\(∀b,jfS (.bool b)=some (.bool b))/\(∀k n,jfS (.int k n)=some (.int k n))/\(∀s,jfS (.string s)=some (.str s.data.toList))/\jfS (.pointer none)=some .nilptr/\jfS (.slice none 0 0)=some .nilsl/\jfS .nilFunc=some .nilfn/\jfS .nilIface=some .nilif/\jfS (.map none)=some .nilmap/\(∀l t,argT l t=l.getD t (.tup []))/\(∀(E:Env) T h,resT E T h []=some [])/\(∀(E:Env) T h t r,resT E T h (.tmp t::r)=(resT E T h r).map (T t :: ·))/\(∀(E:Env) T h a t r,resT E T h (.cell a t::r)=(jaF E h t (T a)).bind λv=>(resT E T h r).map (v :: ·))/\(∀T,setT T []=T)/\(∀T t v r,setT T ((t,v)::r)=setT (upd T t v) r) :=
 ⟨λ_ _ _=>rfl,λ_ _ _=>rfl,λ_ _ _=>rfl,λ_ _ _=>rfl,λ_=>rfl,λ_ _=>rfl,λ_=>rfl,rfl,rfl,rfl,rfl,rfl,λ_ _=>rfl,λ_ _ _=>rfl,λ_ _ _ _ _=>rfl,λ_ _ _ _ _ _=>rfl,λ_=>rfl,λ_ _ _ _=>rfl⟩
theorem K1:type_of% (And.intro @Vq (@Va)):=And.intro @Vq (@Va)
section
variable {E:Env}{fn:FuncId}{rnd:Option Nat}{n:Nat}{Q:Post}{ks:List Kt}{T:Tm}{D:List DE}{U:S}
end
def newO(E:Env)(t:TypeId)(U:S):Option (V × S) :=
  match E.P.underlying t with
  |some (.map _ _)=>some (.map U.heap.length,U.push (.map [] 0))
  |_=>none
theorem jjf {E:Env}{m:Bool}{T:Tm}{U:S}(t:TypeId):opT E m T U (.makeMap t none)=newO E t U:=rfl
def jmz(E:Env)(t:TypeId)(ok:Bool)(mv kv:V)(U:S):Option V :=
  match E.P.underlying t,mv with
  | some (.map kt et),.map b =>
   match U.heap[b]? with
   |some (.map es _) =>
    if jdy E 8 kt kv then(ja8 E et).bind λz=>(jdh E kt kv es 0).map (jpo ok es z)
    else none
   |_=>none
  |_,_=>none
theorem jfw {E:Env}{m:Bool}{T:Tm}{U:S}(t:TypeId)(a b:Operand)(ok:Bool):opT E m T U (.lookup t a b ok)=((jaP E T a).bind λmv=>(jaP E T b).bind λkv=>jmz E t ok mv kv U).map λv=>(v,U):=by
 unfold opT;simp only[jba,jbp]
 change (match ((jaP E T a).bind λmv=>(jaP E T b).bind λkv=>jmz E t ok mv kv U)with|some v=>_|none=>_)=_
 cases((jaP E T a).bind λmv=>(jaP E T b).bind λkv=>jmz E t ok mv kv U)<;>rfl
section
variable {E:Env}{kt:TypeId}(hk:E.P.underlying kt=some .string)
include hk
end
def Chg(C:Nat->Prop)(H H':List AObj):Prop:=H.length<=H'.length/\∀j,j<H.length->¬C j->H'[j]? = H[j]?
theorem Chg.rfl'(C:Nat->Prop)(H:List AObj):Chg C H H:=⟨K8 _,λ_ _ _=>rfl⟩
theorem Chg.trans {C:Nat->Prop}{A B D:List AObj}(h:Chg C A B)(g:Chg C B D):Chg C A D:=⟨Je h.1 g.1,λj hj hc=>(g.2 j (Vi hj h.1) hc).trans (h.2 j hj hc)⟩
theorem Chg.mono {C D:Nat->Prop}{A B:List AObj}(h:Chg C A B)(hs:∀j,j<A.length->C j->D j):Chg D A B:=⟨h.1,λj hj hd=>h.2 j hj λhc=>hd (hs j hj hc)⟩
theorem Chg.app(C:Nat->Prop)(H l:List AObj):Chg C H (H++l):=⟨ae,λj hj _=>by rw[Ki hj]⟩
theorem Chg.set {C:Nat->Prop}{b:Nat}(hb:C b)(H:List AObj)(o:AObj):Chg C H (H.set b o):=⟨ae,λj _ hc=>by rw[Kg (λe=>hc (by rw[<- e];exact hb))]⟩
section
variable (E:Env)
structure Takes (M l:Nat) (C I:Nat->Prop) (xs:List V) (R:List V->S->Prop):Prop where
 step:∀(pre:List V) (x:V) (post:List V) (U:S),xs=pre++x::post->M<=U.heap.length->R pre U->∃U',jd9 E (ev E) (.yld l) [x] U=some (.bool true,U')/\R (pre++[x]) U'/\Chg C U.heap U'.heap
 stay:∀(pre:List V) (U U':S),R pre U->U'.toks=U.toks->M<=U.heap.length->U.heap.length<=U'.heap.length->(∀j,j<M->¬I j->U'.heap[j]? = U.heap[j]?)->R pre U'
structure Seqs (g:V) (D I:Nat->Prop) (P:List AObj->Prop) (xs:List V):Prop where
 sub:∀j,I j->D j
 stay:∀H H':List AObj,P H->(∀j,D j->H'[j]? = H[j]?)->P H'
 call:∃fid first cap,g=.func fid first cap/\∀(M l:Nat) (C:Nat->Prop) (R:List V->S->Prop) (U:S),P U.heap->(∀j,D j->j<M)->(∀j,C j->¬D j/\j<M)->M<=U.heap.length->Takes E M l C I xs R->R [] U ->
  ∃v U',ev E (.call fid (first++[.yld l]++cap) U)=some ⟨.ret,[v],[],U'⟩/\R xs U'/\Chg (λj=>C j\/I j) U.heap U'.heap
end
def okN(F:Go.Func)(n:Nat):Bool:=(F.name != "runtime.NumGoroutine") && decide (n<=F.ntmps)
theorem jqi {F:Go.Func}{n:Nat}(h:okN F n=true):F.name ≠ "runtime.NumGoroutine" := by simp[okN]at h;exact h.1
theorem jqj {F:Go.Func}{n:Nat}(h:okN F n=true):n<=F.ntmps:=by simp[okN]at h;exact h.2
theorem jak {E:Env}{f:FuncId}{args:List V}{v:V}{F:Go.Func}{body:Code}(hc:args.all V.closed=true)(hf:E.P.funcs[f]? = some F)(hb:F.body=some body)(hw:G E f none F.ntmps ⟨wpR E F.results.toList λv' U'=>jaL U'.heap jai v'=some v,λ_ _ _ _=>False,wpR E F.results.toList λv' U'=>jaL U'.heap jai v'=some v⟩ [] body (argT args) [] S.empty)(U:S)(hp:E.pure f=true:=by rfl)(hk:E.hook f=none:=by rfl)(ho:okN F args.length=true:=by kernel_rfl):jaf E (ev E) f args U=some (v,U):=jms hp hk hc hf hb (jqi ho) (jqj ho) hw U
theorem jaD {E:Env}{f:FuncId}{args:List V}{U:S}{k:V->S->Prop}{F:Go.Func}{body:Code}(hf:E.P.funcs[f]? = some F)(hb:F.body=some body)(hw:G E f none F.ntmps ⟨wpR E F.results.toList k,λ_ _ _ _=>False,wpR E F.results.toList k⟩ [] body (argT args) [] U)(hp:E.pure f=false:=by rfl)(hk:E.hook f=none:=by rfl)(hz:E.frz f=false:=by rfl)(hs:E.hookS f=none:=by rfl)(ho:okN F args.length=true:=by kernel_rfl):∃v U',jaf E (ev E) f args U=some (v,U')/\k v U':=ji9 hp hk hf hb (jqi ho) (jqj ho) hw hz hs
theorem jaI {E:Env}{f:FuncId}{args:List V}{U U':S}{v:V}{F:Go.Func}{body:Code}(hf:E.P.funcs[f]? = some F)(hb:F.body=some body)(hw:G E f none F.ntmps ⟨wpR E F.results.toList λv' U''=>v'=v/\U''=U',λ_ _ _ _=>False,wpR E F.results.toList λv' U''=>v'=v/\U''=U'⟩ [] body (argT args) [] U)(hp:E.pure f=false:=by rfl)(hk:E.hook f=none:=by rfl)(hz:E.frz f=false:=by rfl)(hs:E.hookS f=none:=by rfl)(ho:okN F args.length=true:=by kernel_rfl):jaf E (ev E) f args U=some (v,U'):=jbW hp hk hf hb (jqi ho) (jqj ho) hw hz hs
theorem jlc {E:Env}{f:FuncId}{args:List V}{F:Go.Func}{body:Code}(hf:E.P.funcs[f]? = some F)(hb:F.body=some body)(hw:G E f none F.ntmps ⟨wpR E F.results.toList λv _=>v=.bool true,λ_ _ _ _=>False,wpR E F.results.toList λv _=>v=.bool true⟩ [] body (argT args) [] S.empty)(ho:okN F args.length=true:=by kernel_rfl):Found E f args:=jmu hf hb (jqi ho) (jqj ho) hw
end Go.Ab
