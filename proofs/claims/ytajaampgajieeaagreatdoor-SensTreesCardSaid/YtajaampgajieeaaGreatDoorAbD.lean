/- Proved here: the rules by which a run is found without running: a logic over the evaluator. Conditions: each theorem's own. -/
import Derived.Test.YtajaampgajieeaaGreatDoorAbC
import Derived.Lib.Bytealg
set_option linter.unusedSimpArgs false
namespace Go.Ab
def je8(E:Env)(rec:Task->Option Res)(mutb:Bool)(ops:Array Oper):List Oper->List V->S->Option (List V × S)
 | [],tmps,U=>some (tmps,U)
 | o::l,tmps,U =>
  if Region.wanted o (jaG ops tmps)then
   match opV E rec mutb tmps U o.op with
   |some (v,U')=>je8 E rec mutb ops l (putT tmps o.dst v) U'
   |none=>none
  else je8 E rec mutb ops l (putT tmps o.dst (.tup [])) U
theorem jeR(E:Env)(rec:Task->Option Res)(mutb:Bool)(ops:Array Oper):∀(m n:Nat) (tmps:List V) (U:S),n+m=ops.size ->
  jdj E rec mutb ops (List.range' n m) tmps U=je8 E rec mutb ops (ops.toList.drop n) tmps U
 |0,n,tmps,U,h=>by
  have:ops.toList.drop n=[]:=List.drop_eq_nil_iff.2 (by simp;omega);rw[this];rfl
 | m+1,n,tmps,U,h=>by
  have hn:n<ops.toList.length:=by simp;omega
  rw[Qk hn];have h2:ops[n]? = some (ops.toList[n]):=by simp only[Array.getElem_toList];exact J6 (by simpa using hn)
  simp only[List.range'_succ,jdj,h2,je8];by_cases hw:Region.wanted ops.toList[n] (jaG ops tmps)=true
  ·simp only[hw,Kl];cases opV E rec mutb tmps U ops.toList[n].op with
   |none=>rfl
   |some p=>exact jeR E rec mutb ops m (n+1) _ _ aa
  ·simp only[hw,Ku,Kn];exact jeR E rec mutb ops m (n+1) _ _ aa
theorem jkB(E:Env)(rec:Task->Option Res)(fn:FuncId)(rnd:Option Nat)(id:Nat)(ops:Array Oper)(tmps:List V)(dfs:List DE)(U:S) :
  ja6 E rec fn rnd (.region id ops false) tmps dfs U=(je8 E rec (E.mutb fn id) ops ops.toList tmps U).map λp=>⟨.normal,p.1,dfs,p.2⟩:=by
 simp only[ja6];rw[show List.range ops.size=List.range' 0 ops.size from Tc,jeR _ _ _ _ _ _ _ _ aa];simp
theorem jlC(E:Env)(rec:Task->Option Res)(fn:FuncId)(rnd:Option Nat)(id:Nat)(l:List Oper)(tmps t':List V)(dfs:List DE)(U U':S)(h:je8 E rec (E.mutb fn id) l.toArray l tmps U=some (t',U')) :
  ja6 E rec fn rnd (.region id l.toArray false) tmps dfs U=some ⟨.normal,t',dfs,U'⟩:=by
 simp only[jkB,h,K9]
theorem jpw(E:Env)(rec:Task->Option Res)(mutb:Bool)(ops:Array Oper)(tmps:List V)(U:S)(dst:Option Tmp)(op:Op)(t:TypeId)(p:String)(a:Array Edge)(l:List Oper) :
  je8 E rec mutb ops (⟨dst,op,t,p,a,none⟩::l) tmps U=(match opV E rec mutb tmps U op with|some (v,U')=>je8 E rec mutb ops l (putT tmps dst v) U'|none=>none):=by
 simp[je8,Region.wanted]
theorem jna(E:Env)(rec:Task->Option Res)(mutb:Bool)(ops:Array Oper)(tmps:List V)(U:S)(dst:Option Tmp)(op:Op)(t:TypeId)(p:String)(a:Array Edge)(j:Nat)(b:Bool)(l:List Oper) :
  je8 E rec mutb ops (⟨dst,op,t,p,a,some (j,b)⟩::l) tmps U=(if jaG ops tmps j==some b then(match opV E rec mutb tmps U op with|some (v,U')=>je8 E rec mutb ops l (putT tmps dst v) U'|none=>none)else je8 E rec mutb ops l (putT tmps dst (.tup [])) U):=by
 simp[je8,Region.wanted]
theorem V.beq_refl:∀a:V,a.beq a=true
 | .bool a=>by simp[V.beq]
 | .int k n=>by simp[V.beq]
 | .str s=>by simp[V.beq]
 | .ptr x y=>by simp[V.beq]
 | .nilptr=>rfl
 | .rptr a=>by simp only[V.beq];exact beqL_refl a
 | .hsl _ _ _ _ _=>by simp[V.beq]
 | .row a n c=>by simp[V.beq,beqL_refl a]
 | .nilsl=>rfl
 | .func f a c=>by simp[V.beq,beqL_refl a,beqL_refl c]
 | .yld l=>by simp[V.beq]
 | .nilfn=>rfl
 | .iface t v=>by simp[V.beq,V.beq_refl v]
 | .nilif=>rfl
 | .agg a=>by simp only[V.beq];exact beqL_refl a
 | .tup a=>by simp only[V.beq];exact beqL_refl a
 | .nilmap=>rfl
 | .any=>rfl
 | .map _=>by simp[V.beq]
 | .meth t v=>by simp[V.beq,V.beq_refl v]
 where beqL_refl:∀a:List V,V.beq.beqL a a=true
 | []=>rfl
 |x::r=>by simp[V.beq.beqL,V.beq_refl x,beqL_refl r]
def jaP:Op->Bool
 | .load _ _=>true
 | .lookup _ _ _ _=>true
 | .convert _ _ _=>true
 |_=>false
def jit(E:Env)(ops:Array Oper)(masks:List Nat):Bool :=
 (List.range ops.size).all λj =>
  match ops[j]? with
  |some oj => !jaP oj.op ||(List.range ops.size).all λi =>
   match ops[i]? with
   |some oi => !scOp E oi.op ||(if i<j then(masks.getD j 0).testBit i else(masks.getD i 0).testBit j)
   |none=>false
  |none=>false
def jor(E:Env)(ops:Array Oper):Bool:=jcJ E ops (jat [] ops.toList) && jit E ops (jat [] ops.toList)
theorem jex {E:Env}{ρ:Operand->Option V}{U:S}{op:Op}(h:jaP op=false):jbh E ρ U op=none:=by
 cases op<;>first|rfl|(simp[jaP]at h;done)
theorem jg6 {E:Env}{rec:Task->Option Res}{mutb:Bool}{ops:Array Oper}:∀(l:List Oper) {tmps tf:List V} {U Uf:S},je8 E rec mutb ops l tmps U=some (tf,Uf) ->
  ∃tr ss,dRun E rec mutb ops l tmps U=some (tr,ss,tf,Uf)
 | [],tmps,tf,U,Uf,h=>by
  simp only[je8,Ki,Qg]at h;obtain⟨rfl,rfl⟩:=h;exact⟨[],[],rfl⟩
 | o::l,tmps,tf,U,Uf,h=>by
  simp only[je8]at h;simp only[dRun];by_cases hw:Region.wanted o (jaG ops tmps)=true
  ·simp only[hw,Kl]at h ⊢;cases hop:opV E rec mutb tmps U o.op with
   |none=>rw[hop]at h;simp at h
   |some p =>
    obtain⟨v,U1⟩:=p;simp only[hop]at h ⊢;obtain⟨tr,ss,hd⟩:=jg6 l h;rw[hd];exact⟨_,_,rfl⟩
  ·simp only[hw,Ku,Kn]at h ⊢;obtain⟨tr,ss,hd⟩:=jg6 l h;rw[hd];exact⟨_,_,rfl⟩
theorem jgC {E:Env}{rec:Task->Option Res}{mutb:Bool}{tmps:List V}{op:Op}{v:V}{U U':S}(hs:scOp E op=false)(hp:jby E op=false)
  (h0:jbK E (jbv E tmps) op=none) (h:opV E rec mutb tmps U op=some (v,U')):jbh E (jbv E tmps) U op=some v:=by
 unfold opV at h;rw[h0]at h;simp only at h;cases hr:jbh E (jbv E tmps) U op with
 |some u=>rw[hr]at h;simp at h;rw[h.1]
 | none =>
  exfalso
  rw[hr]at h;simp only at h;cases op
  case convert src dst x=>exact jgj hs hp h
  case call =>
   rename Call=>c
   obtain⟨callee,args,ats⟩:=c;cases callee with
   |invoke r n=>simp[scOp]at hs
   |value g=>cases g<;>simp_all[jby,scOp]
   |builtin b=>cases b<;>first|(simp[scOp]at hs;done)|(simp[jbG]at h;done)|exact jjF hs h
  all_goals first|(simp[scOp]at hs;done)|(simp[jbG]at h;done)|exact jgj hs h|(simp_all[scOp,jby];done)
theorem jji {E:Env}{rec:Task->Option Res}{mutb:Bool}{ops:Array Oper}{tmps tf:List V}{U Uf:S}{tr:List (List V × V)}{ss:List S}
  (ho:jit E ops (jat [] ops.toList)=true) (h:dRun E rec mutb ops ops.toList tmps U=some (tr,ss,tf,Uf)) :
  jeq E ops (jat [] ops.toList) tr (U::ss)=true:=by
 obtain⟨h1,h2,_,_,_,h6⟩:=jfo ops.toList h;unfold jeq;rw[Qq];intro j hj;have hj:j<ops.size:=by simpa using hj
 have hoj:ops[j]? = some ops[j]:=J6 hj;have hoj2:ops.toList[j]? = some ops[j]:=by rw[Xl];exact hoj
 obtain⟨t,v,ht,_,U1,hop,_⟩:=h6 j ops[j] hoj2;simp only[hoj,ht];by_cases hs:scOp E ops[j].op=true
 ·simp[hs]
 by_cases hp:jby E ops[j].op=true
 ·simp[hp]
 by_cases hw':¬Region.wanted ops[j] (jaG ops t)=true
 ·simp[hw']
 have hw:=Ux.1 hw';by_cases ha:(jbK E (jbv E t) ops[j].op).isSome=true
 ·simp[ha]
 have hs':scOp E ops[j].op=false:=by simpa using hs
 have hp':jby E ops[j].op=false:=by simpa using hp
 have ha':jbK E (jbv E t) ops[j].op=none:=by simpa using ha
 rw[hw,Kg rfl]at hop;have hread:=jgC hs' hp' ha' hop
 have hreads:jaP ops[j].op=true:=by
  cases hx:jaP ops[j].op with
  |true=>rfl
  |false=>rw[jex hx]at hread;simp at hread
 have hord:∀i oi,ops[i]? = some oi->scOp E oi.op=true->(if i<j then((jat [] ops.toList).getD j 0).testBit i else((jat [] ops.toList).getD i 0).testBit j)=true:=by
  intro i oi hi hsi;unfold jit at ho;rw[Qq]at ho;have:=ho j (by simpa using hj);simp only[hoj,hreads,Q8,Xq,Qq]at this
  have hi2:i<ops.size:=by
   rcases Ql i ops.size with h|h
   ·exact h
   ·rw[Uc h]at hi;simp at hi
  have:=this i (by simpa using hi2);simpa only[hi,hsi,Q8,Xq]using this
 simp only[hs',hp',hw,ha',Q8,Bool.or_self,Uq,Xq,Qq];intro m hm;have hm:m<(U::ss).length:=by simpa using hm
 by_cases hal':¬jfd E ops (jat [] ops.toList) j m=true
 ·simp[hal']
 have hal:=Ux.1 hal';rw[hal]
 have hall:∀i oi,ops[i]? = some oi->scOp E oi.op=true->(((jat [] ops.toList).getD j 0).testBit i=true->jaU E ops i<m)/\(((jat [] ops.toList).getD i 0).testBit j=true->m<=jaU E ops i):=by
  intro i oi hi hsi;unfold jfd at hal;rw[Qq]at hal
  have hi2:i<ops.size:=by
   rcases Ql i ops.size with h|h
   ·exact h
   ·rw[Uc h]at hi;simp at hi
  have:=hal i (by simpa using hi2);simp only[hi,hsi,Q8,Xq,Qt,Xe,Uv,Jq]at this;refine⟨λhb => ?_,λhb => ?_⟩
  ·rcases this.1 with h|h
   ·rw[hb]at h;simp at h
   ·exact h
  ·rcases this.2 with h|h
   ·rw[hb]at h;simp at h
   ·exact h
 have hcnt:cntO E ops.toList j=jaU E ops j:=rfl;have htot:ss.length=jaU E ops ops.size:=by rw[h2];unfold cntO jaU;simp
 have hm1:¬m<jaU E ops j:=by
  intro hlt;obtain⟨i,oi,hi,hio,hsi,he⟩:=jev (E:=E) ops m j hlt;have h3:=hord i oi hio hsi;rw[Kg hi]at h3;have:=(hall i oi hio hsi).1 h3;omega
 have hm2:¬jaU E ops j<m:=by
  intro hlt
  have hlen:jaU E ops j<jaU E ops ops.size:=by
   have:m<=ss.length:=by simp at hm;omega
   omega
  obtain⟨i,oi,hi,hio,hsi,he⟩:=jev (E:=E) ops (jaU E ops j) ops.size hlen
  have hij:¬i<j:=by
   intro hlt2;have:=jg2 (E:=E) ops hio hsi hlt2;omega
  have h3:=hord i oi hio hsi;rw[Ke hij]at h3;have:=(hall i oi hio hsi).2 h3;omega
 have hme:m=jaU E ops j:=aa
 have hget:(U::ss)[m]? = some (SS U ss (cntO E ops.toList j)):=by
  rw[hcnt,<- hme];unfold SS;rw[Kz hm];rfl
 rw[hget];simp only[hread,V.beq_refl,Xj]
theorem jnb {E:Env}{rec:Task->Option Res}{fn:FuncId}{rnd:Option Nat}{id:Nat}{ops:Array Oper}{tmps tf:List V}{dfs:List DE}{U Uf:S}(hd:jor E ops=true)
  (h:je8 E rec (E.mutb fn id) ops ops.toList tmps U=some (tf,Uf)):ja6 E rec fn rnd (.region id ops true) tmps dfs U=some ⟨.normal,tf,dfs,Uf⟩:=by
 unfold jor at hd;rw[Qt]at hd;obtain⟨tr,ss,hr⟩:=jg6 ops.toList h;simp only[ja6,hd.1,Kl,hr,jji hd.2 hr]
abbrev Tm:=Nat->V
def upd(T:Tm)(d:Nat)(v:V):Tm:=λt=>if t=d then v else T t
theorem Z7(T:Tm)(d:Nat)(v:V)(t:Nat):upd T d v t=if t=d then v else T t:=rfl
def Rep(n:Nat)(T:Tm)(l:List V):Prop:=l.length=n/\∀t,l.getD t (.tup [])=T t
theorem Rep.upd {n:Nat}{T:Tm}{l:List V}(h:Rep n T l){d:Nat}(hd:d<n)(v:V):Rep n (upd T d v) (l.set d v):=by
 refine⟨by simp[h.1],λt => ?_⟩;rw[Z7];have hl:=h.1;by_cases e:t=d
 ·subst e;simp[List.getD,hl,hd]
 ·simp only[e,Kn];rw[<- h.2 t];simp[List.getD,show ¬d=t from λh=>e h.symm]
def jaN(E:Env)(T:Tm):Operand->Option V
 | .tmp t=>some (T t)
 | .const v=>jgv v
 | .global g=>E.gl g
 | .func f=>some (.func f [] [])
theorem Rep.eval {E:Env}{n:Nat}{T:Tm}{l:List V}(h:Rep n T l):jbv E l=jaN E T:=by
 funext x
 cases x with
 |tmp t=>simp only[jbv,jaN,h.2 t]
 |const v=>rfl
 |global g=>rfl
 |func f=>rfl
def argT(vs:List V):Tm:=λt=>vs.getD t (.tup [])
theorem Rep.args(vs:List V)(n:Nat)(h:vs.length<=n):Rep n (argT vs) (vs++List.replicate (n-vs.length) (.tup [])):=by
 refine⟨by simp;omega,λt => ?_⟩;simp only[argT,List.getD];by_cases ht:t<vs.length
 ·rw[Kj ht]
 ·rw[Jv aa,Qo (l:=vs) aa];by_cases h2:t-vs.length<n-vs.length
  ·rw[List.getElem?_replicate];simp[h2]
  ·rw[Qo (by simpa using h2)]
def V1 {α:Type}(o:Option α)(k:α->Prop):Prop:=∃v,o=some v/\k v
theorem Yy {α:Type}(v:α)(k:α->Prop):V1 (some v) k=k v:=by simp[V1]
theorem jjJ {α:Type}(c:Prop)[Decidable c](a:Option α)(k:α->Prop):V1 (if c then a else none) k=(c/\V1 a k):=by
 by_cases h:c<;>simp[h,V1]
theorem jg7 {α:Type}(c:Prop)[Decidable c](a:Option α)(k:α->Prop):V1 (if c then none else a) k=(¬c/\V1 a k):=by
 by_cases h:c<;>simp[h,V1]
section
variable (E:Env)
noncomputable def opT(mutb:Bool)(T:Tm)(U:S)(op:Op):Option (V × S) :=
 match jbK E (jaN E T) op with
 |some v=>some (v,U)
 | none =>
  match jbh E (jaN E T) U op with
  |some v=>some (v,U)
  | none =>
   match op with
   | .call { callee:=.value g,args,.. } =>
    (jaN E T g).bind λgv=>(jb1 (jaN E T) args.toList).bind λas=>jeL E (ev E) gv as U
   | .call { callee:=.invoke x name,args,.. } =>
    (jaN E T x).bind λxv=>(jgV E xv name).bind λp=>(jb1 (jaN E T) args.toList).bind λas=>jah E (ev E) p.1 (p.2::as) U
   |op=>jbG E mutb (jaN E T) U op
def wpO(mutb:Bool)(T:Tm)(U:S)(op:Op)(k:V->S->Prop):Prop:=V1 (opT E mutb T U op) λp=>k p.1 p.2
theorem jjK {mutb:Bool}{n:Nat}{T:Tm}{l:List V}(h:Rep n T l){U:S}{op:Op}{k:V->S->Prop}(hw:wpO E mutb T U op k) :
  ∃v U',opV E (ev E) mutb l U op=some (v,U')/\k v U':=by
 obtain⟨⟨v,U'⟩,h1,h2⟩:=hw;refine⟨v,U',?_,h2⟩;unfold opV;rw[h.eval];exact h1
def jhx(v:V):Option Bool :=
 match v with
 | .bool b=>some b
 |_=>none
def Br(v:V)(A B:Prop):Prop:=V1 (jhx v) λb=>(b=true->A)/\(b=false->B)
theorem jnc(A B:Prop):Br (.bool true) A B=A:=by simp[Br,jhx,V1]
theorem jkC(A B:Prop):Br (.bool false) A B=B:=by simp[Br,jhx,V1]
theorem jve(v:V):Br v False False=False:=by simp only[Br,V1,eq_iff_iff,iff_false];rintro⟨b,_,h1,h2⟩;cases b;exact h2 rfl;exact h1 rfl
theorem jqZ(b:Bool)(A B:Prop):Br (.bool b) A B=((b=true->A)/\(b=false->B)):=by simp[Br,jhx,V1]
def Br3(v:V)(A B C:Prop):Prop:=(v=.tup []/\C)\/Br v A B
theorem jos(A B C:Prop):Br3 (.bool true) A B C=A:=by simp[Br3,jnc]
theorem jlD(A B C:Prop):Br3 (.bool false) A B C=B:=by simp[Br3,jkC]
theorem jot(b:Bool)(A B C:Prop):Br3 (.bool b) A B C=((b=true->A)/\(b=false->B)):=by simp[Br3,jqZ]
theorem jvf(A B C:Prop):Br3 (.tup []) A B C=C:=by simp[Br3,Br,jhx,V1]
theorem jtn(v:V):Br3 v False False False=False:=by simp only[Br3,jve,and_false,or_self]
theorem jhQ {T:Tm}{t:Nat}{v:V}(h:T t=v):upd T t v=T:=by
 funext x
 rw[Z7];by_cases e:x=t
 ·subst e;simp[h]
 ·simp[e]
def wpL (mutb:Bool)(n:Nat)(ops:Array Oper):List Oper->Tm->S->(Tm->S->Prop)->Prop
  | [],T,U,k=>k T U
  | ⟨dst,op,_,_,_,none⟩::l,T,U,k =>
    match dst with
    |none=>wpO E mutb T U op λ_ U'=>wpL mutb n ops l T U' k
    |some d=>d<n/\wpO E mutb T U op λv U'=>wpL mutb n ops l (upd T d v) U' k
  | ⟨dst,op,_,_,_,some (j,b)⟩::l,T,U,k =>
    V1 ((ops[j]?).bind (·.dst)) λdj=>dj<n/\Br3 (T dj)
      (match b with
        | true=>(match dst with
          |none=>wpO E mutb (upd T dj (.bool true)) U op λ_ U'=>wpL mutb n ops l (upd T dj (.bool true)) U' k
          |some d=>d<n/\wpO E mutb (upd T dj (.bool true)) U op λv U'=>wpL mutb n ops l (upd (upd T dj (.bool true)) d v) U' k)
        | false=>(match dst with
          |none=>wpL mutb n ops l (upd T dj (.bool true)) U k
          |some d=>d<n/\wpL mutb n ops l (upd (upd T dj (.bool true)) d (.tup [])) U k))
      (match b with
        | false=>(match dst with
          |none=>wpO E mutb (upd T dj (.bool false)) U op λ_ U'=>wpL mutb n ops l (upd T dj (.bool false)) U' k
          |some d=>d<n/\wpO E mutb (upd T dj (.bool false)) U op λv U'=>wpL mutb n ops l (upd (upd T dj (.bool false)) d v) U' k)
        | true=>(match dst with
          |none=>wpL mutb n ops l (upd T dj (.bool false)) U k
          |some d=>d<n/\wpL mutb n ops l (upd (upd T dj (.bool false)) d (.tup [])) U k))
      (match dst with
        |none=>wpL mutb n ops l T U k
        |some d=>d<n/\wpL mutb n ops l (upd T d (.tup [])) U k)
theorem jeS {ops:Array Oper}{n:Nat}{T:Tm}{tmps:List V}(h:Rep n T tmps){j dj:Nat}(hj:(ops[j]?).bind (·.dst)=some dj){b:Bool}(hb:T dj=.bool b) :
  jaG ops tmps j=some b:=by
 unfold jaG;rw[hj]
 have h1:tmps[dj]? = some (.bool b):=by
  have h2:=h.2 dj;rw[hb,List.getD]at h2;cases hx:tmps[dj]? with
  |none=>rw[hx]at h2;simp at h2
  |some x=>rw[hx]at h2;simpa using h2
 simp[h1]
theorem jeT {ops:Array Oper}{n:Nat}{T:Tm}{tmps:List V}(h:Rep n T tmps){j dj:Nat}(hj:(ops[j]?).bind (·.dst)=some dj)(hb:T dj=.tup []) :
  jaG ops tmps j=none:=by
 unfold jaG;rw[hj];simp only[Kq];have h2:=h.2 dj;rw[hb,List.getD]at h2;cases hx:tmps[dj]? with
 |none=>rfl
 |some x =>
  rw[hx]at h2;simp only[Kr]at h2;rw[h2]
theorem jbY {mutb:Bool}{n:Nat}{ops:Array Oper}:∀(l:List Oper) {T:Tm} {tmps:List V} {U:S} {k:Tm->S->Prop},Rep n T tmps->wpL E mutb n ops l T U k ->
  ∃tmps' U' T',je8 E (ev E) mutb ops l tmps U=some (tmps',U')/\Rep n T' tmps'/\k T' U'
 | [],T,tmps,U,k,h,hw=>⟨tmps,U,T,rfl,h,hw⟩
 | ⟨dst,op,t,p,a,none⟩::l,T,tmps,U,k,h,hw=>by
  rw[jpw];simp only[wpL]at hw;cases dst with
  |none =>
   obtain⟨v,U',h1,h2⟩:=jjK E h hw;rw[h1];exact jbY l h h2
  |some d =>
   obtain⟨hd,hw⟩:=hw;obtain⟨v,U',h1,h2⟩:=jjK E h hw;rw[h1];exact jbY l (h.upd hd v) h2
 | ⟨dst,op,t,p,a,some (j,b)⟩::l,T,tmps,U,k,h,hw=>by
  rw[jna];simp only[wpL]at hw;obtain⟨dj,hdj,hlt,⟨htup,hw⟩|⟨b0,hb0,hT,hF⟩⟩:=hw
  ·rw[jeT h hdj htup];rw[Ke ae];cases dst with
   |none=>exact jbY l h hw
   |some d=>exact jbY l (h.upd hw.1 _) hw.2
  have hTd:T dj=.bool b0:=by
   unfold jhx at hb0;split at hb0
   ·rename_i b1 he;simp at hb0;rw[he,hb0]
   ·simp at hb0
  rw[jeS h hdj hTd];cases b0 with
  | true =>
   have hw:=hT rfl;rw[jhQ hTd]at hw;cases b with
   | true =>
    simp only[BEq.rfl,Kl];cases dst with
    |none =>
     obtain⟨v,U',h1,h2⟩:=jjK E h hw;rw[h1];exact jbY l h h2
    |some d =>
     obtain⟨hd,hw⟩:=hw;obtain⟨v,U',h1,h2⟩:=jjK E h hw;rw[h1];exact jbY l (h.upd hd v) h2
   |false =>
    rw[Ke af];cases dst with
    |none=>exact jbY l h hw
    |some d=>exact jbY l (h.upd hw.1 _) hw.2
  | false =>
   have hw:=hF rfl;rw[jhQ hTd]at hw;cases b with
   | false =>
    simp only[BEq.rfl,Kl];cases dst with
    |none =>
     obtain⟨v,U',h1,h2⟩:=jjK E h hw;rw[h1];exact jbY l h h2
    |some d =>
     obtain⟨hd,hw⟩:=hw;obtain⟨v,U',h1,h2⟩:=jjK E h hw;rw[h1];exact jbY l (h.upd hd v) h2
   |true =>
    rw[Ke af];cases dst with
    |none=>exact jbY l h hw
    |some d=>exact jbY l (h.upd hw.1 _) hw.2
def wpS(mutb:Bool)(n:Nat)(K:S->Prop):List Oper->Tm->S->(Tm->S->Prop)->Prop
 | [],T,U,k=>k T U
 | ⟨dst,op,_,_,_,none⟩::l,T,U,k=>V1 (opT E mutb T U op) λp=>(scOp E op=true->K p.2)/\(jaP op=true->∀U',K U'->jbh E (jaN E T) U' op=some p.1) /\
  (match dst with
   |none=>wpS mutb n K l T p.2 k
   |some d=>d<n/\wpS mutb n K l (upd T d p.1) p.2 k)
 |⟨_,_,_,_,_,some _⟩::_,_,_,_=>False
theorem jeU {mutb:Bool}{n:Nat}{T:Tm}{l:List V}(h:Rep n T l){U:S}{op:Op}:opT E mutb T U op=opV E (ev E) mutb l U op:=by
 unfold opV;rw[h.eval];rfl
theorem jlE {rec:Task->Option Res}{mutb:Bool}{ops:Array Oper}{tmps:List V}{U U1:S}{dst:Option Tmp}{op:Op}{t:TypeId}{p:String}{a:Array Edge}{l:List Oper}{v:V}(h:opV E rec mutb tmps U op=some (v,U1)) :
  dRun E rec mutb ops (⟨dst,op,t,p,a,none⟩::l) tmps U=(match dRun E rec mutb ops l (putT tmps dst v) U1 with
   |some (tr,ss,tf,Uf)=>some ((tmps,v)::tr,if scOp E op then U1::ss else ss,tf,Uf)
   |none=>none):=by
 simp only[dRun,Region.wanted,Kl,h];cases dRun E rec mutb ops l (putT tmps dst v) U1<;>rfl
theorem jlF {mutb:Bool}{n:Nat}{ops:Array Oper}{K:S->Prop}:∀(l:List Oper) {T:Tm} {tmps:List V} {U:S} {k:Tm->S->Prop},Rep n T tmps->wpS E mutb n K l T U k ->
  ∃(tr:List (List V × V)) (ss:List S) (tf:List V) (Uf:S) (T':Tm),dRun E (ev E) mutb ops l tmps U=some (tr,ss,tf,Uf)/\Rep n T' tf/\k T' Uf/\(∀s∈ss,K s) /\
   ∀(j:Nat) (o:Oper),l[j]? = some o->∃(t:List V) (v:V) (U0 U1:S),tr[j]? = some (t,v)/\opV E (ev E) mutb t U0 o.op=some (v,U1)/\(jaP o.op=true->∀U',K U'->jbh E (jbv E t) U' o.op=some v)
 | [],T,tmps,U,k,h,hw=>⟨[],[],tmps,U,T,rfl,h,hw,λs hs=>by simp at hs,λj o hj=>by simp at hj⟩
 | ⟨dst,op,t,p,a,none⟩::l,T,tmps,U,k,h,hw=>by
  simp only[wpS]at hw;obtain⟨⟨v,U1⟩,hop,hK,hR,hw⟩:=hw;rw[jeU E h]at hop;simp only at hK hR hw
  have hput:∃T1,Rep n T1 (putT tmps dst v)/\wpS E mutb n K l T1 U1 k:=by
   cases dst with
   |none=>exact⟨T,h,hw⟩
   |some d=>exact⟨_,h.upd hw.1 v,hw.2⟩
  obtain⟨T1,hr1,hw1⟩:=hput;obtain⟨tr,ss,tf,Uf,T',h1,h2,h3,h4,h5⟩:=jlF l hr1 hw1;refine⟨(tmps,v)::tr,if scOp E op then U1::ss else ss,tf,Uf,T',by rw[jlE E hop,h1],h2,h3,?_,?_⟩
  ·intro s hs;by_cases hsc:scOp E op=true
   ·simp only[hsc,Kl,Jg]at hs
    rcases hs with rfl|hs
    ·exact hK hsc
    ·exact h4 s hs
   ·simp only[hsc,Ku,Kn]at hs;exact h4 s hs
  ·intro j o hj;cases j with
   |zero =>
    simp only[Q9,Ki]at hj;subst hj;exact⟨tmps,v,U,U1,rfl,hop,λhrd U' hU'=>by rw[h.eval];exact hR hrd U' hU'⟩
   |succ j =>
    simp only[Q7]at hj ⊢;exact h5 j o hj
 |⟨_,_,_,_,_,some _⟩::_,T,tmps,U,k,h,hw=>hw.elim
theorem jlG {fn:FuncId}{rnd:Option Nat}{id:Nat}{ops:Array Oper}{K:S->Prop}{n:Nat}{T:Tm}{tmps:List V}{dfs:List DE}{U:S}{k:Tm->S->Prop}(hp:jcJ E ops (jat [] ops.toList)=true)(hK:K U)
  (hr:Rep n T tmps) (hw:wpS E (E.mutb fn id) n K ops.toList T U k) :
  ∃tf Uf T',ja6 E (ev E) fn rnd (.region id ops true) tmps dfs U=some ⟨.normal,tf,dfs,Uf⟩/\Rep n T' tf/\k T' Uf:=by
 obtain⟨tr,ss,tf,Uf,T',h1,h2,h3,h4,h5⟩:=jlF E (ops:=ops) ops.toList hr hw;refine⟨tf,Uf,T',?_,h2,h3⟩
 have hc:jeq E ops (jat [] ops.toList) tr (U::ss)=true:=by
  unfold jeq;rw[Qq];intro j hj;have hj:j<ops.size:=by simpa using hj
  have hoj:ops[j]? = some ops[j]:=J6 hj;have hoj2:ops.toList[j]? = some ops[j]:=by rw[Xl];exact hoj
  obtain⟨t,v,U0,U1,ht,hop,hrd⟩:=h5 j ops[j] hoj2;simp only[hoj,ht];by_cases hs:scOp E ops[j].op=true
  ·simp[hs]
  by_cases hpc:jby E ops[j].op=true
  ·simp[hpc]
  by_cases ha:(jbK E (jbv E t) ops[j].op).isSome=true
  ·simp[ha]
  have ha':jbK E (jbv E t) ops[j].op=none:=by simpa using ha
  have hread:=jgC (by simpa using hs) (by simpa using hpc) ha' hop
  have hreads:jaP ops[j].op=true:=by
   cases hx:jaP ops[j].op with
   |true=>rfl
   |false=>rw[jex hx]at hread;simp at hread
  rw[Xe];right;rw[Qq];intro m hm;have hm:m<(U::ss).length:=by simpa using hm
  have hKm:K (U::ss)[m]:=by
   have:(U::ss)[m]∈U::ss:=J7 hm
   rcases Jg.1 this with h|h
   ·rw[h];exact hK
   ·exact h4 _ h
  rw[Kz hm];simp only[hrd hreads _ hKm,V.beq_refl,Xj]
 simp only[ja6,hp,Kl,h1,hc]
structure Post where
 norm:Tm->List DE->S->Prop
 exit:Nat->Tm->List DE->S->Prop
 ret:Tm->List DE->S->Prop
def Post.of(n:Nat)(Q:Post)(r:Res):Prop :=
 ∃T,Rep n T r.vals/\match r.ex with
  | .normal=>Q.norm T r.dfs r.st
  | .exit i=>Q.exit i T r.dfs r.st
  | .ret=>Q.ret T r.dfs r.st
variable (fn:FuncId)(rnd:Option Nat)(n:Nat)
def wpX(c:Code)(T:Tm)(D:List DE)(U:S)(Q:Post):Prop :=
 ∀tmps,Rep n T tmps->∃r,ja6 E (ev E) fn rnd c tmps D U=some r/\Q.of n r
theorem jpx {id:Nat}{ops:Array Oper}{T:Tm}{D:List DE}{U:S}{Q:Post}(K:S->Prop)(hK:K U)(hp:jcJ E ops (jat [] ops.toList)=true)
  (h:wpS E (E.mutb fn id) n K ops.toList T U λT U=>Q.norm T D U):wpX E fn rnd n (.region id ops true) T D U Q:=λtmps hr=>by
 obtain⟨tf,Uf,T',h1,h2,h3⟩:=jlG E (rnd:=rnd) (dfs:=D) hp hK hr h;exact⟨_,h1,T',h2,h3⟩
def jdx(c:Code)(T:Tm)(D:List DE)(U:S)(Q:Post):Prop :=
 ∀tmps,Rep n T tmps->∃r,ev E (.loop fn rnd c tmps D U)=some r/\Q.of n r
def wpC:Code->Tm->List DE->S->Post->Prop
 | .skip,T,D,U,Q=>Q.norm T D U
 | .exit i,T,D,U,Q=>Q.exit i T D U
 | .ret,T,D,U,Q=>Q.ret T D U
 | .seq a b,T,D,U,Q=>wpC a T D U ⟨λT D U=>wpC b T D U Q,Q.exit,Q.ret⟩
 | .cond (.tmp t) a b,T,D,U,Q=>t<n/\Br (T t) (wpC a (upd T t (.bool true)) D U Q) (wpC b (upd T t (.bool false)) D U Q)
 | .cond c a b,T,D,U,Q=>V1 (jaN E T c) λv=>Br v (wpC a T D U Q) (wpC b T D U Q)
 | .block id c,T,D,U,Q=>wpC c T D U ⟨Q.norm,λi T D U=>if i=id then Q.norm T D U else Q.exit i T D U,Q.ret⟩
 | .loop c,T,D,U,Q=>jdx E fn rnd n c T D U Q
 | .scope c,T,D,U,Q=>wpC c T D U Q
 | .label _,T,D,U,Q=>Q.norm T D U
 | .region id ops false,T,D,U,Q=>wpL E (E.mutb fn id) n ops ops.toList T U λT U=>Q.norm T D U
 | .region id ops true,T,D,U,Q =>
  match E.stab fn id with
  |false=>jor E ops=true/\wpL E (E.mutb fn id) n ops ops.toList T U λT U=>Q.norm T D U
  |true=>wpX E fn rnd n (.region id ops true) T D U Q
 |c,T,D,U,Q=>wpX E fn rnd n c T D U Q
theorem jds {v:V}{b:Bool}(h:jhx v=some b):v=.bool b:=by
 unfold jhx at h;split at h
 ·simp at h;rw[h]
 ·simp at h
theorem jbM:∀(c:Code) {T:Tm} {D:List DE} {U:S} {Q:Post},wpC E fn rnd n c T D U Q->wpX E fn rnd n c T D U Q
 | .skip,T,D,U,Q,h=>λtmps hr=>⟨_,rfl,T,hr,h⟩
 | .exit i,T,D,U,Q,h=>λtmps hr=>⟨_,rfl,T,hr,h⟩
 | .ret,T,D,U,Q,h=>λtmps hr=>⟨_,rfl,T,hr,h⟩
 | .seq a b,T,D,U,Q,h=>λtmps hr=>by
  obtain⟨⟨ex,vals,d,st⟩,h1,T1,hr1,hq⟩:=jbM a h tmps hr;simp only[ja6,h1];cases ex with
  |normal=>exact jbM b hq vals hr1
  |exit i=>exact⟨_,rfl,T1,hr1,hq⟩
  |ret=>exact⟨_,rfl,T1,hr1,hq⟩
 | .cond c a b,T,D,U,Q,h=>λtmps hr=>by
  simp only[ja6,hr.eval];cases c with
  | tmp t =>
   obtain⟨hlt,b0,hb0,hT,hF⟩:=h;have hTd:=jds hb0;simp only[jaN,hTd];cases b0 with
   |true =>
    have hw:=hT rfl;rw[jhQ hTd]at hw;exact jbM a hw tmps hr
   |false =>
    have hw:=hF rfl;rw[jhQ hTd]at hw;exact jbM b hw tmps hr
  |const v =>
   obtain⟨v0,h1,b0,hb0,hT,hF⟩:=h;rw[h1,jds hb0];cases b0 with
   |true=>exact jbM a (hT rfl) tmps hr
   |false=>exact jbM b (hF rfl) tmps hr
  |global g =>
   obtain⟨v0,h1,b0,hb0,hT,hF⟩:=h;rw[h1,jds hb0];cases b0 with
   |true=>exact jbM a (hT rfl) tmps hr
   |false=>exact jbM b (hF rfl) tmps hr
  |func f =>
   obtain⟨v0,h1,b0,hb0,hT,hF⟩:=h;rw[h1,jds hb0];cases b0 with
   |true=>exact jbM a (hT rfl) tmps hr
   |false=>exact jbM b (hF rfl) tmps hr
 | .block id c,T,D,U,Q,h=>λtmps hr=>by
  obtain⟨⟨ex,vals,d,st⟩,h1,T1,hr1,hq⟩:=jbM c h tmps hr;simp only[ja6,h1];cases ex with
  |normal=>exact⟨_,rfl,T1,hr1,hq⟩
  |exit i =>
   refine⟨_,rfl,T1,hr1,?_⟩;simp only at hq ⊢;by_cases e:i=id
   ·simp only[e,Kl]at hq ⊢;exact hq
   ·simp only[e,Kn]at hq ⊢;exact hq
  |ret=>exact⟨_,rfl,T1,hr1,hq⟩
 | .loop c,T,D,U,Q,h=>λtmps hr=>h tmps hr
 | .region id ops false,T,D,U,Q,h=>λtmps hr=>by
  obtain⟨l⟩:=ops;obtain⟨tmps',U',T',h1,h2,h3⟩:=jbY E l hr h;rw[jlC _ _ _ _ _ _ _ _ _ _ _ h1];exact⟨_,rfl,T',h2,h3⟩
 | .region id ops true,T,D,U,Q,h=>λtmps hr=>by
  simp only[wpC]at h;cases hs:E.stab fn id with
  |false =>
   simp only[hs]at h;obtain⟨hd,h⟩:=h;obtain⟨tmps',U',T',h1,h2,h3⟩:=jbY E ops.toList hr h;exact⟨_,jnb hd h1,T',h2,h3⟩
  |true =>
   simp only[hs]at h;exact h tmps hr
 | .rangeFunc _ _ _ _,T,D,U,Q,h=>h
 | .scope c,T,D,U,Q,h=>λtmps hr=>by simp only[ja6];exact jbM c h tmps hr
 | .label _,T,D,U,Q,h=>λtmps hr=>⟨_,rfl,T,hr,h⟩
 | .goto _,T,D,U,Q,h=>h
 | .refuse _,T,D,U,Q,h=>h
end
section
variable {E:Env}{fn:FuncId}{rnd:Option Nat}{n:Nat}
theorem jau {c:Code}{Q:Post}(I:Nat->Tm->List DE->S->Prop)
  (h:∀m T D U,I m T D U->wpC E fn rnd n c T D U ⟨λT D U=>∃m',m'<m/\I m' T D U,Q.exit,Q.ret⟩):∀m T D U,I m T D U->jdx E fn rnd n c T D U Q:=by
 intro m
 induction m using Nat.strongRecOn with
 | ind m ih =>
  intro T D U hI tmps hr;obtain⟨⟨ex,vals,d,st⟩,h1,T1,hr1,hq⟩:=jbM E fn rnd n c (h m T D U hI) tmps hr;cases ex with
  |normal =>
   obtain⟨m',hm,hI'⟩:=hq;obtain⟨r,h2,h3⟩:=ih m' hm T1 d st hI' vals hr1;exact⟨r,jis (by simp only[jf3,h1];exact h2),h3⟩
  |exit i=>exact⟨_,jis (by simp only[jf3,h1]),T1,hr1,hq⟩
  |ret=>exact⟨_,jis (by simp only[jf3,h1]),T1,hr1,hq⟩
def resT(E:Env)(T:Tm)(h:List AObj):List ResultVar->Option (List V)
 | []=>some []
 | .tmp t::r=>(resT E T h r).map (T t :: ·)
 | .cell a t::r=>(jaH E h t (T a)).bind λv=>(resT E T h r).map (v :: ·)
theorem Rep.res {T:Tm}{l:List V}(hr:Rep n T l){h:List AObj}:∀rs,resV E l h rs=resT E T h rs
 | []=>rfl
 | .tmp t::r=>by simp only[resV,resT,hr.2 t,Rep.res hr r]
 | .cell a t::r=>by simp only[resV,resT,hr.2 a,Rep.res hr r]
def wpR(E:Env)(rs:List ResultVar)(k:V->S->Prop)(T:Tm)(D:List DE)(U:S):Prop :=
 V1 (jdk U.heap D) λh=>V1 (resT E T h rs) λvs=>k (jaB vs) ⟨h,U.toks⟩
theorem Yx(E:Env)(rs:List ResultVar)(k:V->S->Prop)(T:Tm)(U:S):wpR E rs k T [] U=V1 (resT E T U.heap rs) λvs=>k (jaB vs) U:=by
 simp only[wpR,jdk,Yy]
theorem jkD {f:FuncId}{args:List V}{U:S}{k:V->S->Prop}{F:Go.Func}{body:Code}(hf:E.P.funcs[f]? = some F)(hb:F.body=some body)(hn:F.name ≠ "runtime.NumGoroutine")
  (hl:args.length<=F.ntmps) (hw:wpC E f none F.ntmps body (argT args) [] U ⟨wpR E F.results.toList k,λ_ _ _ _=>False,wpR E F.results.toList k⟩) :
  ∃v U',ev E (.call f args U)=some ⟨.ret,[v],[],U'⟩/\k v U':=by
 obtain⟨⟨ex,vals,d,st⟩,h1,T1,hr1,hq⟩:=jbM E f none F.ntmps body hw _ (Rep.args args F.ntmps hl)
 have key:wpR E F.results.toList k T1 d st->ex ≠ .exit 0\/True->(∀i,ex ≠ .exit i)->∃v U',ev E (.call f args U)=some ⟨.ret,[v],[],U'⟩/\k v U':=by
  intro ⟨h,hh,vs,hvs,hk⟩ _ hne;refine⟨jaB vs,⟨h,st.toks⟩,jis ?_,hk⟩;rw[<- hr1.res]at hvs;simp only[jf3,hf,hb,hn,Kn,h1];cases ex with
  |exit i=>exact absurd rfl (hne i)
  |normal=>simp only[hh,hvs]
  |ret=>simp only[hh,hvs]
 cases ex with
 |normal=>exact key hq (.inr trivial) λi h=>by cases h
 |exit i=>exact hq.elim
 |ret=>exact key hq (.inr trivial) λi h=>by cases h
theorem jef {args:List V}(h:args.all V.closed=true):wargs args=args:=by simp[wargs,h]
theorem jnd {f:FuncId}{args:List V}{v:V}{F:Go.Func}{body:Code}(hp:E.pure f=true)(hk:E.hook f=none)(hc:args.all V.closed=true)(hf:E.P.funcs[f]? = some F)(hb:F.body=some body)
  (hn:F.name ≠ "runtime.NumGoroutine") (hl:args.length<=F.ntmps)
  (hw:wpC E f none F.ntmps body (argT args) [] S.empty ⟨wpR E F.results.toList λv' U'=>jaK U'.heap jak v'=some v,λ_ _ _ _=>False,wpR E F.results.toList λv' U'=>jaK U'.heap jak v'=some v⟩)
  (U:S):jah E (ev E) f args U=some (v,U):=by
 obtain⟨v',U',h1,h2⟩:=jkD hf hb hn hl hw;unfold jah;simp only[hk,hp,jef hc,hc,h1,h2,Kl,K9]
theorem jpy {f:FuncId}{args:List V}{v v':V}{m:Nat}{U':S}(hp:E.pure f=true)(hk:E.hook f=none)(hc:args.all V.closed=true)(hr:run E m (.call f args S.empty)=some ⟨.ret,[v],[],U'⟩)
  (hs:jaK U'.heap jak v=some v') (U:S):jah E (ev E) f args U=some (v',U):=by
 have h1:=jqS hr;unfold jah;simp only[hk,hp,jef hc,hc,h1,hs,Kl,K9]
theorem jgl {f:FuncId}{args:List V}{rec:Task->Option Res}(hp:E.pure f=true)(hk:E.hook f=none)(hn:args.all V.closed=false)(hc:(args.map V.weak).all V.closed=true)(U:S) :
  jah E rec f args U=jah E rec f (args.map V.weak) U:=by
 have h1:wargs args=args.map V.weak:=by simp only[wargs,hn,Ku,Kn]
 unfold jah;simp only[hk,hp,h1,jef hc,hc,Kl]
theorem jjL {f:FuncId}{args:List V}{U:S}{k:V->S->Prop}{F:Go.Func}{body:Code}(hp:E.pure f=false)(hk:E.hook f=none)(hf:E.P.funcs[f]? = some F)(hb:F.body=some body)
  (hn:F.name ≠ "runtime.NumGoroutine") (hl:args.length<=F.ntmps)
  (hw:wpC E f none F.ntmps body (argT args) [] U ⟨wpR E F.results.toList k,λ_ _ _ _=>False,wpR E F.results.toList k⟩) :
  ∃v U',jah E (ev E) f args U=some (v,U')/\k v U':=by
 obtain⟨v',U',h1,h2⟩:=jkD hf hb hn hl hw;refine⟨v',U',?_,h2⟩;unfold jah;simp only[hk,hp,h1,Ku,Kn]
theorem jne {f:FuncId}{vs:List V}{U':S}(h:ev E (.call f vs S.empty)=some ⟨.ret,[.bool true],[],U'⟩):Found E f vs:=by
 obtain⟨n,hn⟩:=jqT h;exact⟨n,U',hn⟩
theorem jnf {f:FuncId}{args:List V}{F:Go.Func}{body:Code}(hf:E.P.funcs[f]? = some F)(hb:F.body=some body)(hn:F.name ≠ "runtime.NumGoroutine")
  (hl:args.length<=F.ntmps) (hw:wpC E f none F.ntmps body (argT args) [] S.empty ⟨wpR E F.results.toList λv _=>v=.bool true,λ_ _ _ _=>False,wpR E F.results.toList λv _=>v=.bool true⟩):Found E f args:=by
 obtain⟨v,U',h1,rfl⟩:=jkD hf hb hn hl hw;exact jne h1
end
theorem jav(h:List AObj)(d:Nat)(k:IntKind)(x:Int):jaK h (d+1) (.int k x)=some (.int k x):=rfl
theorem jaA(h:List AObj)(d:Nat)(b:Bool):jaK h (d+1) (.bool b)=some (.bool b):=rfl
theorem jbC(h:List AObj)(d:Nat)(b:List UInt8):jaK h (d+1) (.str b)=some (.str b):=rfl
theorem jng(h:List AObj)(d:Nat):jaK h (d+1) .nilsl=some .nilsl:=rfl
theorem jbS(h:List AObj)(d:Nat)(vs:List V):jaK h (d+1) (.tup vs)=(vs.mapM (jaK h d)).map .tup:=rfl
theorem jey(h:List AObj)(d:Nat)(vs:List V):jaK h (d+1) (.agg vs)=(vs.mapM (jaK h d)).map .agg:=rfl
theorem ja1(h:List AObj)(d:Nat)(cs:List V)(n:Nat)(c:RCap):jaK h (d+1) (.row cs n c)=(cs.mapM (jaK h d)).map λc=>.row c n .unk:=rfl
theorem jal(h:List AObj)(d:Nat)(v:V)(vs:List V):(v::vs).mapM (jaK h d)=(jaK h d v).bind λa=>(vs.mapM (jaK h d)).bind λb=>some (a::b):=by
 rw[Xx];rfl
theorem jaR(h:List AObj)(d:Nat):([]:List V).mapM (jaK h d)=some []:=rfl
theorem jga(h:List AObj)(d:Nat):∀vs:List V,(∀v∈vs,jaK h d v=some v)->vs.mapM (jaK h d)=some vs
 | [],_=>rfl
 |v::vs,hv=>by
  rw[jal,hv v ae,jga h d vs λx hx=>hv x (by simp[hx])];rfl
def jjM(v:V):Option Res->Bool
 |some ⟨.ret,[u],[],st⟩=>(match jaK st.heap jak u with|some x=>x.beq v|none=>false)
 |_=>false
theorem jbd {E:Env}{k:Nat}{f:FuncId}{args:List V}{v:V}(hp:E.pure f=true)(hk:E.hook f=none)(hc:args.all V.closed=true)(h:jjM v (run E k (.call f args S.empty))=true) :
  ∀U,jah E (ev E) f args U=some (v,U):=by
 intro U;unfold jjM at h;split at h
 ·rename_i u st hr;split at h
  ·rename_i x hs;have e:=V.beq_eq x v h;subst e;exact jpy hp hk hc hr hs U
  ·simp at h
 ·simp at h
def jcE(E:Env)(f:FuncId)(args:List V)(v:V):Prop :=
 ∀O U w xs,WRel O U w->GOK E O->LRel O args xs->∃O' w' y,Moved O O' U w w'/\VRel O' v y/\joj E.P f xs w y w'
theorem jpz {E:Env}(hE:E.Ok){k:Nat}{f:FuncId}{args:List V}{v:V}(hc:args.all V.closed=true)(h:jjM v (run E k (.call f args S.empty))=true):jcE E f args v:=by
 intro O U w xs hw hg hx;unfold jjM at h;split at h
 ·rename_i u st hr;split at h
  ·rename_i x hs;have e:=V.beq_eq x v h;subst e;have h1:=jqS hr;have hx':LRel (O.own w.heap.size) args xs:=⟨hx.len,λi a b=>VRel.of_closed (O:=O) (O':=O.own w.heap.size) (λ_ _ _ h=>h) (hx.rel i a b) (jf9 hc i a)⟩;obtain⟨O',w',y,m,hy,h2,h3⟩:=jol hE h1 u rfl (O.own w.heap.size) w xs hw.own (hg.own hE) hx';have hpin:∀b i x,O.pin b i=some x->b<w.heap.size:=λb i x hp=>jdl (hw.pins b i x hp)
   exact⟨_,w',y,hw.after m.below,joi hpin m _ hy hs,.inr ⟨h2,λcs=>let⟨fr,a,_,b⟩:=h3 cs;⟨fr,a,b⟩⟩⟩
  ·simp at h
 ·simp at h
abbrev RTab:=List (FuncId × List V × V)
def jjN(f:FuncId)(args:List V):RTab->Option V
 | []=>none
 |p::r=>match Nat.beq p.1 f with
  |true=>if V.beq.beqL p.2.1 args then some p.2.2 else jjN f args r
  |false=>jjN f args r
theorem jg8 {f:FuncId}{args:List V}{v:V}:∀{T:RTab},jjN f args T=some v->(f,args,v)∈T
 | [],h=>by simp[jjN]at h
 | p::r,h=>by
  simp only[jjN]at h;split at h
  ·rename_i hf;have e1:=U9 hf;split at h
   ·rename_i he;have e2:=V.beq_eq.beqL_eq p.2.1 args he;simp only[Ki]at h;subst e1 e2 h;exact List.mem_cons_self
   ·exact Vy _ (jg8 h)
  ·exact Vy _ (jg8 h)
def hasR(f:FuncId):RTab->Bool
 | []=>false
 |p::r=>match Nat.beq p.1 f with
  |true=>true
  |false=>hasR f r
def jwx(base:FuncId->Option (List V->Option V))(T:RTab)(f:FuncId):Option (List V->Option V) :=
 match hasR f T with
 |true=>some λargs=>jjN f (wargs args) T
 |false=>base f
def Env.tab(E:Env)(T:RTab):Env:={ E with hook:=jwx E.hook T }
theorem Env.Ok.tab {E:Env}(hE:E.Ok){T:RTab}(hT:∀p∈T,jcE E p.1 p.2.1 p.2.2):(E.tab T).Ok where
 mixed:=hE.mixed
 glc:=hE.glc
 hook:=by
  intro f g h args v hv O U w xs hw hg hx;simp only[Env.tab,jwx]at h;split at h
  ·simp only[Ki]at h;subst h;exact hT _ (jg8 hv) O U w xs hw hg hx.wargs
  ·exact hE.hook f g h args v hv O U w xs hw hg hx
theorem GOK.tab {E:Env}{T:RTab}{O:Ctx}(h:GOK E O):GOK (E.tab T) O:=h
theorem jnh {E:Env}:∀p∈([]:RTab),jcE E p.1 p.2.1 p.2.2:=λp hp=>by simp at hp
theorem jdF {E:Env}{A B:RTab}(hA:∀p∈A,jcE E p.1 p.2.1 p.2.2)(hB:∀p∈B,jcE E p.1 p.2.1 p.2.2):∀p∈A++B,jcE E p.1 p.2.1 p.2.2:=by
 intro p hp
 rcases Jl.1 hp with hp|hp
 ·exact hA p hp
 ·exact hB p hp
theorem jcE.untab {E:Env}{T:RTab}{f:FuncId}{args:List V}{v:V}(h:jcE (E.tab T) f args v):jcE E f args v:=h
noncomputable def jvg(E:Env)(k:Nat)(T:RTab):Bool:=T.all λp=>p.2.1.all V.closed && jjM p.2.2 (run E k (.call p.1 p.2.1 S.empty))
theorem jbZ {E:Env}(hE:E.Ok){S0 T:RTab}(hS:∀p∈S0,jcE E p.1 p.2.1 p.2.2){k:Nat}(h:jvg (E.tab S0) k T=true):∀p∈T,jcE E p.1 p.2.1 p.2.2:=by
 intro p hp;have h1:=Qq.1 h p hp;rw[Qt]at h1;exact(jpz (hE.tab hS) h1.1 h1.2).untab
def idxV:List V->Option V
 | [.str s,.int .u8 c]=>some (.int .i64 (Lib.indexByte s c.toNat.toUInt8))
 |_=>none
theorem jvh {E:Env}{f:FuncId}{fn:Func}(hf:E.P.funcs[f]? = some fn)(hn:(fn.name== "runtime.NumGoroutine")=false)(hb:fn.body.isNone=true)(h1:Extern.findNext fn=none)
  (h2:Extern.find fn=some Extern.BytealgIndexByte.indexByte):∀args v,idxV args=some v->jcE E f args v:=by
 intro args v hv O U w xs hw hg hx;unfold idxV at hv;split at hv
 ·rename_i s c;simp only[Ki]at hv;subst hv;have hl:=hx.len;obtain⟨lx⟩:=xs
  match lx,hl,hx with
  | [a,b],_,hx =>
   have ha:=hx.rel 0 ae ae;have hb2:=hx.rel 1 ae ae;simp only[X8,Xb,Xu]at ha hb2;cases ha with
   | str x =>
    cases hb2 with
    |int k n =>
     refine⟨O,w,_,Moved.refl hw,.int _ _,.inl ?_⟩;show(callFunc f #[.string x,.int .u8 c]).run E.P w=_;rw[run_callFunc_extern hf hn hb h1 h2,Lib.run_indexByteString];rfl
 ·simp at hv
end Go.Ab
