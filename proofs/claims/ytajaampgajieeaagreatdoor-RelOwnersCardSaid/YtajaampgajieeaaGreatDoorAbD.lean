/- Proved here: the rules by which a run is found without running: a logic over the evaluator. Conditions: each theorem's own. -/
import Derived.Test.YtajaampgajieeaaGreatDoorAbC
import Derived.Lib.Bytealg
set_option linter.unusedSimpArgs false
namespace Go.Ab
def jdD(E:Env)(rec:Task->Option Res)(mutb:Bool)(ops:Array Oper):List Oper->List V->S->Option (List V × S)
 | [],tmps,U=>some (tmps,U)
 | o::l,tmps,U =>
  if Region.wanted o (jaJ ops tmps)then
   match opV E rec mutb tmps U o.op with
   |some (v,U')=>jdD E rec mutb ops l (putT tmps o.dst v) U'
   |none=>none
  else jdD E rec mutb ops l (putT tmps o.dst (.tup [])) U
theorem jeE(E:Env)(rec:Task->Option Res)(mutb:Bool)(ops:Array Oper):∀(m n:Nat) (tmps:List V) (U:S),n+m=ops.size ->
  jdb E rec mutb ops (List.range' n m) tmps U=jdD E rec mutb ops (ops.toList.drop n) tmps U
 |0,n,tmps,U,h=>by
  have:ops.toList.drop n=[]:=List.drop_eq_nil_iff.2 (by simp;omega);rw[this];rfl
 | m+1,n,tmps,U,h=>by
  have hn:n<ops.toList.length:=by simp;omega
  rw[Qj hn];have h2:ops[n]? = some (ops.toList[n]):=by simp only[Array.getElem_toList];exact Xc (by simpa using hn)
  simp only[List.range'_succ,jdb,h2,jdD];by_cases hw:Region.wanted ops.toList[n] (jaJ ops tmps)=true
  ·simp only[hw,Km];cases opV E rec mutb tmps U ops.toList[n].op with
   |none=>rfl
   |some p=>exact jeE E rec mutb ops m (n+1) _ _ aa
  ·simp only[hw,Kr,Kq];exact jeE E rec mutb ops m (n+1) _ _ aa
theorem jj0(E:Env)(rec:Task->Option Res)(fn:FuncId)(rnd:Option Nat)(id:Nat)(ops:Array Oper)(tmps:List V)(dfs:List DE)(U:S) :
  ja0 E rec fn rnd (.region id ops false) tmps dfs U=(jdD E rec (E.mutb fn id) ops ops.toList tmps U).map λp=>⟨.normal,p.1,dfs,p.2⟩:=by
 simp only[ja0];rw[show List.range ops.size=List.range' 0 ops.size from U4,jeE _ _ _ _ _ _ _ _ aa];simp
theorem jhd(E:Env)(rec:Task->Option Res)(fn:FuncId)(rnd:Option Nat)(id:Nat)(l:List Oper)(tmps t':List V)(dfs:List DE)(U U':S)(h:jdD E rec (E.mutb fn id) l.toArray l tmps U=some (t',U')) :
  ja0 E rec fn rnd (.region id l.toArray false) tmps dfs U=some ⟨.normal,t',dfs,U'⟩:=by
 simp only[jj0,h,Kw]
theorem jou(E:Env)(rec:Task->Option Res)(mutb:Bool)(ops:Array Oper)(tmps:List V)(U:S)(dst:Option Tmp)(op:Op)(t:TypeId)(p:String)(a:Array Edge)(l:List Oper) :
  jdD E rec mutb ops (⟨dst,op,t,p,a,none⟩::l) tmps U=(match opV E rec mutb tmps U op with|some (v,U')=>jdD E rec mutb ops l (putT tmps dst v) U'|none=>none):=by
 simp[jdD,Region.wanted]
theorem jmn(E:Env)(rec:Task->Option Res)(mutb:Bool)(ops:Array Oper)(tmps:List V)(U:S)(dst:Option Tmp)(op:Op)(t:TypeId)(p:String)(a:Array Edge)(j:Nat)(b:Bool)(l:List Oper) :
  jdD E rec mutb ops (⟨dst,op,t,p,a,some (j,b)⟩::l) tmps U=(if jaJ ops tmps j==some b then(match opV E rec mutb tmps U op with|some (v,U')=>jdD E rec mutb ops l (putT tmps dst v) U'|none=>none)else jdD E rec mutb ops l (putT tmps dst (.tup [])) U):=by
 simp[jdD,Region.wanted]
theorem V.beq_refl:∀a:V,a.beq a=true
 | .bool a=>by simp[V.beq]
 | .int k n=>by simp[V.beq]
 | .str s=>by simp[V.beq]
 | .ptr x y=>by simp[V.beq]
 | .nilptr=>rfl
 | .rptr a=>by simp only[V.beq];exact beqL_refl a
 | .hsl _ _ _ _ _=>by simp[V.beq]
 | .row a n c=>by simp[V.beq,beqL_refl a]
 | .nilsl=>rfl
 | .func f a c=>by simp[V.beq,beqL_refl a,beqL_refl c]
 | .yld l=>by simp[V.beq]
 | .nilfn=>rfl
 | .iface t v=>by simp[V.beq,V.beq_refl v]
 | .nilif=>rfl
 | .agg a=>by simp only[V.beq];exact beqL_refl a
 | .tup a=>by simp only[V.beq];exact beqL_refl a
 | .nilmap=>rfl
 | .any=>rfl
 | .map _=>by simp[V.beq]
 | .meth t v=>by simp[V.beq,V.beq_refl v]
 where beqL_refl:∀a:List V,V.beq.beqL a a=true
 | []=>rfl
 |x::r=>by simp[V.beq.beqL,V.beq_refl x,beqL_refl r]
def jaO:Op->Bool
 | .load _ _=>true
 | .lookup _ _ _ _=>true
 | .convert _ _ _=>true
 |_=>false
def jh3(E:Env)(ops:Array Oper)(masks:List Nat):Bool :=
 (List.range ops.size).all λj =>
  match ops[j]? with
  |some oj => !jaO oj.op ||(List.range ops.size).all λi =>
   match ops[i]? with
   |some oi => !scOp E oi.op ||(if i<j then(masks.getD j 0).testBit i else(masks.getD i 0).testBit j)
   |none=>false
  |none=>false
def jhe(E:Env)(ops:Array Oper):Bool:=jcK E ops (jat [] ops.toList) && jh3 E ops (jat [] ops.toList)
theorem jfs {E:Env}{ρ:Operand->Option V}{U:S}{op:Op}(h:jaO op=false):jbp E ρ U op=none:=by
 cases op<;>first|rfl|(simp[jaO]at h;done)
theorem jgU {E:Env}{rec:Task->Option Res}{mutb:Bool}{ops:Array Oper}:∀(l:List Oper) {tmps tf:List V} {U Uf:S},jdD E rec mutb ops l tmps U=some (tf,Uf) ->
  ∃tr ss,dRun E rec mutb ops l tmps U=some (tr,ss,tf,Uf)
 | [],tmps,tf,U,Uf,h=>by
  simp only[jdD,Ke,K5]at h;obtain⟨rfl,rfl⟩:=h;exact⟨[],[],rfl⟩
 | o::l,tmps,tf,U,Uf,h=>by
  simp only[jdD]at h;simp only[dRun];by_cases hw:Region.wanted o (jaJ ops tmps)=true
  ·simp only[hw,Km]at h ⊢;cases hop:opV E rec mutb tmps U o.op with
   |none=>rw[hop]at h;simp at h
   |some p =>
    obtain⟨v,U1⟩:=p;simp only[hop]at h ⊢;obtain⟨tr,ss,hd⟩:=jgU l h;rw[hd];exact⟨_,_,rfl⟩
  ·simp only[hw,Kr,Kq]at h ⊢;obtain⟨tr,ss,hd⟩:=jgU l h;rw[hd];exact⟨_,_,rfl⟩
theorem jhw {E:Env}{rec:Task->Option Res}{mutb:Bool}{tmps:List V}{op:Op}{v:V}{U U':S}(hs:scOp E op=false)(hp:jbO E op=false)
  (h0:jba E (jbr E tmps) op=none) (h:opV E rec mutb tmps U op=some (v,U')):jbp E (jbr E tmps) U op=some v:=by
 unfold opV at h;rw[h0]at h;simp only at h;cases hr:jbp E (jbr E tmps) U op with
 |some u=>rw[hr]at h;simp at h;rw[h.1]
 | none =>
  exfalso
  rw[hr]at h;simp only at h;cases op
  case convert src dst x=>exact jfZ hs hp h
  case call =>
   rename Call=>c
   obtain⟨callee,args,ats⟩:=c;cases callee with
   |invoke r n=>simp[scOp]at hs
   |value g=>cases g<;>simp_all[jbO,scOp]
   |builtin b=>cases b<;>first|(simp[scOp]at hs;done)|(simp[jbs]at h;done)|exact ji2 hs h
  all_goals first|(simp[scOp]at hs;done)|(simp[jbs]at h;done)|exact jfZ hs h|(simp_all[scOp,jbO];done)
theorem jiM {E:Env}{rec:Task->Option Res}{mutb:Bool}{ops:Array Oper}{tmps tf:List V}{U Uf:S}{tr:List (List V × V)}{ss:List S}
  (ho:jh3 E ops (jat [] ops.toList)=true) (h:dRun E rec mutb ops ops.toList tmps U=some (tr,ss,tf,Uf)) :
  jeP E ops (jat [] ops.toList) tr (U::ss)=true:=by
 obtain⟨h1,h2,_,_,_,h6⟩:=jgf ops.toList h;unfold jeP;rw[Qq];intro j hj;have hj:j<ops.size:=by simpa using hj
 have hoj:ops[j]? = some ops[j]:=Xc hj;have hoj2:ops.toList[j]? = some ops[j]:=by rw[Xp];exact hoj
 obtain⟨t,v,ht,_,U1,hop,_⟩:=h6 j ops[j] hoj2;simp only[hoj,ht];by_cases hs:scOp E ops[j].op=true
 ·simp[hs]
 by_cases hp:jbO E ops[j].op=true
 ·simp[hp]
 by_cases hw':¬Region.wanted ops[j] (jaJ ops t)=true
 ·simp[hw']
 have hw:=Ur.1 hw';by_cases ha:(jba E (jbr E t) ops[j].op).isSome=true
 ·simp[ha]
 have hs':scOp E ops[j].op=false:=by simpa using hs
 have hp':jbO E ops[j].op=false:=by simpa using hp
 have ha':jba E (jbr E t) ops[j].op=none:=by simpa using ha
 rw[hw,Kj rfl]at hop;have hread:=jhw hs' hp' ha' hop
 have hreads:jaO ops[j].op=true:=by
  cases hx:jaO ops[j].op with
  |true=>rfl
  |false=>rw[jfs hx]at hread;simp at hread
 have hord:∀i oi,ops[i]? = some oi->scOp E oi.op=true->(if i<j then((jat [] ops.toList).getD j 0).testBit i else((jat [] ops.toList).getD i 0).testBit j)=true:=by
  intro i oi hi hsi;unfold jh3 at ho;rw[Qq]at ho;have:=ho j (by simpa using hj);simp only[hoj,hreads,Q7,Xx,Qq]at this
  have hi2:i<ops.size:=by
   rcases Qm i ops.size with h|h
   ·exact h
   ·rw[Us h]at hi;simp at hi
  have:=this i (by simpa using hi2);simpa only[hi,hsi,Q7,Xx]using this
 simp only[hs',hp',hw,ha',Q7,Bool.or_self,Ui,Xx,Qq];intro m hm;have hm:m<(U::ss).length:=by simpa using hm
 by_cases hal':¬jgJ E ops (jat [] ops.toList) j m=true
 ·simp[hal']
 have hal:=Ur.1 hal';rw[hal]
 have hall:∀i oi,ops[i]? = some oi->scOp E oi.op=true->(((jat [] ops.toList).getD j 0).testBit i=true->jaX E ops i<m)/\(((jat [] ops.toList).getD i 0).testBit j=true->m<=jaX E ops i):=by
  intro i oi hi hsi;unfold jgJ at hal;rw[Qq]at hal
  have hi2:i<ops.size:=by
   rcases Qm i ops.size with h|h
   ·exact h
   ·rw[Us h]at hi;simp at hi
  have:=hal i (by simpa using hi2);simp only[hi,hsi,Q7,Xx,Qo,Xi,Uq,Jc]at this;refine⟨λhb => ?_,λhb => ?_⟩
  ·rcases this.1 with h|h
   ·rw[hb]at h;simp at h
   ·exact h
  ·rcases this.2 with h|h
   ·rw[hb]at h;simp at h
   ·exact h
 have hcnt:cntO E ops.toList j=jaX E ops j:=rfl;have htot:ss.length=jaX E ops ops.size:=by rw[h2];unfold cntO jaX;simp
 have hm1:¬m<jaX E ops j:=by
  intro hlt;obtain⟨i,oi,hi,hio,hsi,he⟩:=jem (E:=E) ops m j hlt;have h3:=hord i oi hio hsi;rw[Kj hi]at h3;have:=(hall i oi hio hsi).1 h3;omega
 have hm2:¬jaX E ops j<m:=by
  intro hlt
  have hlen:jaX E ops j<jaX E ops ops.size:=by
   have:m<=ss.length:=by simp at hm;omega
   omega
  obtain⟨i,oi,hi,hio,hsi,he⟩:=jem (E:=E) ops (jaX E ops j) ops.size hlen
  have hij:¬i<j:=by
   intro hlt2;have:=jgQ (E:=E) ops hio hsi hlt2;omega
  have h3:=hord i oi hio hsi;rw[Kh hij]at h3;have:=(hall i oi hio hsi).2 h3;omega
 have hme:m=jaX E ops j:=aa
 have hget:(U::ss)[m]? = some (SS U ss (cntO E ops.toList j)):=by
  rw[hcnt,<- hme];unfold SS;rw[Kz hm];rfl
 rw[hget];simp only[hread,V.beq_refl,Xj]
theorem jh4 {E:Env}{rec:Task->Option Res}{fn:FuncId}{rnd:Option Nat}{id:Nat}{ops:Array Oper}{tmps tf:List V}{dfs:List DE}{U Uf:S}(hd:jhe E ops=true)
  (h:jdD E rec (E.mutb fn id) ops ops.toList tmps U=some (tf,Uf)):ja0 E rec fn rnd (.region id ops true) tmps dfs U=some ⟨.normal,tf,dfs,Uf⟩:=by
 unfold jhe at hd;rw[Qo]at hd;obtain⟨tr,ss,hr⟩:=jgU ops.toList h;simp only[ja0,hd.1,Km,hr,jiM hd.2 hr]
set_option linter.unusedVariables false
inductive Tre where
 |leaf
 |node (l:Tre) (v:V) (r:Tre)
noncomputable def Tre.get(t:Tre):Nat->V :=
 Tre.rec (motive:=λ_=>Nat->V) (λ_=>.tup []) (λ_ v _ gl gr n=>Bool.rec (motive:=λ_=>V) (Bool.rec (motive:=λ_=>V) (gr (Nat.pred (Nat.div n 2))) (gl (Nat.div n 2)) (Nat.beq (Nat.mod n 2) 1)) v (Nat.beq n 0)) t
noncomputable def Tre.set(v:V)(t:Tre):Nat->Tre :=
 Tre.rec (motive:=λ_=>Nat->Tre) (λ_=>.leaf) (λl u r sl sr n=>Bool.rec (motive:=λ_=>Tre) (Bool.rec (motive:=λ_=>Tre) (.node l u (sr (Nat.pred (Nat.div n 2)))) (.node (sl (Nat.div n 2)) u r) (Nat.beq (Nat.mod n 2) 1)) (.node l v r) (Nat.beq n 0)) t
theorem Tre.get_node(l r:Tre)(v:V)(n:Nat):(Tre.node l v r).get n=cond (Nat.beq n 0) v (cond (Nat.beq (n % 2) 1) (l.get (n/2)) (r.get (n/2-1))):=by
 show Bool.rec (motive:=λ_=>V) (Bool.rec (motive:=λ_=>V) (r.get (n/2-1)) (l.get (n/2)) (Nat.beq (n % 2) 1)) v (Nat.beq n 0)=_;cases Nat.beq n 0<;>cases Nat.beq (n % 2) 1<;>rfl
theorem Tre.set_node(v:V)(l r:Tre)(u:V)(n:Nat):Tre.set v (.node l u r) n=cond (Nat.beq n 0) (.node l v r) (cond (Nat.beq (n % 2) 1) (.node (Tre.set v l (n/2)) u r) (.node l u (Tre.set v r (n/2-1)))):=by
 show Bool.rec (motive:=λ_=>Tre) (Bool.rec (motive:=λ_=>Tre) (.node l u (Tre.set v r (n/2-1))) (.node (Tre.set v l (n/2)) u r) (Nat.beq (n % 2) 1)) (.node l v r) (Nat.beq n 0)=_;cases Nat.beq n 0<;>cases Nat.beq (n % 2) 1<;>rfl
noncomputable def Tre.tab(k:Nat):(Nat->V)->Tre :=
 Nat.rec (motive:=λ_=>(Nat->V)->Tre) (λ_=>.leaf) (λ_ ih f=>.node (ih λj=>f (2*j+1)) (f 0) (ih λj=>f (2*j+2))) k
theorem Tre.tab_succ(k:Nat)(f:Nat->V):Tre.tab (k+1) f=.node (Tre.tab k λj=>f (2*j+1)) (f 0) (Tre.tab k λj=>f (2*j+2)):=rfl
def Tre.isFull:Nat->Tre->Prop
 |0,_=>True
 |k+1,.node l _ r=>isFull k l/\isFull k r
 |_+1,.leaf=>False
theorem Tre.tab_full:∀(k:Nat) (f:Nat->V),(Tre.tab k f).isFull k
 |0,_=>trivial
 |k+1,f=>⟨tab_full k _,tab_full k _⟩
theorem jgl {a b:Nat}(h:a ≠ b):Nat.beq a b=false:=by
 cases hb:Nat.beq a b with
 |false=>rfl
 |true=>exact absurd (Xg hb) h
theorem jj1 {a b:Nat}(h:a=b):Nat.beq a b=true:=by subst h;exact Nat.beq_refl a
theorem je5(n:Nat):n=0\/(n ≠ 0/\n % 2=1/\n=2*(n/2)+1)\/(n ≠ 0/\n % 2 ≠ 1/\n=2*(n/2-1)+2):=aa
theorem Tre.tab_get:∀(k:Nat) (f:Nat->V) (n:Nat),n<2^k-1->(Tre.tab k f).get n=f n
 |0,f,n,h=>by simp at h
 | k+1,f,n,h=>by
  rw[Tre.tab_succ,Tre.get_node];have hp:2^(k+1)=2*2^k:=by rw[Nat.pow_succ];omega
  rcases je5 n with rfl|⟨h0,h1,h2⟩|⟨h0,h1,h2⟩
  ·rfl
  ·have e0:Nat.beq n 0=false:=jgl h0;have e1:Nat.beq (n % 2) 1=true:=jj1 h1;rw[e0,e1];show(Tre.tab k _).get (n/2)=_;rw[tab_get k _ _ aa,<- h2]
  ·have e0:Nat.beq n 0=false:=jgl h0;have e1:Nat.beq (n % 2) 1=false:=jgl h1;rw[e0,e1];show(Tre.tab k _).get (n/2-1)=_;rw[tab_get k _ _ aa,<- h2]
theorem Tre.get_out:∀(k:Nat) (f:Nat->V) (n:Nat),2^k-1<=n->(Tre.tab k f).get n=.tup []
 |0,f,n,h=>rfl
 | k+1,f,n,h=>by
  rw[Tre.tab_succ,Tre.get_node];have hp:2^(k+1)=2*2^k:=by rw[Nat.pow_succ];omega
  have h1k:1<=2^k:=Nat.one_le_two_pow
  rcases je5 n with rfl|⟨h0,h1,h2⟩|⟨h0,h1,h2⟩
  ·omega
  ·have e0:Nat.beq n 0=false:=jgl h0;have e1:Nat.beq (n % 2) 1=true:=jj1 h1;rw[e0,e1];exact get_out k _ _ aa
  ·have e0:Nat.beq n 0=false:=jgl h0;have e1:Nat.beq (n % 2) 1=false:=jgl h1;rw[e0,e1];exact get_out k _ _ aa
theorem Tre.set_full(v:V):∀(k:Nat) (t:Tre) (d:Nat),t.isFull k->(Tre.set v t d).isFull k
 |0,t,d,h=>trivial
 |k+1,.leaf,d,h=>h.elim
 | k+1,.node l u r,d,h=>by
  rw[Tre.set_node];cases Nat.beq d 0 with
  |true=>exact h
  |false =>
   cases Nat.beq (d % 2) 1 with
   |true=>exact⟨set_full v k l _ h.1,h.2⟩
   |false=>exact⟨h.1,set_full v k r _ h.2⟩
theorem Tre.get_set(v:V):∀(k:Nat) (t:Tre) (d i:Nat),t.isFull k->d<2^k-1->(Tre.set v t d).get i=if i=d then v else t.get i
 |0,t,d,i,h,hd=>by simp at hd
 |k+1,.leaf,d,i,h,hd=>h.elim
 | k+1,.node l u r,d,i,h,hd=>by
  have hp:2^(k+1)=2*2^k:=by rw[Nat.pow_succ];omega
  rw[Tre.set_node];have b0:∀n:Nat,n ≠ 0->Nat.beq n 0=false:=λn h=>jgl h
  have b1:∀n:Nat,n % 2=1->Nat.beq (n % 2) 1=true:=λn h=>jj1 h
  have b2:∀n:Nat,n % 2 ≠ 1->Nat.beq (n % 2) 1=false:=λn h=>jgl h
  rcases je5 d with rfl|⟨h0,h1,h2⟩|⟨h0,h1,h2⟩
  ·show(Tre.node l v r).get i=_;rw[Tre.get_node,Tre.get_node];by_cases hi:i=0
   ·subst hi;rfl
   ·rw[b0 i hi,Kh hi];rfl
  ·rw[b0 d h0,b1 d h1];show(Tre.node (Tre.set v l (d/2)) u r).get i=_;rw[Tre.get_node,Tre.get_node]
   rcases je5 i with rfl|⟨g0,g1,g2⟩|⟨g0,g1,g2⟩
   ·rw[Kh (λe=>h0 e.symm)];rfl
   ·rw[b0 i g0,b1 i g1];show(Tre.set v l (d/2)).get (i/2)=if i=d then v else l.get (i/2)
    rw[get_set v k l (d/2) (i/2) h.1 aa];by_cases e:i=d
    ·subst e;simp
    ·rw[Kh e,Kh aa]
   ·rw[b0 i g0,b2 i g1,Kh aa];rfl
  ·rw[b0 d h0,b2 d h1];show(Tre.node l u (Tre.set v r (d/2-1))).get i=_;rw[Tre.get_node,Tre.get_node]
   rcases je5 i with rfl|⟨g0,g1,g2⟩|⟨g0,g1,g2⟩
   ·rw[Kh (λe=>h0 e.symm)];rfl
   ·rw[b0 i g0,b1 i g1,Kh aa];rfl
   ·rw[b0 i g0,b2 i g1];show(Tre.set v r (d/2-1)).get (i/2-1)=if i=d then v else r.get (i/2-1)
    rw[get_set v k r (d/2-1) (i/2-1) h.2 aa];by_cases e:i=d
    ·subst e;simp
    ·rw[Kh e,Kh aa]
def depthF:Nat:=11
structure RepT (n:Nat) (t:Tre) (l:List V):Prop where
 len:l.length=n
 get:∀i,l.getD i (.tup [])=t.get i
 full:t.isFull depthF
 room:n<=2^depthF-1
theorem RepT.set {n:Nat}{t:Tre}{l:List V}(h:RepT n t l){d:Nat}(hd:d<n)(v:V):RepT n (Tre.set v t d) (l.set d v):=by
 refine⟨by simp[h.len],λi => ?_,Tre.set_full v _ _ _ h.full,h.room⟩;have hr:=h.room;rw[Tre.get_set v _ _ _ _ h.full aa,<- h.get i];have hl:=h.len;by_cases e:i=d
 ·subst e;simp[List.getD,hl,hd]
 ·have e2:¬d=i:=λh=>e h.symm
  simp[List.getD,e,e2]
noncomputable def ofF(l:List V):Tre:=Tre.tab depthF λi=>l.getD i (.tup [])
theorem RepT.of {n:Nat}(l:List V)(h:l.length=n)(hn:n<=2^depthF-1):RepT n (ofF l) l:=by
 refine⟨h,λi => ?_,Tre.tab_full _ _,hn⟩;by_cases hi:i<2^depthF-1
 ·rw[ofF,Tre.tab_get _ _ _ hi]
 ·rw[ofF,Tre.get_out _ _ _ aa];simp[List.getD,Ql (show l.length<=i by omega)]
theorem RepT.args {n:Nat}(as:List V)(h:as.length<=n)(hn:n<=2^depthF-1):RepT n (ofF as) (as++List.replicate (n-as.length) (.tup [])):=by
 refine⟨by simp;omega,λi => ?_,Tre.tab_full _ _,hn⟩
 have e:(as++List.replicate (n-as.length) (V.tup [])).getD i (.tup [])=as.getD i (.tup []):=by
  simp only[List.getD];by_cases hi:i<as.length
  ·rw[Ki hi]
  ·rw[Jw aa,Ql (l:=as) aa];by_cases h2:i-as.length<n-as.length
   ·rw[List.getElem?_replicate];simp[h2]
   ·rw[Ql (by simpa using h2)]
 rw[e];by_cases hi:i<2^depthF-1
 ·rw[ofF,Tre.tab_get _ _ _ hi]
 ·rw[ofF,Tre.get_out _ _ _ aa];simp[List.getD,Ql (show as.length<=i by omega)]
noncomputable def lstF(n:Nat)(t:Tre):List V:=(List.range n).map t.get
theorem RepT.lst {n:Nat}{t:Tre}{l:List V}(h:RepT n t l):lstF n t=l:=by
 apply List.ext_getElem
 ·simp[lstF,h.len]
 ·intro i h1 h2;have:=h.get i;simp[List.getD,h2]at this;simp[lstF,this]
noncomputable def jbq(E:Env)(t:Tre)(x:Operand):Option V :=
 match x with
 | .tmp i=>some (t.get i)
 | .const v=>jfS v
 | .global g=>E.gl g
 | .func f=>some (.func f [] [])
theorem RepT.eval {E:Env}{n:Nat}{t:Tre}{l:List V}(h:RepT n t l):jbr E l=jbq E t:=by
 funext x
 cases x with
 |tmp i=>simp only[jbr,jbq,h.get i]
 |const v=>rfl
 |global g=>rfl
 |func f=>rfl
section
variable (E:Env)
def opR(rec:Task->Option Res)(mutb:Bool)(ρ:Operand->Option V)(U:S)(op:Op):Option (V × S) :=
 match jba E ρ op with
 |some v=>some (v,U)
 | none =>
  match jbp E ρ U op with
  |some v=>some (v,U)
  | none =>
   match op with
   | .call { callee:=.value g,args,.. } =>
    (ρ g).bind λgv=>(jbK ρ args.toList).bind λas=>jd9 E rec gv as U
   | .call { callee:=.invoke x name,args,.. } =>
    (ρ x).bind λxv=>(jfT E xv name).bind λp=>(jbK ρ args.toList).bind λas=>jaf E rec p.1 (p.2::as) U
   |op=>jbs E mutb ρ U op
theorem jti {rec:Task->Option Res}{mutb:Bool}{tmps:List V}{U:S}{op:Op}:opV E rec mutb tmps U op=opR E rec mutb (jbr E tmps) U op:=rfl
end
abbrev KT:=Env->(Task->Option Res)->Bool->Tre->S->Option (V × S)
def retK(U:S)(o:Option V):Option (V × S) :=
 match o with
 |some v=>some (v,U)
 |none=>none
noncomputable def kIx(k:IntKind):Nat:=IntKind.rec (motive:=λ_=>Nat) 0 1 2 3 4 5 6 7 k
theorem jtj {a b:IntKind}(h:Nat.beq (kIx a) (kIx b)=true):a=b:=by
 cases a<;>cases b<;>first|rfl|(exact absurd h (by simp[kIx]))
theorem jrL(a:IntKind):Nat.beq (kIx a) (kIx a)=true:=Nat.beq_refl _
noncomputable def kTop(k:IntKind):Nat :=
 IntKind.rec (motive:=λ_=>Nat) 127 32767 2147483647 9223372036854775807 255 65535 4294967295 18446744073709551615 k
noncomputable def kSgn(k:IntKind):Bool:=IntKind.rec (motive:=λ_=>Bool) true true true true false false false false k
noncomputable def jmo(k:IntKind)(n:Int):Int :=
 Int.rec (motive:=λ_=>Int) (λm=>cond (Nat.ble m (kTop k)) (Int.ofNat m) (k.wrap (Int.ofNat m)))
  (λm=>cond (kSgn k) (cond (Nat.ble m (kTop k)) (Int.negSucc m) (k.wrap (Int.negSucc m))) (k.wrap (Int.negSucc m))) n
theorem jj2(k:IntKind)(n:Int):jmo k n=k.wrap n:=by
 cases n with
 | ofNat m =>
  show cond (Nat.ble m (kTop k)) (Int.ofNat m) (k.wrap (Int.ofNat m))=_;cases hb:Nat.ble m (kTop k)with
  |false=>rfl
  |true =>
   have h:=Vl hb;simp only[cond];cases k<;>simp only[kTop]at h<;>simp only[IntKind.wrap,IntKind.bits,IntKind.signed]<;>simp<;>omega
 | negSucc m =>
  show cond (kSgn k) (cond (Nat.ble m (kTop k)) (Int.negSucc m) (k.wrap (Int.negSucc m))) (k.wrap (Int.negSucc m))=_;cases hs:kSgn k with
  |false=>rfl
  | true =>
   simp only[cond];cases hb:Nat.ble m (kTop k)with
   |false=>rfl
   |true =>
    have h:=Vl hb;simp only;have e:Int.negSucc m = -(m:Int)-1:=aa;rw[e];cases k<;>first|(simp[kSgn]at hs;done)|(simp only[kTop]at h;simp only[IntKind.wrap,IntKind.bits,IntKind.signed,J6,Jc,Nat.reduceSub,Int.reducePow,ge_iff_le];split<;>omega)
noncomputable def ltK(a b:Int):Bool :=
 Int.rec (motive:=λ_=>Bool)
  (λm=>Int.rec (motive:=λ_=>Bool) (λn=>Nat.ble (m+1) n) (λ_=>false) b)
  (λm=>Int.rec (motive:=λ_=>Bool) (λ_=>true) (λn=>Nat.ble (n+1) m) b) a
theorem jns(a b:Int):ltK a b=decide (a<b):=by
 have hb:∀m n:Nat,Nat.ble m n=decide (m<=n):=by
  intro m n;by_cases h:m<=n
  ·simp[h,Nat.ble_eq]
  ·simp only[h,decide_false];cases hh:Nat.ble m n with
   |false=>rfl
   |true=>exact absurd (Vl hh) h
 cases a<;>cases b
 ·rename_i m n;show Nat.ble (m+1) n=_;rw[hb];congr 1;apply propext;simp only[Vb];omega
 ·rename_i m n;show false=_;symm;simp only[decide_eq_false_iff_not,Vb];omega
 ·rename_i m n;show true=_;symm;simp only[Jc,Vb];omega
 ·rename_i m n;show Nat.ble (n+1) m=_;rw[hb];congr 1;apply propext;omega
noncomputable def eqK(a b:Int):Bool :=
 Int.rec (motive:=λ_=>Bool)
  (λm=>Int.rec (motive:=λ_=>Bool) (λn=>Nat.beq m n) (λ_=>false) b)
  (λm=>Int.rec (motive:=λ_=>Bool) (λ_=>false) (λn=>Nat.beq m n) b) a
theorem jsN(a b:Int):eqK a b=(a==b):=by
 have hb:∀m n:Nat,Nat.beq m n=decide (m=n):=by
  intro m n;by_cases h:m=n
  ·subst h;simp
  ·simp only[h,decide_false];cases hh:Nat.beq m n with
   |false=>rfl
   |true=>exact absurd (Xg hh) h
 have e:∀x y:Int,(x==y)=decide (x=y):=λx y=>by
  by_cases h:x=y
  ·subst h;simp
  ·simp[h]
 rw[e];cases a<;>cases b
 ·rename_i m n;show Nat.beq m n=_;rw[hb];congr 1;apply propext;simp only[Vb];omega
 ·rename_i m n;show false=_;symm;simp only[decide_eq_false_iff_not,Vb];omega
 ·rename_i m n;show false=_;symm;simp only[decide_eq_false_iff_not,Vb];omega
 ·rename_i m n;show Nat.beq m n=_;rw[hb];congr 1;apply propext;omega
noncomputable def intK(op:BinOp):IntKind->Int->Int->Option V :=
 BinOp.rec (motive:=λ_=>IntKind->Int->Int->Option V)
  (λk a b=>some (.int k (jmo k (Int.add a b))))
  (λk a b=>some (.int k (jmo k (Int.sub a b))))
  (λk a b=>some (.int k (jmo k (Int.mul a b))))
  (jca .quo) (jca .rem) (jca .and) (jca .or) (jca .xor) (jca .shl) (jca .shr) (jca .andNot)
  (λ_ a b=>some (.bool (eqK a b))) (λ_ a b=>some (.bool (!eqK a b)))
  (λ_ a b=>some (.bool (ltK a b))) (λ_ a b=>some (.bool (!ltK b a))) (λ_ a b=>some (.bool (ltK b a))) (λ_ a b=>some (.bool (!ltK a b))) op
theorem jtk(op:BinOp)(k:IntKind)(a b:Int):intK op k a b=jca op k a b:=by
 cases op<;>first|rfl|skip
 case add=>show some (V.int k (jmo k (a+b)))=some (.int k (k.wrap (a+b)));rw[jj2]
 case sub=>show some (V.int k (jmo k (a-b)))=some (.int k (k.wrap (a-b)));rw[jj2]
 case mul=>show some (V.int k (jmo k (a*b)))=some (.int k (k.wrap (a*b)));rw[jj2]
 case eql=>show some (V.bool (eqK a b))=some (.bool (a==b));rw[jsN]
 case neq=>show some (V.bool (!eqK a b))=some (.bool (a != b));rw[jsN];rfl
 case lss=>show some (V.bool (ltK a b))=some (.bool (a<b));rw[jns]
 case leq=>show some (V.bool (!ltK b a))=some (.bool (a<=b));rw[jns];congr 1;congr 1;rw[<- decide_not];congr 1;apply propext;omega
 case gtr=>show some (V.bool (ltK b a))=some (.bool (a>b));rw[jns]
 case geq=>show some (V.bool (!ltK a b))=some (.bool (a >= b));rw[jns];congr 1;congr 1;rw[<- decide_not];congr 1;apply propext;omega
noncomputable def jtl(op:BinOp):Bool:=BinOp.rec (motive:=λ_=>Bool) false false false false false false false false true true false false false false false false false op
noncomputable def binK(E:Env)(t:TypeId)(c:Bool)(op:BinOp)(a b:V):Option V :=
 match a,b with
 | .int k n,.int k' m=>cond (jtl op) (jgI E t c op (.int k n) (.int k' m)) (cond (Nat.beq (kIx k) (kIx k')) (intK op k n m) none)
 |a,b=>jgI E t c op a b
theorem jtm(E:Env)(t:TypeId)(c:Bool)(op:BinOp)(a b:V):binK E t c op a b=jgI E t c op a b:=by
 unfold binK;split
 ·rename_i k n k' m;cases hs:jtl op with
  |true=>rfl
  | false =>
   simp only[cond]
   have hb:vBin op (.int k n) (.int k' m)=if k=k' then jca op k n m else none:=by
    cases op<;>first|rfl|(exact absurd hs (by simp[jtl]))
   have hq:∀us,vEq us c (.int k n) (.int k' m)=none:=by
    intro us;cases us with
    |none=>rfl
    |some d=>cases d<;>rfl
   have hA:jpm E t op (.int k n) (.int k' m)=none:=by cases op<;>rfl
   cases hk:Nat.beq (kIx k) (kIx k')with
   |true =>
    have e:=jtj hk;subst e;simp only[jgI,jbP,hb,Km,jtk];cases hv:jca op k n m with
    |some v=>rfl
    |none=>simp only[hA,hq];cases op<;>rfl
   |false =>
    have e:¬k=k':=λe=>by subst e;rw[jrL]at hk;simp at hk
    simp only[jgI,jbP,hb,e,Kq,hA,hq];cases op<;>rfl
 ·rfl
def faS(E:Env)(t:TypeId)(f:Nat):Option Nat :=
 match E.P.underlying t with
 |some (.struct fields)=>(fields[f]?).bind λfd=>(sz E fd.type).bind λs=>if s=0 then none else some fd.offset
 |_=>none
def fS(E:Env)(t:TypeId)(f:Nat):Option (Nat × Bool × Nat) :=
 match E.P.underlying t with
 |some (.struct fields)=>(fields[f]?).bind λfd=>(sz E fd.type).bind λs=>(aggT E fd.type).bind λg=>some (s,g,fd.offset)
 |_=>none
def iaS(E:Env)(t:TypeId):Option (Option Nat × Nat) :=
 match E.P.underlying t with
 |some (.slice e)=>(sz E e).bind λs=>some (none,s)
 |some (.array n e)=>(sz E e).bind λs=>some (some n,s)
 |_=>none
def ldS(E:Env)(t:TypeId):Option (Option Nat) :=
 (aggT E t).bind fun
 |true=>(sz E t).bind λs=>some (some s)
 |false=>some none
def miS(E:Env)(t:TypeId):Bool :=
 match E.P.underlying t with
 |some (.interface _)=>false
 |some _=>true
 |none=>false
noncomputable def kGen(op:Op):KT:=λE rec mutb t U=>opR E rec mutb (jbq E t) U op
noncomputable def juB(x:Operand):KT:=λE rec mutb t U=>retK U (jbq E t x)
noncomputable def jwu(c a b:Operand):KT:=λE rec mutb t U=>retK U (jba E (jbq E t) (.pick c a b))
noncomputable def juC(ty:TypeId):KT:=λE rec mutb t U=>(ja8 E ty).map λz=>(.ptr U.heap.length 0,U.push (.cells z.cells ty))
noncomputable def kBox(ty:TypeId)(x:Operand):KT:=λE rec mutb t U=>(jbq E t x).map λv=>(.ptr U.heap.length 0,U.push (.cells v.cells ty))
noncomputable def juD(ty:TypeId)(parts:Array (Nat × Operand)):KT:=λE rec mutb t U =>
 retK U ((jcs (jbq E t) parts.toList).bind λps=>(ja8 E ty).bind λz=>(jey E ty).bind λpl=>(jei pl z.cells ps).map .agg)
noncomputable def ldK(h:List AObj)(p:V)(o:Option Nat):Option V :=
 match o with
 |some s=>(jab h s p).map .agg
 |none=>(jab h 1 p).bind (·[0]?)
noncomputable def jwv(ty:TypeId)(x:Operand):KT:=λE rec mutb t U =>
 retK U ((jbq E t x).bind λp=>(ldS E ty).bind λo=>ldK U.heap p o)
noncomputable def juE(ty:TypeId)(a x:Operand):KT:=λE rec mutb t U =>
 (jbq E t a).bind λp=>(jbq E t x).bind λv=>(sz E ty).bind λs =>
   if v.cells.length=s then(jbZ U v.cells p).map λU'=>(.tup [],U')else none
noncomputable def kBin(op:BinOp)(ty:TypeId)(x y:Operand)(_:TypeId):KT:=λE rec mutb t U =>
 retK U ((jbq E t x).bind λa=>(jbq E t y).bind λb=>binK E ty (jcr x ||jcr y) op a b)
noncomputable def kUn(op:UnOp)(_:TypeId)(x:Operand):KT:=λE rec mutb t U=>retK U ((jbq E t x).bind λa=>vUn op a)
noncomputable def juF(ty:TypeId)(x:Operand):KT:=λE rec mutb t U =>
 retK U ((jbq E t x).bind λv=>cond (miS E ty) (some (.iface ty v)) none)
noncomputable def jww(fn:Fn)(first captured:Array Operand):KT:=λE rec mutb t U=>retK U (jba E (jbq E t) (.makeFunc fn first captured))
noncomputable def juG(ty:TypeId)(x:Operand)(lo hi mx:Option Operand):KT:=λE rec mutb t U=>retK U (jba E (jbq E t) (.slice ty x lo hi mx))
noncomputable def jov(ty:TypeId)(x:Operand)(f:Nat):KT:=λE rec mutb t U =>
 retK U ((jbq E t x).bind λv=>(faS E ty f).bind λoff=>jcO off v)
noncomputable def juH(ty:TypeId)(x:Operand)(f:Nat):KT:=λE rec mutb t U =>
 retK U ((jbq E t x).bind λv=>(jpn v).bind λcs=>(fS E ty f).bind λp=>jgH p.2.1 p.1 cs p.2.2)
noncomputable def iaK(v i:V)(p:Option Nat × Nat):Option V :=
 match p.1 with
 |none=>jaw p.2 v i
 |some n=>jeh n p.2 v i
noncomputable def jow(ty:TypeId)(x ix:Operand):KT:=λE rec mutb t U =>
 retK U ((jbq E t x).bind λv=>(jbq E t ix).bind λi=>(iaS E ty).bind (iaK v i))
noncomputable def juI(ty:TypeId)(x ix:Operand):KT:=λE rec mutb t U=>retK U (jba E (jbq E t) (.index ty x ix))
noncomputable def extK(i:Nat)(v:V):Option V :=
 match v with
 | .tup vs=>vs[i]?
 |_=>none
noncomputable def jrM(x:Operand)(i:Nat):KT:=λE rec mutb t U=>retK U ((jbq E t x).bind (extK i))
noncomputable def juJ(g:Operand)(args:List Operand):KT:=λE rec mutb t U =>
 (jbq E t g).bind λgv=>(jbK (jbq E t) args).bind λas=>jd9 E rec gv as U
noncomputable def jtn(x:Operand)(name:String)(args:List Operand):KT:=λE rec mutb t U =>
 (jbq E t x).bind λxv=>(jfT E xv name).bind λp=>(jbK (jbq E t) args).bind λas=>jaf E rec p.1 (p.2::as) U
noncomputable def kApp(c:Call):KT:=λE rec mutb t U=>jbs E mutb (jbq E t) U (.call c)
noncomputable def juK(b:Builtin):Bool:=match b with| .append| .copy=>true|_=>false
noncomputable def jto(args:Array Operand)(ats:Array TypeId)(cal:Callee):KT :=
 Callee.rec (motive:=λ_=>KT) (λg=>juJ g args.toList) (λx name=>jtn x name args.toList)
  (λb=>cond (juK b) (kApp ⟨.builtin b,args,ats⟩) (kGen (.call ⟨.builtin b,args,ats⟩))) cal
noncomputable def jwx(c:Call):KT:=Call.rec (motive:=λ_=>KT) (λcal args ats=>jto args ats cal) c
noncomputable def opK(op:Op):KT :=
 Op.rec (motive:=λ_=>KT) juB juB jwu juC kBox juD (λt l p=>kGen (.buildSlice t l p)) (λt m k v=>kGen (.insert t m k v)) jwv juE
  (λg=>kGen (.ready g)) (λg=>kGen (.waits g)) (λx=>kGen (.nilCheck x)) kBin kUn (λa b x=>kGen (.convert a b x)) (λa x=>kGen (.sliceToArrayPointer a x)) juF jww
  (λt r=>kGen (.makeMap t r)) (λt r=>kGen (.makeChan t r)) (λt l c=>kGen (.makeSlice t l c)) juG jov juH jow juI
  (λt x i c=>kGen (.lookup t x i c)) (λt m k v=>kGen (.mapUpdate t m k v)) (λt m k=>kGen (.mapEntry t m k)) (λt m s v=>kGen (.entryStore t m s v))
  (λt x=>kGen (.range t x)) (λi b=>kGen (.next i b)) (λi=>kGen (.entry i)) (λx a b c=>kGen (.typeAssert x a b c)) jrM jwx (λc=>kGen (.go c)) (λc=>kGen (.defer c))
  (λx=>kGen (.panic x)) (λc x=>kGen (.send c x)) (λt c b=>kGen (.recv t c b)) (λc b=>kGen (.select c b)) op
section
variable {E:Env}{rec:Task->Option Res}{mutb:Bool}{t:Tre}{U:S}
theorem jcl {op:Op}(h1:jbp E (jbq E t) U op=none)(h2:∀c,op ≠ .call c)(h3:jbs E mutb (jbq E t) U op=none):opR E rec mutb (jbq E t) U op=retK U (jba E (jbq E t) op):=by
 unfold opR retK;cases jba E (jbq E t) op with
 |some v=>rfl
 |none =>
  simp only[h1];cases op<;>first|exact h3|(exact absurd rfl (h2 _))
theorem juL(ty:TypeId)(x:Operand)(f:Nat):((jbq E t x).bind λv=>(faS E ty f).bind λoff=>jcO off v)=jba E (jbq E t) (.fieldAddr ty x f):=by
 simp only[jba];cases jbq E t x with
 |none=>rfl
 | some v =>
  simp only[Kl,faS];cases hu:E.P.underlying ty with
  |none=>rfl
  | some d =>
   cases d<;>first|rfl|skip
   rename_i fields;simp only;cases fields[f]? with
   |none=>rfl
   | some fd =>
    simp only[Kl];cases sz E fd.type with
    |none=>rfl
    |some s =>
     simp only[Kl];by_cases h:s=0
     ·simp[h]
     ·simp[h]
theorem jwy(ty:TypeId)(x:Operand)(f:Nat):((jbq E t x).bind λv=>(jpn v).bind λcs=>(fS E ty f).bind λp=>jgH p.2.1 p.1 cs p.2.2)=jba E (jbq E t) (.field ty x f):=by
 simp only[jba];cases jbq E t x with
 |none=>rfl
 | some v =>
  simp only[Kl,fS];cases hu:E.P.underlying ty with
  |none=>cases v<;>rfl
  | some d =>
   cases d<;>first|(cases v<;>rfl)|skip
   rename_i fields;cases v<;>first|rfl|skip
   rename_i cs;simp only[jpn,Kl];cases fields[f]? with
   |none=>rfl
   | some fd =>
    simp only[Kl];cases sz E fd.type with
    |none=>rfl
    |some s =>
     simp only[Kl];cases aggT E fd.type with
     |none=>rfl
     |some g=>rfl
theorem juM(ty:TypeId)(x ix:Operand):((jbq E t x).bind λv=>(jbq E t ix).bind λi=>(iaS E ty).bind (iaK v i))=jba E (jbq E t) (.indexAddr ty x ix):=by
 simp only[jba];cases jbq E t x with
 |none=>rfl
 | some v =>
  simp only[Kl];cases jbq E t ix with
  |none=>rfl
  | some i =>
   simp only[Kl,iaS];cases E.P.underlying ty with
   |none=>rfl
   |some d =>
    cases d<;>first|rfl|skip
    ·rename_i e;simp only;cases sz E e<;>rfl
    ·rename_i n e;simp only;cases sz E e<;>rfl
theorem juN(ty:TypeId)(x:Operand):((jbq E t x).bind λp=>(ldS E ty).bind λo=>ldK U.heap p o)=jbp E (jbq E t) U (.load ty x):=by
 simp only[jbp]
 congr 1
 funext p
 simp only[jaF,ldS];cases aggT E ty with
 |none=>rfl
 | some g =>
  cases g with
  |false=>rfl
  |true =>
   simp only[Kl];cases sz E ty<;>rfl
theorem juO(op:Op)(E:Env)(rec:Task->Option Res)(mutb:Bool)(t:Tre)(U:S):opK op E rec mutb t U=opR E rec mutb (jbq E t) U op:=by
 cases op with
 |move x=>exact(jcl (op:=.move x) rfl ae rfl).symm
 |assign x=>exact(jcl (op:=.assign x) rfl ae rfl).symm
 |pick c a b=>exact(jcl (op:=.pick c a b) rfl ae rfl).symm
 |build ty ps=>exact(jcl (op:=.build ty ps) rfl ae rfl).symm
 |unOp o ty x=>exact(jcl (op:=.unOp o ty x) rfl ae rfl).symm
 |makeFunc f a b=>exact(jcl (op:=.makeFunc f a b) rfl ae rfl).symm
 |slice ty x a b c=>exact(jcl (op:=.slice ty x a b c) rfl ae rfl).symm
 |index ty x i=>exact(jcl (op:=.index ty x i) rfl ae rfl).symm
 |extract x i=>exact(jcl (op:=.extract x i) rfl ae rfl).symm
 |alloc ty=>rfl
 |box ty x=>rfl
 |store ty a x=>rfl
 |binOp o ty x y yt =>
  rw[jcl rfl ae rfl];show retK U ((jbq E t x).bind λa=>(jbq E t y).bind λb=>binK E ty (jcr x ||jcr y) o a b)=_
  congr 1
  simp only[jba,jtm]
 |makeInterface ty x =>
  rw[jcl rfl ae rfl];show retK U ((jbq E t x).bind λv=>cond (miS E ty) (some (.iface ty v)) none)=_
  congr 1
  simp only[jba,miS]
  congr 1
  funext v
  cases E.P.underlying ty with
  |none=>rfl
  |some d=>cases d<;>rfl
 |fieldAddr ty x f=>rw[jcl rfl ae rfl];exact congrArg (retK U) (juL ty x f)
 |field ty x f=>rw[jcl rfl ae rfl];exact congrArg (retK U) (jwy ty x f)
 |indexAddr ty x i=>rw[jcl rfl ae rfl];exact congrArg (retK U) (juM ty x i)
 |load ty x =>
  show retK U ((jbq E t x).bind λp=>(ldS E ty).bind λo=>ldK U.heap p o)=_;rw[juN];unfold opR retK;simp only[jba];cases jbp E (jbq E t) U (.load ty x)<;>rfl
 |call c =>
  obtain⟨callee,args,ats⟩:=c;cases callee with
  |value g=>rfl
  |invoke x n=>rfl
  |builtin b=>cases b<;>rfl
 |_=>rfl
end
section
variable (E:Env)
noncomputable def nthF(l:List Oper):Nat->Option Oper :=
 List.rec (motive:=λ_=>Nat->Option Oper) (λ_=>none) (λo _ ih j=>cond (Nat.beq j 0) (some o) (ih (j-1))) l
theorem jpN:∀(l:List Oper) (j:Nat),nthF l j=l[j]?
 | [],j=>by simp[nthF]
 |o::l,0=>rfl
 |o::l,j+1=>by
  have:nthF (o::l) (j+1)=nthF l j:=rfl;rw[this,jpN l j,Q8]
noncomputable def jh5(ops:List Oper)(t:Tre)(j:Nat):Option Bool :=
 match nthF ops j with
 | some o=>match o.dst with
  |some d=>match t.get d with
   | .bool b=>some b
   |_=>none
  |none=>none
 |none=>none
theorem RepT.yield {n:Nat}{t:Tre}{l:List V}(h:RepT n t l)(ops:Array Oper):jaJ ops l=jh5 ops.toList t:=by
 funext j
 unfold jaJ jh5;rw[jpN,Xp];cases ops[j]? with
 |none=>rfl
 | some o =>
  simp only[Kl];cases o.dst with
  |none=>rfl
  |some d =>
   simp only[Kl];rw[<- h.get d];simp only[List.getD];cases l[d]? with
   |none=>rfl
   |some v=>cases v<;>rfl
noncomputable def putF(n:Nat)(t:Tre)(dst:Option Tmp)(v:V):Option Tre :=
 match dst with
 |none=>some t
 |some d=>cond (Nat.ble (d+1) n) (some (Tre.set v t d)) none
theorem RepT.put {n:Nat}{t t':Tre}{l:List V}(h:RepT n t l){dst:Option Tmp}{v:V}(hp:putF n t dst v=some t'):RepT n t' (putT l dst v):=by
 unfold putF at hp;cases dst with
 |none=>simp at hp;subst hp;exact h
 | some d =>
  simp only at hp;cases hb:Nat.ble (d+1) n with
  |false=>rw[hb]at hp;simp at hp
  |true =>
   rw[hb]at hp;simp at hp;subst hp;exact h.set (Vl hb) v
noncomputable def jen(rec:Task->Option Res)(mutb:Bool)(n:Nat)(ops:List Oper):List Oper->Tre->S->Option (Tre × S)
 | [],t,U=>some (t,U)
 | o::l,t,U =>
  match Region.wanted o (jh5 ops t)with
  | true =>
   match opK o.op E rec mutb t U with
   |some (v,U') =>
    match putF n t o.dst v with
    |some t'=>jen rec mutb n ops l t' U'
    |none=>none
   |none=>none
  |false =>
   match putF n t o.dst (.tup [])with
   |some t'=>jen rec mutb n ops l t' U
   |none=>none
theorem jd2 {rec:Task->Option Res}{mutb:Bool}{n:Nat}{ops:Array Oper}:∀(l:List Oper) {t t':Tre} {tmps:List V} {U U':S},RepT n t tmps->jen E rec mutb n ops.toList l t U=some (t',U') ->
  ∃tmps',jdD E rec mutb ops l tmps U=some (tmps',U')/\RepT n t' tmps'
 | [],t,t',tmps,U,U',h,he=>by
  simp only[jen,Ke,K5]at he;obtain⟨rfl,rfl⟩:=he;exact⟨tmps,rfl,h⟩
 | o::l,t,t',tmps,U,U',h,he=>by
  simp only[jen,juO]at he;simp only[jdD,h.yield ops,jti,h.eval];cases hw:Region.wanted o (jh5 ops.toList t)with
  | true =>
   simp only[hw]at he;simp only[Km];cases ho:opR E rec mutb (jbq E t) U o.op with
   |none=>rw[ho]at he;simp at he
   | some p =>
    obtain⟨v,U1⟩:=p;simp only[ho]at he;cases hp:putF n t o.dst v with
    |none=>rw[hp]at he;simp at he
    |some t1 =>
     simp only[hp]at he;exact jd2 l (h.put hp) he
  | false =>
   simp only[hw]at he;simp only[Kr,Kq];cases hp:putF n t o.dst (.tup [])with
   |none=>rw[hp]at he;simp at he
   |some t1 =>
    simp only[hp]at he;exact jd2 l (h.put hp) he
end
inductive TaskF where
 |call (f:FuncId) (args:List V) (U:S)
 |round (l:Nat) (args:List V) (U:S)
 |loop (fn:FuncId) (rnd:Option Nat) (n:Nat) (body:Code) (t:Tre) (dfs:List DE) (U:S)
structure RF where
 ex:Ex
 t:Tre
 dfs:List DE
 st:S
def RF.one:Option RF->Option Res
 |some ⟨.ret,.node _ v _,[],U⟩=>some ⟨.ret,[v],[],U⟩
 |_=>none
def recF(rf:TaskF->Option RF):Task->Option Res
 | .call f args U=>RF.one (rf (.call f args U))
 | .round l args U=>RF.one (rf (.round l args U))
 | .loop .. => none
section
variable (E:Env)(rf:TaskF->Option RF)
noncomputable def jaY(fn:FuncId)(rnd:Option Nat)(n:Nat):Code->Tre->List DE->S->Option RF
 | .skip,t,dfs,U=>some ⟨.normal,t,dfs,U⟩
 | .label _,t,dfs,U=>some ⟨.normal,t,dfs,U⟩
 | .exit id,t,dfs,U=>some ⟨.exit id,t,dfs,U⟩
 | .ret,t,dfs,U=>some ⟨.ret,t,dfs,U⟩
 | .seq a b,t,dfs,U =>
  match jaY fn rnd n a t dfs U with
  |some ⟨.normal,t,dfs,U⟩=>jaY fn rnd n b t dfs U
  |r=>r
 | .cond c a b,t,dfs,U =>
  match jbq E t c with
  |some (.bool true)=>jaY fn rnd n a t dfs U
  |some (.bool false)=>jaY fn rnd n b t dfs U
  |_=>none
 | .block id c,t,dfs,U =>
  match jaY fn rnd n c t dfs U with
  |some ⟨.exit i,t,dfs,U⟩=>some ⟨if i=id then .normal else .exit i,t,dfs,U⟩
  |r=>r
 | .loop c,t,dfs,U=>rf (.loop fn rnd n c t dfs U)
 | .scope c,t,dfs,U=>jaY fn rnd n c t dfs U
 | .region id ops false,t,dfs,U =>
  match jen E (recF rf) (E.mutb fn id) n ops.toList ops.toList t U with
  |some (t,U)=>some ⟨.normal,t,dfs,U⟩
  |none=>none
 | .region id ops true,t,dfs,U =>
  if jhe E ops then
   match jen E (recF rf) (E.mutb fn id) n ops.toList ops.toList t U with
   |some (t,U)=>some ⟨.normal,t,dfs,U⟩
   |none=>none
  else if jcK E ops (jat [] ops.toList)then
   match dRun E (recF rf) (E.mutb fn id) ops ops.toList (lstF n t) U with
   |some (tr,ss,tf,Uf)=>if jeP E ops (jat [] ops.toList) tr (U::ss)then if tf.length=n then some ⟨.normal,ofF tf,dfs,Uf⟩else none else none
   |none=>none
  else none
 | .rangeFunc f ps asg body,t,dfs,U =>
  match jbq E t f,rnd with
  | some (.func fid first captured),none =>
   match recF rf (.call fid (first++[V.yld (U.heap.length+1)]++captured) ⟨U.heap++[.defd true,.loop .ready none fn (lstF n t) ps asg body U.heap.length],U.toks⟩)with
   | some { ex:=.ret,vals:=[_],dfs:=[],st:=U2 } =>
    match U2.heap[U.heap.length+1]? with
    |some (.loop st pend fn' tmps' ps' asg' body' dfr) =>
     if st=LoopState.busy then none else
     match pend with
     |none=>some ⟨.normal,t,DE.mark U.heap.length::dfs,U2.set (U.heap.length+1) (.loop .exhausted pend fn' tmps' ps' asg' body' dfr)⟩
     |some (.exit i)=>some ⟨.exit i,t,DE.mark U.heap.length::dfs,U2.set (U.heap.length+1) (.loop .exhausted pend fn' tmps' ps' asg' body' dfr)⟩
     |some .ret=>some ⟨.ret,t,DE.mark U.heap.length::dfs,U2.set (U.heap.length+1) (.loop .exhausted pend fn' tmps' ps' asg' body' dfr)⟩
     |_=>none
    |_=>none
   |_=>none
  |_,_=>none
 |_,_,_,_=>none
noncomputable def resF(t:Tre)(h:List AObj):List ResultVar->Option (List V)
 | []=>some []
 | .tmp i::r=>(resF t h r).map (t.get i :: ·)
 | .cell a ty::r=>(jaF E h ty (t.get a)).bind λv=>(resF t h r).map (v :: ·)
noncomputable def jox(n:Nat):List (Tmp × V)->Tre->Option Tre
 | [],t=>some t
 |(d,v)::r,t=>match putF n t (some d) v with
  |some t'=>jox n r t'
  |none=>none
noncomputable def jj3:TaskF->Option RF
  | .call f args U =>
    match E.P.funcs[f]? with
    | some fn =>
      match fn.body with
      | some body =>
        if fn.name = "runtime.NumGoroutine" then none else
        if fn.ntmps<=2^depthF-1/\args.length<=fn.ntmps then
        match jaY E rf f none fn.ntmps body (ofF args) [] U with
        |some ⟨.exit _,_,_,_⟩=>none
        | some ⟨_,t,dfs,U'⟩ =>
          match jcj U'.heap dfs with
          | some h =>
            match resF E t h fn.results.toList with
            |some vs=>some ⟨.ret,.node .leaf (jay vs) .leaf,[],⟨h,U'.toks⟩⟩
            |none=>none
          |none=>none
        |none=>none
        else none
      |none=>none
    |none=>none
  | .round l args U =>
    match U.heap[l]? with
    | some (.loop .ready none fn tmps ps asg body _) =>
      if args.length ≠ ps.size then none else
      if tmps.length<=2^depthF-1 then
      (jox tmps.length (ps.toList.zip args) (ofF tmps)).bind λt0 =>
      match jaY E rf fn (some l) tmps.length asg t0 [] U with
      | some ⟨.normal,t1,[],U1⟩ =>
        match U1.heap[l]? with
        | some (.loop .ready none fn1 tm1 ps1 as1 bo1 df1) =>
          match jaY E rf fn (some l) tmps.length body t1 [] (U1.set l (.loop .busy none fn1 tm1 ps1 as1 bo1 df1))with
          | some ⟨ex,_,[],U2⟩ =>
            match U2.heap[l]? with
            | some (.loop _ _ fn2 tm2 ps2 as2 bo2 df2) =>
              match ex with
              | .normal=>some ⟨.ret,.node .leaf (.bool true) .leaf,[],U2.set l (.loop .ready none fn2 tm2 ps2 as2 bo2 df2)⟩
              | .ret=>some ⟨.ret,.node .leaf (.bool false) .leaf,[],U2.set l (.loop .done (some .ret) fn2 tm2 ps2 as2 bo2 df2)⟩
              | .exit i=>some ⟨.ret,.node .leaf (.bool false) .leaf,[],U2.set l (.loop .done (some (.exit i)) fn2 tm2 ps2 as2 bo2 df2)⟩
            |_=>none
          |_=>none
        |_=>none
      |_=>none
      else none
    |_=>none
  | .loop fn rnd n c t dfs U =>
    match jaY E rf fn rnd n c t dfs U with
    |some ⟨.normal,t',dfs',U'⟩=>rf (.loop fn rnd n c t' dfs' U')
    |r=>r
end
noncomputable def runF(E:Env):Nat->TaskF->Option RF
 |0,_=>none
 |k+1,t=>jj3 E (runF E k) t
def OkF(E:Env)(t:TaskF)(r:RF):Prop :=
 match t with
 | .call f args U=>∀s,RF.one (some r)=some s->ev E (.call f args U)=some s
 | .round n args U=>∀s,RF.one (some r)=some s->ev E (.round n args U)=some s
 | .loop fn rnd n c t dfs U=>∀tmps,RepT n t tmps->∃tmps',ev E (.loop fn rnd c tmps dfs U)=some ⟨r.ex,tmps',r.dfs,r.st⟩/\RepT n r.t tmps'
section
variable {E:Env}{rf:TaskF->Option RF}
theorem jnt {o:Option RF}{r:Res}(h:RF.one o=some r):∃q,o=some q:=by
 cases o with
 |none=>simp[RF.one]at h
 |some q=>exact⟨q,rfl⟩
theorem jj4(h:∀t r,rf t=some r->OkF E t r):∀t r,recF rf t=some r->ev E t=some r:=by
 intro t r hr;cases t with
 |call f args U =>
  obtain⟨q,hq⟩:=jnt hr;have hr':RF.one (rf (.call f args U))=some r:=hr;rw[hq]at hr';exact h _ _ hq r hr'
 |round f args U =>
  obtain⟨q,hq⟩:=jnt hr;have hr':RF.one (rf (.round f args U))=some r:=hr;rw[hq]at hr';exact h _ _ hq r hr'
 |loop=>simp[recF]at hr
theorem jmp {α:Type}{rec:Task->Option Res}{F:(Task->Option Res)->Option α}{r:α}(h:∀t r,rec t=some r->ev E t=some r)(hu:Uses rec F r):F (ev E)=some r:=by
 obtain⟨L,h1,h2⟩:=hu;exact h2 _ λp hp=>h _ _ (h1 p hp)
theorem jft {rec:Task->Option Res}{mutb:Bool}{ops:Array Oper}:∀{l:List Oper} {tmps:List V} {U:S} {r:List V × S},jdD E rec mutb ops l tmps U=some r->Uses rec (λg=>jdD E g mutb ops l tmps U) r
 | [],tmps,U,r,h=>by simp only[jdD]at h ⊢;exact Uses.const λ_=>h
 | o::l,tmps,U,r,h=>by
  simp only[jdD]at h ⊢;by_cases hw:Region.wanted o (jaJ ops tmps)=true
  ·simp only[hw,Km]at h ⊢;cases hop:opV E rec mutb tmps U o.op with
   |none=>rw[hop]at h;simp at h
   |some p =>
    obtain⟨v,U1⟩:=p;simp only[hop]at h;exact(jgh hop).and (jft h) λg h1 h2=>by simp only[h1,h2]
  ·simp only[hw,Kr,Kq]at h ⊢;exact jft h
theorem jbI(h:∀t r,rf t=some r->OkF E t r){fn:FuncId}{rnd:Option Nat}{n:Nat}:∀(c:Code) {t:Tre} {tmps:List V} {dfs:List DE} {U:S} {r:RF},RepT n t tmps->jaY E rf fn rnd n c t dfs U=some r ->
  ∃tmps',ja0 E (ev E) fn rnd c tmps dfs U=some ⟨r.ex,tmps',r.dfs,r.st⟩/\RepT n r.t tmps'
 | .skip,t,tmps,dfs,U,r,ht,he=>by simp[jaY]at he;subst he;exact⟨_,rfl,ht⟩
 | .label _,t,tmps,dfs,U,r,ht,he=>by simp[jaY]at he;subst he;exact⟨_,rfl,ht⟩
 | .exit _,t,tmps,dfs,U,r,ht,he=>by simp[jaY]at he;subst he;exact⟨_,rfl,ht⟩
 | .ret,t,tmps,dfs,U,r,ht,he=>by simp[jaY]at he;subst he;exact⟨_,rfl,ht⟩
 | .goto _,t,tmps,dfs,U,r,ht,he=>by simp[jaY]at he
 | .refuse _,t,tmps,dfs,U,r,ht,he=>by simp[jaY]at he
 | .scope c,t,tmps,dfs,U,r,ht,he=>by simp only[jaY]at he;simp only[ja0];exact jbI h c ht he
 | .seq a b,t,tmps,dfs,U,r,ht,he=>by
  simp only[jaY]at he;cases ha:jaY E rf fn rnd n a t dfs U with
  |none=>rw[ha]at he;simp at he
  | some ra =>
   obtain⟨l1,h1,h2⟩:=jbI h a ht ha;obtain⟨ex,t1,d1,s1⟩:=ra;cases ex with
   |normal =>
    simp only[ha]at he;simp only[ja0,h1];exact jbI h b h2 he
   |exit i=>simp only[ha,Ke]at he;subst he;exact⟨l1,by simp only[ja0,h1],h2⟩
   |ret=>simp only[ha,Ke]at he;subst he;exact⟨l1,by simp only[ja0,h1],h2⟩
 | .cond c a b,t,tmps,dfs,U,r,ht,he=>by
  simp only[jaY]at he;simp only[ja0,ht.eval];split at he
  ·rename_i hc;simp only[hc];exact jbI h a ht he
  ·rename_i hc;simp only[hc];exact jbI h b ht he
  ·simp at he
 | .block id c,t,tmps,dfs,U,r,ht,he=>by
  simp only[jaY]at he;cases hc:jaY E rf fn rnd n c t dfs U with
  |none=>rw[hc]at he;simp at he
  |some rc =>
   obtain⟨l1,h1,h2⟩:=jbI h c ht hc;obtain⟨ex,t1,d1,s1⟩:=rc;simp only[hc]at he;simp only[ja0,h1];cases ex with
   |normal=>simp only[Ke]at he;subst he;exact⟨l1,rfl,h2⟩
   |exit i=>simp only[Ke]at he;subst he;exact⟨l1,rfl,h2⟩
   |ret=>simp only[Ke]at he;subst he;exact⟨l1,rfl,h2⟩
 | .loop c,t,tmps,dfs,U,r,ht,he=>by
  simp only[jaY]at he;simp only[ja0];exact h _ _ he tmps ht
 | .region id ops false,t,tmps,dfs,U,r,ht,he=>by
  simp only[jaY]at he;cases hc:jen E (recF rf) (E.mutb fn id) n ops.toList ops.toList t U with
  |none=>rw[hc]at he;simp at he
  |some p =>
   obtain⟨t1,U1⟩:=p;simp only[hc,Ke]at he;subst he;obtain⟨l1,h1,h2⟩:=jd2 E ops.toList ht hc;have h3:=jmp (jj4 h) (jft h1);obtain⟨lo⟩:=ops;exact⟨l1,jhd _ _ _ _ _ _ _ _ _ _ _ h3,h2⟩
 | .region id ops true,t,tmps,dfs,U,r,ht,he=>by
  simp only[jaY]at he;split at he
  ·rename_i hd;cases hc:jen E (recF rf) (E.mutb fn id) n ops.toList ops.toList t U with
   |none=>rw[hc]at he;simp at he
   |some p =>
    obtain⟨t1,U1⟩:=p;simp only[hc,Ke]at he;subst he;obtain⟨l1,h1,h2⟩:=jd2 E ops.toList ht hc;have h3:=jmp (jj4 h) (jft h1);exact⟨l1,jh4 hd h3,h2⟩
  ·split at he
   ·rename_i hp;rw[ht.lst]at he;cases hc:dRun E (recF rf) (E.mutb fn id) ops ops.toList tmps U with
    |none=>rw[hc]at he;simp at he
    | some q =>
     obtain⟨tr,ss,tf,Uf⟩:=q;simp only[hc]at he;split at he
     ·rename_i hk;split at he
      ·rename_i hl;simp only[Ke]at he;subst he;have h3:=jmp (jj4 h) (jgi hc);exact⟨tf,by simp only[ja0,hp,Km,h3,hk],RepT.of tf hl ht.room⟩
      ·simp at he
     ·simp at he
   ·simp at he
 | .rangeFunc f ps asg body,t,tmps,dfs,U,r,ht,he=>by
  simp only[jaY]at he;simp only[ja0,ht.eval];split at he
  ·rename_i fid first captured hf
   rw[ht.lst]at he;simp only[hf];cases hc:recF rf (.call fid (first++[V.yld (U.heap.length+1)]++captured) ⟨U.heap++[.defd true,.loop .ready none fn tmps ps asg body U.heap.length],U.toks⟩)with
   |none=>rw[hc]at he;simp at he
   | some rc =>
    rw[hc]at he;rw[jj4 h _ _ hc];split at he
    ·rename_i heq;simp only[Ke]at heq;subst heq;simp only;split at he
     ·rename_i hl;simp only[hl];split at he
      ·simp at he
      ·rename_i hb;simp only[hb,Kq];split at he
       ·simp only[Ke]at he;subst he;exact⟨tmps,rfl,ht⟩
       ·simp only[Ke]at he;subst he;exact⟨tmps,rfl,ht⟩
       ·simp only[Ke]at he;subst he;exact⟨tmps,rfl,ht⟩
       ·simp at he
     ·simp at he
    ·simp at he
  ·simp at he
theorem RepT.res {n:Nat}{t:Tre}{l:List V}(hr:RepT n t l){h:List AObj}:∀rs,resV E l h rs=resF E t h rs
 | []=>rfl
 | .tmp t::r=>by simp only[resV,resF,hr.get t,RepT.res hr r]
 | .cell a t::r=>by simp only[resV,resF,hr.get a,RepT.res hr r]
theorem RepT.sets {n:Nat}:∀(l:List (Tmp × V)) {t t':Tre} {tmps:List V},RepT n t tmps->jox n l t=some t'->RepT n t' (l.foldl (λts (x:Tmp × V)=>ts.set x.1 x.2) tmps)
 | [],t,t',tmps,h,hs=>by simp[jox]at hs;subst hs;exact h
 | (d,v)::r,t,t',tmps,h,hs=>by
  simp only[jox]at hs;cases hp:putF n t (some d) v with
  |none=>rw[hp]at hs;simp at hs
  |some t1 =>
   simp only[hp]at hs;exact RepT.sets r (h.put hp) hs
theorem jmq (h:∀t r,rf t=some r->OkF E t r):∀t r,jj3 E rf t=some r->OkF E t r:=by
 intro t r he;cases t with
 | call f args U =>
  simp only[jj3]at he;intro s hv;refine jed ?_;simp only[jea];cases hf:E.P.funcs[f]? with
  |none=>rw[hf]at he;simp at he
  | some fn =>
   simp only[hf]at he ⊢;cases hb:fn.body with
   |none=>rw[hb]at he;simp at he
   | some body =>
    simp only[hb]at he ⊢;by_cases hn:fn.name = "runtime.NumGoroutine"
    ·simp[hn]at he
    ·simp only[hn,Kq]at he ⊢;split at he
     ·rename_i hsz;cases hc:jaY E rf f none fn.ntmps body (ofF args) [] U with
      |none=>rw[hc]at he;simp at he
      | some rc =>
       obtain⟨l1,h1,h2⟩:=jbI h body (RepT.args args hsz.2 hsz.1) hc;obtain⟨ex,t1,d1,s1⟩:=rc;simp only[hc]at he;simp only[h1]
       have fin:(match jcj s1.heap d1 with
         |some h=>match resF E t1 h fn.results.toList with
          |some vs=>some (⟨Ex.ret,.node .leaf (jay vs) .leaf,[],⟨h,s1.toks⟩⟩:RF)
          |none=>none
         |none=>none)=some r->(match jcj s1.heap d1 with
         |some h=>match resV E l1 h fn.results.toList with
          |some vs=>some (⟨Ex.ret,[jay vs],[],⟨h,s1.toks⟩⟩:Res)
          |none=>none
         |none=>none)=some s:=by
        intro hh;cases ht:jcj s1.heap d1 with
        |none=>simp[ht]at hh
        | some hp =>
         simp only[ht]at hh ⊢;rw[h2.res];cases hrs:resF E t1 hp fn.results.toList with
         |none=>rw[hrs]at hh;simp at hh
         |some vs =>
          simp only[hrs,Ke]at hh ⊢;subst hh;simpa[RF.one]using hv
       cases ex with
       |exit i=>simp at he
       |normal=>exact fin he
       |ret=>exact fin he
     ·simp at he
 | round l args U =>
  simp only[jj3]at he;intro s0 hv;refine jed ?_;simp only[jea];split at he
  ·rename_i fn tmps ps asg body d hl;simp only[hl];split at he
   ·simp at he
   ·rename_i hn;simp only[hn,Kq];split at he
    ·rename_i hsz;cases hs:jox tmps.length (ps.toList.zip args) (ofF tmps)with
     |none=>rw[hs]at he;simp at he
     | some t0 =>
      simp only[hs,Kl]at he;have hr0:=RepT.sets _ (RepT.of tmps rfl hsz) hs;cases hc:jaY E rf fn (some l) tmps.length asg t0 [] U with
      |none=>rw[hc]at he;simp at he
      | some rc =>
       obtain⟨l1,h1,h2⟩:=jbI h asg hr0 hc;rw[hc]at he;split at he
       ·rename_i t1 U1 heq;simp only[Ke]at heq;subst heq;simp only at h1 h2;simp only[h1];split at he
        ·rename_i fn1 tm1 ps1 as1 bo1 df1 hl1;simp only[hl1];cases hc2:jaY E rf fn (some l) tmps.length body t1 [] (U1.set l (.loop .busy none fn1 tm1 ps1 as1 bo1 df1))with
         |none=>rw[hc2]at he;simp at he
         | some rd =>
          obtain⟨l2,g1,g2⟩:=jbI h body h2 hc2;rw[hc2]at he;split at he
          ·rename_i ex t2 U2 heq2;simp only[Ke]at heq2;subst heq2;simp only at g1;simp only[g1];split at he
           ·rename_i hl2;simp only[hl2];cases ex with
            |normal=>simp only[Ke]at he;subst he;simpa[RF.one]using hv
            |exit i=>simp only[Ke]at he;subst he;simpa[RF.one]using hv
            |ret=>simp only[Ke]at he;subst he;simpa[RF.one]using hv
           ·simp at he
          ·simp at he
        ·simp at he
       ·simp at he
    ·simp at he
  ·simp at he
 | loop fn rnd n c t dfs U =>
  simp only[jj3]at he;intro tmps ht;cases hc:jaY E rf fn rnd n c t dfs U with
  |none=>rw[hc]at he;simp at he
  | some rc =>
   obtain⟨l1,h1,h2⟩:=jbI h c ht hc;obtain⟨ex,t1,d1,s1⟩:=rc;cases ex with
   |normal =>
    simp only[hc]at he;obtain⟨l2,g1,g2⟩:=h _ _ he l1 h2;exact⟨l2,jed (by simp only[jea,h1];exact g1),g2⟩
   |exit i=>simp only[hc,Ke]at he;subst he;exact⟨l1,jed (by simp only[jea,h1]),h2⟩
   |ret=>simp only[hc,Ke]at he;subst he;exact⟨l1,jed (by simp only[jea,h1]),h2⟩
theorem ji6(E:Env):∀(k:Nat) (t:TaskF) (r:RF),runF E k t=some r->OkF E t r
 |0,t,r,h=>by simp[runF]at h
 |k+1,t,r,h=>jmq (ji6 E k) t r h
theorem evF {k:Nat}{f:FuncId}{args:List V}{U U':S}{l q:Tre}{v:V}(h:runF E k (.call f args U)=some ⟨.ret,.node l v q,[],U'⟩):ev E (.call f args U)=some ⟨.ret,[v],[],U'⟩ :=
 ji6 E k _ _ h _ rfl
end
abbrev LT:=Env->(Task->Option Res)->Bool->Nat->List Oper->Tre->S->Option (Tre × S)
noncomputable def kNil:LT:=λE rec mutb n ops t U=>some (t,U)
noncomputable def kPut(ih:LT)(dst:Option Tmp)(E:Env)(rec:Task->Option Res)(mutb:Bool)(n:Nat)(ops:List Oper)(t:Tre)(v:V)(U:S):Option (Tre × S) :=
 Option.rec (motive:=λ_=>Option (Tre × S)) none (λt'=>ih E rec mutb n ops t' U) (putF n t dst v)
noncomputable def kRun(ih:LT)(o:Oper)(E:Env)(rec:Task->Option Res)(mutb:Bool)(n:Nat)(ops:List Oper)(t:Tre)(U:S):Option (Tre × S) :=
 Option.rec (motive:=λ_=>Option (Tre × S)) none (λp=>kPut ih o.dst E rec mutb n ops t p.1 p.2) (opK o.op E rec mutb t U)
noncomputable def jwz(o:Oper)(_:List Oper)(ih:LT):LT:=λE rec mutb n ops t U =>
 Bool.rec (motive:=λ_=>Option (Tre × S)) (kPut ih o.dst E rec mutb n ops t (.tup []) U) (kRun ih o E rec mutb n ops t U) (Region.wanted o (jh5 ops t))
noncomputable def jnu(l:List Oper):LT:=List.rec (motive:=λ_=>LT) kNil jwz l
theorem jh6:∀(l:List Oper) (E:Env) (rec:Task->Option Res) (mutb:Bool) (n:Nat) (ops:List Oper) (t:Tre) (U:S),jnu l E rec mutb n ops t U=jen E rec mutb n ops l t U
 | [],E,rec,mutb,n,ops,t,U=>rfl
 | o::l,E,rec,mutb,n,ops,t,U=>by
  show Bool.rec (motive:=λ_=>Option (Tre × S)) (kPut (jnu l) o.dst E rec mutb n ops t (.tup []) U) (kRun (jnu l) o E rec mutb n ops t U) (Region.wanted o (jh5 ops t))=_;simp only[jen];cases Region.wanted o (jh5 ops t)with
  | true =>
   simp only[kRun];cases opK o.op E rec mutb t U with
   |none=>rfl
   |some p =>
    obtain⟨v,U1⟩:=p;simp only[kPut];cases putF n t o.dst v with
    |none=>rfl
    |some t1=>exact jh6 l E rec mutb n ops t1 U1
  |false =>
   simp only[kPut];cases putF n t o.dst (.tup [])with
   |none=>rfl
   |some t1=>exact jh6 l E rec mutb n ops t1 U
abbrev CT:=Env->(TaskF->Option RF)->FuncId->Option Nat->Nat->Tre->List DE->S->Option RF
noncomputable def juP:CT:=λE rf fn rnd n t dfs U=>some ⟨.normal,t,dfs,U⟩
noncomputable def jwA(id:Nat):CT:=λE rf fn rnd n t dfs U=>some ⟨.exit id,t,dfs,U⟩
noncomputable def cRet:CT:=λE rf fn rnd n t dfs U=>some ⟨.ret,t,dfs,U⟩
noncomputable def juQ:CT:=λE rf fn rnd n t dfs U=>none
noncomputable def juR(ib:CT)(E:Env)(rf:TaskF->Option RF)(fn:FuncId)(rnd:Option Nat)(n:Nat)(r:RF):Option RF :=
 match r with
 |⟨.normal,t,dfs,U⟩=>ib E rf fn rnd n t dfs U
 |r=>some r
noncomputable def cSeq(_ _:Code)(ia ib:CT):CT:=λE rf fn rnd n t dfs U=>Option.rec (motive:=λ_=>Option RF) none (λr=>juR ib E rf fn rnd n r) (ia E rf fn rnd n t dfs U)
noncomputable def cIf(ia ib:CT)(E:Env)(rf:TaskF->Option RF)(fn:FuncId)(rnd:Option Nat)(n:Nat)(t:Tre)(dfs:List DE)(U:S)(v:V):Option RF :=
 match v with
 | .bool b=>Bool.rec (motive:=λ_=>Option RF) (ib E rf fn rnd n t dfs U) (ia E rf fn rnd n t dfs U) b
 |_=>none
noncomputable def jwB(c:Operand)(_ _:Code)(ia ib:CT):CT:=λE rf fn rnd n t dfs U=>Option.rec (motive:=λ_=>Option RF) none (λv=>cIf ia ib E rf fn rnd n t dfs U v) (jbq E t c)
noncomputable def cOut(id:Nat)(r:RF):RF :=
 match r with
 |⟨.exit i,t,dfs,U⟩=>Bool.rec (motive:=λ_=>RF) ⟨.exit i,t,dfs,U⟩ ⟨.normal,t,dfs,U⟩ (Nat.beq i id)
 |r=>r
noncomputable def juS(id:Nat)(_:Code)(ia:CT):CT:=λE rf fn rnd n t dfs U=>Option.rec (motive:=λ_=>Option RF) none (λr=>some (cOut id r)) (ia E rf fn rnd n t dfs U)
noncomputable def jwC(c:Code)(_:CT):CT:=λE rf fn rnd n t dfs U=>rf (.loop fn rnd n c t dfs U)
noncomputable def juT(_:Code)(ia:CT):CT:=λE rf fn rnd n t dfs U=>ia E rf fn rnd n t dfs U
noncomputable def juU(f:Operand)(ps:Array Tmp)(asg body:Code)(_ _:CT):CT:=λE rf fn rnd n t dfs U=>jaY E rf fn rnd n (.rangeFunc f ps asg body) t dfs U
noncomputable def jwD(dfs:List DE)(p:Tre × S):Option RF:=some ⟨.normal,p.1,dfs,p.2⟩
noncomputable def ji7(id:Nat)(ops:List Oper):CT:=λE rf fn rnd n t dfs U =>
 Option.rec (motive:=λ_=>Option RF) none (jwD dfs) (jnu ops E (recF rf) (E.mutb fn id) n ops t U)
noncomputable def jwE(id:Nat)(ops:Array Oper):CT:=ji7 id ops.toList
noncomputable def juV(id:Nat)(ops:Array Oper):CT:=λE rf fn rnd n t dfs U =>
 Bool.rec (motive:=λ_=>Option RF) (jaY E rf fn rnd n (.region id ops true) t dfs U) (ji7 id ops.toList E rf fn rnd n t dfs U) (jhe E ops)
noncomputable def jtp(id:Nat)(ops:Array Oper)(d:Bool):CT:=Bool.rec (motive:=λ_=>CT) (jwE id ops) (juV id ops) d
noncomputable def jgm(c:Code):CT :=
 Code.rec (motive:=λ_=>CT) juP jtp cSeq jwB juS jwC juU jwA juT (λ_=>juP) (λ_=>juQ) cRet (λ_=>juQ) c
theorem jkY(id:Nat)(ops:Array Oper)(E:Env)(rf:TaskF->Option RF)(fn:FuncId)(rnd:Option Nat)(n:Nat)(t:Tre)(dfs:List DE)(U:S) :
  ji7 id ops.toList E rf fn rnd n t dfs U=(match jen E (recF rf) (E.mutb fn id) n ops.toList ops.toList t U with
   |some (t,U)=>some ⟨.normal,t,dfs,U⟩
   |none=>none):=by
 simp only[ji7,jh6];cases jen E (recF rf) (E.mutb fn id) n ops.toList ops.toList t U with
 |none=>rfl
 |some p=>rfl
theorem jdl:∀(c:Code) (E:Env) (rf:TaskF->Option RF) (fn:FuncId) (rnd:Option Nat) (n:Nat) (t:Tre) (dfs:List DE) (U:S),jgm c E rf fn rnd n t dfs U=jaY E rf fn rnd n c t dfs U
 | .skip,E,rf,fn,rnd,n,t,dfs,U=>by simp only[jaY];rfl
 | .label _,E,rf,fn,rnd,n,t,dfs,U=>by simp only[jaY];rfl
 | .exit _,E,rf,fn,rnd,n,t,dfs,U=>by simp only[jaY];rfl
 | .ret,E,rf,fn,rnd,n,t,dfs,U=>by simp only[jaY];rfl
 | .goto _,E,rf,fn,rnd,n,t,dfs,U=>by simp only[jaY];rfl
 | .refuse _,E,rf,fn,rnd,n,t,dfs,U=>by simp only[jaY];rfl
 | .rangeFunc _ _ _ _,E,rf,fn,rnd,n,t,dfs,U=>rfl
 | .loop _,E,rf,fn,rnd,n,t,dfs,U=>by simp only[jaY];rfl
 | .scope c,E,rf,fn,rnd,n,t,dfs,U=>by simp only[jaY];exact jdl c E rf fn rnd n t dfs U
 | .seq a b,E,rf,fn,rnd,n,t,dfs,U=>by
  show Option.rec (motive:=λ_=>Option RF) none (λr=>juR (jgm b) E rf fn rnd n r) (jgm a E rf fn rnd n t dfs U)=_;simp only[jaY,jdl a];cases jaY E rf fn rnd n a t dfs U with
  |none=>rfl
  |some r =>
   obtain⟨ex,t1,d1,s1⟩:=r;cases ex with
   |normal=>exact jdl b E rf fn rnd n t1 d1 s1
   |exit i=>rfl
   |ret=>rfl
 | .cond c a b,E,rf,fn,rnd,n,t,dfs,U=>by
  show Option.rec (motive:=λ_=>Option RF) none (λv=>cIf (jgm a) (jgm b) E rf fn rnd n t dfs U v) (jbq E t c)=_;simp only[jaY];cases jbq E t c with
  |none=>rfl
  |some v =>
   cases v<;>first|rfl|skip
   rename_i b0;cases b0 with
   |true=>exact jdl a E rf fn rnd n t dfs U
   |false=>exact jdl b E rf fn rnd n t dfs U
 | .block id c,E,rf,fn,rnd,n,t,dfs,U=>by
  show Option.rec (motive:=λ_=>Option RF) none (λr=>some (cOut id r)) (jgm c E rf fn rnd n t dfs U)=_;simp only[jaY,jdl c];cases jaY E rf fn rnd n c t dfs U with
  |none=>rfl
  | some r =>
   obtain⟨ex,t1,d1,s1⟩:=r;cases ex with
   |normal=>rfl
   |ret=>rfl
   |exit i =>
    show some (Bool.rec (motive:=λ_=>RF) ⟨.exit i,t1,d1,s1⟩ ⟨.normal,t1,d1,s1⟩ (Nat.beq i id))=some ⟨if i=id then .normal else .exit i,t1,d1,s1⟩;by_cases h:i=id
    ·rw[jj1 h,Kj h]
    ·rw[jgl h,Kh h]
 | .region id ops d,E,rf,fn,rnd,n,t,dfs,U=>by
  cases d with
  |false =>
   show ji7 id ops.toList E rf fn rnd n t dfs U=_;simp only[jaY,jkY]<;>rfl
  |true =>
   show Bool.rec (motive:=λ_=>Option RF) (jaY E rf fn rnd n (.region id ops true) t dfs U) (ji7 id ops.toList E rf fn rnd n t dfs U) (jhe E ops)=_;cases hx:jhe E ops with
   |false=>rfl
   |true=>simp only[jaY,hx,jkY,Km]<;>rfl
noncomputable def tEnd(E:Env)(rf:TaskF->Option RF)(fn:Func)(t:Tre)(dfs:List DE)(U:S):Option RF :=
 match jcj U.heap dfs with
 |some h =>
  match resF E t h fn.results.toList with
  |some vs=>some ⟨.ret,.node .leaf (jay vs) .leaf,[],⟨h,U.toks⟩⟩
  |none=>none
 |none=>none
noncomputable def tOut(E:Env)(rf:TaskF->Option RF)(fn:Func)(r:RF):Option RF :=
 match r with
 |⟨.exit _,_,_,_⟩=>none
 |⟨_,t,dfs,U⟩=>tEnd E rf fn t dfs U
noncomputable def fnS(E:Env)(f:FuncId):Option Func:=E.P.funcs[f]?
noncomputable def okS(E:Env)(f:FuncId)(k:Nat):Bool :=
 match E.P.funcs[f]? with
 |some fn=>decide (fn.name ≠ "runtime.NumGoroutine") && decide (fn.ntmps<=2^depthF-1) && Nat.ble k fn.ntmps
 |none=>false
noncomputable def ntS(E:Env)(f:FuncId):Nat:=match E.P.funcs[f]? with|some fn=>fn.ntmps|none=>0
noncomputable def juW(E:Env)(f:FuncId):Option Code:=(E.P.funcs[f]?).bind (·.body)
noncomputable def tFn(E:Env)(rf:TaskF->Option RF)(f:FuncId)(args:List V)(U:S)(fn:Func)(body:Code):Option RF :=
 Bool.rec (motive:=λ_=>Option RF) none (Option.rec (motive:=λ_=>Option RF) none (tOut E rf fn) (jgm body E rf f none (ntS E f) (ofF args) [] U)) (okS E f args.length)
noncomputable def jtq(E:Env)(rf:TaskF->Option RF)(f:FuncId)(args:List V)(U:S):Option RF :=
 Option.rec (motive:=λ_=>Option RF) none (λfn=>Option.rec (motive:=λ_=>Option RF) none (λbody=>tFn E rf f args U fn body) (juW E f)) (fnS E f)
noncomputable def juX(E:Env)(rf:TaskF->Option RF)(fn:FuncId)(rnd:Option Nat)(n:Nat)(c:Code)(r:RF):Option RF :=
 match r with
 |⟨.normal,t,dfs,U⟩=>rf (.loop fn rnd n c t dfs U)
 |r=>some r
noncomputable def jtr(E:Env)(rf:TaskF->Option RF)(t:TaskF):Option RF :=
 TaskF.rec (motive:=λ_=>Option RF) (λf args U=>jtq E rf f args U) (λl args U=>jj3 E rf (.round l args U))
  (λfn rnd n c t dfs U=>Option.rec (motive:=λ_=>Option RF) none (juX E rf fn rnd n c) (jgm c E rf fn rnd n t dfs U)) t
theorem jrN(E:Env)(rf:TaskF->Option RF)(t:TaskF):jtr E rf t=jj3 E rf t:=by
 cases t with
 |round l args U=>rfl
 |loop fn rnd n c t dfs U =>
  show Option.rec (motive:=λ_=>Option RF) none (juX E rf fn rnd n c) (jgm c E rf fn rnd n t dfs U)=_;simp only[jj3,jdl];cases jaY E rf fn rnd n c t dfs U with
  |none=>rfl
  |some r=>obtain⟨ex,t1,d1,s1⟩:=r;cases ex<;>rfl
 | call f args U =>
  show jtq E rf f args U=_;simp only[jj3,jtq,fnS,juW];cases hf:E.P.funcs[f]? with
  |none=>rfl
  | some fn =>
   simp only[Kl];cases hb:fn.body with
   |none=>rfl
   | some body =>
    simp only[tFn,okS,ntS,hf,jdl];by_cases hn:fn.name = "runtime.NumGoroutine"
    ·simp[hn]
    ·by_cases h1:fn.ntmps<=2^depthF-1
     ·by_cases h2:args.length<=fn.ntmps
      ·have e:(decide (fn.name ≠ "runtime.NumGoroutine") && decide (fn.ntmps<=2^depthF-1) && Nat.ble args.length fn.ntmps)=true:=by
        rw[Nat.ble_eq_true_of_le h2];simp[hn,h1]
       rw[e];simp only[hn,Kq,h1,h2,and_self,Km];cases jaY E rf f none fn.ntmps body (ofF args) [] U with
       |none=>rfl
       |some r=>obtain⟨ex,t1,d1,s1⟩:=r;cases ex<;>rfl
      ·have e:Nat.ble args.length fn.ntmps=false:=by
        cases hh:Nat.ble args.length fn.ntmps with
        |false=>rfl
        |true=>exact absurd (Vl hh) h2
       rw[e];simp[hn,h2]
     ·simp[hn,h1]
noncomputable def runQ(E:Env)(k:Nat):TaskF->Option RF:=Nat.rec (motive:=λ_=>TaskF->Option RF) (λ_=>none) (λ_ ih=>jtr E ih) k
theorem jb9(E:Env):∀k,runQ E k=runF E k
 |0=>rfl
 |k+1=>by
  funext t
  show jtr E (runQ E k) t=_;rw[jrN,jb9 E k];rfl
abbrev Tm:=Nat->V
def upd(T:Tm)(d:Nat)(v:V):Tm:=λt=>if t=d then v else T t
theorem Z7(T:Tm)(d:Nat)(v:V)(t:Nat):upd T d v t=if t=d then v else T t:=rfl
def Rep(n:Nat)(T:Tm)(l:List V):Prop:=l.length=n/\∀t,l.getD t (.tup [])=T t
theorem Rep.upd {n:Nat}{T:Tm}{l:List V}(h:Rep n T l){d:Nat}(hd:d<n)(v:V):Rep n (upd T d v) (l.set d v):=by
 refine⟨by simp[h.1],λt => ?_⟩;rw[Z7];have hl:=h.1;by_cases e:t=d
 ·subst e;simp[List.getD,hl,hd]
 ·simp only[e,Kq];rw[<- h.2 t];simp[List.getD,show ¬d=t from λh=>e h.symm]
def jaP(E:Env)(T:Tm):Operand->Option V
 | .tmp t=>some (T t)
 | .const v=>jfS v
 | .global g=>E.gl g
 | .func f=>some (.func f [] [])
theorem Rep.eval {E:Env}{n:Nat}{T:Tm}{l:List V}(h:Rep n T l):jbr E l=jaP E T:=by
 funext x
 cases x with
 |tmp t=>simp only[jbr,jaP,h.2 t]
 |const v=>rfl
 |global g=>rfl
 |func f=>rfl
def argT(vs:List V):Tm:=λt=>vs.getD t (.tup [])
theorem Rep.args(vs:List V)(n:Nat)(h:vs.length<=n):Rep n (argT vs) (vs++List.replicate (n-vs.length) (.tup [])):=by
 refine⟨by simp;omega,λt => ?_⟩;simp only[argT,List.getD];by_cases ht:t<vs.length
 ·rw[Ki ht]
 ·rw[Jw aa,Ql (l:=vs) aa];by_cases h2:t-vs.length<n-vs.length
  ·rw[List.getElem?_replicate];simp[h2]
  ·rw[Ql (by simpa using h2)]
def V1 {α:Type}(o:Option α)(k:α->Prop):Prop:=∃v,o=some v/\k v
theorem Yy {α:Type}(v:α)(k:α->Prop):V1 (some v) k=k v:=by simp[V1]
theorem jkZ {α:Type}(c:Prop)[Decidable c](a:Option α)(k:α->Prop):V1 (if c then a else none) k=(c/\V1 a k):=by
 by_cases h:c<;>simp[h,V1]
theorem jh7 {α:Type}(c:Prop)[Decidable c](a:Option α)(k:α->Prop):V1 (if c then none else a) k=(¬c/\V1 a k):=by
 by_cases h:c<;>simp[h,V1]
section
variable (E:Env)
noncomputable def opT(mutb:Bool)(T:Tm)(U:S)(op:Op):Option (V × S) :=
 match jba E (jaP E T) op with
 |some v=>some (v,U)
 | none =>
  match jbp E (jaP E T) U op with
  |some v=>some (v,U)
  | none =>
   match op with
   | .call { callee:=.value g,args,.. } =>
    (jaP E T g).bind λgv=>(jbK (jaP E T) args.toList).bind λas=>jd9 E (ev E) gv as U
   | .call { callee:=.invoke x name,args,.. } =>
    (jaP E T x).bind λxv=>(jfT E xv name).bind λp=>(jbK (jaP E T) args.toList).bind λas=>jaf E (ev E) p.1 (p.2::as) U
   |op=>jbs E mutb (jaP E T) U op
def wpO(mutb:Bool)(T:Tm)(U:S)(op:Op)(k:V->S->Prop):Prop:=V1 (opT E mutb T U op) λp=>k p.1 p.2
theorem ji8 {mutb:Bool}{n:Nat}{T:Tm}{l:List V}(h:Rep n T l){U:S}{op:Op}{k:V->S->Prop}(hw:wpO E mutb T U op k) :
  ∃v U',opV E (ev E) mutb l U op=some (v,U')/\k v U':=by
 obtain⟨⟨v,U'⟩,h1,h2⟩:=hw;refine⟨v,U',?_,h2⟩;unfold opV;rw[h.eval];exact h1
def jhf(v:V):Option Bool :=
 match v with
 | .bool b=>some b
 |_=>none
def Br(v:V)(A B:Prop):Prop:=V1 (jhf v) λb=>(b=true->A)/\(b=false->B)
theorem jmr(A B:Prop):Br (.bool true) A B=A:=by simp[Br,jhf,V1]
theorem jj5(A B:Prop):Br (.bool false) A B=B:=by simp[Br,jhf,V1]
theorem jts(v:V):Br v False False=False:=by simp only[Br,V1,eq_iff_iff,iff_false];rintro⟨b,_,h1,h2⟩;cases b;exact h2 rfl;exact h1 rfl
theorem jpO(b:Bool)(A B:Prop):Br (.bool b) A B=((b=true->A)/\(b=false->B)):=by simp[Br,jhf,V1]
def Br3(v:V)(A B C:Prop):Prop:=(v=.tup []/\C)\/Br v A B
theorem jnv(A B C:Prop):Br3 (.bool true) A B C=A:=by simp[Br3,jmr]
theorem jk0(A B C:Prop):Br3 (.bool false) A B C=B:=by simp[Br3,jj5]
theorem jnw(b:Bool)(A B C:Prop):Br3 (.bool b) A B C=((b=true->A)/\(b=false->B)):=by simp[Br3,jpO]
theorem jtt(A B C:Prop):Br3 (.tup []) A B C=C:=by simp[Br3,Br,jhf,V1]
theorem jrO(v:V):Br3 v False False False=False:=by simp only[Br3,jts,and_false,or_self]
theorem jhx {T:Tm}{t:Nat}{v:V}(h:T t=v):upd T t v=T:=by
 funext x
 rw[Z7];by_cases e:x=t
 ·subst e;simp[h]
 ·simp[e]
def wpL (mutb:Bool)(n:Nat)(ops:Array Oper):List Oper->Tm->S->(Tm->S->Prop)->Prop
  | [],T,U,k=>k T U
  | ⟨dst,op,_,_,_,none⟩::l,T,U,k =>
    match dst with
    |none=>wpO E mutb T U op λ_ U'=>wpL mutb n ops l T U' k
    |some d=>d<n/\wpO E mutb T U op λv U'=>wpL mutb n ops l (upd T d v) U' k
  | ⟨dst,op,_,_,_,some (j,b)⟩::l,T,U,k =>
    V1 ((ops[j]?).bind (·.dst)) λdj=>dj<n/\Br3 (T dj)
      (match b with
        | true=>(match dst with
          |none=>wpO E mutb (upd T dj (.bool true)) U op λ_ U'=>wpL mutb n ops l (upd T dj (.bool true)) U' k
          |some d=>d<n/\wpO E mutb (upd T dj (.bool true)) U op λv U'=>wpL mutb n ops l (upd (upd T dj (.bool true)) d v) U' k)
        | false=>(match dst with
          |none=>wpL mutb n ops l (upd T dj (.bool true)) U k
          |some d=>d<n/\wpL mutb n ops l (upd (upd T dj (.bool true)) d (.tup [])) U k))
      (match b with
        | false=>(match dst with
          |none=>wpO E mutb (upd T dj (.bool false)) U op λ_ U'=>wpL mutb n ops l (upd T dj (.bool false)) U' k
          |some d=>d<n/\wpO E mutb (upd T dj (.bool false)) U op λv U'=>wpL mutb n ops l (upd (upd T dj (.bool false)) d v) U' k)
        | true=>(match dst with
          |none=>wpL mutb n ops l (upd T dj (.bool false)) U k
          |some d=>d<n/\wpL mutb n ops l (upd (upd T dj (.bool false)) d (.tup [])) U k))
      (match dst with
        |none=>wpL mutb n ops l T U k
        |some d=>d<n/\wpL mutb n ops l (upd T d (.tup [])) U k)
theorem jh8 {ops:Array Oper}{n:Nat}{T:Tm}{tmps:List V}(h:Rep n T tmps){j dj:Nat}(hj:(ops[j]?).bind (·.dst)=some dj){b:Bool}(hb:T dj=.bool b) :
  jaJ ops tmps j=some b:=by
 unfold jaJ;rw[hj]
 have h1:tmps[dj]? = some (.bool b):=by
  have h2:=h.2 dj;rw[hb,List.getD]at h2;cases hx:tmps[dj]? with
  |none=>rw[hx]at h2;simp at h2
  |some x=>rw[hx]at h2;simpa using h2
 simp[h1]
theorem jh9 {ops:Array Oper}{n:Nat}{T:Tm}{tmps:List V}(h:Rep n T tmps){j dj:Nat}(hj:(ops[j]?).bind (·.dst)=some dj)(hb:T dj=.tup []) :
  jaJ ops tmps j=none:=by
 unfold jaJ;rw[hj];simp only[Kl];have h2:=h.2 dj;rw[hb,List.getD]at h2;cases hx:tmps[dj]? with
 |none=>rfl
 |some x =>
  rw[hx]at h2;simp only[Kv]at h2;rw[h2]
theorem jbU {mutb:Bool}{n:Nat}{ops:Array Oper}:∀(l:List Oper) {T:Tm} {tmps:List V} {U:S} {k:Tm->S->Prop},Rep n T tmps->wpL E mutb n ops l T U k ->
  ∃tmps' U' T',jdD E (ev E) mutb ops l tmps U=some (tmps',U')/\Rep n T' tmps'/\k T' U'
 | [],T,tmps,U,k,h,hw=>⟨tmps,U,T,rfl,h,hw⟩
 | ⟨dst,op,t,p,a,none⟩::l,T,tmps,U,k,h,hw=>by
  rw[jou];simp only[wpL]at hw;cases dst with
  |none =>
   obtain⟨v,U',h1,h2⟩:=ji8 E h hw;rw[h1];exact jbU l h h2
  |some d =>
   obtain⟨hd,hw⟩:=hw;obtain⟨v,U',h1,h2⟩:=ji8 E h hw;rw[h1];exact jbU l (h.upd hd v) h2
 | ⟨dst,op,t,p,a,some (j,b)⟩::l,T,tmps,U,k,h,hw=>by
  rw[jmn];simp only[wpL]at hw;obtain⟨dj,hdj,hlt,⟨htup,hw⟩|⟨b0,hb0,hT,hF⟩⟩:=hw
  ·rw[jh9 h hdj htup];rw[Kh ae];cases dst with
   |none=>exact jbU l h hw
   |some d=>exact jbU l (h.upd hw.1 _) hw.2
  have hTd:T dj=.bool b0:=by
   unfold jhf at hb0;split at hb0
   ·rename_i b1 he;simp at hb0;rw[he,hb0]
   ·simp at hb0
  rw[jh8 h hdj hTd];cases b0 with
  | true =>
   have hw:=hT rfl;rw[jhx hTd]at hw;cases b with
   | true =>
    simp only[BEq.rfl,Km];cases dst with
    |none =>
     obtain⟨v,U',h1,h2⟩:=ji8 E h hw;rw[h1];exact jbU l h h2
    |some d =>
     obtain⟨hd,hw⟩:=hw;obtain⟨v,U',h1,h2⟩:=ji8 E h hw;rw[h1];exact jbU l (h.upd hd v) h2
   |false =>
    rw[Kh af];cases dst with
    |none=>exact jbU l h hw
    |some d=>exact jbU l (h.upd hw.1 _) hw.2
  | false =>
   have hw:=hF rfl;rw[jhx hTd]at hw;cases b with
   | false =>
    simp only[BEq.rfl,Km];cases dst with
    |none =>
     obtain⟨v,U',h1,h2⟩:=ji8 E h hw;rw[h1];exact jbU l h h2
    |some d =>
     obtain⟨hd,hw⟩:=hw;obtain⟨v,U',h1,h2⟩:=ji8 E h hw;rw[h1];exact jbU l (h.upd hd v) h2
   |true =>
    rw[Kh af];cases dst with
    |none=>exact jbU l h hw
    |some d=>exact jbU l (h.upd hw.1 _) hw.2
def wpS(mutb:Bool)(n:Nat)(K:S->Prop):List Oper->Tm->S->(Tm->S->Prop)->Prop
 | [],T,U,k=>k T U
 | ⟨dst,op,_,_,_,none⟩::l,T,U,k=>V1 (opT E mutb T U op) λp=>(scOp E op=true->K p.2)/\(jaO op=true->∀U',K U'->jbp E (jaP E T) U' op=some p.1) /\
  (match dst with
   |none=>wpS mutb n K l T p.2 k
   |some d=>d<n/\wpS mutb n K l (upd T d p.1) p.2 k)
 |⟨_,_,_,_,_,some _⟩::_,_,_,_=>False
theorem jgV {mutb:Bool}{n:Nat}{T:Tm}{l:List V}(h:Rep n T l){U:S}{op:Op}:opT E mutb T U op=opV E (ev E) mutb l U op:=by
 unfold opV;rw[h.eval];rfl
theorem jk1 {rec:Task->Option Res}{mutb:Bool}{ops:Array Oper}{tmps:List V}{U U1:S}{dst:Option Tmp}{op:Op}{t:TypeId}{p:String}{a:Array Edge}{l:List Oper}{v:V}(h:opV E rec mutb tmps U op=some (v,U1)) :
  dRun E rec mutb ops (⟨dst,op,t,p,a,none⟩::l) tmps U=(match dRun E rec mutb ops l (putT tmps dst v) U1 with
   |some (tr,ss,tf,Uf)=>some ((tmps,v)::tr,if scOp E op then U1::ss else ss,tf,Uf)
   |none=>none):=by
 simp only[dRun,Region.wanted,Km,h];cases dRun E rec mutb ops l (putT tmps dst v) U1<;>rfl
theorem jk2 {mutb:Bool}{n:Nat}{ops:Array Oper}{K:S->Prop}:∀(l:List Oper) {T:Tm} {tmps:List V} {U:S} {k:Tm->S->Prop},Rep n T tmps->wpS E mutb n K l T U k ->
  ∃(tr:List (List V × V)) (ss:List S) (tf:List V) (Uf:S) (T':Tm),dRun E (ev E) mutb ops l tmps U=some (tr,ss,tf,Uf)/\Rep n T' tf/\k T' Uf/\(∀s∈ss,K s) /\
   ∀(j:Nat) (o:Oper),l[j]? = some o->∃(t:List V) (v:V) (U0 U1:S),tr[j]? = some (t,v)/\opV E (ev E) mutb t U0 o.op=some (v,U1)/\(jaO o.op=true->∀U',K U'->jbp E (jbr E t) U' o.op=some v)
 | [],T,tmps,U,k,h,hw=>⟨[],[],tmps,U,T,rfl,h,hw,λs hs=>by simp at hs,λj o hj=>by simp at hj⟩
 | ⟨dst,op,t,p,a,none⟩::l,T,tmps,U,k,h,hw=>by
  simp only[wpS]at hw;obtain⟨⟨v,U1⟩,hop,hK,hR,hw⟩:=hw;rw[jgV E h]at hop;simp only at hK hR hw
  have hput:∃T1,Rep n T1 (putT tmps dst v)/\wpS E mutb n K l T1 U1 k:=by
   cases dst with
   |none=>exact⟨T,h,hw⟩
   |some d=>exact⟨_,h.upd hw.1 v,hw.2⟩
  obtain⟨T1,hr1,hw1⟩:=hput;obtain⟨tr,ss,tf,Uf,T',h1,h2,h3,h4,h5⟩:=jk2 l hr1 hw1;refine⟨(tmps,v)::tr,if scOp E op then U1::ss else ss,tf,Uf,T',by rw[jk1 E hop,h1],h2,h3,?_,?_⟩
  ·intro s hs;by_cases hsc:scOp E op=true
   ·simp only[hsc,Km,Jh]at hs
    rcases hs with rfl|hs
    ·exact hK hsc
    ·exact h4 s hs
   ·simp only[hsc,Kr,Kq]at hs;exact h4 s hs
  ·intro j o hj;cases j with
   |zero =>
    simp only[Jb,Ke]at hj;subst hj;exact⟨tmps,v,U,U1,rfl,hop,λhrd U' hU'=>by rw[h.eval];exact hR hrd U' hU'⟩
   |succ j =>
    simp only[Q8]at hj ⊢;exact h5 j o hj
 |⟨_,_,_,_,_,some _⟩::_,T,tmps,U,k,h,hw=>hw.elim
theorem jk3 {fn:FuncId}{rnd:Option Nat}{id:Nat}{ops:Array Oper}{K:S->Prop}{n:Nat}{T:Tm}{tmps:List V}{dfs:List DE}{U:S}{k:Tm->S->Prop}(hp:jcK E ops (jat [] ops.toList)=true)(hK:K U)
  (hr:Rep n T tmps) (hw:wpS E (E.mutb fn id) n K ops.toList T U k) :
  ∃tf Uf T',ja0 E (ev E) fn rnd (.region id ops true) tmps dfs U=some ⟨.normal,tf,dfs,Uf⟩/\Rep n T' tf/\k T' Uf:=by
 obtain⟨tr,ss,tf,Uf,T',h1,h2,h3,h4,h5⟩:=jk2 E (ops:=ops) ops.toList hr hw;refine⟨tf,Uf,T',?_,h2,h3⟩
 have hc:jeP E ops (jat [] ops.toList) tr (U::ss)=true:=by
  unfold jeP;rw[Qq];intro j hj;have hj:j<ops.size:=by simpa using hj
  have hoj:ops[j]? = some ops[j]:=Xc hj;have hoj2:ops.toList[j]? = some ops[j]:=by rw[Xp];exact hoj
  obtain⟨t,v,U0,U1,ht,hop,hrd⟩:=h5 j ops[j] hoj2;simp only[hoj,ht];by_cases hs:scOp E ops[j].op=true
  ·simp[hs]
  by_cases hpc:jbO E ops[j].op=true
  ·simp[hpc]
  by_cases ha:(jba E (jbr E t) ops[j].op).isSome=true
  ·simp[ha]
  have ha':jba E (jbr E t) ops[j].op=none:=by simpa using ha
  have hread:=jhw (by simpa using hs) (by simpa using hpc) ha' hop
  have hreads:jaO ops[j].op=true:=by
   cases hx:jaO ops[j].op with
   |true=>rfl
   |false=>rw[jfs hx]at hread;simp at hread
  rw[Xi];right;rw[Qq];intro m hm;have hm:m<(U::ss).length:=by simpa using hm
  have hKm:K (U::ss)[m]:=by
   have:(U::ss)[m]∈U::ss:=Xb hm
   rcases Jh.1 this with h|h
   ·rw[h];exact hK
   ·exact h4 _ h
  rw[Kz hm];simp only[hrd hreads _ hKm,V.beq_refl,Xj]
 simp only[ja0,hp,Km,h1,hc]
structure Post where
 norm:Tm->List DE->S->Prop
 exit:Nat->Tm->List DE->S->Prop
 ret:Tm->List DE->S->Prop
def Post.of(n:Nat)(Q:Post)(r:Res):Prop :=
 ∃T,Rep n T r.vals/\match r.ex with
  | .normal=>Q.norm T r.dfs r.st
  | .exit i=>Q.exit i T r.dfs r.st
  | .ret=>Q.ret T r.dfs r.st
variable (fn:FuncId)(rnd:Option Nat)(n:Nat)
def wpX(c:Code)(T:Tm)(D:List DE)(U:S)(Q:Post):Prop :=
 ∀tmps,Rep n T tmps->∃r,ja0 E (ev E) fn rnd c tmps D U=some r/\Q.of n r
theorem joy {id:Nat}{ops:Array Oper}{T:Tm}{D:List DE}{U:S}{Q:Post}(K:S->Prop)(hK:K U)(hp:jcK E ops (jat [] ops.toList)=true)
  (h:wpS E (E.mutb fn id) n K ops.toList T U λT U=>Q.norm T D U):wpX E fn rnd n (.region id ops true) T D U Q:=λtmps hr=>by
 obtain⟨tf,Uf,T',h1,h2,h3⟩:=jk3 E (rnd:=rnd) (dfs:=D) hp hK hr h;exact⟨_,h1,T',h2,h3⟩
def je6(c:Code)(T:Tm)(D:List DE)(U:S)(Q:Post):Prop :=
 ∀tmps,Rep n T tmps->∃r,ev E (.loop fn rnd c tmps D U)=some r/\Q.of n r
def wpC:Code->Tm->List DE->S->Post->Prop
 | .skip,T,D,U,Q=>Q.norm T D U
 | .exit i,T,D,U,Q=>Q.exit i T D U
 | .ret,T,D,U,Q=>Q.ret T D U
 | .seq a b,T,D,U,Q=>wpC a T D U ⟨λT D U=>wpC b T D U Q,Q.exit,Q.ret⟩
 | .cond (.tmp t) a b,T,D,U,Q=>t<n/\Br (T t) (wpC a (upd T t (.bool true)) D U Q) (wpC b (upd T t (.bool false)) D U Q)
 | .cond c a b,T,D,U,Q=>V1 (jaP E T c) λv=>Br v (wpC a T D U Q) (wpC b T D U Q)
 | .block id c,T,D,U,Q=>wpC c T D U ⟨Q.norm,λi T D U=>if i=id then Q.norm T D U else Q.exit i T D U,Q.ret⟩
 | .loop c,T,D,U,Q=>je6 E fn rnd n c T D U Q
 | .scope c,T,D,U,Q=>wpC c T D U Q
 | .label _,T,D,U,Q=>Q.norm T D U
 | .region id ops false,T,D,U,Q=>wpL E (E.mutb fn id) n ops ops.toList T U λT U=>Q.norm T D U
 | .region id ops true,T,D,U,Q =>
  match E.stab fn id with
  |false=>jhe E ops=true/\wpL E (E.mutb fn id) n ops ops.toList T U λT U=>Q.norm T D U
  |true=>wpX E fn rnd n (.region id ops true) T D U Q
 |c,T,D,U,Q=>wpX E fn rnd n c T D U Q
theorem jde {v:V}{b:Bool}(h:jhf v=some b):v=.bool b:=by
 unfold jhf at h;split at h
 ·simp at h;rw[h]
 ·simp at h
theorem jbH:∀(c:Code) {T:Tm} {D:List DE} {U:S} {Q:Post},wpC E fn rnd n c T D U Q->wpX E fn rnd n c T D U Q
 | .skip,T,D,U,Q,h=>λtmps hr=>⟨_,rfl,T,hr,h⟩
 | .exit i,T,D,U,Q,h=>λtmps hr=>⟨_,rfl,T,hr,h⟩
 | .ret,T,D,U,Q,h=>λtmps hr=>⟨_,rfl,T,hr,h⟩
 | .seq a b,T,D,U,Q,h=>λtmps hr=>by
  obtain⟨⟨ex,vals,d,st⟩,h1,T1,hr1,hq⟩:=jbH a h tmps hr;simp only[ja0,h1];cases ex with
  |normal=>exact jbH b hq vals hr1
  |exit i=>exact⟨_,rfl,T1,hr1,hq⟩
  |ret=>exact⟨_,rfl,T1,hr1,hq⟩
 | .cond c a b,T,D,U,Q,h=>λtmps hr=>by
  simp only[ja0,hr.eval];cases c with
  | tmp t =>
   obtain⟨hlt,b0,hb0,hT,hF⟩:=h;have hTd:=jde hb0;simp only[jaP,hTd];cases b0 with
   |true =>
    have hw:=hT rfl;rw[jhx hTd]at hw;exact jbH a hw tmps hr
   |false =>
    have hw:=hF rfl;rw[jhx hTd]at hw;exact jbH b hw tmps hr
  |const v =>
   obtain⟨v0,h1,b0,hb0,hT,hF⟩:=h;rw[h1,jde hb0];cases b0 with
   |true=>exact jbH a (hT rfl) tmps hr
   |false=>exact jbH b (hF rfl) tmps hr
  |global g =>
   obtain⟨v0,h1,b0,hb0,hT,hF⟩:=h;rw[h1,jde hb0];cases b0 with
   |true=>exact jbH a (hT rfl) tmps hr
   |false=>exact jbH b (hF rfl) tmps hr
  |func f =>
   obtain⟨v0,h1,b0,hb0,hT,hF⟩:=h;rw[h1,jde hb0];cases b0 with
   |true=>exact jbH a (hT rfl) tmps hr
   |false=>exact jbH b (hF rfl) tmps hr
 | .block id c,T,D,U,Q,h=>λtmps hr=>by
  obtain⟨⟨ex,vals,d,st⟩,h1,T1,hr1,hq⟩:=jbH c h tmps hr;simp only[ja0,h1];cases ex with
  |normal=>exact⟨_,rfl,T1,hr1,hq⟩
  |exit i =>
   refine⟨_,rfl,T1,hr1,?_⟩;simp only at hq ⊢;by_cases e:i=id
   ·simp only[e,Km]at hq ⊢;exact hq
   ·simp only[e,Kq]at hq ⊢;exact hq
  |ret=>exact⟨_,rfl,T1,hr1,hq⟩
 | .loop c,T,D,U,Q,h=>λtmps hr=>h tmps hr
 | .region id ops false,T,D,U,Q,h=>λtmps hr=>by
  obtain⟨l⟩:=ops;obtain⟨tmps',U',T',h1,h2,h3⟩:=jbU E l hr h;rw[jhd _ _ _ _ _ _ _ _ _ _ _ h1];exact⟨_,rfl,T',h2,h3⟩
 | .region id ops true,T,D,U,Q,h=>λtmps hr=>by
  simp only[wpC]at h;cases hs:E.stab fn id with
  |false =>
   simp only[hs]at h;obtain⟨hd,h⟩:=h;obtain⟨tmps',U',T',h1,h2,h3⟩:=jbU E ops.toList hr h;exact⟨_,jh4 hd h1,T',h2,h3⟩
  |true =>
   simp only[hs]at h;exact h tmps hr
 | .rangeFunc _ _ _ _,T,D,U,Q,h=>h
 | .scope c,T,D,U,Q,h=>λtmps hr=>by simp only[ja0];exact jbH c h tmps hr
 | .label _,T,D,U,Q,h=>λtmps hr=>⟨_,rfl,T,hr,h⟩
 | .goto _,T,D,U,Q,h=>h
 | .refuse _,T,D,U,Q,h=>h
end
section
variable {E:Env}{fn:FuncId}{rnd:Option Nat}{n:Nat}
theorem jax {c:Code}{Q:Post}(I:Nat->Tm->List DE->S->Prop)
  (h:∀m T D U,I m T D U->wpC E fn rnd n c T D U ⟨λT D U=>∃m',m'<m/\I m' T D U,Q.exit,Q.ret⟩):∀m T D U,I m T D U->je6 E fn rnd n c T D U Q:=by
 intro m
 induction m using Nat.strongRecOn with
 | ind m ih =>
  intro T D U hI tmps hr;obtain⟨⟨ex,vals,d,st⟩,h1,T1,hr1,hq⟩:=jbH E fn rnd n c (h m T D U hI) tmps hr;cases ex with
  |normal =>
   obtain⟨m',hm,hI'⟩:=hq;obtain⟨r,h2,h3⟩:=ih m' hm T1 d st hI' vals hr1;exact⟨r,jed (by simp only[jea,h1];exact h2),h3⟩
  |exit i=>exact⟨_,jed (by simp only[jea,h1]),T1,hr1,hq⟩
  |ret=>exact⟨_,jed (by simp only[jea,h1]),T1,hr1,hq⟩
def resT(E:Env)(T:Tm)(h:List AObj):List ResultVar->Option (List V)
 | []=>some []
 | .tmp t::r=>(resT E T h r).map (T t :: ·)
 | .cell a t::r=>(jaF E h t (T a)).bind λv=>(resT E T h r).map (v :: ·)
theorem Rep.res {T:Tm}{l:List V}(hr:Rep n T l){h:List AObj}:∀rs,resV E l h rs=resT E T h rs
 | []=>rfl
 | .tmp t::r=>by simp only[resV,resT,hr.2 t,Rep.res hr r]
 | .cell a t::r=>by simp only[resV,resT,hr.2 a,Rep.res hr r]
def wpR(E:Env)(rs:List ResultVar)(k:V->S->Prop)(T:Tm)(D:List DE)(U:S):Prop :=
 V1 (jcj U.heap D) λh=>V1 (resT E T h rs) λvs=>k (jay vs) ⟨h,U.toks⟩
theorem Yx(E:Env)(rs:List ResultVar)(k:V->S->Prop)(T:Tm)(U:S):wpR E rs k T [] U=V1 (resT E T U.heap rs) λvs=>k (jay vs) U:=by
 simp only[wpR,jcj,Yy]
theorem jj6 {f:FuncId}{args:List V}{U:S}{k:V->S->Prop}{F:Go.Func}{body:Code}(hf:E.P.funcs[f]? = some F)(hb:F.body=some body)(hn:F.name ≠ "runtime.NumGoroutine")
  (hl:args.length<=F.ntmps) (hw:wpC E f none F.ntmps body (argT args) [] U ⟨wpR E F.results.toList k,λ_ _ _ _=>False,wpR E F.results.toList k⟩) :
  ∃v U',ev E (.call f args U)=some ⟨.ret,[v],[],U'⟩/\k v U':=by
 obtain⟨⟨ex,vals,d,st⟩,h1,T1,hr1,hq⟩:=jbH E f none F.ntmps body hw _ (Rep.args args F.ntmps hl)
 have key:wpR E F.results.toList k T1 d st->ex ≠ .exit 0\/True->(∀i,ex ≠ .exit i)->∃v U',ev E (.call f args U)=some ⟨.ret,[v],[],U'⟩/\k v U':=by
  intro ⟨h,hh,vs,hvs,hk⟩ _ hne;refine⟨jay vs,⟨h,st.toks⟩,jed ?_,hk⟩;rw[<- hr1.res]at hvs;simp only[jea,hf,hb,hn,Kq,h1];cases ex with
  |exit i=>exact absurd rfl (hne i)
  |normal=>simp only[hh,hvs]
  |ret=>simp only[hh,hvs]
 cases ex with
 |normal=>exact key hq (.inr trivial) λi h=>by cases h
 |exit i=>exact hq.elim
 |ret=>exact key hq (.inr trivial) λi h=>by cases h
theorem jd3 {args:List V}(h:args.all V.closed=true):wargs args=args:=by simp[wargs,h]
theorem jms {f:FuncId}{args:List V}{v:V}{F:Go.Func}{body:Code}(hp:E.pure f=true)(hk:E.hook f=none)(hc:args.all V.closed=true)(hf:E.P.funcs[f]? = some F)(hb:F.body=some body)
  (hn:F.name ≠ "runtime.NumGoroutine") (hl:args.length<=F.ntmps)
  (hw:wpC E f none F.ntmps body (argT args) [] S.empty ⟨wpR E F.results.toList λv' U'=>jaL U'.heap jai v'=some v,λ_ _ _ _=>False,wpR E F.results.toList λv' U'=>jaL U'.heap jai v'=some v⟩)
  (U:S):jaf E (ev E) f args U=some (v,U):=by
 obtain⟨v',U',h1,h2⟩:=jj6 hf hb hn hl hw;unfold jaf;simp only[hk,hp,jd3 hc,hc,h1,h2,Km,Kw]
theorem jeF {f:FuncId}{args:List V}{rec:Task->Option Res}(hp:E.pure f=true)(hk:E.hook f=none)(hn:args.all V.closed=false)(hc:(args.map V.weak).all V.closed=true)(U:S) :
  jaf E rec f args U=jaf E rec f (args.map V.weak) U:=by
 have h1:wargs args=args.map V.weak:=by simp only[wargs,hn,Kr,Kq]
 unfold jaf;simp only[hk,hp,h1,jd3 hc,hc,Km]
theorem ji9 {f:FuncId}{args:List V}{U:S}{k:V->S->Prop}{F:Go.Func}{body:Code}(hp:E.pure f=false)(hk:E.hook f=none)(hf:E.P.funcs[f]? = some F)(hb:F.body=some body)
  (hn:F.name ≠ "runtime.NumGoroutine") (hl:args.length<=F.ntmps)
  (hw:wpC E f none F.ntmps body (argT args) [] U ⟨wpR E F.results.toList k,λ_ _ _ _=>False,wpR E F.results.toList k⟩) (hz:E.frz f=false:=by rfl) (hs:E.hookS f=none:=by rfl) :
  ∃v U',jaf E (ev E) f args U=some (v,U')/\k v U':=by
 obtain⟨v',U',h1,h2⟩:=jj6 hf hb hn hl hw;refine⟨v',U',?_,h2⟩;unfold jaf;simp only[hk,hp,hz,hs,h1,Kr,Kq]
theorem jmt {f:FuncId}{vs:List V}{U':S}(h:ev E (.call f vs S.empty)=some ⟨.ret,[.bool true],[],U'⟩):Found E f vs:=by
 obtain⟨n,hn⟩:=jpH h;exact⟨n,U',hn⟩
theorem jmu {f:FuncId}{args:List V}{F:Go.Func}{body:Code}(hf:E.P.funcs[f]? = some F)(hb:F.body=some body)(hn:F.name ≠ "runtime.NumGoroutine")
  (hl:args.length<=F.ntmps) (hw:wpC E f none F.ntmps body (argT args) [] S.empty ⟨wpR E F.results.toList λv _=>v=.bool true,λ_ _ _ _=>False,wpR E F.results.toList λv _=>v=.bool true⟩):Found E f args:=by
 obtain⟨v,U',h1,rfl⟩:=jj6 hf hb hn hl hw;exact jmt h1
end
theorem jav(h:List AObj)(d:Nat)(k:IntKind)(x:Int):jaL h (d+1) (.int k x)=some (.int k x):=rfl
theorem jaz(h:List AObj)(d:Nat)(b:Bool):jaL h (d+1) (.bool b)=some (.bool b):=rfl
theorem jbB(h:List AObj)(d:Nat)(b:List UInt8):jaL h (d+1) (.str b)=some (.str b):=rfl
theorem jmv(h:List AObj)(d:Nat):jaL h (d+1) .nilsl=some .nilsl:=rfl
theorem jbM(h:List AObj)(d:Nat)(vs:List V):jaL h (d+1) (.tup vs)=(vs.mapM (jaL h d)).map .tup:=rfl
theorem jeo(h:List AObj)(d:Nat)(vs:List V):jaL h (d+1) (.agg vs)=(vs.mapM (jaL h d)).map .agg:=rfl
theorem ja2(h:List AObj)(d:Nat)(cs:List V)(n:Nat)(c:RCap):jaL h (d+1) (.row cs n c)=(cs.mapM (jaL h d)).map λc=>.row c n .unk:=rfl
theorem jal(h:List AObj)(d:Nat)(v:V)(vs:List V):(v::vs).mapM (jaL h d)=(jaL h d v).bind λa=>(vs.mapM (jaL h d)).bind λb=>some (a::b):=by
 rw[Xu];rfl
theorem jaQ(h:List AObj)(d:Nat):([]:List V).mapM (jaL h d)=some []:=rfl
theorem jfL(h:List AObj)(d:Nat):∀vs:List V,(∀v∈vs,jaL h d v=some v)->vs.mapM (jaL h d)=some vs
 | [],_=>rfl
 |v::vs,hv=>by
  rw[jal,hv v ae,jfL h d vs λx hx=>hv x (by simp[hx])];rfl
def jk4(v:V):Option RF->Bool
 |some ⟨.ret,.node _ u _,[],st⟩=>(match jaL st.heap jai u with|some x=>x.beq v|none=>false)
 |_=>false
theorem jbc {E:Env}{k:Nat}{f:FuncId}{args:List V}{v:V}(hp:E.pure f=true)(hk:E.hook f=none)(hc:args.all V.closed=true)(h:jk4 v (runF E k (.call f args S.empty))=true) :
  ∀U,jaf E (ev E) f args U=some (v,U):=by
 intro U;unfold jk4 at h;split at h
 ·rename_i l u q st hr;split at h
  ·rename_i x hs;have e:=V.beq_eq x v h;subst e;have h1:=evF hr;unfold jaf;simp only[hk,hp,jd3 hc,hc,h1,Km,hs,Kw]
  ·simp at h
 ·simp at h
def jdm(E:Env)(f:FuncId)(args:List V)(v:V):Prop :=
 ∀Γ U w xs,WRel Γ U w->GOK E Γ->LRel Γ args xs->∃Γ' w' y,Moved Γ Γ' U w w'/\VRel Γ' v y/\jkQ E.P f xs w y w'
theorem joz {E:Env}(hE:E.Ok){k:Nat}{f:FuncId}{args:List V}{v:V}(hc:args.all V.closed=true)(h:jk4 v (runQ E k (.call f args S.empty))=true):jdm E f args v:=by
 intro Γ U w xs hw hg hx;unfold jk4 at h;split at h
 ·rename_i l u q st hr;split at h
  ·rename_i x hs;have e:=V.beq_eq x v h;subst e;rw[jb9]at hr;have h1:=evF hr;have hx':LRel (Γ.own w.heap.size) args xs:=⟨hx.len,λi a b=>VRel.of_closed (Γ:=Γ) (Γ':=Γ.own w.heap.size) (λ_ _ _ h=>h) (hx.rel i a b) (jeb hc i a)⟩;obtain⟨Γ',w',y,m,hy,h2,h3⟩:=jgj hE h1 u rfl (Γ.own w.heap.size) w xs hw.own (hg.own hE) hx';have hpin:∀b i x,Γ.pin b i=some x->b<w.heap.size:=λb i x hp=>jcP (hw.pins b i x hp)
   exact⟨_,w',y,hw.after m.below,jjT hpin m _ hy hs,.inr ⟨h2,λcs=>let⟨fr,a,_,b⟩:=h3 cs;⟨fr,a,b⟩⟩⟩
  ·simp at h
 ·simp at h
abbrev RTab:=List (FuncId × List V × V)
def jja(f:FuncId)(args:List V):RTab->Option V
 | []=>none
 |p::r=>match Nat.beq p.1 f with
  |true=>if V.beq.beqL p.2.1 args then some p.2.2 else jja f args r
  |false=>jja f args r
theorem jgW {f:FuncId}{args:List V}{v:V}:∀{T:RTab},jja f args T=some v->(f,args,v)∈T
 | [],h=>by simp[jja]at h
 | p::r,h=>by
  simp only[jja]at h;split at h
  ·rename_i hf;have e1:=Xg hf;split at h
   ·rename_i he;have e2:=V.beq_eq.beqL_eq p.2.1 args he;simp only[Ke]at h;subst e1 e2 h;exact List.mem_cons_self
   ·exact Vt _ (jgW h)
  ·exact Vt _ (jgW h)
def hasR(f:FuncId):RTab->Bool
 | []=>false
 |p::r=>match Nat.beq p.1 f with
  |true=>true
  |false=>hasR f r
def juY(base:FuncId->Option (List V->Option V))(T:RTab)(f:FuncId):Option (List V->Option V) :=
 match hasR f T with
 |true=>some λargs=>jja f (wargs args) T
 |false=>base f
def Env.tab(E:Env)(T:RTab):Env:={ E with hook:=juY E.hook T }
theorem Env.Ok.tab {E:Env}(hE:E.Ok){T:RTab}(hT:∀p∈T,jdm E p.1 p.2.1 p.2.2):(E.tab T).Ok where
 mixed:=hE.mixed
 glc:=hE.glc
 hook:=by
  intro f g h args v hv Γ U w xs hw hg hx;simp only[Env.tab,juY]at h;split at h
  ·simp only[Ke]at h;subst h;exact hT _ (jgW hv) Γ U w xs hw hg hx.wargs
  ·exact hE.hook f g h args v hv Γ U w xs hw hg hx
 hookS:=λf g h args U v U' hv Γ w xs hw hg hx=>hE.hookS f g h args U v U' hv Γ w xs hw hg hx
theorem GOK.tab {E:Env}{T:RTab}{Γ:Ctx}(h:GOK E Γ):GOK (E.tab T) Γ:=h
theorem jtu {E:Env}:∀p∈([]:RTab),jdm E p.1 p.2.1 p.2.2:=λp hp=>by simp at hp
theorem jmw {E:Env}{A B:RTab}(hA:∀p∈A,jdm E p.1 p.2.1 p.2.2)(hB:∀p∈B,jdm E p.1 p.2.1 p.2.2):∀p∈A++B,jdm E p.1 p.2.1 p.2.2:=by
 intro p hp
 rcases Jx.1 hp with hp|hp
 ·exact hA p hp
 ·exact hB p hp
theorem jdm.untab {E:Env}{T:RTab}{f:FuncId}{args:List V}{v:V}(h:jdm (E.tab T) f args v):jdm E f args v:=h
noncomputable def jtv(E:Env)(k:Nat)(T:RTab):Bool:=T.all λp=>p.2.1.all V.closed && jk4 p.2.2 (runQ E k (.call p.1 p.2.1 S.empty))
theorem je7 {E:Env}(hE:E.Ok){S0 T:RTab}(hS:∀p∈S0,jdm E p.1 p.2.1 p.2.2){k:Nat}(h:jtv (E.tab S0) k T=true):∀p∈T,jdm E p.1 p.2.1 p.2.2:=by
 intro p hp;have h1:=Qq.1 h p hp;rw[Qo]at h1;exact(joz (hE.tab hS) h1.1 h1.2).untab
def idxV:List V->Option V
 | [.str s,.int .u8 c]=>some (.int .i64 (Lib.indexByte s c.toNat.toUInt8))
 |_=>none
theorem jtw {E:Env}{f:FuncId}{fn:Func}(hf:E.P.funcs[f]? = some fn)(hn:(fn.name== "runtime.NumGoroutine")=false)(hb:fn.body.isNone=true)(h1:Extern.findNext fn=none)
  (h2:Extern.find fn=some Extern.BytealgIndexByte.indexByte):∀args v,idxV args=some v->jdm E f args v:=by
 intro args v hv Γ U w xs hw hg hx;unfold idxV at hv;split at hv
 ·rename_i s c;simp only[Ke]at hv;subst hv;have hl:=hx.len;obtain⟨lx⟩:=xs
  match lx,hl,hx with
  | [a,b],_,hx =>
   have ha:=hx.rel 0 ae ae;have hb2:=hx.rel 1 ae ae;simp only[X5,Xd,Xs]at ha hb2;cases ha with
   | str x =>
    cases hb2 with
    |int k n =>
     refine⟨Γ,w,_,Moved.refl hw,.int _ _,.inl ?_⟩;show(callFunc f #[.string x,.int .u8 c]).run E.P w=_;rw[run_callFunc_extern hf hn hb h1 h2,Lib.run_indexByteString];rfl
 ·simp at hv
end Go.Ab
