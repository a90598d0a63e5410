/- Proved here: the rules by which a run is found without running: a logic over the evaluator. Conditions: those of each theorem; no statement of the seat is proved in this text. -/
import Derived.Test.YtpclebdkhpapjaaGreatDoorAbC
import Derived.Lib.Bytealg
set_option linter.unusedSimpArgs false
noncomputable section
namespace Go.Ab
def jd2(E:Env)(rec:Task->Option Res)(mutb:Bool)(ops:Array Oper):List Oper->List V->S->Option (List V × S)
 | [],tmps,O=>some (tmps,O)
 | o::l,tmps,O =>
  if Region.wanted o (jaD ops tmps)then
   match opV E rec mutb tmps O o.op with
   |some (v,O')=>jd2 E rec mutb ops l (putT tmps o.dst v) O'
   |none=>none
  else jd2 E rec mutb ops l (putT tmps o.dst (.tup [])) O
theorem jfB(E:Env)(rec:Task->Option Res)(mutb:Bool)(ops:Array Oper):∀(m n:Nat) (tmps:List V) (O:S),n+m=ops.size ->
  jf5 E rec mutb ops (List.range' n m) tmps O=jd2 E rec mutb ops (ops.toList.drop n) tmps O
 |0,n,tmps,O,h=>by
  have:ops.toList.drop n=[]:=List.drop_eq_nil_iff.2 (by simp;omega);rw[this];rfl
 | m+1,n,tmps,O,h=>by
  have hn:n<ops.toList.length:=by simp;omega
  rw[Q8 hn];have h2:ops[n]? = some (ops.toList[n]):=by simp only[Array.getElem_toList];exact Jq (by simpa using hn)
  simp only[List.range'_succ,jf5,h2,jd2];by_cases hw:Region.wanted ops.toList[n] (jaD ops tmps)=true
  ·simp only[hw,Ku];cases opV E rec mutb tmps O ops.toList[n].op with
   |none=>rfl
   |some p=>exact jfB E rec mutb ops m (n+1) _ _ (by omega)
  ·simp only[hw,Km,Ks];exact jfB E rec mutb ops m (n+1) _ _ (by omega)
def jcg (E:Env)(rec:Task->Option Res)(rnd:Option Nat)(mutb:Bool)(ops:Array Oper):List Oper->Option (Option V)->List V->List DE->S->Option XR
  | [],rc,tmps,dfs,O=>some ⟨none,rc,tmps,dfs,O⟩
  | o::l,rc,tmps,dfs,O =>
    if Region.wanted o (jaD ops tmps)then
      match opV E rec mutb tmps O o.op with
      |some (v,O')=>jcg E rec rnd mutb ops l rc (putT tmps o.dst v) dfs O'
      | none =>
        match opP E rec tmps O o.op with
        |some (v,O')=>some ⟨some v,rc,tmps,dfs,O'⟩
        | none =>
          match opD E tmps o.op,rnd with
          |some d,none=>jcg E rec rnd mutb ops l rc (putT tmps o.dst (.tup [])) (d::dfs) O
          | _,_ =>
            match jgQ o.op,rc with
            |true,some pv=>jcg E rec rnd mutb ops l (some none) (putT tmps o.dst (pv.getD .nilif)) dfs O
            |_,_=>none
    else jcg E rec rnd mutb ops l rc (putT tmps o.dst (.tup [])) dfs O
theorem jeR(E:Env)(rec:Task->Option Res)(rnd:Option Nat)(mutb:Bool)(ops:Array Oper):∀(m n:Nat) (rc:Option (Option V)) (tmps:List V) (dfs:List DE) (O:S),n+m=ops.size ->
  jdu E rec rnd mutb ops (List.range' n m) rc tmps dfs O=jcg E rec rnd mutb ops (ops.toList.drop n) rc tmps dfs O
 |0,n,rc,tmps,dfs,O,h=>by
  have:ops.toList.drop n=[]:=Vs (by simp;omega);rw[this];rfl
 |m+1,n,rc,tmps,dfs,O,h=>by
  have hlt:n<ops.toList.length:=by simp;omega
  have h1:ops.toList.drop n=ops.toList[n]::ops.toList.drop (n+1):=Q8 hlt;have h2:ops[n]? = some ops.toList[n]:=by rw[<- Q9];exact K5 hlt
  have ih:=λrc tmps dfs O=>jeR E rec rnd mutb ops m (n+1) rc tmps dfs O (by omega)
  rw[h1];simp only[List.range'_succ,jdu,h2,jcg,ih];rfl
theorem jeg(E:Env)(rec:Task->Option Res)(fn:FuncId)(rnd:Option Nat)(id:Nat)(ops:Array Oper)(tmps:List V)(dfs:List DE)(O:S) :
  jbf E rec fn rnd (.region id ops false) tmps dfs O=XR.res (jcg E rec rnd (E.mutb fn id) ops ops.toList none tmps dfs O):=by
 simp only[jbf];rw[show List.range ops.size=List.range' 0 ops.size from Xr,jeR _ _ _ _ _ _ _ _ _ _ _ (by omega)];simp
theorem jiW(E:Env)(rec:Task->Option Res)(fn:FuncId)(rnd:Option Nat)(id:Nat)(l:List Oper)(tmps t':List V)(dfs:List DE)(O O':S)(h:jd2 E rec (E.mutb fn id) l.toArray l tmps O=some (t',O')) :
  jbf E rec fn rnd (.region id l.toArray false) tmps dfs O=some ⟨.normal,t',dfs,O'⟩:=by
 have h1:jf5 E rec (E.mutb fn id) l.toArray (List.range l.toArray.size) tmps O=some (t',O'):=by
  rw[show List.range l.toArray.size=List.range' 0 l.toArray.size from Xr ,jfB _ _ _ _ _ _ _ _ (by simp)];exact h
 simp only[jbf,jd6 _ h1,XR.res]
theorem jq7(E:Env)(rec:Task->Option Res)(mutb:Bool)(ops:Array Oper)(tmps:List V)(O:S)(dst:Option Tmp)(op:Op)(t:TypeId)(p:String)(a:Array Edge)(l:List Oper) :
  jd2 E rec mutb ops (⟨dst,op,t,p,a,none⟩::l) tmps O=(match opV E rec mutb tmps O op with|some (v,O')=>jd2 E rec mutb ops l (putT tmps dst v) O'|none=>none):=by
 simp[jd2,Region.wanted]
theorem joS(E:Env)(rec:Task->Option Res)(mutb:Bool)(ops:Array Oper)(tmps:List V)(O:S)(dst:Option Tmp)(op:Op)(t:TypeId)(p:String)(a:Array Edge)(j:Nat)(b:Bool)(l:List Oper) :
  jd2 E rec mutb ops (⟨dst,op,t,p,a,some (j,b)⟩::l) tmps O=(if jaD ops tmps j==some b then(match opV E rec mutb tmps O op with|some (v,O')=>jd2 E rec mutb ops l (putT tmps dst v) O'|none=>none)else jd2 E rec mutb ops l (putT tmps dst (.tup [])) O):=by
 simp[jd2,Region.wanted]
theorem V.beq_refl:∀a:V,a.beq a=true
 | .bool a=>by simp[V.beq]
 | .int k n=>by simp[V.beq]
 | .str s=>by simp[V.beq]
 | .ptr x y=>by simp[V.beq]
 | .nilptr=>rfl
 | .rptr a=>by simp only[V.beq];exact beqL_refl a
 | .hsl _ _ _ _ _=>by simp[V.beq]
 | .row a n c=>by simp[V.beq,beqL_refl a]
 | .nilsl=>rfl
 | .func f a c=>by simp[V.beq,beqL_refl a,beqL_refl c]
 | .yld l=>by simp[V.beq]
 | .nilfn=>rfl
 | .iface t v=>by simp[V.beq,V.beq_refl v]
 | .nilif=>rfl
 | .agg a=>by simp only[V.beq];exact beqL_refl a
 | .tup a=>by simp only[V.beq];exact beqL_refl a
 | .nilmap=>rfl
 | .any=>rfl
 | .map _=>by simp[V.beq]
 | .meth t v=>by simp[V.beq,V.beq_refl v]
 where beqL_refl:∀a:List V,V.beq.beqL a a=true
 | []=>rfl
 |x::r=>by simp[V.beq.beqL,V.beq_refl x,beqL_refl r]
def jbd:Op->Bool
 | .load _ _=>true
 | .lookup _ _ _ _=>true
 | .convert _ _ _=>true
 |_=>false
def jjW(E:Env)(ops:Array Oper)(masks:List Nat):Bool :=
 (List.range ops.size).all λj =>
  match ops[j]? with
  |some oj => !jbd oj.op ||(List.range ops.size).all λi =>
   match ops[i]? with
   |some oi => !scOp E oi.op ||(if i<j then(masks.getD j 0).testBit i else(masks.getD i 0).testBit j)
   |none=>false
  |none=>false
def jgV(E:Env)(ops:Array Oper):Bool:=jdx E ops (jat [] ops.toList) && jjW E ops (jat [] ops.toList)
theorem jgG {E:Env}{ρ:Operand->Option V}{O:S}{op:Op}(h:jbd op=false):jbu E ρ O op=none:=by
 cases op<;>first|rfl|(simp[jbd]at h;done)
theorem jiw {E:Env}{rec:Task->Option Res}{mutb:Bool}{ops:Array Oper}:∀(l:List Oper) {tmps tf:List V} {O Of:S},jd2 E rec mutb ops l tmps O=some (tf,Of) ->
  ∃tr ss,dRun E rec mutb ops l tmps O=some (tr,ss,tf,Of)
 | [],tmps,tf,O,Of,h=>by
  simp only[jd2,Kg,Kh]at h;obtain⟨rfl,rfl⟩:=h;exact⟨[],[],rfl⟩
 | o::l,tmps,tf,O,Of,h=>by
  simp only[jd2]at h;simp only[dRun];by_cases hw:Region.wanted o (jaD ops tmps)=true
  ·simp only[hw,Ku]at h ⊢;cases hop:opV E rec mutb tmps O o.op with
   |none=>rw[hop]at h;simp at h
   |some p =>
    obtain⟨v,O1⟩:=p;simp only[hop]at h ⊢;obtain⟨tr,ss,hd⟩:=jiw l h;rw[hd];exact⟨_,_,rfl⟩
  ·simp only[hw,Km,Ks]at h ⊢;obtain⟨tr,ss,hd⟩:=jiw l h;rw[hd];exact⟨_,_,rfl⟩
theorem jjp {E:Env}{rec:Task->Option Res}{mutb:Bool}{tmps:List V}{op:Op}{v:V}{O O':S}(hs:scOp E op=false)(hp:jbs E op=false)
  (h0:jbp E (ja8 E tmps) op=none) (h:opV E rec mutb tmps O op=some (v,O')):jbu E (ja8 E tmps) O op=some v:=by
 unfold opV at h;rw[h0]at h;simp only at h;cases hr:jbu E (ja8 E tmps) O op with
 |some u=>rw[hr]at h;simp at h;rw[h.1]
 | none =>
  exfalso
  rw[hr]at h;simp only at h;cases op
  case convert src dst x=>exact jfw hs hp h
  case call =>
   rename Call=>c
   obtain⟨callee,args,ats⟩:=c;cases callee with
   |invoke r n=>simp[scOp]at hs
   |value g=>cases g<;>simp_all[jbs,scOp]
   |builtin b=>cases b<;>first|(simp[scOp]at hs;done)|(simp[jbz]at h;done)|exact jip hs h
  all_goals first|(simp[scOp]at hs;done)|(simp[jbz]at h;done)|exact jfw hs h|(simp_all[scOp,jbs];done)
theorem jkO {E:Env}{rec:Task->Option Res}{mutb:Bool}{ops:Array Oper}{tmps tf:List V}{O Of:S}{tr:List (List V × V)}{ss:List S}
  (ho:jjW E ops (jat [] ops.toList)=true) (h:dRun E rec mutb ops ops.toList tmps O=some (tr,ss,tf,Of)) :
  jgR E ops (jat [] ops.toList) tr (O::ss)=true:=by
 obtain⟨h1,h2,_,_,_,h6⟩:=jd0 ops.toList h;unfold jgR;rw[K1];intro j hj;have hj:j<ops.size:=by simpa using hj
 have hoj:ops[j]? = some ops[j]:=Jq hj;have hoj2:ops.toList[j]? = some ops[j]:=by rw[Q9];exact hoj
 obtain⟨t,v,ht,_,O1,hop,_⟩:=h6 j ops[j] hoj2;simp only[hoj,ht];by_cases hs:scOp E ops[j].op=true
 ·simp[hs]
 by_cases hp:jbs E ops[j].op=true
 ·simp[hp]
 by_cases hw':¬Region.wanted ops[j] (jaD ops t)=true
 ·simp[hw']
 have hw:=Classical.not_not.1 hw';by_cases ha:(jbp E (ja8 E t) ops[j].op).isSome=true
 ·simp[ha]
 have hs':scOp E ops[j].op=false:=by simpa using hs
 have hp':jbs E ops[j].op=false:=by simpa using hp
 have ha':jbp E (ja8 E t) ops[j].op=none:=by simpa using ha
 rw[hw,Ki rfl]at hop;have hread:=jjp hs' hp' ha' hop
 have hreads:jbd ops[j].op=true:=by
  cases hx:jbd ops[j].op with
  |true=>rfl
  |false=>rw[jgG hx]at hread;simp at hread
 have hord:∀i oi,ops[i]? = some oi->scOp E oi.op=true->(if i<j then((jat [] ops.toList).getD j 0).testBit i else((jat [] ops.toList).getD i 0).testBit j)=true:=by
  intro i oi hi hsi;unfold jjW at ho;rw[K1]at ho;have:=ho j (by simpa using hj);simp only[hoj,hreads,Qz,Jc,K1]at this
  have hi2:i<ops.size:=by
   rcases K4 i ops.size with h|h
   ·exact h
   ·rw[Vr h]at hi;simp at hi
  have:=this i (by simpa using hi2);simpa only[hi,hsi,Qz,Jc]using this
 simp only[hs',hp',hw,ha',Qz,Bool.or_self,Xl,Jc,K1];intro m hm;have hm:m<(O::ss).length:=by simpa using hm
 by_cases hal':¬jeZ E ops (jat [] ops.toList) j m=true
 ·simp[hal']
 have hal:=Classical.not_not.1 hal';rw[hal]
 have hall:∀i oi,ops[i]? = some oi->scOp E oi.op=true->(((jat [] ops.toList).getD j 0).testBit i=true->jaN E ops i<m)/\(((jat [] ops.toList).getD i 0).testBit j=true->m<=jaN E ops i):=by
  intro i oi hi hsi;unfold jeZ at hal;rw[K1]at hal
  have hi2:i<ops.size:=by
   rcases K4 i ops.size with h|h
   ·exact h
   ·rw[Vr h]at hi;simp at hi
  have:=hal i (by simpa using hi2);simp only[hi,hsi,Qz,Jc,K8,Q0,J7,Qn]at this;refine⟨λhb => ?_,λhb => ?_⟩
  ·rcases this.1 with h|h
   ·rw[hb]at h;simp at h
   ·exact h
  ·rcases this.2 with h|h
   ·rw[hb]at h;simp at h
   ·exact h
 have hcnt:cntO E ops.toList j=jaN E ops j:=rfl;have htot:ss.length=jaN E ops ops.size:=by rw[h2];unfold cntO jaN;simp
 have hm1:¬m<jaN E ops j:=by
  intro hlt;obtain⟨i,oi,hi,hio,hsi,he⟩:=jen (E:=E) ops m j hlt;have h3:=hord i oi hio hsi;rw[Ki hi]at h3;have:=(hall i oi hio hsi).1 h3;omega
 have hm2:¬jaN E ops j<m:=by
  intro hlt
  have hlen:jaN E ops j<jaN E ops ops.size:=by
   have:m<=ss.length:=by simp at hm;omega
   omega
  obtain⟨i,oi,hi,hio,hsi,he⟩:=jen (E:=E) ops (jaN E ops j) ops.size hlen
  have hij:¬i<j:=by
   intro hlt2;have:=jff (E:=E) ops hio hsi hlt2;omega
  have h3:=hord i oi hio hsi;rw[Kj hij]at h3;have:=(hall i oi hio hsi).2 h3;omega
 have hme:m=jaN E ops j:=by omega
 have hget:(O::ss)[m]? = some (SS O ss (cntO E ops.toList j)):=by
  rw[hcnt,<- hme];unfold SS;rw[K5 hm];rfl
 rw[hget];simp only[hread,V.beq_refl,Xu]
theorem jg8 {E:Env}{rec:Task->Option Res}{fn:FuncId}{rnd:Option Nat}{id:Nat}{ops:Array Oper}{tmps tf:List V}{dfs:List DE}{O Of:S}(hd:jgV E ops=true)
  (h:jd2 E rec (E.mutb fn id) ops ops.toList tmps O=some (tf,Of)):jbf E rec fn rnd (.region id ops true) tmps dfs O=some ⟨.normal,tf,dfs,Of⟩:=by
 unfold jgV at hd;rw[K8]at hd;obtain⟨tr,ss,hr⟩:=jiw ops.toList h;simp only[jbf,hd.1,Ku,hr,jkO hd.2 hr]
set_option linter.unusedVariables false
inductive Tre where
 |leaf
 |node (l:Tre) (v:V) (r:Tre)
def Tre.get(t:Tre):Nat->V :=
 Tre.rec (motive:=λ_=>Nat->V) (λ_=>.tup []) (λ_ v _ gl gr n=>Bool.rec (motive:=λ_=>V) (Bool.rec (motive:=λ_=>V) (gr (Nat.pred (Nat.div n 2))) (gl (Nat.div n 2)) (Nat.beq (Nat.mod n 2) 1)) v (Nat.beq n 0)) t
def Tre.set(v:V)(t:Tre):Nat->Tre :=
 Tre.rec (motive:=λ_=>Nat->Tre) (λ_=>.leaf) (λl u r sl sr n=>Bool.rec (motive:=λ_=>Tre) (Bool.rec (motive:=λ_=>Tre) (.node l u (sr (Nat.pred (Nat.div n 2)))) (.node (sl (Nat.div n 2)) u r) (Nat.beq (Nat.mod n 2) 1)) (.node l v r) (Nat.beq n 0)) t
theorem Tre.get_node(l r:Tre)(v:V)(n:Nat):(Tre.node l v r).get n=cond (Nat.beq n 0) v (cond (Nat.beq (n % 2) 1) (l.get (n/2)) (r.get (n/2-1))):=by
 show Bool.rec (motive:=λ_=>V) (Bool.rec (motive:=λ_=>V) (r.get (n/2-1)) (l.get (n/2)) (Nat.beq (n % 2) 1)) v (Nat.beq n 0)=_;cases Nat.beq n 0<;>cases Nat.beq (n % 2) 1<;>rfl
theorem Tre.set_node(v:V)(l r:Tre)(u:V)(n:Nat):Tre.set v (.node l u r) n=cond (Nat.beq n 0) (.node l v r) (cond (Nat.beq (n % 2) 1) (.node (Tre.set v l (n/2)) u r) (.node l u (Tre.set v r (n/2-1)))):=by
 show Bool.rec (motive:=λ_=>Tre) (Bool.rec (motive:=λ_=>Tre) (.node l u (Tre.set v r (n/2-1))) (.node (Tre.set v l (n/2)) u r) (Nat.beq (n % 2) 1)) (.node l v r) (Nat.beq n 0)=_;cases Nat.beq n 0<;>cases Nat.beq (n % 2) 1<;>rfl
def Tre.tab(k:Nat):(Nat->V)->Tre :=
 Nat.rec (motive:=λ_=>(Nat->V)->Tre) (λ_=>.leaf) (λ_ ih f=>.node (ih λj=>f (2*j+1)) (f 0) (ih λj=>f (2*j+2))) k
theorem Tre.tab_succ(k:Nat)(f:Nat->V):Tre.tab (k+1) f=.node (Tre.tab k λj=>f (2*j+1)) (f 0) (Tre.tab k λj=>f (2*j+2)):=rfl
def Tre.isFull:Nat->Tre->Prop
 |0,_=>True
 |k+1,.node l _ r=>isFull k l/\isFull k r
 |_+1,.leaf=>False
theorem Tre.tab_full:∀(k:Nat) (f:Nat->V),(Tre.tab k f).isFull k
 |0,_=>trivial
 |k+1,f=>⟨tab_full k _,tab_full k _⟩
theorem jhD {a b:Nat}(h:a ≠ b):Nat.beq a b=false:=by
 cases hb:Nat.beq a b with
 |false=>rfl
 |true=>exact absurd (Qw hb) h
theorem jma {a b:Nat}(h:a=b):Nat.beq a b=true:=by subst h;exact Nat.beq_refl a
theorem jgg(n:Nat):n=0\/(n ≠ 0/\n % 2=1/\n=2*(n/2)+1)\/(n ≠ 0/\n % 2 ≠ 1/\n=2*(n/2-1)+2):=by omega
theorem Tre.tab_get:∀(k:Nat) (f:Nat->V) (n:Nat),n<2^k-1->(Tre.tab k f).get n=f n
 |0,f,n,h=>by simp at h
 | k+1,f,n,h=>by
  rw[Tre.tab_succ,Tre.get_node];have hp:2^(k+1)=2*2^k:=by rw[Uc];omega
  rcases jgg n with rfl|⟨h0,h1,h2⟩|⟨h0,h1,h2⟩
  ·rfl
  ·have e0:Nat.beq n 0=false:=jhD h0;have e1:Nat.beq (n % 2) 1=true:=jma h1;rw[e0,e1];show(Tre.tab k _).get (n/2)=_;rw[tab_get k _ _ (by omega),<- h2]
  ·have e0:Nat.beq n 0=false:=jhD h0;have e1:Nat.beq (n % 2) 1=false:=jhD h1;rw[e0,e1];show(Tre.tab k _).get (n/2-1)=_;rw[tab_get k _ _ (by omega),<- h2]
theorem Tre.get_out:∀(k:Nat) (f:Nat->V) (n:Nat),2^k-1<=n->(Tre.tab k f).get n=.tup []
 |0,f,n,h=>rfl
 | k+1,f,n,h=>by
  rw[Tre.tab_succ,Tre.get_node];have hp:2^(k+1)=2*2^k:=by rw[Uc];omega
  have h1k:1<=2^k:=Nat.one_le_two_pow
  rcases jgg n with rfl|⟨h0,h1,h2⟩|⟨h0,h1,h2⟩
  ·omega
  ·have e0:Nat.beq n 0=false:=jhD h0;have e1:Nat.beq (n % 2) 1=true:=jma h1;rw[e0,e1];exact get_out k _ _ (by omega)
  ·have e0:Nat.beq n 0=false:=jhD h0;have e1:Nat.beq (n % 2) 1=false:=jhD h1;rw[e0,e1];exact get_out k _ _ (by omega)
theorem Tre.set_full(v:V):∀(k:Nat) (t:Tre) (d:Nat),t.isFull k->(Tre.set v t d).isFull k
 |0,t,d,h=>trivial
 |k+1,.leaf,d,h=>h.elim
 | k+1,.node l u r,d,h=>by
  rw[Tre.set_node];cases Nat.beq d 0 with
  |true=>exact h
  |false =>
   cases Nat.beq (d % 2) 1 with
   |true=>exact⟨set_full v k l _ h.1,h.2⟩
   |false=>exact⟨h.1,set_full v k r _ h.2⟩
theorem Tre.get_set(v:V):∀(k:Nat) (t:Tre) (d i:Nat),t.isFull k->d<2^k-1->(Tre.set v t d).get i=if i=d then v else t.get i
 |0,t,d,i,h,hd=>by simp at hd
 |k+1,.leaf,d,i,h,hd=>h.elim
 | k+1,.node l u r,d,i,h,hd=>by
  have hp:2^(k+1)=2*2^k:=by rw[Uc];omega
  rw[Tre.set_node];have b0:∀n:Nat,n ≠ 0->Nat.beq n 0=false:=λn h=>jhD h
  have b1:∀n:Nat,n % 2=1->Nat.beq (n % 2) 1=true:=λn h=>jma h
  have b2:∀n:Nat,n % 2 ≠ 1->Nat.beq (n % 2) 1=false:=λn h=>jhD h
  rcases jgg d with rfl|⟨h0,h1,h2⟩|⟨h0,h1,h2⟩
  ·show(Tre.node l v r).get i=_;rw[Tre.get_node,Tre.get_node];by_cases hi:i=0
   ·subst hi;rfl
   ·rw[b0 i hi,Kj hi];rfl
  ·rw[b0 d h0,b1 d h1];show(Tre.node (Tre.set v l (d/2)) u r).get i=_;rw[Tre.get_node,Tre.get_node]
   rcases jgg i with rfl|⟨g0,g1,g2⟩|⟨g0,g1,g2⟩
   ·rw[Kj (λe=>h0 e.symm)];rfl
   ·rw[b0 i g0,b1 i g1];show(Tre.set v l (d/2)).get (i/2)=if i=d then v else l.get (i/2)
    rw[get_set v k l (d/2) (i/2) h.1 (by omega)];by_cases e:i=d
    ·subst e;simp
    ·rw[Kj e,Kj (by omega)]
   ·rw[b0 i g0,b2 i g1,Kj (by omega)];rfl
  ·rw[b0 d h0,b2 d h1];show(Tre.node l u (Tre.set v r (d/2-1))).get i=_;rw[Tre.get_node,Tre.get_node]
   rcases jgg i with rfl|⟨g0,g1,g2⟩|⟨g0,g1,g2⟩
   ·rw[Kj (λe=>h0 e.symm)];rfl
   ·rw[b0 i g0,b1 i g1,Kj (by omega)];rfl
   ·rw[b0 i g0,b2 i g1];show(Tre.set v r (d/2-1)).get (i/2-1)=if i=d then v else r.get (i/2-1)
    rw[get_set v k r (d/2-1) (i/2-1) h.2 (by omega)];by_cases e:i=d
    ·subst e;simp
    ·rw[Kj e,Kj (by omega)]
def depthF:Nat:=11
structure RepT (n:Nat) (t:Tre) (l:List V):Prop where
 len:l.length=n
 get:∀i,l.getD i (.tup [])=t.get i
 full:t.isFull depthF
 room:n<=2^depthF-1
theorem RepT.set {n:Nat}{t:Tre}{l:List V}(h:RepT n t l){d:Nat}(hd:d<n)(v:V):RepT n (Tre.set v t d) (l.set d v):=by
 refine⟨by simp[h.len],λi => ?_,Tre.set_full v _ _ _ h.full,h.room⟩;have hr:=h.room;rw[Tre.get_set v _ _ _ _ h.full (by omega),<- h.get i];have hl:=h.len;by_cases e:i=d
 ·subst e;simp[List.getD,hl,hd]
 ·have e2:¬d=i:=λh=>e h.symm
  simp[List.getD,e,e2]
def ofF(l:List V):Tre:=Tre.tab depthF λi=>l.getD i (.tup [])
theorem RepT.of {n:Nat}(l:List V)(h:l.length=n)(hn:n<=2^depthF-1):RepT n (ofF l) l:=by
 refine⟨h,λi => ?_,Tre.tab_full _ _,hn⟩;by_cases hi:i<2^depthF-1
 ·rw[ofF,Tre.tab_get _ _ _ hi]
 ·rw[ofF,Tre.get_out _ _ _ (by omega)];simp[List.getD,Qf (show l.length<=i by omega)]
theorem RepT.args {n:Nat}(as:List V)(h:as.length<=n)(hn:n<=2^depthF-1):RepT n (ofF as) (as++List.replicate (n-as.length) (.tup [])):=by
 refine⟨by simp;omega,λi => ?_,Tre.tab_full _ _,hn⟩
 have e:(as++List.replicate (n-as.length) (V.tup [])).getD i (.tup [])=as.getD i (.tup []):=by
  simp only[List.getD];by_cases hi:i<as.length
  ·rw[K2 hi]
  ·rw[Q6 (by omega),Qf (l:=as) (by omega)];by_cases h2:i-as.length<n-as.length
   ·rw[List.getElem?_replicate];simp[h2]
   ·rw[Qf (by simpa using h2)]
 rw[e];by_cases hi:i<2^depthF-1
 ·rw[ofF,Tre.tab_get _ _ _ hi]
 ·rw[ofF,Tre.get_out _ _ _ (by omega)];simp[List.getD,Qf (show as.length<=i by omega)]
def lstF(n:Nat)(t:Tre):List V:=(List.range n).map t.get
theorem RepT.lst {n:Nat}{t:Tre}{l:List V}(h:RepT n t l):lstF n t=l:=by
 apply List.ext_getElem
 ·simp[lstF,h.len]
 ·intro i h1 h2;have:=h.get i;simp[List.getD,h2]at this;simp[lstF,this]
def jbE(E:Env)(t:Tre)(x:Operand):Option V :=
 match x with
 | .tmp i=>some (t.get i)
 | .const v=>je5 v
 | .global g=>E.gl g
 | .func f=>some (.func f [] [])
theorem RepT.eval {E:Env}{n:Nat}{t:Tre}{l:List V}(h:RepT n t l):ja8 E l=jbE E t:=by
 funext x
 cases x with
 |tmp i=>simp only[ja8,jbE,h.get i]
 |const v=>rfl
 |global g=>rfl
 |func f=>rfl
section
variable (E:Env)
def opR(rec:Task->Option Res)(mutb:Bool)(ρ:Operand->Option V)(O:S)(op:Op):Option (V × S) :=
 match jbp E ρ op with
 |some v=>some (v,O)
 | none =>
  match jbu E ρ O op with
  |some v=>some (v,O)
  | none =>
   match op with
   | .call { callee:=.value g,args,.. } =>
    (ρ g).bind λgv=>(jbw ρ args.toList).bind λas=>jdt E rec gv as O
   | .call { callee:=.invoke x name,args,.. } =>
    (ρ x).bind λxv=>(jjD E xv name).bind λp=>(jbw ρ args.toList).bind λas=>jas E rec p.1 (p.2::as) O
   |op=>jbz E mutb ρ O op
theorem jsd {rec:Task->Option Res}{mutb:Bool}{tmps:List V}{O:S}{op:Op}:opV E rec mutb tmps O op=opR E rec mutb (ja8 E tmps) O op:=rfl
end
abbrev KT:=Env->(Task->Option Res)->Bool->Tre->S->Option (V × S)
def retK(O:S)(o:Option V):Option (V × S) :=
 match o with
 |some v=>some (v,O)
 |none=>none
def kIx(k:IntKind):Nat:=IntKind.rec (motive:=λ_=>Nat) 0 1 2 3 4 5 6 7 k
theorem jwI {a b:IntKind}(h:Nat.beq (kIx a) (kIx b)=true):a=b:=by
 cases a<;>cases b<;>first|rfl|(exact absurd h (by simp[kIx]))
theorem juq(a:IntKind):Nat.beq (kIx a) (kIx a)=true:=Nat.beq_refl _
def kTop(k:IntKind):Nat :=
 IntKind.rec (motive:=λ_=>Nat) 127 32767 2147483647 9223372036854775807 255 65535 4294967295 18446744073709551615 k
def kSgn(k:IntKind):Bool:=IntKind.rec (motive:=λ_=>Bool) true true true true false false false false k
def joT(k:IntKind)(n:Int):Int :=
 Int.rec (motive:=λ_=>Int) (λm=>cond (Nat.ble m (kTop k)) (Int.ofNat m) (k.wrap (Int.ofNat m)))
  (λm=>cond (kSgn k) (cond (Nat.ble m (kTop k)) (Int.negSucc m) (k.wrap (Int.negSucc m))) (k.wrap (Int.negSucc m))) n
theorem jmb(k:IntKind)(n:Int):joT k n=k.wrap n:=by
 cases n with
 | ofNat m =>
  show cond (Nat.ble m (kTop k)) (Int.ofNat m) (k.wrap (Int.ofNat m))=_;cases hb:Nat.ble m (kTop k)with
  |false=>rfl
  |true =>
   have h:=Qq hb;simp only[cond];cases k<;>simp only[kTop]at h<;>simp only[IntKind.wrap,IntKind.bits,IntKind.signed]<;>simp<;>omega
 | negSucc m =>
  show cond (kSgn k) (cond (Nat.ble m (kTop k)) (Int.negSucc m) (k.wrap (Int.negSucc m))) (k.wrap (Int.negSucc m))=_;cases hs:kSgn k with
  |false=>rfl
  | true =>
   simp only[cond];cases hb:Nat.ble m (kTop k)with
   |false=>rfl
   |true =>
    have h:=Qq hb;simp only;have e:Int.negSucc m = -(m:Int)-1:=by omega
    rw[e];cases k<;>first|(simp[kSgn]at hs;done)|(simp only[kTop]at h;simp only[IntKind.wrap,IntKind.bits,IntKind.signed,Xz,Qn,Nat.reduceSub,Int.reducePow,ge_iff_le];split<;>omega)
def ltK(a b:Int):Bool :=
 Int.rec (motive:=λ_=>Bool)
  (λm=>Int.rec (motive:=λ_=>Bool) (λn=>Nat.ble (m+1) n) (λ_=>false) b)
  (λm=>Int.rec (motive:=λ_=>Bool) (λ_=>true) (λn=>Nat.ble (n+1) m) b) a
theorem jpQ(a b:Int):ltK a b=decide (a<b):=by
 have hb:∀m n:Nat,Nat.ble m n=decide (m<=n):=by
  intro m n;by_cases h:m<=n
  ·simp[h,Nat.ble_eq]
  ·simp only[h,decide_false];cases hh:Nat.ble m n with
   |false=>rfl
   |true=>exact absurd (Qq hh) h
 cases a<;>cases b
 ·rename_i m n;show Nat.ble (m+1) n=_;rw[hb];congr 1;apply propext;simp only[Xv];omega
 ·rename_i m n;show false=_;symm;simp only[decide_eq_false_iff_not,Xv];omega
 ·rename_i m n;show true=_;symm;simp only[Qn,Xv];omega
 ·rename_i m n;show Nat.ble (n+1) m=_;rw[hb];congr 1;apply propext;omega
def eqK(a b:Int):Bool :=
 Int.rec (motive:=λ_=>Bool)
  (λm=>Int.rec (motive:=λ_=>Bool) (λn=>Nat.beq m n) (λ_=>false) b)
  (λm=>Int.rec (motive:=λ_=>Bool) (λ_=>false) (λn=>Nat.beq m n) b) a
theorem jvP(a b:Int):eqK a b=(a==b):=by
 have hb:∀m n:Nat,Nat.beq m n=decide (m=n):=by
  intro m n;by_cases h:m=n
  ·subst h;simp
  ·simp only[h,decide_false];cases hh:Nat.beq m n with
   |false=>rfl
   |true=>exact absurd (Qw hh) h
 have e:∀x y:Int,(x==y)=decide (x=y):=λx y=>by
  by_cases h:x=y
  ·subst h;simp
  ·simp[h]
 rw[e];cases a<;>cases b
 ·rename_i m n;show Nat.beq m n=_;rw[hb];congr 1;apply propext;simp only[Xv];omega
 ·rename_i m n;show false=_;symm;simp only[decide_eq_false_iff_not,Xv];omega
 ·rename_i m n;show false=_;symm;simp only[decide_eq_false_iff_not,Xv];omega
 ·rename_i m n;show Nat.beq m n=_;rw[hb];congr 1;apply propext;omega
def intK(op:BinOp):IntKind->Int->Int->Option V :=
 BinOp.rec (motive:=λ_=>IntKind->Int->Int->Option V)
  (λk a b=>some (.int k (joT k (Int.add a b))))
  (λk a b=>some (.int k (joT k (Int.sub a b))))
  (λk a b=>some (.int k (joT k (Int.mul a b))))
  (jcI .quo) (jcI .rem) (jcI .and) (jcI .or) (jcI .xor) (jcI .shl) (jcI .shr) (jcI .andNot)
  (λ_ a b=>some (.bool (eqK a b))) (λ_ a b=>some (.bool (!eqK a b)))
  (λ_ a b=>some (.bool (ltK a b))) (λ_ a b=>some (.bool (!ltK b a))) (λ_ a b=>some (.bool (ltK b a))) (λ_ a b=>some (.bool (!ltK a b))) op
theorem jwJ(op:BinOp)(k:IntKind)(a b:Int):intK op k a b=jcI op k a b:=by
 cases op<;>first|rfl|skip
 case add=>show some (V.int k (joT k (a+b)))=some (.int k (k.wrap (a+b)));rw[jmb]
 case sub=>show some (V.int k (joT k (a-b)))=some (.int k (k.wrap (a-b)));rw[jmb]
 case mul=>show some (V.int k (joT k (a*b)))=some (.int k (k.wrap (a*b)));rw[jmb]
 case eql=>show some (V.bool (eqK a b))=some (.bool (a==b));rw[jvP]
 case neq=>show some (V.bool (!eqK a b))=some (.bool (a != b));rw[jvP];rfl
 case lss=>show some (V.bool (ltK a b))=some (.bool (a<b));rw[jpQ]
 case leq=>show some (V.bool (!ltK b a))=some (.bool (a<=b));rw[jpQ];congr 1;congr 1;rw[<- decide_not];congr 1;apply propext;omega
 case gtr=>show some (V.bool (ltK b a))=some (.bool (a>b));rw[jpQ]
 case geq=>show some (V.bool (!ltK a b))=some (.bool (a >= b));rw[jpQ];congr 1;congr 1;rw[<- decide_not];congr 1;apply propext;omega
def jwK(op:BinOp):Bool:=BinOp.rec (motive:=λ_=>Bool) false false false false false false false false true true false false false false false false false op
def binK(E:Env)(t:TypeId)(c:Bool)(op:BinOp)(a b:V):Option V :=
 match a,b with
 | .int k n,.int k' m=>cond (jwK op) (jdd E t c op (.int k n) (.int k' m)) (cond (Nat.beq (kIx k) (kIx k')) (intK op k n m) none)
 |a,b=>jdd E t c op a b
theorem jwL(E:Env)(t:TypeId)(c:Bool)(op:BinOp)(a b:V):binK E t c op a b=jdd E t c op a b:=by
 unfold binK;split
 ·rename_i k n k' m;cases hs:jwK op with
  |true=>rfl
  | false =>
   simp only[cond]
   have hb:vBin op (.int k n) (.int k' m)=if k=k' then jcI op k n m else none:=by
    cases op<;>first|rfl|(exact absurd hs (by simp[jwK]))
   have hq:∀us,vEq us c (.int k n) (.int k' m)=none:=by
    intro us;cases us with
    |none=>rfl
    |some d=>cases d<;>rfl
   have hA:je7 E t op (.int k n) (.int k' m)=none:=by cases op<;>rfl
   cases hk:Nat.beq (kIx k) (kIx k')with
   |true =>
    have e:=jwI hk;subst e;simp only[jdd,jbZ,hb,Ku,jwJ];cases hv:jcI op k n m with
    |some v=>rfl
    |none=>simp only[hA,hq];cases op<;>rfl
   |false =>
    have e:¬k=k':=λe=>by subst e;rw[juq]at hk;simp at hk
    simp only[jdd,jbZ,hb,e,Ks,hA,hq];cases op<;>rfl
 ·rfl
def faS(E:Env)(t:TypeId)(f:Nat):Option Nat :=
 match E.P.underlying t with
 |some (.struct fields)=>(fields[f]?).bind λfd=>(sz E fd.type).bind λs=>if s=0 then none else some fd.offset
 |_=>none
def fS(E:Env)(t:TypeId)(f:Nat):Option (Nat × Bool × Nat) :=
 match E.P.underlying t with
 |some (.struct fields)=>(fields[f]?).bind λfd=>(sz E fd.type).bind λs=>(aggT E fd.type).bind λg=>some (s,g,fd.offset)
 |_=>none
def iaS(E:Env)(t:TypeId):Option (Option Nat × Nat) :=
 match E.P.underlying t with
 |some (.slice e)=>(sz E e).bind λs=>some (none,s)
 |some (.array n e)=>(sz E e).bind λs=>some (some n,s)
 |_=>none
def ldS(E:Env)(t:TypeId):Option (Option Nat) :=
 (aggT E t).bind fun
 |true=>(sz E t).bind λs=>some (some s)
 |false=>some none
def miS(E:Env)(t:TypeId):Bool :=
 match E.P.underlying t with
 |some (.interface _)=>false
 |some _=>true
 |none=>false
def kGen(op:Op):KT:=λE rec mutb t O=>opR E rec mutb (jbE E t) O op
def jxQ(x:Operand):KT:=λE rec mutb t O=>retK O (jbE E t x)
def jzK(c a b:Operand):KT:=λE rec mutb t O=>retK O (jbp E (jbE E t) (.pick c a b))
def jxR(ty:TypeId):KT:=λE rec mutb t O=>(jbG E ty).map λz=>(.ptr O.heap.length 0,O.push (.cells z.cells ty))
def kBox(ty:TypeId)(x:Operand):KT:=λE rec mutb t O=>(jbE E t x).map λv=>(.ptr O.heap.length 0,O.push (.cells v.cells ty))
def jxS(ty:TypeId)(parts:Array (Nat × Operand)):KT:=λE rec mutb t O =>
 retK O ((jdJ (jbE E t) parts.toList).bind λps=>(jbG E ty).bind λz=>(jhr E ty).bind λpl=>(jie pl z.cells ps).map .agg)
def ldK(h:List AObj)(p:V)(o:Option Nat):Option V :=
 match o with
 |some s=>(jai h s p).map .agg
 |none=>(jai h 1 p).bind (·[0]?)
def jzL(ty:TypeId)(x:Operand):KT:=λE rec mutb t O =>
 retK O ((jbE E t x).bind λp=>(ldS E ty).bind λo=>ldK O.heap p o)
def jxT(ty:TypeId)(a x:Operand):KT:=λE rec mutb t O =>
 (jbE E t a).bind λp=>(jbE E t x).bind λv=>(sz E ty).bind λs =>
   if v.cells.length=s then(jbx O v.cells p).map λO'=>(.tup [],O')else none
def kBin(op:BinOp)(ty:TypeId)(x y:Operand)(_:TypeId):KT:=λE rec mutb t O =>
 retK O ((jbE E t x).bind λa=>(jbE E t y).bind λb=>binK E ty (jbC x ||jbC y) op a b)
def kUn(op:UnOp)(_:TypeId)(x:Operand):KT:=λE rec mutb t O=>retK O ((jbE E t x).bind λa=>vUn op a)
def jxU(ty:TypeId)(x:Operand):KT:=λE rec mutb t O =>
 retK O ((jbE E t x).bind λv=>cond (miS E ty) (some (.iface ty v)) none)
def jzM(fn:Fn)(first captured:Array Operand):KT:=λE rec mutb t O=>retK O (jbp E (jbE E t) (.makeFunc fn first captured))
def jxV(ty:TypeId)(x:Operand)(lo hi mx:Option Operand):KT:=λE rec mutb t O=>retK O (jbp E (jbE E t) (.slice ty x lo hi mx))
def jq8(ty:TypeId)(x:Operand)(f:Nat):KT:=λE rec mutb t O =>
 retK O ((jbE E t x).bind λv=>(faS E ty f).bind λoff=>jdm off v)
def jxW(ty:TypeId)(x:Operand)(f:Nat):KT:=λE rec mutb t O =>
 retK O ((jbE E t x).bind λv=>(jrM v).bind λcs=>(fS E ty f).bind λp=>jid p.2.1 p.1 cs p.2.2)
def iaK(v i:V)(p:Option Nat × Nat):Option V :=
 match p.1 with
 |none=>jaJ p.2 v i
 |some n=>jdv n p.2 v i
def jq9(ty:TypeId)(x ix:Operand):KT:=λE rec mutb t O =>
 retK O ((jbE E t x).bind λv=>(jbE E t ix).bind λi=>(iaS E ty).bind (iaK v i))
def jxX(ty:TypeId)(x ix:Operand):KT:=λE rec mutb t O=>retK O (jbp E (jbE E t) (.index ty x ix))
def extK(i:Nat)(v:V):Option V :=
 match v with
 | .tup vs=>vs[i]?
 |_=>none
def jur(x:Operand)(i:Nat):KT:=λE rec mutb t O=>retK O ((jbE E t x).bind (extK i))
def jxY(g:Operand)(args:List Operand):KT:=λE rec mutb t O =>
 (jbE E t g).bind λgv=>(jbw (jbE E t) args).bind λas=>jdt E rec gv as O
def jwM(x:Operand)(name:String)(args:List Operand):KT:=λE rec mutb t O =>
 (jbE E t x).bind λxv=>(jjD E xv name).bind λp=>(jbw (jbE E t) args).bind λas=>jas E rec p.1 (p.2::as) O
def kApp(c:Call):KT:=λE rec mutb t O=>jbz E mutb (jbE E t) O (.call c)
def jxZ(b:Builtin):Bool:=match b with| .append| .copy=>true|_=>false
def jwN(args:Array Operand)(ats:Array TypeId)(cal:Callee):KT :=
 Callee.rec (motive:=λ_=>KT) (λg=>jxY g args.toList) (λx name=>jwM x name args.toList)
  (λb=>cond (jxZ b) (kApp ⟨.builtin b,args,ats⟩) (kGen (.call ⟨.builtin b,args,ats⟩))) cal
def jzN(c:Call):KT:=Call.rec (motive:=λ_=>KT) (λcal args ats=>jwN args ats cal) c
def opK(op:Op):KT :=
 Op.rec (motive:=λ_=>KT) jxQ jxQ jzK jxR kBox jxS (λt l p=>kGen (.buildSlice t l p)) (λt m k v=>kGen (.insert t m k v)) jzL jxT
  (λg=>kGen (.ready g)) (λg=>kGen (.waits g)) (λx=>kGen (.nilCheck x)) kBin kUn (λa b x=>kGen (.convert a b x)) (λa x=>kGen (.sliceToArrayPointer a x)) jxU jzM
  (λt r=>kGen (.makeMap t r)) (λt r=>kGen (.makeChan t r)) (λt l c=>kGen (.makeSlice t l c)) jxV jq8 jxW jq9 jxX
  (λt x i c=>kGen (.lookup t x i c)) (λt m k v=>kGen (.mapUpdate t m k v)) (λt m k=>kGen (.mapEntry t m k)) (λt m s v=>kGen (.entryStore t m s v))
  (λt x=>kGen (.range t x)) (λi b=>kGen (.next i b)) (λi=>kGen (.entry i)) (λx a b c=>kGen (.typeAssert x a b c)) jur jzN (λc=>kGen (.go c)) (λc=>kGen (.defer c))
  (λx=>kGen (.panic x)) (λc x=>kGen (.send c x)) (λt c b=>kGen (.recv t c b)) (λc b=>kGen (.select c b)) op
section
variable {E:Env}{rec:Task->Option Res}{mutb:Bool}{t:Tre}{O:S}
theorem jcP {op:Op}(h1:jbu E (jbE E t) O op=none)(h2:∀c,op ≠ .call c)(h3:jbz E mutb (jbE E t) O op=none):opR E rec mutb (jbE E t) O op=retK O (jbp E (jbE E t) op):=by
 unfold opR retK;cases jbp E (jbE E t) op with
 |some v=>rfl
 |none =>
  simp only[h1];cases op<;>first|exact h3|(exact absurd rfl (h2 _))
theorem jx0(ty:TypeId)(x:Operand)(f:Nat):((jbE E t x).bind λv=>(faS E ty f).bind λoff=>jdm off v)=jbp E (jbE E t) (.fieldAddr ty x f):=by
 simp only[jbp];cases jbE E t x with
 |none=>rfl
 | some v =>
  simp only[Kn,faS];cases hu:E.P.underlying ty with
  |none=>rfl
  | some d =>
   cases d<;>first|rfl|skip
   rename_i fields;simp only;cases fields[f]? with
   |none=>rfl
   | some fd =>
    simp only[Kn];cases sz E fd.type with
    |none=>rfl
    |some s =>
     simp only[Kn];by_cases h:s=0
     ·simp[h]
     ·simp[h]
theorem jzO(ty:TypeId)(x:Operand)(f:Nat):((jbE E t x).bind λv=>(jrM v).bind λcs=>(fS E ty f).bind λp=>jid p.2.1 p.1 cs p.2.2)=jbp E (jbE E t) (.field ty x f):=by
 simp only[jbp];cases jbE E t x with
 |none=>rfl
 | some v =>
  simp only[Kn,fS];cases hu:E.P.underlying ty with
  |none=>cases v<;>rfl
  | some d =>
   cases d<;>first|(cases v<;>rfl)|skip
   rename_i fields;cases v<;>first|rfl|skip
   rename_i cs;simp only[jrM,Kn];cases fields[f]? with
   |none=>rfl
   | some fd =>
    simp only[Kn];cases sz E fd.type with
    |none=>rfl
    |some s =>
     simp only[Kn];cases aggT E fd.type with
     |none=>rfl
     |some g=>rfl
theorem jx1(ty:TypeId)(x ix:Operand):((jbE E t x).bind λv=>(jbE E t ix).bind λi=>(iaS E ty).bind (iaK v i))=jbp E (jbE E t) (.indexAddr ty x ix):=by
 simp only[jbp];cases jbE E t x with
 |none=>rfl
 | some v =>
  simp only[Kn];cases jbE E t ix with
  |none=>rfl
  | some i =>
   simp only[Kn,iaS];cases E.P.underlying ty with
   |none=>rfl
   |some d =>
    cases d<;>first|rfl|skip
    ·rename_i e;simp only;cases sz E e<;>rfl
    ·rename_i n e;simp only;cases sz E e<;>rfl
theorem jx2(ty:TypeId)(x:Operand):((jbE E t x).bind λp=>(ldS E ty).bind λo=>ldK O.heap p o)=jbu E (jbE E t) O (.load ty x):=by
 simp only[jbu]
 congr 1
 funext p
 simp only[jbi,ldS];cases aggT E ty with
 |none=>rfl
 | some g =>
  cases g with
  |false=>rfl
  |true =>
   simp only[Kn];cases sz E ty<;>rfl
theorem jvQ(op:Op)(E:Env)(rec:Task->Option Res)(mutb:Bool)(t:Tre)(O:S):opK op E rec mutb t O=opR E rec mutb (jbE E t) O op:=by
 cases op with
 |move x=>exact(jcP (op:=.move x) rfl (by simp) rfl).symm
 |assign x=>exact(jcP (op:=.assign x) rfl (by simp) rfl).symm
 |pick c a b=>exact(jcP (op:=.pick c a b) rfl (by simp) rfl).symm
 |build ty ps=>exact(jcP (op:=.build ty ps) rfl (by simp) rfl).symm
 |unOp o ty x=>exact(jcP (op:=.unOp o ty x) rfl (by simp) rfl).symm
 |makeFunc f a b=>exact(jcP (op:=.makeFunc f a b) rfl (by simp) rfl).symm
 |slice ty x a b c=>exact(jcP (op:=.slice ty x a b c) rfl (by simp) rfl).symm
 |index ty x i=>exact(jcP (op:=.index ty x i) rfl (by simp) rfl).symm
 |extract x i=>exact(jcP (op:=.extract x i) rfl (by simp) rfl).symm
 |alloc ty=>rfl
 |box ty x=>rfl
 |store ty a x=>rfl
 |binOp o ty x y yt =>
  rw[jcP rfl (by simp) rfl];show retK O ((jbE E t x).bind λa=>(jbE E t y).bind λb=>binK E ty (jbC x ||jbC y) o a b)=_
  congr 1
  simp only[jbp,jwL]
 |makeInterface ty x =>
  rw[jcP rfl (by simp) rfl];show retK O ((jbE E t x).bind λv=>cond (miS E ty) (some (.iface ty v)) none)=_
  congr 1
  simp only[jbp,miS]
  congr 1
  funext v
  cases E.P.underlying ty with
  |none=>rfl
  |some d=>cases d<;>rfl
 |fieldAddr ty x f=>rw[jcP rfl (by simp) rfl];exact congrArg (retK O) (jx0 ty x f)
 |field ty x f=>rw[jcP rfl (by simp) rfl];exact congrArg (retK O) (jzO ty x f)
 |indexAddr ty x i=>rw[jcP rfl (by simp) rfl];exact congrArg (retK O) (jx1 ty x i)
 |load ty x =>
  show retK O ((jbE E t x).bind λp=>(ldS E ty).bind λo=>ldK O.heap p o)=_;rw[jx2];unfold opR retK;simp only[jbp];cases jbu E (jbE E t) O (.load ty x)<;>rfl
 |call c =>
  obtain⟨callee,args,ats⟩:=c;cases callee with
  |value g=>rfl
  |invoke x n=>rfl
  |builtin b=>cases b<;>rfl
 |_=>rfl
end
section
variable (E:Env)
def nthF(l:List Oper):Nat->Option Oper :=
 List.rec (motive:=λ_=>Nat->Option Oper) (λ_=>none) (λo _ ih j=>cond (Nat.beq j 0) (some o) (ih (j-1))) l
theorem jse:∀(l:List Oper) (j:Nat),nthF l j=l[j]?
 | [],j=>by simp[nthF]
 |o::l,0=>rfl
 |o::l,j+1=>by
  have:nthF (o::l) (j+1)=nthF l j:=rfl;rw[this,jse l j,Qg]
def jhE(ops:List Oper)(t:Tre)(j:Nat):Option Bool :=
 match nthF ops j with
 | some o=>match o.dst with
  |some d=>match t.get d with
   | .bool b=>some b
   |_=>none
  |none=>none
 |none=>none
theorem RepT.yield {n:Nat}{t:Tre}{l:List V}(h:RepT n t l)(ops:Array Oper):jaD ops l=jhE ops.toList t:=by
 funext j
 unfold jaD jhE;rw[jse,Q9];cases ops[j]? with
 |none=>rfl
 | some o =>
  simp only[Kn];cases o.dst with
  |none=>rfl
  |some d =>
   simp only[Kn];rw[<- h.get d];simp only[List.getD];cases l[d]? with
   |none=>rfl
   |some v=>cases v<;>rfl
def putF(n:Nat)(t:Tre)(dst:Option Tmp)(v:V):Option Tre :=
 match dst with
 |none=>some t
 |some d=>cond (Nat.ble (d+1) n) (some (Tre.set v t d)) none
theorem RepT.put {n:Nat}{t t':Tre}{l:List V}(h:RepT n t l){dst:Option Tmp}{v:V}(hp:putF n t dst v=some t'):RepT n t' (putT l dst v):=by
 unfold putF at hp;cases dst with
 |none=>simp at hp;subst hp;exact h
 | some d =>
  simp only at hp;cases hb:Nat.ble (d+1) n with
  |false=>rw[hb]at hp;simp at hp
  |true =>
   rw[hb]at hp;simp at hp;subst hp;exact h.set (Qq hb) v
def jfh(rec:Task->Option Res)(mutb:Bool)(n:Nat)(ops:List Oper):List Oper->Tre->S->Option (Tre × S)
 | [],t,O=>some (t,O)
 | o::l,t,O =>
  match Region.wanted o (jhE ops t)with
  | true =>
   match opK o.op E rec mutb t O with
   |some (v,O') =>
    match putF n t o.dst v with
    |some t'=>jfh rec mutb n ops l t' O'
    |none=>none
   |none=>none
  |false =>
   match putF n t o.dst (.tup [])with
   |some t'=>jfh rec mutb n ops l t' O
   |none=>none
theorem jeS {rec:Task->Option Res}{mutb:Bool}{n:Nat}{ops:Array Oper}:∀(l:List Oper) {t t':Tre} {tmps:List V} {O O':S},RepT n t tmps->jfh E rec mutb n ops.toList l t O=some (t',O') ->
  ∃tmps',jd2 E rec mutb ops l tmps O=some (tmps',O')/\RepT n t' tmps'
 | [],t,t',tmps,O,O',h,he=>by
  simp only[jfh,Kg,Kh]at he;obtain⟨rfl,rfl⟩:=he;exact⟨tmps,rfl,h⟩
 | o::l,t,t',tmps,O,O',h,he=>by
  simp only[jfh,jvQ]at he;simp only[jd2,h.yield ops,jsd,h.eval];cases hw:Region.wanted o (jhE ops.toList t)with
  | true =>
   simp only[hw]at he;simp only[Ku];cases ho:opR E rec mutb (jbE E t) O o.op with
   |none=>rw[ho]at he;simp at he
   | some p =>
    obtain⟨v,O1⟩:=p;simp only[ho]at he;cases hp:putF n t o.dst v with
    |none=>rw[hp]at he;simp at he
    |some t1 =>
     simp only[hp]at he;exact jeS l (h.put hp) he
  | false =>
   simp only[hw]at he;simp only[Km,Ks];cases hp:putF n t o.dst (.tup [])with
   |none=>rw[hp]at he;simp at he
   |some t1 =>
    simp only[hp]at he;exact jeS l (h.put hp) he
end
inductive TaskF where
 |call (f:FuncId) (args:List V) (O:S)
 |round (l:Nat) (args:List V) (O:S)
 |loop (fn:FuncId) (rnd:Option Nat) (n:Nat) (body:Code) (t:Tre) (dfs:List DE) (O:S)
 |dcall (f:FuncId) (args:List V) (pv:Option V) (O:S)
structure RF where
 ex:Ex
 t:Tre
 dfs:List DE
 st:S
def RF.one:Option RF->Option Res
 |some ⟨.ret,.node _ v _,[],O⟩=>some ⟨.ret,[v],[],O⟩
 |some ⟨.pan v,.leaf,[],O⟩=>some ⟨.pan v,[],[],O⟩
 |_=>none
def recF(rf:TaskF->Option RF):Task->Option Res
 | .call f args O=>RF.one (rf (.call f args O))
 | .round l args O=>RF.one (rf (.round l args O))
 | .dcall f args pv O=>RF.one (rf (.dcall f args pv O))
 | .loop .. => none
structure XF where
 pan:Option V
 rcv:Option (Option V)
 t:Tre
 dfs:List DE
 st:S
section
variable (E:Env)
def opPR(rec:Task->Option Res)(ρ:Operand->Option V)(O:S)(op:Op):Option (V × S) :=
 match op with
 | .panic x =>
  match ρ x with
  |some (.iface t v)=>some (.iface t v,O)
  |_=>none
 | .call { callee:=.value g,args,.. } =>
  match ρ g,jbw ρ args.toList with
  |some (.func f first captured),some as=>jik E rec f (first++as++captured) O
  |_,_=>none
 |_=>none
theorem jus {rec:Task->Option Res}{tmps:List V}{O:S}{op:Op}:opP E rec tmps O op=opPR E rec (ja8 E tmps) O op:=rfl
def opDR(ρ:Operand->Option V)(op:Op):Option DE :=
 match op with
 | .defer { callee:=.value g,args,.. } =>
  match ρ g,jbw ρ args.toList with
  |some (.func f first captured),some as=>some (.call f (first++as++captured))
  |_,_=>none
 |_=>none
theorem jut {tmps:List V}{op:Op}:opD E tmps op=opDR (ja8 E tmps) op:=rfl
def jgh(rec:Task->Option Res)(rnd:Option Nat)(mutb:Bool)(n:Nat)(ops:List Oper):List Oper->Option (Option V)->Tre->List DE->S->Option XF
 | [],rc,t,dfs,O=>some ⟨none,rc,t,dfs,O⟩
 | o::l,rc,t,dfs,O =>
  match Region.wanted o (jhE ops t)with
  | true =>
   match opK o.op E rec mutb t O with
   |some (v,O') =>
    match putF n t o.dst v with
    |some t'=>jgh rec rnd mutb n ops l rc t' dfs O'
    |none=>none
   | none =>
    match opPR E rec (jbE E t) O o.op with
    |some (v,O')=>some ⟨some v,rc,t,dfs,O'⟩
    | none =>
     match opDR (jbE E t) o.op,rnd with
     |some d,none =>
      match putF n t o.dst (.tup [])with
      |some t'=>jgh rec rnd mutb n ops l rc t' (d::dfs) O
      |none=>none
     | _,_ =>
      match jgQ o.op,rc with
      |true,some pv =>
       match putF n t o.dst (pv.getD .nilif)with
       |some t'=>jgh rec rnd mutb n ops l (some none) t' dfs O
       |none=>none
      |_,_=>none
  |false =>
   match putF n t o.dst (.tup [])with
   |some t'=>jgh rec rnd mutb n ops l rc t' dfs O
   |none=>none
theorem jcX {rec:Task->Option Res}{rnd:Option Nat}{mutb:Bool}{n:Nat}{ops:Array Oper}:∀(l:List Oper) {rc:Option (Option V)} {t:Tre} {tmps:List V} {dfs:List DE} {O:S} {r:XF},RepT n t tmps->jgh E rec rnd mutb n ops.toList l rc t dfs O=some r ->
  ∃tmps',jcg E rec rnd mutb ops l rc tmps dfs O=some ⟨r.pan,r.rcv,tmps',r.dfs,r.st⟩/\RepT n r.t tmps'
 | [],rc,t,tmps,dfs,O,r,h,he=>by
  simp only[jgh,Kg]at he;subst he;exact⟨tmps,rfl,h⟩
 | o::l,rc,t,tmps,dfs,O,r,h,he=>by
  simp only[jgh,jvQ]at he;simp only[jcg,h.yield ops,jsd,jus,jut,h.eval];cases hw:Region.wanted o (jhE ops.toList t)with
  | true =>
   simp only[hw]at he;simp only[Ku];cases ho:opR E rec mutb (jbE E t) O o.op with
   | some p =>
    obtain⟨v,O1⟩:=p;simp only[ho]at he;cases hp:putF n t o.dst v with
    |none=>rw[hp]at he;simp at he
    |some t1 =>
     simp only[hp]at he;exact jcX l (h.put hp) he
   | none =>
    simp only[ho]at he;cases hpp:opPR E rec (jbE E t) O o.op with
    |some p =>
     obtain⟨v,O1⟩:=p;simp only[hpp,Kg]at he;subst he;exact⟨tmps,rfl,h⟩
    | none =>
     simp only[hpp]at he;cases hd:opDR (jbE E t) o.op with
     | some d =>
      cases rnd with
      | none =>
       simp only[hd]at he ⊢;cases hp:putF n t o.dst (.tup [])with
       |none=>rw[hp]at he;simp at he
       |some t1 =>
        simp only[hp]at he;exact jcX l (h.put hp) he
      | some q =>
       simp only[hd]at he ⊢;cases hv:jgQ o.op with
       |false=>simp[hv]at he
       | true =>
        cases rc with
        |none=>simp[hv]at he
        | some pv =>
         simp only[hv]at he ⊢;cases hp:putF n t o.dst (pv.getD .nilif)with
         |none=>rw[hp]at he;simp at he
         |some t1 =>
          simp only[hp]at he;exact jcX l (h.put hp) he
     | none =>
      simp only[hd]at he ⊢;cases hv:jgQ o.op with
      |false=>simp[hv]at he
      | true =>
       cases rc with
       |none=>simp[hv]at he
       | some pv =>
        simp only[hv]at he ⊢;cases hp:putF n t o.dst (pv.getD .nilif)with
        |none=>rw[hp]at he;simp at he
        |some t1 =>
         simp only[hp]at he;exact jcX l (h.put hp) he
  | false =>
   simp only[hw]at he;simp only[Km,Ks];cases hp:putF n t o.dst (.tup [])with
   |none=>rw[hp]at he;simp at he
   |some t1 =>
    simp only[hp]at he;exact jcX l (h.put hp) he
def jzP:Op->Bool
 | .panic _=>true
 | .defer _=>true
 |op=>jgQ op
def juu(fn:FuncId)(ops:List Oper):Bool:=E.pan fn ||ops.any λo=>jzP o.op
end
section
variable (E:Env)(rf:TaskF->Option RF)
def jbh(fn:FuncId)(rnd:Option Nat)(n:Nat):Code->Tre->List DE->S->Option RF
 | .skip,t,dfs,O=>some ⟨.normal,t,dfs,O⟩
 | .label _,t,dfs,O=>some ⟨.normal,t,dfs,O⟩
 | .exit id,t,dfs,O=>some ⟨.exit id,t,dfs,O⟩
 | .ret,t,dfs,O=>some ⟨.ret,t,dfs,O⟩
 | .seq a b,t,dfs,O =>
  match jbh fn rnd n a t dfs O with
  |some ⟨.normal,t,dfs,O⟩=>jbh fn rnd n b t dfs O
  |r=>r
 | .cond c a b,t,dfs,O =>
  match jbE E t c with
  |some (.bool true)=>jbh fn rnd n a t dfs O
  |some (.bool false)=>jbh fn rnd n b t dfs O
  |_=>none
 | .block id c,t,dfs,O =>
  match jbh fn rnd n c t dfs O with
  |some ⟨.exit i,t,dfs,O⟩=>some ⟨if i=id then .normal else .exit i,t,dfs,O⟩
  |r=>r
 | .loop c,t,dfs,O=>rf (.loop fn rnd n c t dfs O)
 | .scope c,t,dfs,O=>jbh fn rnd n c t dfs O
 | .region id ops false,t,dfs,O =>
  match juu E fn ops.toList with
  |false =>
   match jfh E (recF rf) (E.mutb fn id) n ops.toList ops.toList t O with
   |some (t,O)=>some ⟨.normal,t,dfs,O⟩
   |none=>none
  |true =>
   match jgh E (recF rf) rnd (E.mutb fn id) n ops.toList ops.toList none t dfs O with
   |some ⟨none,_,t,dfs,O⟩=>some ⟨.normal,t,dfs,O⟩
   |some ⟨some v,_,t,dfs,O⟩=>some ⟨.pan v,t,dfs,O⟩
   |none=>none
 | .region id ops true,t,dfs,O =>
  if jgV E ops then
   match jfh E (recF rf) (E.mutb fn id) n ops.toList ops.toList t O with
   |some (t,O)=>some ⟨.normal,t,dfs,O⟩
   |none=>none
  else if jdx E ops (jat [] ops.toList)then
   match dRun E (recF rf) (E.mutb fn id) ops ops.toList (lstF n t) O with
   |some (tr,ss,tf,Of)=>if jgR E ops (jat [] ops.toList) tr (O::ss)then if tf.length=n then some ⟨.normal,ofF tf,dfs,Of⟩else none else none
   |none=>none
  else none
 | .rangeFunc f ps asg body,t,dfs,O =>
  match jbE E t f,rnd with
  | some (.func fid first captured),none =>
   match recF rf (.call fid (first++[V.yld (O.heap.length+1)]++captured) ⟨O.heap++[.defd true,.loop .ready none fn (lstF n t) ps asg body O.heap.length],O.toks⟩)with
   | some { ex:=.ret,vals:=[_],dfs:=[],st:=O2 } =>
    match O2.heap[O.heap.length+1]? with
    |some (.loop st pend fn' tmps' ps' asg' body' dfr) =>
     if st=LoopState.busy then none else
     match pend with
     |none=>some ⟨.normal,t,DE.mark O.heap.length::dfs,O2.set (O.heap.length+1) (.loop .exhausted pend fn' tmps' ps' asg' body' dfr)⟩
     |some (.exit i)=>some ⟨.exit i,t,DE.mark O.heap.length::dfs,O2.set (O.heap.length+1) (.loop .exhausted pend fn' tmps' ps' asg' body' dfr)⟩
     |some .ret=>some ⟨.ret,t,DE.mark O.heap.length::dfs,O2.set (O.heap.length+1) (.loop .exhausted pend fn' tmps' ps' asg' body' dfr)⟩
     |_=>none
    |_=>none
   |_=>none
  |_,_=>none
 |_,_,_,_=>none
def resF(t:Tre)(h:List AObj):List ResultVar->Option (List V)
 | []=>some []
 | .tmp i::r=>(resF t h r).map (t.get i :: ·)
 | .cell a ty::r=>(jbi E h ty (t.get a)).bind λv=>(resF t h r).map (v :: ·)
def finF(fn:Func)(pv:Option V)(t:Tre)(dfs:List DE)(O:S):Option RF :=
 match jcp (recF rf) pv dfs O with
 |some (none,O') =>
  match resF E t O'.heap fn.results.toList with
  |some vs=>some ⟨.ret,.node .leaf (jaW vs) .leaf,[],O'⟩
  |none=>none
 |some (some v,O')=>some ⟨.pan v,.leaf,[],O'⟩
 |none=>none
def jc3(fn:FuncId)(n:Nat):Code->Option V->Tre->S->Option (Bool × RF)
 | .seq a b,pv,t,O =>
  match jc3 fn n a pv t O with
  |some (g,⟨.normal,t,dfs,O⟩) =>
   match jbh E rf fn none n b t dfs O with
   |some r=>some (g,r)
   |none=>none
  |r=>r
 | .block id c,pv,t,O =>
  match jc3 fn n c pv t O with
  |some (g,⟨.exit i,t,dfs,O⟩)=>some (g,⟨if i=id then .normal else .exit i,t,dfs,O⟩)
  |r=>r
 | .scope c,pv,t,O=>jc3 fn n c pv t O
 | .region id ops false,pv,t,O =>
  match jgh E (recF rf) none (E.mutb fn id) n ops.toList ops.toList (some pv) t [] O with
  |some ⟨none,rc,t,dfs,O⟩=>some (gotV rc pv,⟨.normal,t,dfs,O⟩)
  |_=>none
 |_,_,_,_=>none
def jra(n:Nat):List (Tmp × V)->Tre->Option Tre
 | [],t=>some t
 |(d,v)::r,t=>match putF n t (some d) v with
  |some t'=>jra n r t'
  |none=>none
def jjX:TaskF->Option RF
  | .call f args O =>
    match E.P.funcs[f]? with
    | some fn =>
      match fn.body with
      | some body =>
        if fn.name = "runtime.NumGoroutine" then none else
        if fn.ntmps<=2^depthF-1/\args.length<=fn.ntmps then
        match jbh E rf f none fn.ntmps body (ofF args) [] O with
        |some ⟨.exit _,_,_,_⟩=>none
        |some ⟨.pan v,t,dfs,O'⟩=>finF E rf fn (some v) t dfs O'
        | some ⟨_,t,dfs,O'⟩ =>
          match jbI O'.heap dfs with
          | some h =>
            match resF E t h fn.results.toList with
            |some vs=>some ⟨.ret,.node .leaf (jaW vs) .leaf,[],⟨h,O'.toks⟩⟩
            |none=>none
          |none=>finF E rf fn none t dfs O'
        |none=>none
        else none
      |none=>none
    |none=>none
  | .round l args O =>
    match O.heap[l]? with
    | some (.loop .ready none fn tmps ps asg body _) =>
      if args.length ≠ ps.size then none else
      if tmps.length<=2^depthF-1 then
      (jra tmps.length (ps.toList.zip args) (ofF tmps)).bind λt0 =>
      match jbh E rf fn (some l) tmps.length asg t0 [] O with
      | some ⟨.normal,t1,[],O1⟩ =>
        match O1.heap[l]? with
        | some (.loop .ready none fn1 tm1 ps1 as1 bo1 df1) =>
          match jbh E rf fn (some l) tmps.length body t1 [] (O1.set l (.loop .busy none fn1 tm1 ps1 as1 bo1 df1))with
          | some ⟨ex,_,[],O2⟩ =>
            match O2.heap[l]? with
            | some (.loop _ _ fn2 tm2 ps2 as2 bo2 df2) =>
              match ex with
              | .normal=>some ⟨.ret,.node .leaf (.bool true) .leaf,[],O2.set l (.loop .ready none fn2 tm2 ps2 as2 bo2 df2)⟩
              | .ret=>some ⟨.ret,.node .leaf (.bool false) .leaf,[],O2.set l (.loop .done (some .ret) fn2 tm2 ps2 as2 bo2 df2)⟩
              | .exit i=>some ⟨.ret,.node .leaf (.bool false) .leaf,[],O2.set l (.loop .done (some (.exit i)) fn2 tm2 ps2 as2 bo2 df2)⟩
              | .pan _=>none
            |_=>none
          |_=>none
        |_=>none
      |_=>none
      else none
    |_=>none
  | .loop fn rnd n c t dfs O =>
    match jbh E rf fn rnd n c t dfs O with
    |some ⟨.normal,t',dfs',O'⟩=>rf (.loop fn rnd n c t' dfs' O')
    |r=>r
  | .dcall f args pv O =>
    match E.P.funcs[f]? with
    | some fn =>
      match fn.body with
      | some body =>
        if fn.name = "runtime.NumGoroutine" then none else
        if fn.ntmps<=2^depthF-1/\args.length<=fn.ntmps then
        match jc3 E rf f fn.ntmps body pv (ofF args) O with
        |some (_,⟨.exit _,_,_,_⟩)=>none
        |some (_,⟨.pan _,_,_,_⟩)=>none
        | some (g,⟨_,t,dfs,O'⟩) =>
          match jbI O'.heap dfs with
          | some h =>
            match resF E t h fn.results.toList with
            |some _=>some ⟨.ret,.node .leaf (.bool g) .leaf,[],⟨h,O'.toks⟩⟩
            |none=>none
          |none=>none
        |none=>none
        else none
      |none=>none
    |none=>none
end
def runF(E:Env):Nat->TaskF->Option RF
 |0,_=>none
 |k+1,t=>jjX E (runF E k) t
def OkF(E:Env)(t:TaskF)(r:RF):Prop :=
 match t with
 | .call f args O=>∀s,RF.one (some r)=some s->ev E (.call f args O)=some s
 | .round n args O=>∀s,RF.one (some r)=some s->ev E (.round n args O)=some s
 | .dcall f args pv O=>∀s,RF.one (some r)=some s->ev E (.dcall f args pv O)=some s
 | .loop fn rnd n c t dfs O=>∀tmps,RepT n t tmps->∃tmps',ev E (.loop fn rnd c tmps dfs O)=some ⟨r.ex,tmps',r.dfs,r.st⟩/\RepT n r.t tmps'
section
variable {E:Env}{rf:TaskF->Option RF}
theorem jmc {o:Option RF}{r:Res}(h:RF.one o=some r):∃q,o=some q:=by
 cases o with
 |none=>simp[RF.one]at h
 |some q=>exact⟨q,rfl⟩
theorem jg9(h:∀t r,rf t=some r->OkF E t r):∀t r,recF rf t=some r->ev E t=some r:=by
 intro t r hr;cases t with
 |call f args O =>
  obtain⟨q,hq⟩:=jmc hr;have hr':RF.one (rf (.call f args O))=some r:=hr;rw[hq]at hr';exact h _ _ hq r hr'
 |round f args O =>
  obtain⟨q,hq⟩:=jmc hr;have hr':RF.one (rf (.round f args O))=some r:=hr;rw[hq]at hr';exact h _ _ hq r hr'
 |dcall f args pv O =>
  obtain⟨q,hq⟩:=jmc hr;have hr':RF.one (rf (.dcall f args pv O))=some r:=hr;rw[hq]at hr';exact h _ _ hq r hr'
 |loop=>simp[recF]at hr
theorem jix {α:Type}{rec:Task->Option Res}{F:(Task->Option Res)->Option α}{r:α}(h:∀t r,rec t=some r->ev E t=some r)(hu:Uses rec F r):F (ev E)=some r:=by
 obtain⟨L,h1,h2⟩:=hu;exact h2 _ λp hp=>h _ _ (h1 p hp)
theorem jgH {rec:Task->Option Res}{mutb:Bool}{ops:Array Oper}:∀{l:List Oper} {tmps:List V} {O:S} {r:List V × S},jd2 E rec mutb ops l tmps O=some r->Uses rec (λg=>jd2 E g mutb ops l tmps O) r
 | [],tmps,O,r,h=>by simp only[jd2]at h ⊢;exact Uses.const λ_=>h
 | o::l,tmps,O,r,h=>by
  simp only[jd2]at h ⊢;by_cases hw:Region.wanted o (jaD ops tmps)=true
  ·simp only[hw,Ku]at h ⊢;cases hop:opV E rec mutb tmps O o.op with
   |none=>rw[hop]at h;simp at h
   |some p =>
    obtain⟨v,O1⟩:=p;simp only[hop]at h;exact(jfz hop).and (jgH h) λg h1 h2=>by simp only[h1,h2]
  ·simp only[hw,Km,Ks]at h ⊢;exact jgH h
theorem jjY {rec:Task->Option Res}{rnd:Option Nat}{mutb:Bool}{ops:Array Oper}{rc:Option (Option V)}{tmps:List V}{dfs:List DE}{O:S}{r:XR}(h:jcg E rec rnd mutb ops ops.toList rc tmps dfs O=some r) :
  Uses rec (λg=>jcg E g rnd mutb ops ops.toList rc tmps dfs O) r:=by
 have e:∀g,jcg E g rnd mutb ops ops.toList rc tmps dfs O=jdu E g rnd mutb ops (List.range ops.size) rc tmps dfs O:=by
  intro g;rw[show List.range ops.size=List.range' 0 ops.size from Xr,jeR _ _ _ _ _ _ _ _ _ _ _ (by omega)];simp
 rw[e]at h;exact(jdq h).map λg h1=>by rw[e];exact h1
theorem jbW(h:∀t r,rf t=some r->OkF E t r){fn:FuncId}{rnd:Option Nat}{n:Nat}:∀(c:Code) {t:Tre} {tmps:List V} {dfs:List DE} {O:S} {r:RF},RepT n t tmps->jbh E rf fn rnd n c t dfs O=some r ->
  ∃tmps',jbf E (ev E) fn rnd c tmps dfs O=some ⟨r.ex,tmps',r.dfs,r.st⟩/\RepT n r.t tmps'
 | .skip,t,tmps,dfs,O,r,ht,he=>by simp[jbh]at he;subst he;exact⟨_,rfl,ht⟩
 | .label _,t,tmps,dfs,O,r,ht,he=>by simp[jbh]at he;subst he;exact⟨_,rfl,ht⟩
 | .exit _,t,tmps,dfs,O,r,ht,he=>by simp[jbh]at he;subst he;exact⟨_,rfl,ht⟩
 | .ret,t,tmps,dfs,O,r,ht,he=>by simp[jbh]at he;subst he;exact⟨_,rfl,ht⟩
 | .goto _,t,tmps,dfs,O,r,ht,he=>by simp[jbh]at he
 | .refuse _,t,tmps,dfs,O,r,ht,he=>by simp[jbh]at he
 | .scope c,t,tmps,dfs,O,r,ht,he=>by simp only[jbh]at he;simp only[jbf];exact jbW h c ht he
 | .seq a b,t,tmps,dfs,O,r,ht,he=>by
  simp only[jbh]at he;cases ha:jbh E rf fn rnd n a t dfs O with
  |none=>rw[ha]at he;simp at he
  | some ra =>
   obtain⟨l1,h1,h2⟩:=jbW h a ht ha;obtain⟨ex,t1,d1,s1⟩:=ra;cases ex with
   |normal =>
    simp only[ha]at he;simp only[jbf,h1];exact jbW h b h2 he
   |exit i=>simp only[ha,Kg]at he;subst he;exact⟨l1,by simp only[jbf,h1],h2⟩
   |ret=>simp only[ha,Kg]at he;subst he;exact⟨l1,by simp only[jbf,h1],h2⟩
   |pan v=>simp only[ha,Kg]at he;subst he;exact⟨l1,by simp only[jbf,h1],h2⟩
 | .cond c a b,t,tmps,dfs,O,r,ht,he=>by
  simp only[jbh]at he;simp only[jbf,ht.eval];split at he
  ·rename_i hc;simp only[hc];exact jbW h a ht he
  ·rename_i hc;simp only[hc];exact jbW h b ht he
  ·simp at he
 | .block id c,t,tmps,dfs,O,r,ht,he=>by
  simp only[jbh]at he;cases hc:jbh E rf fn rnd n c t dfs O with
  |none=>rw[hc]at he;simp at he
  |some rc =>
   obtain⟨l1,h1,h2⟩:=jbW h c ht hc;obtain⟨ex,t1,d1,s1⟩:=rc;simp only[hc]at he;simp only[jbf,h1];cases ex with
   |normal=>simp only[Kg]at he;subst he;exact⟨l1,rfl,h2⟩
   |exit i=>simp only[Kg]at he;subst he;exact⟨l1,rfl,h2⟩
   |ret=>simp only[Kg]at he;subst he;exact⟨l1,rfl,h2⟩
   |pan v=>simp only[Kg]at he;subst he;exact⟨l1,rfl,h2⟩
 | .loop c,t,tmps,dfs,O,r,ht,he=>by
  simp only[jbh]at he;simp only[jbf];exact h _ _ he tmps ht
 | .region id ops false,t,tmps,dfs,O,r,ht,he=>by
  simp only[jbh]at he;split at he
  ·cases hc:jfh E (recF rf) (E.mutb fn id) n ops.toList ops.toList t O with
   |none=>rw[hc]at he;simp at he
   |some p =>
    obtain⟨t1,O1⟩:=p;simp only[hc,Kg]at he;subst he;obtain⟨l1,h1,h2⟩:=jeS E ops.toList ht hc;have h3:=jix (jg9 h) (jgH h1);obtain⟨lo⟩:=ops;exact⟨l1,jiW _ _ _ _ _ _ _ _ _ _ _ h3,h2⟩
  ·cases hc:jgh E (recF rf) rnd (E.mutb fn id) n ops.toList ops.toList none t dfs O with
   |none=>rw[hc]at he;simp at he
   |some p =>
    obtain⟨l1,h1,h2⟩:=jcX E ops.toList ht hc;have h3:=jix (jg9 h) (jjY h1);obtain⟨pan,rc,t1,d1,s1⟩:=p;rw[hc]at he;rw[jeg,h3];cases pan with
    |none=>simp only[Kg]at he;subst he;exact⟨l1,rfl,h2⟩
    |some v=>simp only[Kg]at he;subst he;exact⟨l1,rfl,h2⟩
 | .region id ops true,t,tmps,dfs,O,r,ht,he=>by
  simp only[jbh]at he;split at he
  ·rename_i hd;cases hc:jfh E (recF rf) (E.mutb fn id) n ops.toList ops.toList t O with
   |none=>rw[hc]at he;simp at he
   |some p =>
    obtain⟨t1,O1⟩:=p;simp only[hc,Kg]at he;subst he;obtain⟨l1,h1,h2⟩:=jeS E ops.toList ht hc;have h3:=jix (jg9 h) (jgH h1);exact⟨l1,jg8 hd h3,h2⟩
  ·split at he
   ·rename_i hp;rw[ht.lst]at he;cases hc:dRun E (recF rf) (E.mutb fn id) ops ops.toList tmps O with
    |none=>rw[hc]at he;simp at he
    | some q =>
     obtain⟨tr,ss,tf,Of⟩:=q;simp only[hc]at he;split at he
     ·rename_i hk;split at he
      ·rename_i hl;simp only[Kg]at he;subst he;have h3:=jix (jg9 h) (jhB hc);exact⟨tf,by simp only[jbf,hp,Ku,h3,hk],RepT.of tf hl ht.room⟩
      ·simp at he
     ·simp at he
   ·simp at he
 | .rangeFunc f ps asg body,t,tmps,dfs,O,r,ht,he=>by
  simp only[jbh]at he;simp only[jbf,ht.eval];split at he
  ·rename_i fid first captured hf
   rw[ht.lst]at he;simp only[hf];cases hc:recF rf (.call fid (first++[V.yld (O.heap.length+1)]++captured) ⟨O.heap++[.defd true,.loop .ready none fn tmps ps asg body O.heap.length],O.toks⟩)with
   |none=>rw[hc]at he;simp at he
   | some rc =>
    rw[hc]at he;rw[jg9 h _ _ hc];split at he
    ·rename_i heq;simp only[Kg]at heq;subst heq;simp only;split at he
     ·rename_i hl;simp only[hl];split at he
      ·simp at he
      ·rename_i hb;simp only[hb,Ks];split at he
       ·simp only[Kg]at he;subst he;exact⟨tmps,rfl,ht⟩
       ·simp only[Kg]at he;subst he;exact⟨tmps,rfl,ht⟩
       ·simp only[Kg]at he;subst he;exact⟨tmps,rfl,ht⟩
       ·simp at he
     ·simp at he
    ·simp at he
  ·simp at he
theorem RepT.res {n:Nat}{t:Tre}{l:List V}(hr:RepT n t l){h:List AObj}:∀rs,resV E l h rs=resF E t h rs
 | []=>rfl
 | .tmp t::r=>by simp only[resV,resF,hr.get t,RepT.res hr r]
 | .cell a t::r=>by simp only[resV,resF,hr.get a,RepT.res hr r]
theorem RepT.sets {n:Nat}:∀(l:List (Tmp × V)) {t t':Tre} {tmps:List V},RepT n t tmps->jra n l t=some t'->RepT n t' (l.foldl (λts (x:Tmp × V)=>ts.set x.1 x.2) tmps)
 | [],t,t',tmps,h,hs=>by simp[jra]at hs;subst hs;exact h
 | (d,v)::r,t,t',tmps,h,hs=>by
  simp only[jra]at hs;cases hp:putF n t (some d) v with
  |none=>rw[hp]at hs;simp at hs
  |some t1 =>
   simp only[hp]at hs;exact RepT.sets r (h.put hp) hs
theorem jlc(h:∀t r,rf t=some r->OkF E t r){n:Nat}{fn:Func}{pv:Option V}{t:Tre}{tmps:List V}{dfs:List DE}{O:S}{r:RF}{s:Res}(ht:RepT n t tmps)(he:finF E rf fn pv t dfs O=some r)(hs:RF.one (some r)=some s) :
  finD E (ev E) fn pv tmps dfs O=some s:=by
 unfold finF at he;unfold finD;cases hu:jcp (recF rf) pv dfs O with
 |none=>rw[hu]at he;simp at he
 | some p =>
  have hu2:=jix (jg9 h) (jeQ hu);rw[hu]at he;rw[hu2];obtain⟨o,O'⟩:=p;cases o with
  | none =>
   simp only at he ⊢;rw[ht.res];cases hr:resF E t O'.heap fn.results.toList with
   |none=>rw[hr]at he;simp at he
   |some vs =>
    simp only[hr,Kg]at he ⊢;subst he;simpa[RF.one]using hs
  |some v =>
   simp only[Kg]at he ⊢;subst he;simpa[RF.one]using hs
theorem jeT(h:∀t r,rf t=some r->OkF E t r){fn:FuncId}{n:Nat}:∀(c:Code) {pv:Option V} {t:Tre} {tmps:List V} {O:S} {g:Bool} {r:RF},RepT n t tmps->jc3 E rf fn n c pv t O=some (g,r) ->
  ∃tmps',jb8 E (ev E) fn c pv tmps O=some (g,⟨r.ex,tmps',r.dfs,r.st⟩)/\RepT n r.t tmps'
 | .seq a b,pv,t,tmps,O,g,r,ht,he=>by
  simp only[jc3]at he;cases ha:jc3 E rf fn n a pv t O with
  |none=>rw[ha]at he;simp at he
  | some ra =>
   obtain⟨g0,ex,t1,d1,s1⟩:=ra;obtain⟨l1,h1,h2⟩:=jeT h a ht ha;cases ex with
   | normal =>
    simp only[ha]at he;simp only[jb8,h1];cases hb:jbh E rf fn none n b t1 d1 s1 with
    |none=>rw[hb]at he;simp at he
    |some rb =>
     simp only[hb,Kg,Kh]at he;obtain⟨rfl,rfl⟩:=he;obtain⟨l2,h3,h4⟩:=jbW h b h2 hb;exact⟨l2,by simp only[h3],h4⟩
   |exit i=>simp only[ha,Kg,Kh]at he;obtain⟨rfl,rfl⟩:=he;exact⟨l1,by simp only[jb8,h1],h2⟩
   |ret=>simp only[ha,Kg,Kh]at he;obtain⟨rfl,rfl⟩:=he;exact⟨l1,by simp only[jb8,h1],h2⟩
   |pan v=>simp only[ha,Kg,Kh]at he;obtain⟨rfl,rfl⟩:=he;exact⟨l1,by simp only[jb8,h1],h2⟩
 | .block id c,pv,t,tmps,O,g,r,ht,he=>by
  simp only[jc3]at he;cases hc:jc3 E rf fn n c pv t O with
  |none=>rw[hc]at he;simp at he
  |some rc =>
   obtain⟨g0,ex,t1,d1,s1⟩:=rc;obtain⟨l1,h1,h2⟩:=jeT h c ht hc;simp only[hc]at he;simp only[jb8,h1];cases ex<;>(simp only[Kg,Kh]at he;obtain⟨rfl,rfl⟩:=he;exact⟨l1,rfl,h2⟩)
 | .scope c,pv,t,tmps,O,g,r,ht,he=>by simp only[jc3]at he;simp only[jb8];exact jeT h c ht he
 | .region id ops d,pv,t,tmps,O,g,r,ht,he=>by
  cases d with
  |true=>simp[jc3]at he
  | false =>
   simp only[jc3]at he;simp only[jb8]
   have e:∀q,jdu E q none (E.mutb fn id) ops (List.range ops.size) (some pv) tmps [] O=jcg E q none (E.mutb fn id) ops ops.toList (some pv) tmps [] O:=by
    intro q;rw[show List.range ops.size=List.range' 0 ops.size from Xr,jeR _ _ _ _ _ _ _ _ _ _ _ (by omega)];simp
   cases hc:jgh E (recF rf) none (E.mutb fn id) n ops.toList ops.toList (some pv) t [] O with
   |none=>rw[hc]at he;simp at he
   |some p =>
    obtain⟨l1,h1,h2⟩:=jcX E ops.toList ht hc;have h3:=jix (jg9 h) (jjY h1);obtain⟨pan,rc,t1,d1,s1⟩:=p;rw[hc]at he;rw[e,h3];cases pan with
    |none=>simp only[Kg,Kh]at he;obtain⟨rfl,rfl⟩:=he;exact⟨l1,rfl,h2⟩
    |some v=>simp at he
 | .skip,pv,t,tmps,O,g,r,ht,he=>by simp[jc3]at he
 | .label _,pv,t,tmps,O,g,r,ht,he=>by simp[jc3]at he
 | .exit _,pv,t,tmps,O,g,r,ht,he=>by simp[jc3]at he
 | .ret,pv,t,tmps,O,g,r,ht,he=>by simp[jc3]at he
 | .goto _,pv,t,tmps,O,g,r,ht,he=>by simp[jc3]at he
 | .refuse _,pv,t,tmps,O,g,r,ht,he=>by simp[jc3]at he
 | .cond _ _ _,pv,t,tmps,O,g,r,ht,he=>by simp[jc3]at he
 | .loop _,pv,t,tmps,O,g,r,ht,he=>by simp[jc3]at he
 | .rangeFunc _ _ _ _,pv,t,tmps,O,g,r,ht,he=>by simp[jc3]at he
theorem joU (h:∀t r,rf t=some r->OkF E t r):∀t r,jjX E rf t=some r->OkF E t r:=by
 intro t r he;cases t with
 | call f args O =>
  simp only[jjX]at he;intro s hv;refine jcf ?_;simp only[jcS];cases hf:E.P.funcs[f]? with
  |none=>rw[hf]at he;simp at he
  | some fn =>
   simp only[hf]at he ⊢;cases hb:fn.body with
   |none=>rw[hb]at he;simp at he
   | some body =>
    simp only[hb]at he ⊢;by_cases hn:fn.name = "runtime.NumGoroutine"
    ·simp[hn]at he
    ·simp only[hn,Ks]at he ⊢;split at he
     ·rename_i hsz;cases hc:jbh E rf f none fn.ntmps body (ofF args) [] O with
      |none=>rw[hc]at he;simp at he
      | some rc =>
       obtain⟨l1,h1,h2⟩:=jbW h body (RepT.args args hsz.2 hsz.1) hc;obtain⟨ex,t1,d1,s1⟩:=rc;simp only[hc]at he;simp only[h1]
       have fin:(match jbI s1.heap d1 with
         |some h=>match resF E t1 h fn.results.toList with
          |some vs=>some (⟨Ex.ret,.node .leaf (jaW vs) .leaf,[],⟨h,s1.toks⟩⟩:RF)
          |none=>none
         |none=>finF E rf fn none t1 d1 s1)=some r->(match jbI s1.heap d1 with
         |some h=>match resV E l1 h fn.results.toList with
          |some vs=>some (⟨Ex.ret,[jaW vs],[],⟨h,s1.toks⟩⟩:Res)
          |none=>none
         |none=>finD E (ev E) fn none l1 d1 s1)=some s:=by
        intro hh;cases ht:jbI s1.heap d1 with
        |none=>simp only[ht]at hh ⊢;exact jlc h h2 hh hv
        | some hp =>
         simp only[ht]at hh ⊢;rw[h2.res];cases hrs:resF E t1 hp fn.results.toList with
         |none=>rw[hrs]at hh;simp at hh
         |some vs =>
          simp only[hrs,Kg]at hh ⊢;subst hh;simpa[RF.one]using hv
       cases ex with
       |exit i=>simp at he
       |normal=>exact fin he
       |ret=>exact fin he
       |pan v=>exact jlc h h2 he hv
     ·simp at he
 | round l args O =>
  simp only[jjX]at he;intro s0 hv;refine jcf ?_;simp only[jcS];split at he
  ·rename_i fn tmps ps asg body d hl;simp only[hl];split at he
   ·simp at he
   ·rename_i hn;simp only[hn,Ks];split at he
    ·rename_i hsz;cases hs:jra tmps.length (ps.toList.zip args) (ofF tmps)with
     |none=>rw[hs]at he;simp at he
     | some t0 =>
      simp only[hs,Kn]at he;have hr0:=RepT.sets _ (RepT.of tmps rfl hsz) hs;cases hc:jbh E rf fn (some l) tmps.length asg t0 [] O with
      |none=>rw[hc]at he;simp at he
      | some rc =>
       obtain⟨l1,h1,h2⟩:=jbW h asg hr0 hc;rw[hc]at he;split at he
       ·rename_i t1 O1 heq;simp only[Kg]at heq;subst heq;simp only at h1 h2;simp only[h1];split at he
        ·rename_i fn1 tm1 ps1 as1 bo1 df1 hl1;simp only[hl1];cases hc2:jbh E rf fn (some l) tmps.length body t1 [] (O1.set l (.loop .busy none fn1 tm1 ps1 as1 bo1 df1))with
         |none=>rw[hc2]at he;simp at he
         | some rd =>
          obtain⟨l2,g1,g2⟩:=jbW h body h2 hc2;rw[hc2]at he;split at he
          ·rename_i ex t2 O2 heq2;simp only[Kg]at heq2;subst heq2;simp only at g1;simp only[g1];split at he
           ·rename_i hl2;simp only[hl2];cases ex with
            |pan v=>simp at he
            |normal=>simp only[Kg]at he;subst he;simpa[RF.one]using hv
            |exit i=>simp only[Kg]at he;subst he;simpa[RF.one]using hv
            |ret=>simp only[Kg]at he;subst he;simpa[RF.one]using hv
           ·simp at he
          ·simp at he
        ·simp at he
       ·simp at he
    ·simp at he
  ·simp at he
 | loop fn rnd n c t dfs O =>
  simp only[jjX]at he;intro tmps ht;cases hc:jbh E rf fn rnd n c t dfs O with
  |none=>rw[hc]at he;simp at he
  | some rc =>
   obtain⟨l1,h1,h2⟩:=jbW h c ht hc;obtain⟨ex,t1,d1,s1⟩:=rc;cases ex with
   |normal =>
    simp only[hc]at he;obtain⟨l2,g1,g2⟩:=h _ _ he l1 h2;exact⟨l2,jcf (by simp only[jcS,h1];exact g1),g2⟩
   |exit i=>simp only[hc,Kg]at he;subst he;exact⟨l1,jcf (by simp only[jcS,h1]),h2⟩
   |ret=>simp only[hc,Kg]at he;subst he;exact⟨l1,jcf (by simp only[jcS,h1]),h2⟩
   |pan v=>simp only[hc,Kg]at he;subst he;exact⟨l1,jcf (by simp only[jcS,h1]),h2⟩
 | dcall f args pv O =>
  simp only[jjX]at he;intro s hv;refine jcf ?_;simp only[jcS];cases hf:E.P.funcs[f]? with
  |none=>rw[hf]at he;simp at he
  | some fn =>
   simp only[hf]at he ⊢;cases hb:fn.body with
   |none=>rw[hb]at he;simp at he
   | some body =>
    simp only[hb]at he ⊢;by_cases hn:fn.name = "runtime.NumGoroutine"
    ·simp[hn]at he
    ·simp only[hn,Ks]at he ⊢;split at he
     ·rename_i hsz;cases hc:jc3 E rf f fn.ntmps body pv (ofF args) O with
      |none=>rw[hc]at he;simp at he
      | some rc =>
       obtain⟨g,ex,t1,d1,s1⟩:=rc;obtain⟨l1,h1,h2⟩:=jeT h body (RepT.args args hsz.2 hsz.1) hc;simp only[hc]at he;simp only[h1]
       have fin:(match jbI s1.heap d1 with
         |some h=>match resF E t1 h fn.results.toList with
          |some _=>some (⟨Ex.ret,.node .leaf (.bool g) .leaf,[],⟨h,s1.toks⟩⟩:RF)
          |none=>none
         |none=>none)=some r->(match jbI s1.heap d1 with
         |some h=>match resV E l1 h fn.results.toList with
          |some _=>some (⟨Ex.ret,[.bool g],[],⟨h,s1.toks⟩⟩:Res)
          |none=>none
         |none=>none)=some s:=by
        intro hh;cases ht:jbI s1.heap d1 with
        |none=>rw[ht]at hh;simp at hh
        | some hp =>
         simp only[ht]at hh ⊢;rw[h2.res];cases hrs:resF E t1 hp fn.results.toList with
         |none=>rw[hrs]at hh;simp at hh
         |some vs =>
          simp only[hrs,Kg]at hh ⊢;subst hh;simpa[RF.one]using hv
       cases ex with
       |exit i=>simp at he
       |pan v=>simp at he
       |normal=>exact fin he
       |ret=>exact fin he
     ·simp at he
theorem jld(E:Env):∀(k:Nat) (t:TaskF) (r:RF),runF E k t=some r->OkF E t r
 |0,t,r,h=>by simp[runF]at h
 |k+1,t,r,h=>joU (jld E k) t r h
theorem evF {k:Nat}{f:FuncId}{args:List V}{O O':S}{l q:Tre}{v:V}(h:runF E k (.call f args O)=some ⟨.ret,.node l v q,[],O'⟩):ev E (.call f args O)=some ⟨.ret,[v],[],O'⟩ :=
 jld E k _ _ h _ rfl
end
abbrev LT:=Env->(Task->Option Res)->Bool->Nat->List Oper->Tre->S->Option (Tre × S)
def kNil:LT:=λE rec mutb n ops t O=>some (t,O)
def kPut(ih:LT)(dst:Option Tmp)(E:Env)(rec:Task->Option Res)(mutb:Bool)(n:Nat)(ops:List Oper)(t:Tre)(v:V)(O:S):Option (Tre × S) :=
 Option.rec (motive:=λ_=>Option (Tre × S)) none (λt'=>ih E rec mutb n ops t' O) (putF n t dst v)
def kRun(ih:LT)(o:Oper)(E:Env)(rec:Task->Option Res)(mutb:Bool)(n:Nat)(ops:List Oper)(t:Tre)(O:S):Option (Tre × S) :=
 Option.rec (motive:=λ_=>Option (Tre × S)) none (λp=>kPut ih o.dst E rec mutb n ops t p.1 p.2) (opK o.op E rec mutb t O)
def jzQ(o:Oper)(_:List Oper)(ih:LT):LT:=λE rec mutb n ops t O =>
 Bool.rec (motive:=λ_=>Option (Tre × S)) (kPut ih o.dst E rec mutb n ops t (.tup []) O) (kRun ih o E rec mutb n ops t O) (Region.wanted o (jhE ops t))
def jpR(l:List Oper):LT:=List.rec (motive:=λ_=>LT) kNil jzQ l
theorem jjZ:∀(l:List Oper) (E:Env) (rec:Task->Option Res) (mutb:Bool) (n:Nat) (ops:List Oper) (t:Tre) (O:S),jpR l E rec mutb n ops t O=jfh E rec mutb n ops l t O
 | [],E,rec,mutb,n,ops,t,O=>rfl
 | o::l,E,rec,mutb,n,ops,t,O=>by
  show Bool.rec (motive:=λ_=>Option (Tre × S)) (kPut (jpR l) o.dst E rec mutb n ops t (.tup []) O) (kRun (jpR l) o E rec mutb n ops t O) (Region.wanted o (jhE ops t))=_;simp only[jfh];cases Region.wanted o (jhE ops t)with
  | true =>
   simp only[kRun];cases opK o.op E rec mutb t O with
   |none=>rfl
   |some p =>
    obtain⟨v,O1⟩:=p;simp only[kPut];cases putF n t o.dst v with
    |none=>rfl
    |some t1=>exact jjZ l E rec mutb n ops t1 O1
  |false =>
   simp only[kPut];cases putF n t o.dst (.tup [])with
   |none=>rfl
   |some t1=>exact jjZ l E rec mutb n ops t1 O
abbrev CT:=Env->(TaskF->Option RF)->FuncId->Option Nat->Nat->Tre->List DE->S->Option RF
def jx3:CT:=λE rf fn rnd n t dfs O=>some ⟨.normal,t,dfs,O⟩
def jzR(id:Nat):CT:=λE rf fn rnd n t dfs O=>some ⟨.exit id,t,dfs,O⟩
def cRet:CT:=λE rf fn rnd n t dfs O=>some ⟨.ret,t,dfs,O⟩
def jx4:CT:=λE rf fn rnd n t dfs O=>none
def jx5(ib:CT)(E:Env)(rf:TaskF->Option RF)(fn:FuncId)(rnd:Option Nat)(n:Nat)(r:RF):Option RF :=
 match r with
 |⟨.normal,t,dfs,O⟩=>ib E rf fn rnd n t dfs O
 |r=>some r
def cSeq(_ _:Code)(ia ib:CT):CT:=λE rf fn rnd n t dfs O=>Option.rec (motive:=λ_=>Option RF) none (λr=>jx5 ib E rf fn rnd n r) (ia E rf fn rnd n t dfs O)
def cIf(ia ib:CT)(E:Env)(rf:TaskF->Option RF)(fn:FuncId)(rnd:Option Nat)(n:Nat)(t:Tre)(dfs:List DE)(O:S)(v:V):Option RF :=
 match v with
 | .bool b=>Bool.rec (motive:=λ_=>Option RF) (ib E rf fn rnd n t dfs O) (ia E rf fn rnd n t dfs O) b
 |_=>none
def jzS(c:Operand)(_ _:Code)(ia ib:CT):CT:=λE rf fn rnd n t dfs O=>Option.rec (motive:=λ_=>Option RF) none (λv=>cIf ia ib E rf fn rnd n t dfs O v) (jbE E t c)
def cOut(id:Nat)(r:RF):RF :=
 match r with
 |⟨.exit i,t,dfs,O⟩=>Bool.rec (motive:=λ_=>RF) ⟨.exit i,t,dfs,O⟩ ⟨.normal,t,dfs,O⟩ (Nat.beq i id)
 |r=>r
def jx6(id:Nat)(_:Code)(ia:CT):CT:=λE rf fn rnd n t dfs O=>Option.rec (motive:=λ_=>Option RF) none (λr=>some (cOut id r)) (ia E rf fn rnd n t dfs O)
def jzT(c:Code)(_:CT):CT:=λE rf fn rnd n t dfs O=>rf (.loop fn rnd n c t dfs O)
def jx7(_:Code)(ia:CT):CT:=λE rf fn rnd n t dfs O=>ia E rf fn rnd n t dfs O
def jx8(f:Operand)(ps:Array Tmp)(asg body:Code)(_ _:CT):CT:=λE rf fn rnd n t dfs O=>jbh E rf fn rnd n (.rangeFunc f ps asg body) t dfs O
def jzU(dfs:List DE)(p:Tre × S):Option RF:=some ⟨.normal,p.1,dfs,p.2⟩
def jle(id:Nat)(ops:List Oper):CT:=λE rf fn rnd n t dfs O =>
 Option.rec (motive:=λ_=>Option RF) none (jzU dfs) (jpR ops E (recF rf) (E.mutb fn id) n ops t O)
def jzV(id:Nat)(ops:Array Oper):CT:=λE rf fn rnd n t dfs O =>
 Bool.rec (motive:=λ_=>Option RF) (jle id ops.toList E rf fn rnd n t dfs O) (jbh E rf fn rnd n (.region id ops false) t dfs O) (juu E fn ops.toList)
def jx9(id:Nat)(ops:Array Oper):CT:=λE rf fn rnd n t dfs O =>
 Bool.rec (motive:=λ_=>Option RF) (jbh E rf fn rnd n (.region id ops true) t dfs O) (jle id ops.toList E rf fn rnd n t dfs O) (jgV E ops)
def jwO(id:Nat)(ops:Array Oper)(d:Bool):CT:=Bool.rec (motive:=λ_=>CT) (jzV id ops) (jx9 id ops) d
def jhF(c:Code):CT :=
 Code.rec (motive:=λ_=>CT) jx3 jwO cSeq jzS jx6 jzT jx8 jzR jx7 (λ_=>jx3) (λ_=>jx4) cRet (λ_=>jx4) c
theorem jnc(id:Nat)(ops:Array Oper)(E:Env)(rf:TaskF->Option RF)(fn:FuncId)(rnd:Option Nat)(n:Nat)(t:Tre)(dfs:List DE)(O:S) :
  jle id ops.toList E rf fn rnd n t dfs O=(match jfh E (recF rf) (E.mutb fn id) n ops.toList ops.toList t O with
   |some (t,O)=>some ⟨.normal,t,dfs,O⟩
   |none=>none):=by
 simp only[jle,jjZ];cases jfh E (recF rf) (E.mutb fn id) n ops.toList ops.toList t O with
 |none=>rfl
 |some p=>rfl
theorem jd3:∀(c:Code) (E:Env) (rf:TaskF->Option RF) (fn:FuncId) (rnd:Option Nat) (n:Nat) (t:Tre) (dfs:List DE) (O:S),jhF c E rf fn rnd n t dfs O=jbh E rf fn rnd n c t dfs O
 | .skip,E,rf,fn,rnd,n,t,dfs,O=>by simp only[jbh];rfl
 | .label _,E,rf,fn,rnd,n,t,dfs,O=>by simp only[jbh];rfl
 | .exit _,E,rf,fn,rnd,n,t,dfs,O=>by simp only[jbh];rfl
 | .ret,E,rf,fn,rnd,n,t,dfs,O=>by simp only[jbh];rfl
 | .goto _,E,rf,fn,rnd,n,t,dfs,O=>by simp only[jbh];rfl
 | .refuse _,E,rf,fn,rnd,n,t,dfs,O=>by simp only[jbh];rfl
 | .rangeFunc _ _ _ _,E,rf,fn,rnd,n,t,dfs,O=>rfl
 | .loop _,E,rf,fn,rnd,n,t,dfs,O=>by simp only[jbh];rfl
 | .scope c,E,rf,fn,rnd,n,t,dfs,O=>by simp only[jbh];exact jd3 c E rf fn rnd n t dfs O
 | .seq a b,E,rf,fn,rnd,n,t,dfs,O=>by
  show Option.rec (motive:=λ_=>Option RF) none (λr=>jx5 (jhF b) E rf fn rnd n r) (jhF a E rf fn rnd n t dfs O)=_;simp only[jbh,jd3 a];cases jbh E rf fn rnd n a t dfs O with
  |none=>rfl
  |some r =>
   obtain⟨ex,t1,d1,s1⟩:=r;cases ex with
   |normal=>exact jd3 b E rf fn rnd n t1 d1 s1
   |exit i=>rfl
   |ret=>rfl
   |pan v=>rfl
 | .cond c a b,E,rf,fn,rnd,n,t,dfs,O=>by
  show Option.rec (motive:=λ_=>Option RF) none (λv=>cIf (jhF a) (jhF b) E rf fn rnd n t dfs O v) (jbE E t c)=_;simp only[jbh];cases jbE E t c with
  |none=>rfl
  |some v =>
   cases v<;>first|rfl|skip
   rename_i b0;cases b0 with
   |true=>exact jd3 a E rf fn rnd n t dfs O
   |false=>exact jd3 b E rf fn rnd n t dfs O
 | .block id c,E,rf,fn,rnd,n,t,dfs,O=>by
  show Option.rec (motive:=λ_=>Option RF) none (λr=>some (cOut id r)) (jhF c E rf fn rnd n t dfs O)=_;simp only[jbh,jd3 c];cases jbh E rf fn rnd n c t dfs O with
  |none=>rfl
  | some r =>
   obtain⟨ex,t1,d1,s1⟩:=r;cases ex with
   |normal=>rfl
   |ret=>rfl
   |pan v=>rfl
   |exit i =>
    show some (Bool.rec (motive:=λ_=>RF) ⟨.exit i,t1,d1,s1⟩ ⟨.normal,t1,d1,s1⟩ (Nat.beq i id))=some ⟨if i=id then .normal else .exit i,t1,d1,s1⟩;by_cases h:i=id
    ·rw[jma h,Ki h]
    ·rw[jhD h,Kj h]
 | .region id ops d,E,rf,fn,rnd,n,t,dfs,O=>by
  cases d with
  |false =>
   show Bool.rec (motive:=λ_=>Option RF) (jle id ops.toList E rf fn rnd n t dfs O) (jbh E rf fn rnd n (.region id ops false) t dfs O) (juu E fn ops.toList)=_;cases hx:juu E fn ops.toList with
   |true=>rfl
   |false=>simp only[jbh,hx,jnc]<;>rfl
  |true =>
   show Bool.rec (motive:=λ_=>Option RF) (jbh E rf fn rnd n (.region id ops true) t dfs O) (jle id ops.toList E rf fn rnd n t dfs O) (jgV E ops)=_;cases hx:jgV E ops with
   |false=>rfl
   |true=>simp only[jbh,hx,jnc,Ku]<;>rfl
def tEnd(E:Env)(rf:TaskF->Option RF)(fn:Func)(t:Tre)(dfs:List DE)(O:S):Option RF :=
 match jbI O.heap dfs with
 |some h =>
  match resF E t h fn.results.toList with
  |some vs=>some ⟨.ret,.node .leaf (jaW vs) .leaf,[],⟨h,O.toks⟩⟩
  |none=>none
 |none=>finF E rf fn none t dfs O
def tOut(E:Env)(rf:TaskF->Option RF)(fn:Func)(r:RF):Option RF :=
 match r with
 |⟨.exit _,_,_,_⟩=>none
 |⟨.pan v,t,dfs,O⟩=>finF E rf fn (some v) t dfs O
 |⟨_,t,dfs,O⟩=>tEnd E rf fn t dfs O
def fnS(E:Env)(f:FuncId):Option Func:=E.P.funcs[f]?
def okS(E:Env)(f:FuncId)(k:Nat):Bool :=
 match E.P.funcs[f]? with
 |some fn=>decide (fn.name ≠ "runtime.NumGoroutine") && decide (fn.ntmps<=2^depthF-1) && Nat.ble k fn.ntmps
 |none=>false
def ntS(E:Env)(f:FuncId):Nat:=match E.P.funcs[f]? with|some fn=>fn.ntmps|none=>0
def jya(E:Env)(f:FuncId):Option Code:=(E.P.funcs[f]?).bind (·.body)
def tFn(E:Env)(rf:TaskF->Option RF)(f:FuncId)(args:List V)(O:S)(fn:Func)(body:Code):Option RF :=
 Bool.rec (motive:=λ_=>Option RF) none (Option.rec (motive:=λ_=>Option RF) none (tOut E rf fn) (jhF body E rf f none (ntS E f) (ofF args) [] O)) (okS E f args.length)
def jwP(E:Env)(rf:TaskF->Option RF)(f:FuncId)(args:List V)(O:S):Option RF :=
 Option.rec (motive:=λ_=>Option RF) none (λfn=>Option.rec (motive:=λ_=>Option RF) none (λbody=>tFn E rf f args O fn body) (jya E f)) (fnS E f)
def jyb(E:Env)(rf:TaskF->Option RF)(fn:FuncId)(rnd:Option Nat)(n:Nat)(c:Code)(r:RF):Option RF :=
 match r with
 |⟨.normal,t,dfs,O⟩=>rf (.loop fn rnd n c t dfs O)
 |r=>some r
def jwQ(E:Env)(rf:TaskF->Option RF)(t:TaskF):Option RF :=
 TaskF.rec (motive:=λ_=>Option RF) (λf args O=>jwP E rf f args O) (λl args O=>jjX E rf (.round l args O))
  (λfn rnd n c t dfs O=>Option.rec (motive:=λ_=>Option RF) none (jyb E rf fn rnd n c) (jhF c E rf fn rnd n t dfs O)) (λf args pv O=>jjX E rf (.dcall f args pv O)) t
theorem juv(E:Env)(rf:TaskF->Option RF)(t:TaskF):jwQ E rf t=jjX E rf t:=by
 cases t with
 |round l args O=>rfl
 |dcall f args pv O=>rfl
 |loop fn rnd n c t dfs O =>
  show Option.rec (motive:=λ_=>Option RF) none (jyb E rf fn rnd n c) (jhF c E rf fn rnd n t dfs O)=_;simp only[jjX,jd3];cases jbh E rf fn rnd n c t dfs O with
  |none=>rfl
  |some r=>obtain⟨ex,t1,d1,s1⟩:=r;cases ex<;>rfl
 | call f args O =>
  show jwP E rf f args O=_;simp only[jjX,jwP,fnS,jya];cases hf:E.P.funcs[f]? with
  |none=>rfl
  | some fn =>
   simp only[Kn];cases hb:fn.body with
   |none=>rfl
   | some body =>
    simp only[tFn,okS,ntS,hf,jd3];by_cases hn:fn.name = "runtime.NumGoroutine"
    ·simp[hn]
    ·by_cases h1:fn.ntmps<=2^depthF-1
     ·by_cases h2:args.length<=fn.ntmps
      ·have e:(decide (fn.name ≠ "runtime.NumGoroutine") && decide (fn.ntmps<=2^depthF-1) && Nat.ble args.length fn.ntmps)=true:=by
        rw[Nat.ble_eq_true_of_le h2];simp[hn,h1]
       rw[e];simp only[hn,Ks,h1,h2,and_self,Ku];cases jbh E rf f none fn.ntmps body (ofF args) [] O with
       |none=>rfl
       |some r=>obtain⟨ex,t1,d1,s1⟩:=r;cases ex<;>rfl
      ·have e:Nat.ble args.length fn.ntmps=false:=by
        cases hh:Nat.ble args.length fn.ntmps with
        |false=>rfl
        |true=>exact absurd (Qq hh) h2
       rw[e];simp[hn,h2]
     ·simp[hn,h1]
def runQ(E:Env)(k:Nat):TaskF->Option RF:=Nat.rec (motive:=λ_=>TaskF->Option RF) (λ_=>none) (λ_ ih=>jwQ E ih) k
theorem jgi(E:Env):∀k,runQ E k=runF E k
 |0=>rfl
 |k+1=>by
  funext t
  show jwQ E (runQ E k) t=_;rw[juv,jgi E k];rfl
abbrev Tm:=Nat->V
def upd(T:Tm)(d:Nat)(v:V):Tm:=λt=>if t=d then v else T t
theorem Z7(T:Tm)(d:Nat)(v:V)(t:Nat):upd T d v t=if t=d then v else T t:=rfl
def Rep(n:Nat)(T:Tm)(l:List V):Prop:=l.length=n/\∀t,l.getD t (.tup [])=T t
theorem Rep.upd {n:Nat}{T:Tm}{l:List V}(h:Rep n T l){d:Nat}(hd:d<n)(v:V):Rep n (upd T d v) (l.set d v):=by
 refine⟨by simp[h.1],λt => ?_⟩;rw[Z7];have hl:=h.1;by_cases e:t=d
 ·subst e;simp[List.getD,hl,hd]
 ·simp only[e,Ks];rw[<- h.2 t];simp[List.getD,show ¬d=t from λh=>e h.symm]
def jaK(E:Env)(T:Tm):Operand->Option V
 | .tmp t=>some (T t)
 | .const v=>je5 v
 | .global g=>E.gl g
 | .func f=>some (.func f [] [])
theorem Rep.eval {E:Env}{n:Nat}{T:Tm}{l:List V}(h:Rep n T l):ja8 E l=jaK E T:=by
 funext x
 cases x with
 |tmp t=>simp only[ja8,jaK,h.2 t]
 |const v=>rfl
 |global g=>rfl
 |func f=>rfl
def argT(vs:List V):Tm:=λt=>vs.getD t (.tup [])
theorem Rep.args(vs:List V)(n:Nat)(h:vs.length<=n):Rep n (argT vs) (vs++List.replicate (n-vs.length) (.tup [])):=by
 refine⟨by simp;omega,λt => ?_⟩;simp only[argT,List.getD];by_cases ht:t<vs.length
 ·rw[K2 ht]
 ·rw[Q6 (by omega),Qf (l:=vs) (by omega)];by_cases h2:t-vs.length<n-vs.length
  ·rw[List.getElem?_replicate];simp[h2]
  ·rw[Qf (by simpa using h2)]
def V1 {α:Type}(o:Option α)(k:α->Prop):Prop:=∃v,o=some v/\k v
theorem Yy {α:Type}(v:α)(k:α->Prop):V1 (some v) k=k v:=by simp[V1]
theorem jlf {α:Type}(c:Prop)[Decidable c](a:Option α)(k:α->Prop):V1 (if c then a else none) k=(c/\V1 a k):=by
 by_cases h:c<;>simp[h,V1]
theorem jiy {α:Type}(c:Prop)[Decidable c](a:Option α)(k:α->Prop):V1 (if c then none else a) k=(¬c/\V1 a k):=by
 by_cases h:c<;>simp[h,V1]
theorem jvR {α β:Type}(o:Option α)(f:α->β)(k:β->Prop):V1 (o.map f) k=V1 o λa=>k (f a):=by
 cases o<;>simp[V1]
section
variable (E:Env)
def opT(mutb:Bool)(T:Tm)(O:S)(op:Op):Option (V × S) :=
 match jbp E (jaK E T) op with
 |some v=>some (v,O)
 | none =>
  match jbu E (jaK E T) O op with
  |some v=>some (v,O)
  | none =>
   match op with
   | .call { callee:=.value g,args,.. } =>
    (jaK E T g).bind λgv=>(jbw (jaK E T) args.toList).bind λas=>jdt E (ev E) gv as O
   | .call { callee:=.invoke x name,args,.. } =>
    (jaK E T x).bind λxv=>(jjD E xv name).bind λp=>(jbw (jaK E T) args.toList).bind λas=>jas E (ev E) p.1 (p.2::as) O
   |op=>jbz E mutb (jaK E T) O op
def wpO(mutb:Bool)(T:Tm)(O:S)(op:Op)(k:V->S->Prop):Prop:=V1 (opT E mutb T O op) λp=>k p.1 p.2
theorem jlg {mutb:Bool}{n:Nat}{T:Tm}{l:List V}(h:Rep n T l){O:S}{op:Op}{k:V->S->Prop}(hw:wpO E mutb T O op k) :
  ∃v O',opV E (ev E) mutb l O op=some (v,O')/\k v O':=by
 obtain⟨⟨v,O'⟩,h1,h2⟩:=hw;refine⟨v,O',?_,h2⟩;unfold opV;rw[h.eval];exact h1
def jiX(v:V):Option Bool :=
 match v with
 | .bool b=>some b
 |_=>none
def Br(v:V)(A B:Prop):Prop:=V1 (jiX v) λb=>(b=true->A)/\(b=false->B)
theorem jmd(A B:Prop):Br (.bool true) A B=A:=by simp[Br,jiX,V1]
theorem jjq(A B:Prop):Br (.bool false) A B=B:=by simp[Br,jiX,V1]
theorem jwR(v:V):Br v False False=False:=by simp only[Br,V1,eq_iff_iff,iff_false];rintro⟨b,_,h1,h2⟩;cases b;exact h2 rfl;exact h1 rfl
theorem joV(b:Bool)(A B:Prop):Br (.bool b) A B=((b=true->A)/\(b=false->B)):=by simp[Br,jiX,V1]
def Br3(v:V)(A B C:Prop):Prop:=(v=.tup []/\C)\/Br v A B
theorem jjr(A B C:Prop):Br3 (.bool true) A B C=A:=by simp[Br3,jmd]
theorem jhG(A B C:Prop):Br3 (.bool false) A B C=B:=by simp[Br3,jjq]
theorem jjs(b:Bool)(A B C:Prop):Br3 (.bool b) A B C=((b=true->A)/\(b=false->B)):=by simp[Br3,joV]
theorem jsf(A B C:Prop):Br3 (.tup []) A B C=C:=by simp[Br3,Br,jiX,V1]
theorem jpS(v:V):Br3 v False False False=False:=by simp only[Br3,jwR,and_false,or_self]
theorem jdS {T:Tm}{t:Nat}{v:V}(h:T t=v):upd T t v=T:=by
 funext x
 rw[Z7];by_cases e:x=t
 ·subst e;simp[h]
 ·simp[e]
def wpL (mutb:Bool)(n:Nat)(ops:Array Oper):List Oper->Tm->S->(Tm->S->Prop)->Prop
  | [],T,O,k=>k T O
  | ⟨dst,op,_,_,_,none⟩::l,T,O,k =>
    match dst with
    |none=>wpO E mutb T O op λ_ O'=>wpL mutb n ops l T O' k
    |some d=>d<n/\wpO E mutb T O op λv O'=>wpL mutb n ops l (upd T d v) O' k
  | ⟨dst,op,_,_,_,some (j,b)⟩::l,T,O,k =>
    V1 ((ops[j]?).bind (·.dst)) λdj=>dj<n/\Br3 (T dj)
      (match b with
        | true=>(match dst with
          |none=>wpO E mutb (upd T dj (.bool true)) O op λ_ O'=>wpL mutb n ops l (upd T dj (.bool true)) O' k
          |some d=>d<n/\wpO E mutb (upd T dj (.bool true)) O op λv O'=>wpL mutb n ops l (upd (upd T dj (.bool true)) d v) O' k)
        | false=>(match dst with
          |none=>wpL mutb n ops l (upd T dj (.bool true)) O k
          |some d=>d<n/\wpL mutb n ops l (upd (upd T dj (.bool true)) d (.tup [])) O k))
      (match b with
        | false=>(match dst with
          |none=>wpO E mutb (upd T dj (.bool false)) O op λ_ O'=>wpL mutb n ops l (upd T dj (.bool false)) O' k
          |some d=>d<n/\wpO E mutb (upd T dj (.bool false)) O op λv O'=>wpL mutb n ops l (upd (upd T dj (.bool false)) d v) O' k)
        | true=>(match dst with
          |none=>wpL mutb n ops l (upd T dj (.bool false)) O k
          |some d=>d<n/\wpL mutb n ops l (upd (upd T dj (.bool false)) d (.tup [])) O k))
      (match dst with
        |none=>wpL mutb n ops l T O k
        |some d=>d<n/\wpL mutb n ops l (upd T d (.tup [])) O k)
theorem jfC {ops:Array Oper}{n:Nat}{T:Tm}{tmps:List V}(h:Rep n T tmps){j dj:Nat}(hj:(ops[j]?).bind (·.dst)=some dj){b:Bool}(hb:T dj=.bool b) :
  jaD ops tmps j=some b:=by
 unfold jaD;rw[hj]
 have h1:tmps[dj]? = some (.bool b):=by
  have h2:=h.2 dj;rw[hb,List.getD]at h2;cases hx:tmps[dj]? with
  |none=>rw[hx]at h2;simp at h2
  |some x=>rw[hx]at h2;simpa using h2
 simp[h1]
theorem jfD {ops:Array Oper}{n:Nat}{T:Tm}{tmps:List V}(h:Rep n T tmps){j dj:Nat}(hj:(ops[j]?).bind (·.dst)=some dj)(hb:T dj=.tup []) :
  jaD ops tmps j=none:=by
 unfold jaD;rw[hj];simp only[Kn];have h2:=h.2 dj;rw[hb,List.getD]at h2;cases hx:tmps[dj]? with
 |none=>rfl
 |some x =>
  rw[hx]at h2;simp only[Kv]at h2;rw[h2]
theorem jb4 {mutb:Bool}{n:Nat}{ops:Array Oper}:∀(l:List Oper) {T:Tm} {tmps:List V} {O:S} {k:Tm->S->Prop},Rep n T tmps->wpL E mutb n ops l T O k ->
  ∃tmps' O' T',jd2 E (ev E) mutb ops l tmps O=some (tmps',O')/\Rep n T' tmps'/\k T' O'
 | [],T,tmps,O,k,h,hw=>⟨tmps,O,T,rfl,h,hw⟩
 | ⟨dst,op,t,p,a,none⟩::l,T,tmps,O,k,h,hw=>by
  rw[jq7];simp only[wpL]at hw;cases dst with
  |none =>
   obtain⟨v,O',h1,h2⟩:=jlg E h hw;rw[h1];exact jb4 l h h2
  |some d =>
   obtain⟨hd,hw⟩:=hw;obtain⟨v,O',h1,h2⟩:=jlg E h hw;rw[h1];exact jb4 l (h.upd hd v) h2
 | ⟨dst,op,t,p,a,some (j,b)⟩::l,T,tmps,O,k,h,hw=>by
  rw[joS];simp only[wpL]at hw;obtain⟨dj,hdj,hlt,⟨htup,hw⟩|⟨b0,hb0,hT,hF⟩⟩:=hw
  ·rw[jfD h hdj htup];rw[Kj (by simp)];cases dst with
   |none=>exact jb4 l h hw
   |some d=>exact jb4 l (h.upd hw.1 _) hw.2
  have hTd:T dj=.bool b0:=by
   unfold jiX at hb0;split at hb0
   ·rename_i b1 he;simp at hb0;rw[he,hb0]
   ·simp at hb0
  rw[jfC h hdj hTd];cases b0 with
  | true =>
   have hw:=hT rfl;rw[jdS hTd]at hw;cases b with
   | true =>
    simp only[BEq.rfl,Ku];cases dst with
    |none =>
     obtain⟨v,O',h1,h2⟩:=jlg E h hw;rw[h1];exact jb4 l h h2
    |some d =>
     obtain⟨hd,hw⟩:=hw;obtain⟨v,O',h1,h2⟩:=jlg E h hw;rw[h1];exact jb4 l (h.upd hd v) h2
   |false =>
    rw[Kj (by decide)];cases dst with
    |none=>exact jb4 l h hw
    |some d=>exact jb4 l (h.upd hw.1 _) hw.2
  | false =>
   have hw:=hF rfl;rw[jdS hTd]at hw;cases b with
   | false =>
    simp only[BEq.rfl,Ku];cases dst with
    |none =>
     obtain⟨v,O',h1,h2⟩:=jlg E h hw;rw[h1];exact jb4 l h h2
    |some d =>
     obtain⟨hd,hw⟩:=hw;obtain⟨v,O',h1,h2⟩:=jlg E h hw;rw[h1];exact jb4 l (h.upd hd v) h2
   |true =>
    rw[Kj (by decide)];cases dst with
    |none=>exact jb4 l h hw
    |some d=>exact jb4 l (h.upd hw.1 _) hw.2
def wpS(mutb:Bool)(n:Nat)(K:S->Prop):List Oper->Tm->S->(Tm->S->Prop)->Prop
 | [],T,O,k=>k T O
 | ⟨dst,op,_,_,_,none⟩::l,T,O,k=>V1 (opT E mutb T O op) λp=>(scOp E op=true->K p.2)/\(jbd op=true->∀O',K O'->jbu E (jaK E T) O' op=some p.1) /\
  (match dst with
   |none=>wpS mutb n K l T p.2 k
   |some d=>d<n/\wpS mutb n K l (upd T d p.1) p.2 k)
 |⟨_,_,_,_,_,some _⟩::_,_,_,_=>False
theorem jj0 {mutb:Bool}{n:Nat}{T:Tm}{l:List V}(h:Rep n T l){O:S}{op:Op}:opT E mutb T O op=opV E (ev E) mutb l O op:=by
 unfold opV;rw[h.eval];rfl
theorem jsg {rec:Task->Option Res}{mutb:Bool}{ops:Array Oper}{tmps:List V}{O O1:S}{dst:Option Tmp}{op:Op}{t:TypeId}{p:String}{a:Array Edge}{l:List Oper}{v:V}(h:opV E rec mutb tmps O op=some (v,O1)) :
  dRun E rec mutb ops (⟨dst,op,t,p,a,none⟩::l) tmps O=(match dRun E rec mutb ops l (putT tmps dst v) O1 with
   |some (tr,ss,tf,Of)=>some ((tmps,v)::tr,if scOp E op then O1::ss else ss,tf,Of)
   |none=>none):=by
 simp only[dRun,Region.wanted,Ku,h];cases dRun E rec mutb ops l (putT tmps dst v) O1<;>rfl
theorem jnd {mutb:Bool}{n:Nat}{ops:Array Oper}{K:S->Prop}:∀(l:List Oper) {T:Tm} {tmps:List V} {O:S} {k:Tm->S->Prop},Rep n T tmps->wpS E mutb n K l T O k ->
  ∃(tr:List (List V × V)) (ss:List S) (tf:List V) (Of:S) (T':Tm),dRun E (ev E) mutb ops l tmps O=some (tr,ss,tf,Of)/\Rep n T' tf/\k T' Of/\(∀s∈ss,K s) /\
   ∀(j:Nat) (o:Oper),l[j]? = some o->∃(t:List V) (v:V) (O0 O1:S),tr[j]? = some (t,v)/\opV E (ev E) mutb t O0 o.op=some (v,O1)/\(jbd o.op=true->∀O',K O'->jbu E (ja8 E t) O' o.op=some v)
 | [],T,tmps,O,k,h,hw=>⟨[],[],tmps,O,T,rfl,h,hw,λs hs=>by simp at hs,λj o hj=>by simp at hj⟩
 | ⟨dst,op,t,p,a,none⟩::l,T,tmps,O,k,h,hw=>by
  simp only[wpS]at hw;obtain⟨⟨v,O1⟩,hop,hK,hR,hw⟩:=hw;rw[jj0 E h]at hop;simp only at hK hR hw
  have hput:∃T1,Rep n T1 (putT tmps dst v)/\wpS E mutb n K l T1 O1 k:=by
   cases dst with
   |none=>exact⟨T,h,hw⟩
   |some d=>exact⟨_,h.upd hw.1 v,hw.2⟩
  obtain⟨T1,hr1,hw1⟩:=hput;obtain⟨tr,ss,tf,Of,T',h1,h2,h3,h4,h5⟩:=jnd l hr1 hw1;refine⟨(tmps,v)::tr,if scOp E op then O1::ss else ss,tf,Of,T',by rw[jsg E hop,h1],h2,h3,?_,?_⟩
  ·intro s hs;by_cases hsc:scOp E op=true
   ·simp only[hsc,Ku,Qv]at hs
    rcases hs with rfl|hs
    ·exact hK hsc
    ·exact h4 s hs
   ·simp only[hsc,Km,Ks]at hs;exact h4 s hs
  ·intro j o hj;cases j with
   |zero =>
    simp only[Qr,Kg]at hj;subst hj;exact⟨tmps,v,O,O1,rfl,hop,λhrd O' hO'=>by rw[h.eval];exact hR hrd O' hO'⟩
   |succ j =>
    simp only[Qg]at hj ⊢;exact h5 j o hj
 |⟨_,_,_,_,_,some _⟩::_,T,tmps,O,k,h,hw=>hw.elim
theorem jne {fn:FuncId}{rnd:Option Nat}{id:Nat}{ops:Array Oper}{K:S->Prop}{n:Nat}{T:Tm}{tmps:List V}{dfs:List DE}{O:S}{k:Tm->S->Prop}(hp:jdx E ops (jat [] ops.toList)=true)(hK:K O)
  (hr:Rep n T tmps) (hw:wpS E (E.mutb fn id) n K ops.toList T O k) :
  ∃tf Of T',jbf E (ev E) fn rnd (.region id ops true) tmps dfs O=some ⟨.normal,tf,dfs,Of⟩/\Rep n T' tf/\k T' Of:=by
 obtain⟨tr,ss,tf,Of,T',h1,h2,h3,h4,h5⟩:=jnd E (ops:=ops) ops.toList hr hw;refine⟨tf,Of,T',?_,h2,h3⟩
 have hc:jgR E ops (jat [] ops.toList) tr (O::ss)=true:=by
  unfold jgR;rw[K1];intro j hj;have hj:j<ops.size:=by simpa using hj
  have hoj:ops[j]? = some ops[j]:=Jq hj;have hoj2:ops.toList[j]? = some ops[j]:=by rw[Q9];exact hoj
  obtain⟨t,v,O0,O1,ht,hop,hrd⟩:=h5 j ops[j] hoj2;simp only[hoj,ht];by_cases hs:scOp E ops[j].op=true
  ·simp[hs]
  by_cases hpc:jbs E ops[j].op=true
  ·simp[hpc]
  by_cases ha:(jbp E (ja8 E t) ops[j].op).isSome=true
  ·simp[ha]
  have ha':jbp E (ja8 E t) ops[j].op=none:=by simpa using ha
  have hread:=jjp (by simpa using hs) (by simpa using hpc) ha' hop
  have hreads:jbd ops[j].op=true:=by
   cases hx:jbd ops[j].op with
   |true=>rfl
   |false=>rw[jgG hx]at hread;simp at hread
  rw[Q0];right;rw[K1];intro m hm;have hm:m<(O::ss).length:=by simpa using hm
  have hKm:K (O::ss)[m]:=by
   have:(O::ss)[m]∈O::ss:=J3 hm
   rcases Qv.1 this with h|h
   ·rw[h];exact hK
   ·exact h4 _ h
  rw[K5 hm];simp only[hrd hreads _ hKm,V.beq_refl,Xu]
 simp only[jbf,hp,Ku,h1,hc]
structure Post where
 norm:Tm->List DE->S->Prop
 exit:Nat->Tm->List DE->S->Prop
 ret:Tm->List DE->S->Prop
def Post.of(n:Nat)(Q:Post)(r:Res):Prop :=
 ∃T,Rep n T r.vals/\match r.ex with
  | .normal=>Q.norm T r.dfs r.st
  | .exit i=>Q.exit i T r.dfs r.st
  | .ret=>Q.ret T r.dfs r.st
  | .pan _=>False
variable (fn:FuncId)(rnd:Option Nat)(n:Nat)
def wpX(c:Code)(T:Tm)(D:List DE)(O:S)(Q:Post):Prop :=
 ∀tmps,Rep n T tmps->∃r,jbf E (ev E) fn rnd c tmps D O=some r/\Q.of n r
theorem jrb {id:Nat}{ops:Array Oper}{T:Tm}{D:List DE}{O:S}{Q:Post}(K:S->Prop)(hK:K O)(hp:jdx E ops (jat [] ops.toList)=true)
  (h:wpS E (E.mutb fn id) n K ops.toList T O λT O=>Q.norm T D O):wpX E fn rnd n (.region id ops true) T D O Q:=λtmps hr=>by
 obtain⟨tf,Of,T',h1,h2,h3⟩:=jne E (rnd:=rnd) (dfs:=D) hp hK hr h;exact⟨_,h1,T',h2,h3⟩
def jiY(c:Code)(T:Tm)(D:List DE)(O:S)(Q:Post):Prop :=
 ∀tmps,Rep n T tmps->∃r,ev E (.loop fn rnd c tmps D O)=some r/\Q.of n r
def wpC:Code->Tm->List DE->S->Post->Prop
 | .skip,T,D,O,Q=>Q.norm T D O
 | .exit i,T,D,O,Q=>Q.exit i T D O
 | .ret,T,D,O,Q=>Q.ret T D O
 | .seq a b,T,D,O,Q=>wpC a T D O ⟨λT D O=>wpC b T D O Q,Q.exit,Q.ret⟩
 | .cond (.tmp t) a b,T,D,O,Q=>t<n/\Br (T t) (wpC a (upd T t (.bool true)) D O Q) (wpC b (upd T t (.bool false)) D O Q)
 | .cond c a b,T,D,O,Q=>V1 (jaK E T c) λv=>Br v (wpC a T D O Q) (wpC b T D O Q)
 | .block id c,T,D,O,Q=>wpC c T D O ⟨Q.norm,λi T D O=>if i=id then Q.norm T D O else Q.exit i T D O,Q.ret⟩
 | .loop c,T,D,O,Q=>jiY E fn rnd n c T D O Q
 | .scope c,T,D,O,Q=>wpC c T D O Q
 | .label _,T,D,O,Q=>Q.norm T D O
 | .region id ops false,T,D,O,Q=>wpL E (E.mutb fn id) n ops ops.toList T O λT O=>Q.norm T D O
 | .region id ops true,T,D,O,Q =>
  match E.stab fn id with
  |false=>jgV E ops=true/\wpL E (E.mutb fn id) n ops ops.toList T O λT O=>Q.norm T D O
  |true=>wpX E fn rnd n (.region id ops true) T D O Q
 |c,T,D,O,Q=>wpX E fn rnd n c T D O Q
theorem jcM {v:V}{b:Bool}(h:jiX v=some b):v=.bool b:=by
 unfold jiX at h;split at h
 ·simp at h;rw[h]
 ·simp at h
theorem jbF:∀(c:Code) {T:Tm} {D:List DE} {O:S} {Q:Post},wpC E fn rnd n c T D O Q->wpX E fn rnd n c T D O Q
 | .skip,T,D,O,Q,h=>λtmps hr=>⟨_,rfl,T,hr,h⟩
 | .exit i,T,D,O,Q,h=>λtmps hr=>⟨_,rfl,T,hr,h⟩
 | .ret,T,D,O,Q,h=>λtmps hr=>⟨_,rfl,T,hr,h⟩
 | .seq a b,T,D,O,Q,h=>λtmps hr=>by
  obtain⟨⟨ex,vals,d,st⟩,h1,T1,hr1,hq⟩:=jbF a h tmps hr;simp only[jbf,h1];cases ex with
  |normal=>exact jbF b hq vals hr1
  |exit i=>exact⟨_,rfl,T1,hr1,hq⟩
  |ret=>exact⟨_,rfl,T1,hr1,hq⟩
  |pan _=>exact hq.elim
 | .cond c a b,T,D,O,Q,h=>λtmps hr=>by
  simp only[jbf,hr.eval];cases c with
  | tmp t =>
   obtain⟨hlt,b0,hb0,hT,hF⟩:=h;have hTd:=jcM hb0;simp only[jaK,hTd];cases b0 with
   |true =>
    have hw:=hT rfl;rw[jdS hTd]at hw;exact jbF a hw tmps hr
   |false =>
    have hw:=hF rfl;rw[jdS hTd]at hw;exact jbF b hw tmps hr
  |const v =>
   obtain⟨v0,h1,b0,hb0,hT,hF⟩:=h;rw[h1,jcM hb0];cases b0 with
   |true=>exact jbF a (hT rfl) tmps hr
   |false=>exact jbF b (hF rfl) tmps hr
  |global g =>
   obtain⟨v0,h1,b0,hb0,hT,hF⟩:=h;rw[h1,jcM hb0];cases b0 with
   |true=>exact jbF a (hT rfl) tmps hr
   |false=>exact jbF b (hF rfl) tmps hr
  |func f =>
   obtain⟨v0,h1,b0,hb0,hT,hF⟩:=h;rw[h1,jcM hb0];cases b0 with
   |true=>exact jbF a (hT rfl) tmps hr
   |false=>exact jbF b (hF rfl) tmps hr
 | .block id c,T,D,O,Q,h=>λtmps hr=>by
  obtain⟨⟨ex,vals,d,st⟩,h1,T1,hr1,hq⟩:=jbF c h tmps hr;simp only[jbf,h1];cases ex with
  |normal=>exact⟨_,rfl,T1,hr1,hq⟩
  |exit i =>
   refine⟨_,rfl,T1,hr1,?_⟩;simp only at hq ⊢;by_cases e:i=id
   ·simp only[e,Ku]at hq ⊢;exact hq
   ·simp only[e,Ks]at hq ⊢;exact hq
  |ret=>exact⟨_,rfl,T1,hr1,hq⟩
  |pan _=>exact hq.elim
 | .loop c,T,D,O,Q,h=>λtmps hr=>h tmps hr
 | .region id ops false,T,D,O,Q,h=>λtmps hr=>by
  obtain⟨l⟩:=ops;obtain⟨tmps',O',T',h1,h2,h3⟩:=jb4 E l hr h;rw[jiW _ _ _ _ _ _ _ _ _ _ _ h1];exact⟨_,rfl,T',h2,h3⟩
 | .region id ops true,T,D,O,Q,h=>λtmps hr=>by
  simp only[wpC]at h;cases hs:E.stab fn id with
  |false =>
   simp only[hs]at h;obtain⟨hd,h⟩:=h;obtain⟨tmps',O',T',h1,h2,h3⟩:=jb4 E ops.toList hr h;exact⟨_,jg8 hd h1,T',h2,h3⟩
  |true =>
   simp only[hs]at h;exact h tmps hr
 | .rangeFunc _ _ _ _,T,D,O,Q,h=>h
 | .scope c,T,D,O,Q,h=>λtmps hr=>by simp only[jbf];exact jbF c h tmps hr
 | .label _,T,D,O,Q,h=>λtmps hr=>⟨_,rfl,T,hr,h⟩
 | .goto _,T,D,O,Q,h=>h
 | .refuse _,T,D,O,Q,h=>h
end
section
variable {E:Env}{fn:FuncId}{rnd:Option Nat}{n:Nat}
theorem jbo {c:Code}{Q:Post}(I:Nat->Tm->List DE->S->Prop)
  (h:∀m T D O,I m T D O->wpC E fn rnd n c T D O ⟨λT D O=>∃m',m'<m/\I m' T D O,Q.exit,Q.ret⟩):∀m T D O,I m T D O->jiY E fn rnd n c T D O Q:=by
 intro m
 induction m using Nat.strongRecOn with
 | ind m ih =>
  intro T D O hI tmps hr;obtain⟨⟨ex,vals,d,st⟩,h1,T1,hr1,hq⟩:=jbF E fn rnd n c (h m T D O hI) tmps hr;cases ex with
  |normal =>
   obtain⟨m',hm,hI'⟩:=hq;obtain⟨r,h2,h3⟩:=ih m' hm T1 d st hI' vals hr1;exact⟨r,jcf (by simp only[jcS,h1];exact h2),h3⟩
  |exit i=>exact⟨_,jcf (by simp only[jcS,h1]),T1,hr1,hq⟩
  |ret=>exact⟨_,jcf (by simp only[jcS,h1]),T1,hr1,hq⟩
  |pan _=>exact hq.elim
def resT(E:Env)(T:Tm)(h:List AObj):List ResultVar->Option (List V)
 | []=>some []
 | .tmp t::r=>(resT E T h r).map (T t :: ·)
 | .cell a t::r=>(jbi E h t (T a)).bind λv=>(resT E T h r).map (v :: ·)
theorem Rep.res {T:Tm}{l:List V}(hr:Rep n T l){h:List AObj}:∀rs,resV E l h rs=resT E T h rs
 | []=>rfl
 | .tmp t::r=>by simp only[resV,resT,hr.2 t,Rep.res hr r]
 | .cell a t::r=>by simp only[resV,resT,hr.2 a,Rep.res hr r]
def wpR(E:Env)(rs:List ResultVar)(k:V->S->Prop)(T:Tm)(D:List DE)(O:S):Prop :=
 V1 (jbI O.heap D) λh=>V1 (resT E T h rs) λvs=>k (jaW vs) ⟨h,O.toks⟩
theorem Yx(E:Env)(rs:List ResultVar)(k:V->S->Prop)(T:Tm)(O:S):wpR E rs k T [] O=V1 (resT E T O.heap rs) λvs=>k (jaW vs) O:=by
 simp only[wpR,jbI,Yy]
theorem jme {f:FuncId}{args:List V}{O:S}{k:V->S->Prop}{F:Go.Func}{body:Code}(hf:E.P.funcs[f]? = some F)(hb:F.body=some body)(hn:F.name ≠ "runtime.NumGoroutine")
  (hl:args.length<=F.ntmps) (hw:wpC E f none F.ntmps body (argT args) [] O ⟨wpR E F.results.toList k,λ_ _ _ _=>False,wpR E F.results.toList k⟩) :
  ∃v O',ev E (.call f args O)=some ⟨.ret,[v],[],O'⟩/\k v O':=by
 obtain⟨⟨ex,vals,d,st⟩,h1,T1,hr1,hq⟩:=jbF E f none F.ntmps body hw _ (Rep.args args F.ntmps hl)
 have key:wpR E F.results.toList k T1 d st->ex ≠ .exit 0\/True->(∀i,ex ≠ .exit i)->(∀v,ex ≠ .pan v)->∃v O',ev E (.call f args O)=some ⟨.ret,[v],[],O'⟩/\k v O':=by
  intro ⟨h,hh,vs,hvs,hk⟩ _ hne hnp;refine⟨jaW vs,⟨h,st.toks⟩,jcf ?_,hk⟩;rw[<- hr1.res]at hvs;simp only[jcS,hf,hb,hn,Ks,h1];cases ex with
  |exit i=>exact absurd rfl (hne i)
  |pan v=>exact absurd rfl (hnp v)
  |normal=>simp only[hh,hvs]
  |ret=>simp only[hh,hvs]
 cases ex with
 |normal=>exact key hq (.inr trivial) (λi h=>by cases h) λi h=>by cases h
 |exit i=>exact hq.elim
 |ret=>exact key hq (.inr trivial) (λi h=>by cases h) λi h=>by cases h
 |pan _=>exact hq.elim
theorem jeU {args:List V}(h:args.all V.closed=true):wargs args=args:=by simp[wargs,h]
theorem jau {f:FuncId}{args:List V}{v:V}{F:Go.Func}{body:Code}(hp:E.pure f=true)(hk:E.hook f=none)(hc:args.all V.closed=true)(hf:E.P.funcs[f]? = some F)(hb:F.body=some body)
  (hn:F.name ≠ "runtime.NumGoroutine") (hl:args.length<=F.ntmps)
  (hw:wpC E f none F.ntmps body (argT args) [] S.empty ⟨wpR E F.results.toList λv' O'=>jbn O'.heap jay v'=some v,λ_ _ _ _=>False,wpR E F.results.toList λv' O'=>jbn O'.heap jay v'=some v⟩)
  (O:S):jas E (ev E) f args O=some (v,O):=by
 obtain⟨v',O',h1,h2⟩:=jme hf hb hn hl hw;unfold jas;simp only[hk,hp,jeU hc,hc,h1,h2,Ku,Kx]
theorem jcv {f:FuncId}{args:List V}{O:S}{k:V->S->Prop}{F:Go.Func}{body:Code}(hp:E.pure f=false)(hk:E.hook f=none)(hf:E.P.funcs[f]? = some F)(hb:F.body=some body)
  (hn:F.name ≠ "runtime.NumGoroutine") (hl:args.length<=F.ntmps)
  (hw:wpC E f none F.ntmps body (argT args) [] O ⟨wpR E F.results.toList k,λ_ _ _ _=>False,wpR E F.results.toList k⟩) (hz:E.frz f=false:=by rfl) (hs:E.hookS f=none:=by rfl) :
  ∃v O',jas E (ev E) f args O=some (v,O')/\k v O':=by
 obtain⟨v',O',h1,h2⟩:=jme hf hb hn hl hw;refine⟨v',O',?_,h2⟩;unfold jas;simp only[hk,hp,hz,hs,h1,Km,Ks]
theorem joW {f:FuncId}{vs:List V}{O':S}(h:ev E (.call f vs S.empty)=some ⟨.ret,[.bool true],[],O'⟩):Found E f vs:=by
 obtain⟨n,hn⟩:=jr9 h;exact⟨n,O',hn⟩
theorem joX {f:FuncId}{args:List V}{F:Go.Func}{body:Code}(hf:E.P.funcs[f]? = some F)(hb:F.body=some body)(hn:F.name ≠ "runtime.NumGoroutine")
  (hl:args.length<=F.ntmps) (hw:wpC E f none F.ntmps body (argT args) [] S.empty ⟨wpR E F.results.toList λv _=>v=.bool true,λ_ _ _ _=>False,wpR E F.results.toList λv _=>v=.bool true⟩):Found E f args:=by
 obtain⟨v,O',h1,rfl⟩:=jme hf hb hn hl hw;exact joW h1
end
theorem jaV(h:List AObj)(d:Nat)(k:IntKind)(x:Int):jbn h (d+1) (.int k x)=some (.int k x):=rfl
theorem jbj(h:List AObj)(d:Nat)(b:Bool):jbn h (d+1) (.bool b)=some (.bool b):=rfl
theorem jch(h:List AObj)(d:Nat)(b:List UInt8):jbn h (d+1) (.str b)=some (.str b):=rfl
theorem jha(h:List AObj)(d:Nat):jbn h (d+1) .nilsl=some .nilsl:=rfl
theorem ja7(h:List AObj)(d:Nat)(vs:List V):jbn h (d+1) (.tup vs)=(vs.mapM (jbn h d)).map .tup:=rfl
theorem jcJ(h:List AObj)(d:Nat)(vs:List V):jbn h (d+1) (.agg vs)=(vs.mapM (jbn h d)).map .agg:=rfl
theorem jgj(h:List AObj)(d:Nat)(cs:List V)(n:Nat)(c:RCap):jbn h (d+1) (.row cs n c)=(cs.mapM (jbn h d)).map λc=>.row c n .unk:=rfl
theorem jaA(h:List AObj)(d:Nat)(v:V)(vs:List V):(v::vs).mapM (jbn h d)=(jbn h d v).bind λa=>(vs.mapM (jbn h d)).bind λb=>some (a::b):=by
 rw[J6];rfl
theorem jaF(h:List AObj)(d:Nat):([]:List V).mapM (jbn h d)=some []:=rfl
theorem je3(h:List AObj)(d:Nat):∀vs:List V,(∀v∈vs,jbn h d v=some v)->vs.mapM (jbn h d)=some vs
 | [],_=>rfl
 |v::vs,hv=>by
  rw[jaA,hv v (by simp),je3 h d vs λx hx=>hv x (by simp[hx])];rfl
theorem jkP(h:List AObj)(d:Nat)(k:IntKind)(zs:List Int):(zs.map (V.int k)).mapM (jbn h (d+1))=some (zs.map (V.int k)) :=
 je3 h (d+1) _ λv hv=>by
  obtain⟨z,_,rfl⟩:=Xc.1 hv;rfl
def jnf(v:V):Option RF->Bool
 |some ⟨.ret,.node _ u _,[],st⟩=>(match jbn st.heap jay u with|some x=>x.beq v|none=>false)
 |_=>false
theorem jeo {E:Env}{k:Nat}{f:FuncId}{args:List V}{v:V}(hp:E.pure f=true)(hk:E.hook f=none)(hc:args.all V.closed=true)(h:jnf v (runF E k (.call f args S.empty))=true) :
  ∀O,jas E (ev E) f args O=some (v,O):=by
 intro O;unfold jnf at h;split at h
 ·rename_i l u q st hr;split at h
  ·rename_i x hs;have e:=V.beq_eq x v h;subst e;have h1:=evF hr;unfold jas;simp only[hk,hp,jeU hc,hc,h1,Ku,hs,Kx]
  ·simp at h
 ·simp at h
def jfi(E:Env)(f:FuncId)(args:List V)(v:V):Prop :=
 ∀Y O w xs,WRel Y O w->GOK E Y->LRel Y args xs->∃Y' w' y,Moved Y Y' O w w'/\VRel Y' v y/\jmY E.P f xs w y w'
theorem jfj {E:Env}(hE:E.Ok){k:Nat}{f:FuncId}{args:List V}{v:V}(hc:args.all V.closed=true)(h:jnf v (runQ E k (.call f args S.empty))=true):jfi E f args v:=by
 intro Y O w xs hw hg hx;unfold jnf at h;split at h
 ·rename_i l u q st hr;split at h
  ·rename_i x hs;have e:=V.beq_eq x v h;subst e;rw[jgi]at hr;have h1:=evF hr;have hx':LRel (Y.own w.heap.size) args xs:=⟨hx.len,λi a b=>VRel.of_closed (Y:=Y) (Y':=Y.own w.heap.size) (λ_ _ _ h=>h) (hx.rel i a b) (je1 hc i a)⟩;obtain⟨Y',w',y,m,hy,h2,h3⟩:=(jgB hE h1).1 u rfl (Y.own w.heap.size) w xs hw.own (hg.own hE) hx';have hpin:∀b i x,Y.pin b i=some x->b<w.heap.size:=λb i x hp=>jdn (hw.pins b i x hp)
   exact⟨_,w',y,hw.after m.below,jl5 hpin m _ hy hs,.inr ⟨h2,λcs=>let⟨fr,a,_,b⟩:=h3 cs;⟨fr,a,b⟩⟩⟩
  ·simp at h
 ·simp at h
abbrev RTab:=List (FuncId × List V × V)
def jlh(f:FuncId)(args:List V):RTab->Option V
 | []=>none
 |p::r=>match Nat.beq p.1 f with
  |true=>if V.beq.beqL p.2.1 args then some p.2.2 else jlh f args r
  |false=>jlh f args r
theorem jiz {f:FuncId}{args:List V}{v:V}:∀{T:RTab},jlh f args T=some v->(f,args,v)∈T
 | [],h=>by simp[jlh]at h
 | p::r,h=>by
  simp only[jlh]at h;split at h
  ·rename_i hf;have e1:=Qw hf;split at h
   ·rename_i he;have e2:=V.beq_eq.beqL_eq p.2.1 args he;simp only[Kg]at h;subst e1 e2 h;exact List.mem_cons_self
   ·exact Ut _ (jiz h)
  ·exact Ut _ (jiz h)
def hasR(f:FuncId):RTab->Bool
 | []=>false
 |p::r=>match Nat.beq p.1 f with
  |true=>true
  |false=>hasR f r
def jsh(base:FuncId->Option (List V->Option V))(T:RTab)(f:FuncId):Option (List V->Option V) :=
 match hasR f T with
 |true=>some λargs=>jlh f (wargs args) T
 |false=>base f
def Env.tab(E:Env)(T:RTab):Env:={ E with hook:=jsh E.hook T }
theorem Env.Ok.tab {E:Env}(hE:E.Ok){T:RTab}(hT:∀p∈T,jfi E p.1 p.2.1 p.2.2):(E.tab T).Ok where
 mixed:=hE.mixed
 glc:=hE.glc
 hook:=by
  intro f g h args v hv Y O w xs hw hg hx;simp only[Env.tab,jsh]at h;split at h
  ·simp only[Kg]at h;subst h;exact hT _ (jiz hv) Y O w xs hw hg hx.wargs
  ·exact hE.hook f g h args v hv Y O w xs hw hg hx
 hookS:=λf g h args O v O' hv Y w xs hw hg hx=>hE.hookS f g h args O v O' hv Y w xs hw hg hx
theorem GOK.tab {E:Env}{T:RTab}{Y:Ctx}(h:GOK E Y):GOK (E.tab T) Y:=h
theorem jfi.untab {E:Env}{T:RTab}{f:FuncId}{args:List V}{v:V}(h:jfi (E.tab T) f args v):jfi E f args v:=h
def jwS(E:Env)(k:Nat)(T:RTab):Bool:=T.all λp=>p.2.1.all V.closed && jnf p.2.2 (runQ E k (.call p.1 p.2.1 S.empty))
theorem jj1 {E:Env}(hE:E.Ok){S0 T:RTab}(hS:∀p∈S0,jfi E p.1 p.2.1 p.2.2){k:Nat}(h:jwS (E.tab S0) k T=true):∀p∈T,jfi E p.1 p.2.1 p.2.2:=by
 intro p hp;have h1:=K1.1 h p hp;rw[K8]at h1;exact(jfj (hE.tab hS) h1.1 h1.2).untab
def idxV:List V->Option V
 | [.str s,.int .u8 c]=>some (.int .i64 (Lib.indexByte s c.toNat.toUInt8))
 |_=>none
theorem jwT {E:Env}{f:FuncId}{fn:Func}(hf:E.P.funcs[f]? = some fn)(hn:(fn.name== "runtime.NumGoroutine")=false)(hb:fn.body.isNone=true)(h1:Extern.findNext fn=none)
  (h2:Extern.find fn=some Extern.BytealgIndexByte.indexByte):∀args v,idxV args=some v->jfi E f args v:=by
 intro args v hv Y O w xs hw hg hx;unfold idxV at hv;split at hv
 ·rename_i s c;simp only[Kg]at hv;subst hv;have hl:=hx.len;obtain⟨lx⟩:=xs
  match lx,hl,hx with
  | [a,b],_,hx =>
   have ha:=hx.rel 0 (by simp) (by simp);have hb2:=hx.rel 1 (by simp) (by simp);simp only[Jg,Ja,Jp]at ha hb2;cases ha with
   | str x =>
    cases hb2 with
    |int k n =>
     refine⟨Y,w,_,Moved.refl hw,.int _ _,.inl ?_⟩;show(callFunc f #[.string x,.int .u8 c]).run E.P w=_;rw[run_callFunc_extern hf hn hb h1 h2,Lib.run_indexByteString];rfl
 ·simp at hv
def jpT:List V->Option V
 | [v]=>some v
 |_=>none
theorem jng {E:Env}{f:FuncId}{fn:Func}(hf:E.P.funcs[f]? = some fn)(hn:(fn.name== "runtime.NumGoroutine")=false)(hb:fn.body.isNone=true)(h1:Extern.findNext fn=none)
  (h2:Extern.find fn=some Extern.AbiNoEscape.same):∀args v,jpT args=some v->jfi E f args v:=by
 intro args v hv Y O w xs hw hg hx;unfold jpT at hv;split at hv
 ·rename_i u;simp only[Kg]at hv;subst hv;have hl:=hx.len;obtain⟨lx⟩:=xs
  match lx,hl,hx with
  | [a],_,hx =>
   have ha:=hx.rel 0 (by simp) (by simp);simp only[Jg,Jp]at ha;refine⟨Y,w,a,Moved.refl hw,ha,.inl ?_⟩;show(callFunc f #[a]).run E.P w=_;rw[run_callFunc_extern hf hn hb h1 h2];rfl
 ·simp at hv
end Go.Ab
end
