/- Proved here: rules for stepping where code may panic. Conditions: those of each theorem; no statement of the seat is proved in this text. -/
import Derived.Test.YtpclebdkhpapjaaGreatDoorAbE
set_option linter.unusedSimpArgs false
set_option linter.unusedVariables false
set_option linter.unusedSectionVars false
namespace Go.Ab
section
variable (E:Env)
noncomputable def jbP(f:FuncId)(args:List V)(O:S):Option (Sum V V × S) :=
 match jas E (ev E) f args O with
 |some (v,s)=>some (.inl v,s)
 |none=>(jik E (ev E) f args O).map λp=>(.inr p.1,p.2)
noncomputable def jlm(g:V)(args:List V)(O:S):Option (Sum V V × S) :=
 match g with
 | .func f first captured=>jbP E f (first++args++captured) O
 |g=>(jdt E (ev E) g args O).map λp=>(.inl p.1,p.2)
def panV(v:V)(O:S):Option (Sum V V × S) :=
 match v with
 | .iface t u=>some (.inr (.iface t u),O)
 |_=>none
noncomputable def opKX(mutb:Bool)(T:Tm)(O:S)(op:Op):Option (Sum V V × S) :=
 match op with
 | .panic x=>(jaK E T x).bind λv=>panV v O
 | .call { callee:=.value g,args,.. }=>(jaK E T g).bind λgv=>(jbw (jaK E T) args.toList).bind λas=>jlm E gv as O
 |op=>(opT E mutb T O op).map λp=>(.inl p.1,p.2)
def KX(X:V->S->Prop)(k:V->S->Prop)(p:Sum V V × S):Prop :=
 match p.1 with
 | .inl v=>k v p.2
 | .inr v=>X v p.2
def wpOX(X:V->S->Prop)(mutb:Bool)(T:Tm)(O:S)(op:Op)(k:V->S->Prop):Prop:=V1 (opKX E mutb T O op) (KX X k)
def wpLX (X:V->S->Prop)(mutb:Bool)(n:Nat)(ops:Array Oper):List Oper->Tm->S->(Tm->S->Prop)->Prop
  | [],T,O,k=>k T O
  | ⟨dst,op,_,_,_,none⟩::l,T,O,k =>
    match dst with
    |none=>wpOX E X mutb T O op λ_ O'=>wpLX X mutb n ops l T O' k
    |some d=>d<n/\wpOX E X mutb T O op λv O'=>wpLX X mutb n ops l (upd T d v) O' k
  | ⟨dst,op,_,_,_,some (j,b)⟩::l,T,O,k =>
    V1 ((ops[j]?).bind (·.dst)) λdj=>dj<n/\Br3 (T dj)
      (match b with
        | true=>(match dst with
          |none=>wpOX E X mutb (upd T dj (.bool true)) O op λ_ O'=>wpLX X mutb n ops l (upd T dj (.bool true)) O' k
          |some d=>d<n/\wpOX E X mutb (upd T dj (.bool true)) O op λv O'=>wpLX X mutb n ops l (upd (upd T dj (.bool true)) d v) O' k)
        | false=>(match dst with
          |none=>wpLX X mutb n ops l (upd T dj (.bool true)) O k
          |some d=>d<n/\wpLX X mutb n ops l (upd (upd T dj (.bool true)) d (.tup [])) O k))
      (match b with
        | false=>(match dst with
          |none=>wpOX E X mutb (upd T dj (.bool false)) O op λ_ O'=>wpLX X mutb n ops l (upd T dj (.bool false)) O' k
          |some d=>d<n/\wpOX E X mutb (upd T dj (.bool false)) O op λv O'=>wpLX X mutb n ops l (upd (upd T dj (.bool false)) d v) O' k)
        | true=>(match dst with
          |none=>wpLX X mutb n ops l (upd T dj (.bool false)) O k
          |some d=>d<n/\wpLX X mutb n ops l (upd (upd T dj (.bool false)) d (.tup [])) O k))
      (match dst with
        |none=>wpLX X mutb n ops l T O k
        |some d=>d<n/\wpLX X mutb n ops l (upd T d (.tup [])) O k)
variable {E}
theorem jrk {mutb:Bool}{n:Nat}{T:Tm}{tmps:List V}(hr:Rep n T tmps){O O':S}{op:Op}{r:Sum V V}(h:opKX E mutb T O op=some (r,O')) :
  (∀v,r=.inl v->opV E (ev E) mutb tmps O op=some (v,O'))/\∀v,r=.inr v->opV E (ev E) mutb tmps O op=none/\opP E (ev E) tmps O op=some (v,O'):=by
 unfold opKX at h;split at h
 ·rename_i x;cases hx:jaK E T x with
  |none=>rw[hx]at h;simp at h
  | some v =>
   rw[hx]at h;simp only[Kn,panV]at h;split at h
   ·rename_i t u;simp only[Kg,Kh]at h;obtain⟨rfl,rfl⟩:=h;have hp:opP E (ev E) tmps O (.panic x)=some (.iface t u,O):=by simp only[opP,hr.eval,hx]
    exact⟨λv e=>(by cases e),λv e=>by cases e;exact⟨jcu hp,hp⟩⟩
   ·simp at h
 ·rename_i g args ats;cases hg:jaK E T g with
  |none=>rw[hg]at h;simp at h
  | some gv =>
   cases ha:jbw (jaK E T) args.toList with
   |none=>rw[hg,ha]at h;simp at h
   | some as =>
    rw[hg,ha]at h;simp only[Kn]at h
    have hV:opV E (ev E) mutb tmps O (.call ⟨.value g,args,ats⟩)=jdt E (ev E) gv as O:=by
     unfold opV;rw[hr.eval];simp only[jbp,jbu,hg,ha,Kn]
    unfold jlm at h;split at h
    ·rename_i f first captured
     unfold jbP at h;split at h
     ·rename_i v s hc;simp only[Kg,Kh]at h;obtain⟨rfl,rfl⟩:=h;exact⟨λv e=>(by cases e;rw[hV];exact hc),λv e=>by cases e⟩
     ·rename_i hc;simp only[Ko,Kh]at h;obtain⟨⟨v,s⟩,hp,rfl,rfl⟩:=h;have hP:opP E (ev E) tmps O (.call ⟨.value g,args,ats⟩)=some (v,s):=by simp only[opP,hr.eval,hg,ha,hp]
      exact⟨λv e=>(by cases e),λv e=>by cases e;exact⟨jcu hP,hP⟩⟩
    ·simp only[Ko,Kh]at h;obtain⟨⟨v,s⟩,hc,rfl,rfl⟩:=h;exact⟨λv e=>(by cases e;rw[hV];exact hc),λv e=>by cases e⟩
 ·simp only[Ko,Kh]at h;obtain⟨⟨v,s⟩,hc,rfl,rfl⟩:=h;refine⟨λv e => ?_,λv e=>by cases e⟩;cases e;unfold opV;rw[hr.eval];unfold opT at hc;exact hc
theorem jgL {X k:V->S->Prop}{mutb:Bool}{n:Nat}{T:Tm}{tmps:List V}(hr:Rep n T tmps){O:S}{op:Op}(h:wpOX E X mutb T O op k) :
  (∃v O',opV E (ev E) mutb tmps O op=some (v,O')/\k v O')\/(∃v O',opV E (ev E) mutb tmps O op=none/\opP E (ev E) tmps O op=some (v,O')/\X v O'):=by
 obtain⟨⟨r,O'⟩,h1,h2⟩:=h;have h3:=jrk hr h1;cases r with
 |inl v=>exact .inl ⟨v,O',h3.1 v rfl,h2⟩
 |inr v=>exact .inr ⟨v,O',(h3.2 v rfl).1,(h3.2 v rfl).2,h2⟩
def EndL(E:Env)(rnd:Option Nat)(n:Nat)(X:V->S->Prop)(mutb:Bool)(ops:Array Oper)(l:List Oper)(tmps:List V)(D:List DE)(O:S)(k:Tm->S->Prop):Prop :=
 (∃tmps' O' T',jcg E (ev E) rnd mutb ops l none tmps D O=some ⟨none,none,tmps',D,O'⟩/\Rep n T' tmps'/\k T' O')\/∃v tmps' O',jcg E (ev E) rnd mutb ops l none tmps D O=some ⟨some v,none,tmps',D,O'⟩/\X v O'
theorem jc1 {rnd:Option Nat}{X:V->S->Prop}{mutb:Bool}{n:Nat}{ops:Array Oper}{D:List DE}:∀(l:List Oper) {T:Tm} {tmps:List V} {O:S} {k:Tm->S->Prop},Rep n T tmps->wpLX E X mutb n ops l T O k->EndL E rnd n X mutb ops l tmps D O k
  | [],T,tmps,O,k,h,hw=>.inl ⟨tmps,O,T,rfl,h,hw⟩
  | ⟨dst,op,t,p,a,none⟩::l,T,tmps,O,k,h,hw=>by
    have hwn:Region.wanted (⟨dst,op,t,p,a,none⟩:Oper) (jaD ops tmps)=true:=rfl;simp only[wpLX]at hw;cases dst with
    | none =>
      rcases jgL h hw with⟨v,O',h1,h2⟩|⟨v,O',h0,h1,h2⟩
      · have ih:=jc1 (rnd:=rnd) (D:=D) l h h2
        unfold EndL at ih ⊢;simp only[jcg,hwn,Ku,h1,putT];exact ih
      · refine .inr ⟨v,tmps,O',?_,h2⟩
        simp only[jcg,hwn,Ku,h0,h1]
    | some d =>
      obtain⟨hd,hw⟩:=hw
      rcases jgL h hw with⟨v,O',h1,h2⟩|⟨v,O',h0,h1,h2⟩
      · have ih:=jc1 (rnd:=rnd) (D:=D) l (h.upd hd v) h2
        unfold EndL at ih ⊢;simp only[jcg,hwn,Ku,h1];exact ih
      · refine .inr ⟨v,tmps,O',?_,h2⟩
        simp only[jcg,hwn,Ku,h0,h1]
  | ⟨dst,op,t,p,a,some (j,b)⟩::l,T,tmps,O,k,h,hw=>by
    simp only[wpLX]at hw;obtain⟨dj,hdj,hlt,⟨htup,hw⟩|⟨b0,hb0,hT,hF⟩⟩:=hw
    · have hwn:Region.wanted (⟨dst,op,t,p,a,some (j,b)⟩:Oper) (jaD ops tmps)=false:=by
        simp[Region.wanted,jfD h hdj htup]
      unfold EndL;simp only[jcg,hwn,Km,Ks];cases dst with
      |none=>exact jc1 l h hw
      |some d=>exact jc1 l (h.upd hw.1 _) hw.2
    have hTd:=jcM hb0;have hy:=jfC h hdj hTd
    have go:∀(T2:Tm),T2=T->(match dst with
          |none=>wpOX E X mutb T2 O op λ_ O'=>wpLX E X mutb n ops l T2 O' k
          |some d=>d<n/\wpOX E X mutb T2 O op λv O'=>wpLX E X mutb n ops l (upd T2 d v) O' k)->Region.wanted (⟨dst,op,t,p,a,some (j,b)⟩:Oper) (jaD ops tmps)=true->EndL E rnd n X mutb ops (⟨dst,op,t,p,a,some (j,b)⟩::l) tmps D O k:=by
      intro T2 e hw hwn;subst e;cases dst with
      | none =>
        rcases jgL h hw with⟨v,O',h1,h2⟩|⟨v,O',h0,h1,h2⟩
        · have ih:=jc1 (rnd:=rnd) (D:=D) l h h2
          unfold EndL at ih ⊢;simp only[jcg,hwn,Ku,h1,putT];exact ih
        · refine .inr ⟨v,tmps,O',?_,h2⟩
          simp only[jcg,hwn,Ku,h0,h1]
      | some d =>
        obtain⟨hd,hw⟩:=hw
        rcases jgL h hw with⟨v,O',h1,h2⟩|⟨v,O',h0,h1,h2⟩
        · have ih:=jc1 (rnd:=rnd) (D:=D) l (h.upd hd v) h2
          unfold EndL at ih ⊢;simp only[jcg,hwn,Ku,h1];exact ih
        · refine .inr ⟨v,tmps,O',?_,h2⟩
          simp only[jcg,hwn,Ku,h0,h1]
    have no:∀(T2:Tm),T2=T->(match dst with
          |none=>wpLX E X mutb n ops l T2 O k
          |some d=>d<n/\wpLX E X mutb n ops l (upd T2 d (.tup [])) O k)->Region.wanted (⟨dst,op,t,p,a,some (j,b)⟩:Oper) (jaD ops tmps)=false->EndL E rnd n X mutb ops (⟨dst,op,t,p,a,some (j,b)⟩::l) tmps D O k:=by
      intro T2 e hw hwn;subst e;unfold EndL;simp only[jcg,hwn,Km,Ks];cases dst with
      |none=>exact jc1 l h hw
      |some d=>exact jc1 l (h.upd hw.1 _) hw.2
    cases b0 with
    | true =>
      have hw:=hT rfl;cases b with
      |true=>cases dst<;>exact go _ (jdS hTd) hw (by simp[Region.wanted,hy])
      |false=>cases dst<;>exact no _ (jdS hTd) hw (by simp[Region.wanted,hy])
    | false =>
      have hw:=hF rfl;cases b with
      |false=>cases dst<;>exact go _ (jdS hTd) hw (by simp[Region.wanted,hy])
      |true=>cases dst<;>exact no _ (jdS hTd) hw (by simp[Region.wanted,hy])
end
section
variable (E:Env)(fn:FuncId)(rnd:Option Nat)(n:Nat)(X:V->List DE->S->Prop)
def jo4(c:Code)(T:Tm)(D:List DE)(O:S)(Q:Post):Prop :=
 ∀tmps,Rep n T tmps->∃r,ev E (.loop fn rnd c tmps D O)=some r/\Post.ofP n Q (λv _ D O=>X v D O) r
def wpCX:Code->Tm->List DE->S->Post->Prop
 | .skip,T,D,O,Q=>Q.norm T D O
 | .exit i,T,D,O,Q=>Q.exit i T D O
 | .ret,T,D,O,Q=>Q.ret T D O
 | .seq a b,T,D,O,Q=>wpCX a T D O ⟨λT D O=>wpCX b T D O Q,Q.exit,Q.ret⟩
 | .cond (.tmp t) a b,T,D,O,Q=>t<n/\Br (T t) (wpCX a (upd T t (.bool true)) D O Q) (wpCX b (upd T t (.bool false)) D O Q)
 | .block id c,T,D,O,Q=>wpCX c T D O ⟨Q.norm,λi T D O=>if i=id then Q.norm T D O else Q.exit i T D O,Q.ret⟩
 | .loop c,T,D,O,Q=>jo4 E fn rnd n X c T D O Q
 | .scope c,T,D,O,Q=>wpCX c T D O Q
 | .label _,T,D,O,Q=>Q.norm T D O
 | .region id ops false,T,D,O,Q=>wpLX E (λv O=>X v D O) (E.mutb fn id) n ops ops.toList T O λT O=>Q.norm T D O
 | .region id ops true,T,D,O,Q =>
  match E.stab fn id with
  |false=>jgV E ops=true/\wpLX E (λ_ _=>False) (E.mutb fn id) n ops ops.toList T O λT O=>Q.norm T D O
  |true=>wpP E fn rnd n (λv _ D O=>X v D O) (.region id ops true) T D O Q
 |c,T,D,O,Q=>wpP E fn rnd n (λv _ D O=>X v D O) c T D O Q
variable {E}
theorem juB {mutb:Bool}{T:Tm}{O O':S}{op:Op}{v:V}(h:opKX E mutb T O op=some (.inl v,O')):opT E mutb T O op=some (v,O'):=by
 unfold opKX at h;split at h
 ·rename_i x;cases hx:jaK E T x with
  |none=>rw[hx]at h;simp at h
  |some u =>
   rw[hx]at h;simp only[Kn,panV]at h;split at h<;>simp at h
 ·rename_i g args ats
  have e:opT E mutb T O (.call ⟨.value g,args,ats⟩)=(jaK E T g).bind λgv=>(jbw (jaK E T) args.toList).bind λas=>jdt E (ev E) gv as O:=by
   unfold opT;simp only[jbp,jbu]
  rw[e];cases hg:jaK E T g with
  |none=>rw[hg]at h;simp at h
  | some gv =>
   cases ha:jbw (jaK E T) args.toList with
   |none=>rw[hg,ha]at h;simp at h
   | some as =>
    rw[hg,ha]at h;simp only[Kn]at h ⊢;unfold jlm at h;split at h
    ·unfold jbP at h;split at h
     ·rename_i hc;simp only[Kg,Kh,Sum.inl.injEq]at h;obtain⟨rfl,rfl⟩:=h;exact hc
     ·simp only[Ko,Kh]at h;obtain⟨_,_,h,_⟩:=h;cases h
    ·simp only[Ko,Kh,Sum.inl.injEq]at h;obtain⟨⟨v,s⟩,hc,rfl,rfl⟩:=h;exact hc
 ·simp only[Ko,Kh,Sum.inl.injEq]at h;obtain⟨⟨v,s⟩,hc,rfl,rfl⟩:=h;exact hc
theorem jeq {mutb:Bool}{T:Tm}{O:S}{op:Op}{k k':V->S->Prop}(h:wpOX E (λ_ _=>False) mutb T O op k)(hk:∀v s,k v s->k' v s):wpO E mutb T O op k':=by
 obtain⟨⟨r,s⟩,h1,h2⟩:=h;cases r with
 |inl v=>exact⟨(v,s),juB h1,hk v s h2⟩
 |inr v=>exact h2.elim
theorem juC {v:V}{A B C A' B' C':Prop}(h:Br3 v A B C)(a:A->A')(b:B->B')(c:C->C'):Br3 v A' B' C':=by
 rcases h with⟨h1,h2⟩|⟨x,h1,h2,h3⟩
 ·exact .inl ⟨h1,c h2⟩
 ·exact .inr ⟨x,h1,λe=>a (h2 e),λe=>b (h3 e)⟩
theorem jb9 {mutb:Bool}{n:Nat}{ops:Array Oper}:∀(l:List Oper) {T:Tm} {O:S} {k:Tm->S->Prop},wpLX E (λ_ _=>False) mutb n ops l T O k->wpL E mutb n ops l T O k
 | [],T,O,k,h=>h
 |⟨dst,op,t,p,a,none⟩::l,T,O,k,h=>by
  simp only[wpLX,wpL]at h ⊢;cases dst with
  |none=>exact jeq h λv s h=>jb9 l h
  |some d=>exact⟨h.1,jeq h.2 λv s h=>jb9 l h⟩
 | ⟨dst,op,t,p,a,some (j,b)⟩::l,T,O,k,h=>by
  simp only[wpLX,wpL]at h ⊢;obtain⟨dj,hdj,hlt,hb⟩:=h;refine⟨dj,hdj,hlt,juC hb (λh => ?_) (λh => ?_) (λh => ?_)⟩
  ·cases b<;>cases dst
   ·exact jb9 l h
   ·exact⟨h.1,jb9 l h.2⟩
   ·exact jeq h λv s h=>jb9 l h
   ·exact⟨h.1,jeq h.2 λv s h=>jb9 l h⟩
  ·cases b<;>cases dst
   ·exact jeq h λv s h=>jb9 l h
   ·exact⟨h.1,jeq h.2 λv s h=>jb9 l h⟩
   ·exact jb9 l h
   ·exact⟨h.1,jb9 l h.2⟩
  ·cases dst
   ·exact jb9 l h
   ·exact⟨h.1,jb9 l h.2⟩
variable {fn rnd n X}
theorem jdr:∀(c:Code) {T:Tm} {D:List DE} {O:S} {Q:Post},wpCX E fn rnd n X c T D O Q->wpP E fn rnd n (λv _ D O=>X v D O) c T D O Q
 | .skip,T,D,O,Q,h=>λtmps hr=>⟨_,rfl,T,hr,h⟩
 | .exit i,T,D,O,Q,h=>λtmps hr=>⟨_,rfl,T,hr,h⟩
 | .ret,T,D,O,Q,h=>λtmps hr=>⟨_,rfl,T,hr,h⟩
 | .seq a b,T,D,O,Q,h=>jhe (λtmps hr=>by
   obtain⟨⟨ex,vals,d,st⟩,h1,hq⟩:=jdr a h tmps hr;refine⟨_,h1,?_⟩;cases ex with
   |normal =>
    obtain⟨T1,hr1,hq⟩:=hq;exact⟨T1,hr1,jdr b hq⟩
   |exit i=>exact hq
   |ret=>exact hq
   |pan v=>exact hq)
 | .cond (.tmp t) a b,T,D,O,Q,h=>by
   obtain⟨hlt,b0,hb0,hT,hF⟩:=h;have hTd:=jcM hb0;refine jpY hTd ?_;cases b0 with
   |true =>
    have hw:=hT rfl;rw[jdS hTd]at hw;exact jdr a hw
   |false =>
    have hw:=hF rfl;rw[jdS hTd]at hw;exact jdr b hw
 | .cond (.const v) a b,T,D,O,Q,h=>h
 | .cond (.global v) a b,T,D,O,Q,h=>h
 | .cond (.func v) a b,T,D,O,Q,h=>h
 | .block id c,T,D,O,Q,h=>jsK (jdr c h)
 | .loop c,T,D,O,Q,h=>λtmps hr=>h tmps hr
 | .region id ops false,T,D,O,Q,h=>λtmps hr=>by
   rcases jc1 (rnd:=rnd) (D:=D) ops.toList hr h with⟨tmps',O',T',h1,h2,h3⟩|⟨v,tmps',O',h1,h2⟩
   ·refine⟨⟨.normal,tmps',D,O'⟩,?_,T',h2,h3⟩;rw[jeg,h1];rfl
   ·refine⟨⟨.pan v,tmps',D,O'⟩,?_,h2⟩;rw[jeg,h1];rfl
 | .region id ops true,T,D,O,Q,h=>by
   simp only[wpCX]at h;cases hs:E.stab fn id with
   |false =>
    simp only[hs]at h;obtain⟨hd,h⟩:=h;refine jvS λtmps hr => ?_
    obtain⟨tmps',O',T',h1,h2,h3⟩:=jb4 E ops.toList hr (jb9 _ h);exact⟨_,jg8 hd h1,T',h2,h3⟩
   |true =>
    simp only[hs]at h;exact h
 | .rangeFunc _ _ _ _,T,D,O,Q,h=>h
 | .scope c,T,D,O,Q,h=>λtmps hr=>by simp only[jbf];exact jdr c h tmps hr
 | .label _,T,D,O,Q,h=>λtmps hr=>⟨_,rfl,T,hr,h⟩
 | .goto _,T,D,O,Q,h=>h
 | .refuse _,T,D,O,Q,h=>h
end
section
variable (E:Env)(fn:FuncId)(rnd:Option Nat)(n:Nat)(X:V->List DE->S->Prop)
def Kt.postX(Q:Post):List Kt->Post
 | []=>Q
 | .code b::r=>⟨λT D O=>wpCX E fn rnd n X b T D O (Kt.postX Q r),(Kt.postX Q r).exit,(Kt.postX Q r).ret⟩
 | .blk id::r=>⟨(Kt.postX Q r).norm,λi T D O=>if i=id then(Kt.postX Q r).norm T D O else(Kt.postX Q r).exit i T D O,(Kt.postX Q r).ret⟩
def H(Q:Post)(ks:List Kt)(c:Code)(T:Tm)(D:List DE)(O:S):Prop:=wpCX E fn rnd n X c T D O (Kt.postX E fn rnd n X Q ks)
def HL(Q:Post)(ks:List Kt)(Y:V->S->Prop)(m:Bool)(ops:Array Oper)(l:List Oper)(T:Tm)(D:List DE)(O:S):Prop :=
 wpLX E Y m n ops l T O λT O=>(Kt.postX E fn rnd n X Q ks).norm T D O
def HS(Q:Post)(ks:List Kt)(Y:V->S->Prop)(m:Bool)(ops:Array Oper)(l:List Oper)(T:Tm)(D:List DE)(d:Nat)(o:Option (V × S)):Prop :=
 V1 o λp=>HL E fn rnd n X Q ks Y m ops l (upd T d p.1) D p.2
def HN(Q:Post)(ks:List Kt)(Y:V->S->Prop)(m:Bool)(ops:Array Oper)(l:List Oper)(T:Tm)(D:List DE)(o:Option (V × S)):Prop :=
 V1 o λp=>HL E fn rnd n X Q ks Y m ops l T D p.2
def HX(Q:Post)(ks:List Kt)(Y:V->S->Prop)(m:Bool)(ops:Array Oper)(l:List Oper)(T:Tm)(D:List DE)(d:Nat)(o:Option (Sum V V × S)):Prop :=
 V1 o (KX Y λv O=>HL E fn rnd n X Q ks Y m ops l (upd T d v) D O)
def HXN(Q:Post)(ks:List Kt)(Y:V->S->Prop)(m:Bool)(ops:Array Oper)(l:List Oper)(T:Tm)(D:List DE)(o:Option (Sum V V × S)):Prop :=
 V1 o (KX Y λv O=>HL E fn rnd n X Q ks Y m ops l T D O)
def HO(Q:Post)(ks:List Kt)(Y:V->S->Prop)(m:Bool)(ops:Array Oper)(l:List Oper)(T:Tm)(D:List DE)(O:S)(d:Nat)(op:Op):Prop :=
 HX E fn rnd n X Q ks Y m ops l T D d (opKX E m T O op)
def HON(Q:Post)(ks:List Kt)(Y:V->S->Prop)(m:Bool)(ops:Array Oper)(l:List Oper)(T:Tm)(D:List DE)(O:S)(op:Op):Prop :=
 HXN E fn rnd n X Q ks Y m ops l T D (opKX E m T O op)
def HB(Q:Post)(ks:List Kt)(a b:Code)(T:Tm)(D:List DE)(O:S)(t:Nat)(v:V):Prop :=
 Br v (H E fn rnd n X Q ks a (upd T t (.bool true)) D O) (H E fn rnd n X Q ks b (upd T t (.bool false)) D O)
def HG(Q:Post)(ks:List Kt)(Y:V->S->Prop)(m:Bool)(ops:Array Oper)(l:List Oper)(T:Tm)(D:List DE)(O:S)(d:Nat)(op:Op)(b:Bool)(g:Nat)(v:V):Prop :=
 Br3 v
  (match b with
   |true=>HO E fn rnd n X Q ks Y m ops l (upd T g (.bool true)) D O d op
   |false=>HL E fn rnd n X Q ks Y m ops l (upd (upd T g (.bool true)) d (.tup [])) D O)
  (match b with
   |true=>HL E fn rnd n X Q ks Y m ops l (upd (upd T g (.bool false)) d (.tup [])) D O
   |false=>HO E fn rnd n X Q ks Y m ops l (upd T g (.bool false)) D O d op)
  (HL E fn rnd n X Q ks Y m ops l (upd T d (.tup [])) D O)
end
section
variable {E:Env}{fn:FuncId}{rnd:Option Nat}{n:Nat}{X:V->List DE->S->Prop}{Q:Post}{ks:List Kt}{Y:V->S->Prop}{m:Bool}{ops:Array Oper}{l:List Oper}{T:Tm}{D:List DE}{O:S}
theorem jyg(a b:Code):H E fn rnd n X Q ks (.seq a b) T D O=H E fn rnd n X Q (.code b::ks) a T D O:=rfl
theorem jsL(id:Nat)(c:Code):H E fn rnd n X Q ks (.block id c) T D O=H E fn rnd n X Q (.blk id::ks) c T D O:=rfl
theorem jj3(c:Code):H E fn rnd n X Q (.code c::ks) .skip T D O=H E fn rnd n X Q ks c T D O:=rfl
theorem jln(id:Nat):H E fn rnd n X Q (.blk id::ks) .skip T D O=H E fn rnd n X Q ks .skip T D O:=rfl
theorem jlo:H E fn rnd n X Q [] .skip T D O=Q.norm T D O:=rfl
theorem jj4(c:Code)(i:Nat):H E fn rnd n X Q (.code c::ks) (.exit i) T D O=H E fn rnd n X Q ks (.exit i) T D O:=rfl
theorem jlp(id i:Nat):H E fn rnd n X Q (.blk id::ks) (.exit i) T D O=if i=id then H E fn rnd n X Q ks .skip T D O else H E fn rnd n X Q ks (.exit i) T D O:=rfl
theorem jlq(i:Nat):H E fn rnd n X Q [] (.exit i) T D O=Q.exit i T D O:=rfl
theorem jlr(c:Code):H E fn rnd n X Q (.code c::ks) .ret T D O=H E fn rnd n X Q ks .ret T D O:=rfl
theorem jnq(id:Nat):H E fn rnd n X Q (.blk id::ks) .ret T D O=H E fn rnd n X Q ks .ret T D O:=rfl
theorem jnr:H E fn rnd n X Q [] .ret T D O=Q.ret T D O:=rfl
theorem jvT(t:Nat)(a b:Code):H E fn rnd n X Q ks (.cond (.tmp t) a b) T D O=(t<n/\HB E fn rnd n X Q ks a b T D O t (T t)):=rfl
theorem jvU(c:Code):H E fn rnd n X Q ks (.loop c) T D O=jo4 E fn rnd n X c T D O (Kt.postX E fn rnd n X Q ks):=rfl
theorem jsM(c:Code):H E fn rnd n X Q ks (.scope c) T D O=H E fn rnd n X Q ks c T D O:=rfl
theorem jsN(l:Nat):H E fn rnd n X Q ks (.label l) T D O=H E fn rnd n X Q ks .skip T D O:=rfl
theorem jaj(id:Nat)(l:List Oper):H E fn rnd n X Q ks (.region id l.toArray false) T D O=HL E fn rnd n X Q ks (λv O=>X v D O) (E.mutb fn id) l.toArray l T D O:=rfl
theorem jax(id:Nat)(l:List Oper)(hs:E.stab fn id=false):H E fn rnd n X Q ks (.region id l.toArray true) T D O=(jgV E l.toArray=true/\HL E fn rnd n X Q ks (λ_ _=>False) (E.mutb fn id) l.toArray l T D O):=by
 unfold H wpCX;simp only[hs];rfl
theorem jvV:HL E fn rnd n X Q ks Y m ops [] T D O=H E fn rnd n X Q ks .skip T D O:=rfl
theorem jyh(d:Nat)(op:Op)(t:TypeId)(p:String)(a:Array Edge):HL E fn rnd n X Q ks Y m ops (⟨some d,op,t,p,a,none⟩::l) T D O=(d<n/\HO E fn rnd n X Q ks Y m ops l T D O d op):=rfl
theorem jsO(op:Op)(t:TypeId)(p:String)(a:Array Edge):HL E fn rnd n X Q ks Y m ops (⟨none,op,t,p,a,none⟩::l) T D O=HON E fn rnd n X Q ks Y m ops l T D O op:=rfl
theorem jp4(d:Nat)(op:Op)(t:TypeId)(p:String)(a:Array Edge)(j:Nat)(b:Bool):HL E fn rnd n X Q ks Y m ops (⟨some d,op,t,p,a,some (j,b)⟩::l) T D O =
  V1 ((ops[j]?).bind (·.dst)) λg=>g<n/\d<n/\HG E fn rnd n X Q ks Y m ops l T D O d op b g (T g):=by
 unfold HL HG HO HX;refine congrArg (V1 _) (funext λg => ?_);by_cases hd:d<n
 ·cases b<;>simp only[hd,true_and]<;>rfl
 ·cases b<;>simp only[hd,false_and,and_false,jpS]
theorem jls:(Kt.postX E fn rnd n X Q ks).norm T D O=H E fn rnd n X Q ks .skip T D O:=rfl
theorem jlt(i:Nat):(Kt.postX E fn rnd n X Q ks).exit i T D O=H E fn rnd n X Q ks (.exit i) T D O:=rfl
theorem jns:(Kt.postX E fn rnd n X Q ks).ret T D O=H E fn rnd n X Q ks .ret T D O:=rfl
theorem jsP(d:Nat)(v:V)(O':S):HS E fn rnd n X Q ks Y m ops l T D d (some (v,O'))=HL E fn rnd n X Q ks Y m ops l (upd T d v) D O':=by simp only[HS,Yy]
theorem jvW(d:Nat)(c:Prop)[Decidable c](o:Option (V × S)):HS E fn rnd n X Q ks Y m ops l T D d (if c then o else none)=(c/\HS E fn rnd n X Q ks Y m ops l T D d o):=by simp only[HS,jlf]
theorem jsQ(d:Nat)(c:Prop)[Decidable c](o:Option (V × S)):HS E fn rnd n X Q ks Y m ops l T D d (if c then none else o)=(¬c/\HS E fn rnd n X Q ks Y m ops l T D d o):=by simp only[HS,jiy]
theorem jsR(v:V)(O':S):HN E fn rnd n X Q ks Y m ops l T D (some (v,O'))=HL E fn rnd n X Q ks Y m ops l T D O':=by simp only[HN,Yy]
theorem jvX(c:Prop)[Decidable c](o:Option (V × S)):HN E fn rnd n X Q ks Y m ops l T D (if c then o else none)=(c/\HN E fn rnd n X Q ks Y m ops l T D o):=by simp only[HN,jlf]
theorem jsS(c:Prop)[Decidable c](o:Option (V × S)):HN E fn rnd n X Q ks Y m ops l T D (if c then none else o)=(¬c/\HN E fn rnd n X Q ks Y m ops l T D o):=by simp only[HN,jiy]
theorem jp5(d:Nat)(v:V)(O':S):HX E fn rnd n X Q ks Y m ops l T D d (some (.inl v,O'))=HL E fn rnd n X Q ks Y m ops l (upd T d v) D O':=by simp only[HX,Yy,KX]
theorem jsT(d:Nat)(v:V)(O':S):HX E fn rnd n X Q ks Y m ops l T D d (some (.inr v,O'))=Y v O':=by simp only[HX,Yy,KX]
theorem jsU(v:V)(O':S):HXN E fn rnd n X Q ks Y m ops l T D (some (.inl v,O'))=HL E fn rnd n X Q ks Y m ops l T D O':=by simp only[HXN,Yy,KX]
theorem jsV(v:V)(O':S):HXN E fn rnd n X Q ks Y m ops l T D (some (.inr v,O'))=Y v O':=by simp only[HXN,Yy,KX]
theorem jsW(a b:Code)(t:Nat):HB E fn rnd n X Q ks a b T D O t (.bool true)=H E fn rnd n X Q ks a (upd T t (.bool true)) D O:=jmd _ _
theorem jp6(a b:Code)(t:Nat):HB E fn rnd n X Q ks a b T D O t (.bool false)=H E fn rnd n X Q ks b (upd T t (.bool false)) D O:=jjq _ _
theorem jvY(a b:Code)(t:Nat)(p:Prop)[Decidable p]:HB E fn rnd n X Q ks a b T D O t (.bool (decide p))=((p->H E fn rnd n X Q ks a (upd T t (.bool true)) D O)/\(¬p->H E fn rnd n X Q ks b (upd T t (.bool false)) D O)):=by
 simp only[HB,joV,Qn,decide_eq_false_iff_not]
theorem jvZ(d:Nat)(op:Op)(b:Bool)(g:Nat):HG E fn rnd n X Q ks Y m ops l T D O d op b g (.tup [])=HL E fn rnd n X Q ks Y m ops l (upd T d (.tup [])) D O:=jsf _ _ _
theorem ji1(d:Nat)(op:Op)(g:Nat):HG E fn rnd n X Q ks Y m ops l T D O d op true g (.bool true)=HO E fn rnd n X Q ks Y m ops l (upd T g (.bool true)) D O d op:=jjr _ _ _
theorem jhO(d:Nat)(op:Op)(g:Nat):HG E fn rnd n X Q ks Y m ops l T D O d op true g (.bool false)=HL E fn rnd n X Q ks Y m ops l (upd (upd T g (.bool false)) d (.tup [])) D O:=jhG _ _ _
theorem jhP(d:Nat)(op:Op)(g:Nat):HG E fn rnd n X Q ks Y m ops l T D O d op false g (.bool true)=HL E fn rnd n X Q ks Y m ops l (upd (upd T g (.bool true)) d (.tup [])) D O:=jjr _ _ _
theorem jgX(d:Nat)(op:Op)(g:Nat):HG E fn rnd n X Q ks Y m ops l T D O d op false g (.bool false)=HO E fn rnd n X Q ks Y m ops l (upd T g (.bool false)) D O d op:=jhG _ _ _
theorem jj5(d:Nat)(op:Op)(g:Nat)(p:Prop)[Decidable p]:HG E fn rnd n X Q ks Y m ops l T D O d op true g (.bool (decide p))=((p->HO E fn rnd n X Q ks Y m ops l (upd T g (.bool true)) D O d op)/\(¬p->HL E fn rnd n X Q ks Y m ops l (upd (upd T g (.bool false)) d (.tup [])) D O)):=by
 simp only[HG,jjs,Qn,decide_eq_false_iff_not]
theorem ji2(d:Nat)(op:Op)(g:Nat)(p:Prop)[Decidable p]:HG E fn rnd n X Q ks Y m ops l T D O d op false g (.bool (decide p))=((p->HL E fn rnd n X Q ks Y m ops l (upd (upd T g (.bool true)) d (.tup [])) D O)/\(¬p->HO E fn rnd n X Q ks Y m ops l (upd T g (.bool false)) D O d op)):=by
 simp only[HG,jjs,Qn,decide_eq_false_iff_not]
theorem jsX(d:Nat)(g:Operand)(as:Array Operand)(ts:Array TypeId):HO E fn rnd n X Q ks Y m ops l T D O d (.call ⟨.value g,as,ts⟩)=HX E fn rnd n X Q ks Y m ops l T D d ((jaK E T g).bind λgv=>(jbw (jaK E T) as.toList).bind λas=>jlm E gv as O):=rfl
theorem jp7(g:Operand)(as:Array Operand)(ts:Array TypeId):HON E fn rnd n X Q ks Y m ops l T D O (.call ⟨.value g,as,ts⟩)=HXN E fn rnd n X Q ks Y m ops l T D ((jaK E T g).bind λgv=>(jbw (jaK E T) as.toList).bind λas=>jlm E gv as O):=rfl
theorem jp8(d:Nat)(x:Operand):HO E fn rnd n X Q ks Y m ops l T D O d (.panic x)=HX E fn rnd n X Q ks Y m ops l T D d ((jaK E T x).bind λv=>panV v O):=rfl
theorem jnt(x:Operand):HON E fn rnd n X Q ks Y m ops l T D O (.panic x)=HXN E fn rnd n X Q ks Y m ops l T D ((jaK E T x).bind λv=>panV v O):=rfl
theorem jo5(t:TypeId)(u:V)(O:S):panV (.iface t u) O=some (.inr (.iface t u),O):=rfl
theorem jj6(f:FuncId)(a c as:List V)(O:S):jlm E (.func f a c) as O=jbP E f (a++as++c) O:=rfl
theorem jc6 {d:Nat}{op:Op}(h:opKX E m T O op=(opT E m T O op).map λp=>(.inl p.1,p.2)):HO E fn rnd n X Q ks Y m ops l T D O d op=HS E fn rnd n X Q ks Y m ops l T D d (opT E m T O op):=by
 unfold HO HX HS;rw[h,jvR];rfl
theorem ji3 {op:Op}(h:opKX E m T O op=(opT E m T O op).map λp=>(.inl p.1,p.2)):HON E fn rnd n X Q ks Y m ops l T D O op=HN E fn rnd n X Q ks Y m ops l T D (opT E m T O op):=by
 unfold HON HXN HN;rw[h,jvR];rfl
theorem jsY(d:Nat)(x:Operand):HO E fn rnd n X Q ks Y m ops l T D O d (.move x)=HS E fn rnd n X Q ks Y m ops l T D d (opT E m T O (.move x)):=jc6 rfl
theorem jp9(x:Operand):HON E fn rnd n X Q ks Y m ops l T D O (.move x)=HN E fn rnd n X Q ks Y m ops l T D (opT E m T O (.move x)):=ji3 rfl
theorem jnu(d:Nat)(x:Operand):HO E fn rnd n X Q ks Y m ops l T D O d (.assign x)=HS E fn rnd n X Q ks Y m ops l T D d (opT E m T O (.assign x)):=jc6 rfl
theorem jlu(x:Operand):HON E fn rnd n X Q ks Y m ops l T D O (.assign x)=HN E fn rnd n X Q ks Y m ops l T D (opT E m T O (.assign x)):=ji3 rfl
theorem jsZ(d:Nat)(a b c:Operand):HO E fn rnd n X Q ks Y m ops l T D O d (.pick a b c)=HS E fn rnd n X Q ks Y m ops l T D d (opT E m T O (.pick a b c)):=jc6 rfl
theorem jqa(d:Nat)(t:TypeId):HO E fn rnd n X Q ks Y m ops l T D O d (.alloc t)=HS E fn rnd n X Q ks Y m ops l T D d (opT E m T O (.alloc t)):=jc6 rfl
theorem jv0(d:Nat)(t:TypeId)(x:Operand):HO E fn rnd n X Q ks Y m ops l T D O d (.box t x)=HS E fn rnd n X Q ks Y m ops l T D d (opT E m T O (.box t x)):=jc6 rfl
theorem jqb(d:Nat)(t:TypeId)(ps:Array (Nat × Operand)):HO E fn rnd n X Q ks Y m ops l T D O d (.build t ps)=HS E fn rnd n X Q ks Y m ops l T D d (opT E m T O (.build t ps)):=jc6 rfl
theorem jhQ(d:Nat)(t:TypeId)(k:Nat)(ps:Array (Nat × Operand)):HO E fn rnd n X Q ks Y m ops l T D O d (.buildSlice t k ps)=HS E fn rnd n X Q ks Y m ops l T D d (opT E m T O (.buildSlice t k ps)):=jc6 rfl
theorem jnv(d:Nat)(t:TypeId)(a b c:Operand):HO E fn rnd n X Q ks Y m ops l T D O d (.insert t a b c)=HS E fn rnd n X Q ks Y m ops l T D d (opT E m T O (.insert t a b c)):=jc6 rfl
theorem jlv(t:TypeId)(a b c:Operand):HON E fn rnd n X Q ks Y m ops l T D O (.insert t a b c)=HN E fn rnd n X Q ks Y m ops l T D (opT E m T O (.insert t a b c)):=ji3 rfl
theorem js0(d:Nat)(t:TypeId)(x:Operand):HO E fn rnd n X Q ks Y m ops l T D O d (.load t x)=HS E fn rnd n X Q ks Y m ops l T D d (opT E m T O (.load t x)):=jc6 rfl
theorem jqc(d:Nat)(t:TypeId)(a b:Operand):HO E fn rnd n X Q ks Y m ops l T D O d (.store t a b)=HS E fn rnd n X Q ks Y m ops l T D d (opT E m T O (.store t a b)):=jc6 rfl
theorem jnw(t:TypeId)(a b:Operand):HON E fn rnd n X Q ks Y m ops l T D O (.store t a b)=HN E fn rnd n X Q ks Y m ops l T D (opT E m T O (.store t a b)):=ji3 rfl
theorem jj7(d:Nat)(x:Operand):HO E fn rnd n X Q ks Y m ops l T D O d (.nilCheck x)=HS E fn rnd n X Q ks Y m ops l T D d (opT E m T O (.nilCheck x)):=jc6 rfl
theorem ji4(x:Operand):HON E fn rnd n X Q ks Y m ops l T D O (.nilCheck x)=HN E fn rnd n X Q ks Y m ops l T D (opT E m T O (.nilCheck x)):=ji3 rfl
theorem jqd(d:Nat)(o:BinOp)(t:TypeId)(x y:Operand)(u:TypeId):HO E fn rnd n X Q ks Y m ops l T D O d (.binOp o t x y u)=HS E fn rnd n X Q ks Y m ops l T D d (opT E m T O (.binOp o t x y u)):=jc6 rfl
theorem js1(d:Nat)(o:UnOp)(t:TypeId)(x:Operand):HO E fn rnd n X Q ks Y m ops l T D O d (.unOp o t x)=HS E fn rnd n X Q ks Y m ops l T D d (opT E m T O (.unOp o t x)):=jc6 rfl
theorem jlw(d:Nat)(s d:TypeId)(x:Operand):HO E fn rnd n X Q ks Y m ops l T D O d (.convert s d x)=HS E fn rnd n X Q ks Y m ops l T D d (opT E m T O (.convert s d x)):=jc6 rfl
theorem jfW(d:Nat)(t:TypeId)(x:Operand):HO E fn rnd n X Q ks Y m ops l T D O d (.makeInterface t x)=HS E fn rnd n X Q ks Y m ops l T D d (opT E m T O (.makeInterface t x)):=jc6 rfl
theorem jj8(d:Nat)(f:Fn)(a c:Array Operand):HO E fn rnd n X Q ks Y m ops l T D O d (.makeFunc f a c)=HS E fn rnd n X Q ks Y m ops l T D d (opT E m T O (.makeFunc f a c)):=jc6 rfl
theorem jlx(d:Nat)(t:TypeId)(r:Option Operand):HO E fn rnd n X Q ks Y m ops l T D O d (.makeMap t r)=HS E fn rnd n X Q ks Y m ops l T D d (opT E m T O (.makeMap t r)):=jc6 rfl
theorem ji5(d:Nat)(t:TypeId)(a b:Operand):HO E fn rnd n X Q ks Y m ops l T D O d (.makeSlice t a b)=HS E fn rnd n X Q ks Y m ops l T D d (opT E m T O (.makeSlice t a b)):=jc6 rfl
theorem jqe(d:Nat)(t:TypeId)(x:Operand)(a b c:Option Operand):HO E fn rnd n X Q ks Y m ops l T D O d (.slice t x a b c)=HS E fn rnd n X Q ks Y m ops l T D d (opT E m T O (.slice t x a b c)):=jc6 rfl
theorem ji6(d:Nat)(t:TypeId)(x:Operand)(k:Nat):HO E fn rnd n X Q ks Y m ops l T D O d (.fieldAddr t x k)=HS E fn rnd n X Q ks Y m ops l T D d (opT E m T O (.fieldAddr t x k)):=jc6 rfl
theorem jqf(d:Nat)(t:TypeId)(x:Operand)(k:Nat):HO E fn rnd n X Q ks Y m ops l T D O d (.field t x k)=HS E fn rnd n X Q ks Y m ops l T D d (opT E m T O (.field t x k)):=jc6 rfl
theorem ji7(d:Nat)(t:TypeId)(a b:Operand):HO E fn rnd n X Q ks Y m ops l T D O d (.indexAddr t a b)=HS E fn rnd n X Q ks Y m ops l T D d (opT E m T O (.indexAddr t a b)):=jc6 rfl
theorem jqg(d:Nat)(t:TypeId)(a b:Operand):HO E fn rnd n X Q ks Y m ops l T D O d (.index t a b)=HS E fn rnd n X Q ks Y m ops l T D d (opT E m T O (.index t a b)):=jc6 rfl
theorem jnx(d:Nat)(t:TypeId)(a b:Operand)(c:Bool):HO E fn rnd n X Q ks Y m ops l T D O d (.lookup t a b c)=HS E fn rnd n X Q ks Y m ops l T D d (opT E m T O (.lookup t a b c)):=jc6 rfl
theorem ji8(d:Nat)(t:TypeId)(a b c:Operand):HO E fn rnd n X Q ks Y m ops l T D O d (.mapUpdate t a b c)=HS E fn rnd n X Q ks Y m ops l T D d (opT E m T O (.mapUpdate t a b c)):=jc6 rfl
theorem jhR(t:TypeId)(a b c:Operand):HON E fn rnd n X Q ks Y m ops l T D O (.mapUpdate t a b c)=HN E fn rnd n X Q ks Y m ops l T D (opT E m T O (.mapUpdate t a b c)):=ji3 rfl
theorem jj9(d:Nat)(t:TypeId)(a b:Operand):HO E fn rnd n X Q ks Y m ops l T D O d (.mapEntry t a b)=HS E fn rnd n X Q ks Y m ops l T D d (opT E m T O (.mapEntry t a b)):=jc6 rfl
theorem jhS(d:Nat)(t:TypeId)(a b c:Operand):HO E fn rnd n X Q ks Y m ops l T D O d (.entryStore t a b c)=HS E fn rnd n X Q ks Y m ops l T D d (opT E m T O (.entryStore t a b c)):=jc6 rfl
theorem jgY(t:TypeId)(a b c:Operand):HON E fn rnd n X Q ks Y m ops l T D O (.entryStore t a b c)=HN E fn rnd n X Q ks Y m ops l T D (opT E m T O (.entryStore t a b c)):=ji3 rfl
theorem jhT(d:Nat)(x:Operand)(t u:TypeId)(c:Bool):HO E fn rnd n X Q ks Y m ops l T D O d (.typeAssert x t u c)=HS E fn rnd n X Q ks Y m ops l T D d (opT E m T O (.typeAssert x t u c)):=jc6 rfl
theorem jly(d:Nat)(x:Operand)(k:Nat):HO E fn rnd n X Q ks Y m ops l T D O d (.extract x k)=HS E fn rnd n X Q ks Y m ops l T D d (opT E m T O (.extract x k)):=jc6 rfl
theorem jlz(d:Nat)(b:Builtin)(as:Array Operand)(ts:Array TypeId):HO E fn rnd n X Q ks Y m ops l T D O d (.call ⟨.builtin b,as,ts⟩)=HS E fn rnd n X Q ks Y m ops l T D d (opT E m T O (.call ⟨.builtin b,as,ts⟩)):=jc6 rfl
theorem jka(b:Builtin)(as:Array Operand)(ts:Array TypeId):HON E fn rnd n X Q ks Y m ops l T D O (.call ⟨.builtin b,as,ts⟩)=HN E fn rnd n X Q ks Y m ops l T D (opT E m T O (.call ⟨.builtin b,as,ts⟩)):=ji3 rfl
theorem jny(d:Nat)(x:Operand)(s:String)(as:Array Operand)(ts:Array TypeId):HO E fn rnd n X Q ks Y m ops l T D O d (.call ⟨.invoke x s,as,ts⟩)=HS E fn rnd n X Q ks Y m ops l T D d (opT E m T O (.call ⟨.invoke x s,as,ts⟩)):=jc6 rfl
theorem jqh(d:Nat)(c:Call):HO E fn rnd n X Q ks Y m ops l T D O d (.defer c)=HS E fn rnd n X Q ks Y m ops l T D d (opT E m T O (.defer c)):=jc6 rfl
end
section
variable {E:Env}
theorem jcC {f:FuncId}{args:List V}{O O':S}{v:V}(h:jas E (ev E) f args O=some (v,O')):jbP E f args O=some (.inl v,O'):=by
 unfold jbP;rw[h]
theorem jaZ {f:FuncId}{args:List V}{O:S}{F:Go.Func}{body:Code}(hp:E.pure f=false)(hk:E.hook f=none)(hz:E.frz f=false)(hS:E.hookS f=none)(hf:E.P.funcs[f]? = some F)(hb:F.body=some body)(hn:F.name ≠ "runtime.NumGoroutine")(hl:args.length<=F.ntmps)
  {K:Sum V V->S->Prop} (hw:H E f none F.ntmps (λv D O'=>D=[]/\K (.inr v) O') ⟨wpR E F.results.toList λv O'=>K (.inl v) O',λ_ _ _ _=>False,wpR E F.results.toList λv O'=>K (.inl v) O'⟩ [] body (argT args) [] O) :
  ∃r O',jbP E f args O=some (r,O')/\K r O':=by
 obtain⟨⟨ex,vals,d,st⟩,h1,hq⟩:=jdr body hw _ (Rep.args args F.ntmps hl)
 have hret:(ex=.normal\/ex=.ret)->(∃T1,Rep F.ntmps T1 vals/\wpR E F.results.toList (λv O'=>K (.inl v) O') T1 d st)->∃r O',jbP E f args O=some (r,O')/\K r O':=by
  rintro he ⟨T1,hr1,h,hh,vs,hvs,hk2⟩;rw[<- hr1.res]at hvs;refine⟨.inl (jaW vs),⟨h,st.toks⟩,jcC ?_,hk2⟩
  have e1:ev E (.call f args O)=some ⟨.ret,[jaW vs],[],⟨h,st.toks⟩⟩:=jcf (by
   simp only[jcS,hf,hb,hn,Ks,h1]
   rcases he with rfl|rfl<;>simp only[hh,hvs])
  unfold jas;simp only[hk,hp,hz,hS,Km,Ks,e1]
 cases ex with
 |normal=>exact hret (.inl rfl) hq
 |ret=>exact hret (.inr rfl) hq
 |exit i=>obtain⟨_,_,h⟩:=hq;exact h.elim
 | pan x =>
  obtain⟨hd,hq⟩:=hq;simp only at hd;subst hd;have e1:ev E (.call f args O)=some ⟨.pan x,[],[],st⟩:=jcf (by simp only[jcS,hf,hb,hn,Ks,h1,finD,jcp]);refine⟨.inr x,st,?_,hq⟩
  have hc:jas E (ev E) f args O=none:=by
   unfold jas;simp only[hk,hp,hz,hS,Km,Ks,e1]
  have hP:jik E (ev E) f args O=some (x,st):=by
   unfold jik;simp only[hk,hp,hz,hS,Xl,Km,Ks,e1]
  unfold jbP;rw[hc,hP];rfl
theorem jiD {fn:FuncId}{rnd:Option Nat}{n:Nat}{X:V->List DE->S->Prop}{c:Code}{Q:Post}(I:Nat->Tm->List DE->S->Prop)(h:∀m T D O,I m T D O->H E fn rnd n X ⟨λT D O=>∃m',m'<m/\I m' T D O,Q.exit,Q.ret⟩ [] c T D O):∀m T D O,I m T D O->jo4 E fn rnd n X c T D O Q:=by
 intro m T D O hI tmps hr;obtain⟨r,h1,h2⟩:=juA (E:=E) (fn:=fn) (rnd:=rnd) (n:=n) (X:=λv _ D O=>X v D O) (c:=c) (Q:=Q) I (λm T D O hI=>jdr c (h m T D O hI)) m T D O hI tmps hr;exact⟨r,h1,h2⟩
end
theorem jv1(E:Env)(x:Operand):scOp E (.nilCheck x)=false:=rfl
theorem jv2(x:Operand):jbd (.nilCheck x)=false:=rfl
theorem jqi(E:Env)(t:TypeId):scOp E (.alloc t)=true:=rfl
theorem jqj(t:TypeId):jbd (.alloc t)=false:=rfl
theorem jv3(E:Env)(t:TypeId)(x:Operand):scOp E (.box t x)=true:=rfl
theorem jv4(t:TypeId)(x:Operand):jbd (.box t x)=false:=rfl
theorem jqk(E:Env)(t:TypeId)(ps:Array (Nat × Operand)):scOp E (.build t ps)=false:=rfl
theorem jql(t:TypeId)(ps:Array (Nat × Operand)):jbd (.build t ps)=false:=rfl
theorem jyi(t:TypeId)(n:Nat)(ps:Array (Nat × Operand)):jbd (.buildSlice t n ps)=false:=rfl
theorem jqm(E:Env)(t:TypeId)(x:Operand)(lo hi mx:Option Operand):scOp E (.slice t x lo hi mx)=false:=rfl
theorem jqn(t:TypeId)(x:Operand)(lo hi mx:Option Operand):jbd (.slice t x lo hi mx)=false:=rfl
theorem jv5(E:Env)(f:Fn)(a b:Array Operand):scOp E (.makeFunc f a b)=false:=rfl
theorem jv6(f:Fn)(a b:Array Operand):jbd (.makeFunc f a b)=false:=rfl
theorem jv7(E:Env)(t:TypeId)(x:Operand):scOp E (.makeInterface t x)=false:=rfl
theorem jv8(t:TypeId)(x:Operand):jbd (.makeInterface t x)=false:=rfl
theorem jv9(E:Env)(ag:Array Operand)(ts:Array TypeId):scOp E (.call ⟨.builtin .append,ag,ts⟩)=true:=rfl
theorem jwa(E:Env)(t:TypeId)(x:Option Operand):scOp E (.makeMap t x)=true:=rfl
theorem jwb(t:TypeId)(x:Option Operand):jbd (.makeMap t x)=false:=rfl
theorem jwc(E:Env)(t:TypeId)(x y z:Operand):scOp E (.insert t x y z)=true:=rfl
theorem jwd(t:TypeId)(x y z:Operand):jbd (.insert t x y z)=false:=rfl
theorem js2(E:Env)(t:TypeId)(x y:Operand)(b:Bool):scOp E (.lookup t x y b)=false:=rfl
theorem js3(t:TypeId)(x y:Operand)(b:Bool):jbd (.lookup t x y b)=true:=rfl
theorem jqo(E:Env)(t:TypeId)(x:Operand)(n:Nat):scOp E (.field t x n)=false:=rfl
theorem jqp(t:TypeId)(x:Operand)(n:Nat):jbd (.field t x n)=false:=rfl
theorem jqq(E:Env)(f:FuncId)(ag:Array Operand)(ts:Array TypeId):scOp E (.call ⟨.value (.func f),ag,ts⟩) = !(E.pure f ||(E.hook f).isSome):=rfl
section
variable {E:Env}{fn:FuncId}{rnd:Option Nat}{n:Nat}{Q:Post}{ks:List Kt}{m:Bool}{ops:Array Oper}{l:List Oper}{T:Tm}{D:List DE}{f:FuncId}{args:List V}{O:S}
theorem js4 {d:Nat}{K:V->S->Prop}(h:∃v O',jas E (ev E) f args O=some (v,O')/\K v O')(k:∀v O',K v O'->GL E fn rnd n Q ks m ops l (upd T d v) D O') :
  GS E fn rnd n Q ks m ops l T D d (jas E (ev E) f args O):=by
 obtain⟨v,O',h1,h2⟩:=h;rw[h1,Zu];exact k v O' h2
theorem jaU {X:V->List DE->S->Prop}{Y:V->S->Prop}{d:Nat}{K:Sum V V->S->Prop}(h:∃r O',jbP E f args O=some (r,O')/\K r O')(k:∀v O',K (.inl v) O'->HL E fn rnd n X Q ks Y m ops l (upd T d v) D O')(kx:∀v O',K (.inr v) O'->Y v O') :
  HX E fn rnd n X Q ks Y m ops l T D d (jbP E f args O):=by
 obtain⟨r,O',h1,h2⟩:=h;rw[h1];cases r with
 |inl v=>rw[jp5];exact k v O' h2
 |inr v=>rw[jsT];exact kx v O' h2
theorem jcw {X:V->List DE->S->Prop}{Y:V->S->Prop}{d:Nat}{K:V->S->Prop}(h:∃v O',jas E (ev E) f args O=some (v,O')/\K v O')(k:∀v O',K v O'->HL E fn rnd n X Q ks Y m ops l (upd T d v) D O') :
  HX E fn rnd n X Q ks Y m ops l T D d (jbP E f args O):=by
 obtain⟨v,O',h1,h2⟩:=h;rw[jcC h1,jp5];exact k v O' h2
end
theorem jgm {E:Env}{f:FuncId}{args:List V}{O O':S}{v:V}(h:jbP E f args O=some (.inl v,O')):jas E (ev E) f args O=some (v,O'):=by
 unfold jbP at h;split at h
 ·rename_i w s hc;simp only[Kg,Kh,Sum.inl.injEq]at h;rw[hc,h.1,h.2]
 ·simp only[Ko,Kh]at h;obtain⟨_,_,h,_⟩:=h;cases h
theorem jfk {E:Env}{f:FuncId}{args:List V}{O O':S}{v:V}(h:jbP E f args O=some (.inr v,O')):E.pure f=false/\E.hook f=none/\E.frz f=false/\E.hookS f=none/\ev E (.call f args O)=some ⟨.pan v,[],[],O'⟩:=by
 unfold jbP at h;split at h
 ·simp at h
 ·simp only[Ko,Kh,Sum.inr.injEq]at h;obtain⟨⟨x,s⟩,h1,h2,h3⟩:=h;simp only at h2 h3;subst h2 h3;unfold jik at h1;split at h1
  ·cases h1
  ·rename_i hk;split at h1
   ·cases h1
   ·rename_i hp;split at h1
    ·cases h1
    ·rename_i hz;split at h1
     ·cases h1
     ·rename_i hS;split at h1
      ·rename_i v' O1 he;simp only[Kg,Kh]at h1;obtain⟨rfl,rfl⟩:=h1;exact⟨by simpa using hp,hk,by simpa using hz,by simpa using hS,he⟩
      ·cases h1
theorem jkb {E:Env}{fn:FuncId}{rnd:Option Nat}{n:Nat}{X:V->List DE->S->Prop}{Q:Post}{ks:List Kt}{id:Nat}{ops:Array Oper}{T:Tm}{D:List DE}{O:S}(hs:E.stab fn id=true)
  (h:wpP E fn rnd n (λv _ D O=>X v D O) (.region id ops true) T D O (Kt.postX E fn rnd n X Q ks)):H E fn rnd n X Q ks (.region id ops true) T D O:=by
 unfold H wpCX;simp only[hs];exact h
theorem jcj {E:Env}{fn:FuncId}{rnd:Option Nat}{n:Nat}{X:V->List DE->S->Prop}{Q:Post}{ks:List Kt}{T:Tm}{D:List DE}{O:S}(k:Nat)(id:Nat)(l:List Oper)(h:(id==k)=false) :
  H E fn rnd n X Q ks (.region id l.toArray false) T D O=HL E fn rnd n X Q ks (λv O=>X v D O) (E.mutb fn id) l.toArray l T D O:=rfl
theorem jbq {E:Env}{fn:FuncId}{rnd:Option Nat}{n:Nat}{X:V->List DE->S->Prop}{Q:Post}{c:Code}{T:Tm}{D:List DE}{O:S}(h:H E fn rnd n X Q [] c T D O):wpCX E fn rnd n X c T D O Q:=h
theorem hhXa:type_of% (Kf @jyg (Kf @jsL (Kf @jj3 (Kf @jln (Kf @jlo (Kf @jj4 (Kf @jlp (Kf @jlq (Kf @jlr (Kf @jnq (Kf @jnr (@jvT)))))))))))):=Kf @jyg (Kf @jsL (Kf @jj3 (Kf @jln (Kf @jlo (Kf @jj4 (Kf @jlp (Kf @jlq (Kf @jlr (Kf @jnq (Kf @jnr (@jvT)))))))))))
theorem hhXb:type_of% (Kf @jvU (Kf @jvV (Kf @jyh (Kf @jsO (Kf @jp4 (Kf @jsP (Kf @jvW (Kf @jsQ (Kf @jsR (Kf @jvX (Kf @jsS (@jsW)))))))))))):=Kf @jvU (Kf @jvV (Kf @jyh (Kf @jsO (Kf @jp4 (Kf @jsP (Kf @jvW (Kf @jsQ (Kf @jsR (Kf @jvX (Kf @jsS (@jsW)))))))))))
theorem hhXc:type_of% (Kf @jp6 (Kf @jvY (Kf @jvZ (Kf @ji1 (Kf @jhO (Kf @jhP (Kf @jgX (Kf @jj5 (Kf @ji2 (Kf @jj6 (Kf @jls (@jlt)))))))))))):=Kf @jp6 (Kf @jvY (Kf @jvZ (Kf @ji1 (Kf @jhO (Kf @jhP (Kf @jgX (Kf @jj5 (Kf @ji2 (Kf @jj6 (Kf @jls (@jlt)))))))))))
theorem hhXd:type_of% (Kf @jns (Kf @jsM (Kf @jsN (Kf @jp5 (Kf @jsT (Kf @jsU (Kf @jsV (Kf @jsX (Kf @jp7 (Kf @jp8 (Kf @jnt (@jo5)))))))))))):=Kf @jns (Kf @jsM (Kf @jsN (Kf @jp5 (Kf @jsT (Kf @jsU (Kf @jsV (Kf @jsX (Kf @jp7 (Kf @jp8 (Kf @jnt (@jo5)))))))))))
theorem hhXe:type_of% (Kf @jlz (Kf @jka (Kf @jny (Kf @jqh (Kf @jsY (Kf @jnu (Kf @jsZ (Kf @jqa (Kf @jv0 (Kf @jqb (Kf @jhQ (@jnv)))))))))))):=Kf @jlz (Kf @jka (Kf @jny (Kf @jqh (Kf @jsY (Kf @jnu (Kf @jsZ (Kf @jqa (Kf @jv0 (Kf @jqb (Kf @jhQ (@jnv)))))))))))
theorem hhXf:type_of% (Kf @js0 (Kf @jqc (Kf @jj7 (Kf @jqd (Kf @js1 (Kf @jlw (Kf @jfW (Kf @jj8 (Kf @jlx (Kf @ji5 (Kf @jqe (@ji6)))))))))))):=Kf @js0 (Kf @jqc (Kf @jj7 (Kf @jqd (Kf @js1 (Kf @jlw (Kf @jfW (Kf @jj8 (Kf @jlx (Kf @ji5 (Kf @jqe (@ji6)))))))))))
theorem hhXg:type_of% (Kf @jqf (Kf @ji7 (Kf @jqg (Kf @jnx (Kf @ji8 (Kf @jj9 (Kf @jhS (Kf @jhT (Kf @jly (Kf @jnw (Kf @jlv (@jhR)))))))))))):=Kf @jqf (Kf @ji7 (Kf @jqg (Kf @jnx (Kf @ji8 (Kf @jj9 (Kf @jhS (Kf @jhT (Kf @jly (Kf @jnw (Kf @jlv (@jhR)))))))))))
theorem hhXh:type_of% (Kf @jgY (Kf @ji4 (Kf @jp9 (@jlu)))):=Kf @jgY (Kf @ji4 (Kf @jp9 (@jlu)))
theorem Kc : type_of% (Kf @hhXa (Kf @hhXb (Kf @hhXc (Kf @hhXd (Kf @hhXe (Kf @hhXf (Kf @hhXg (@hhXh)))))))) := Kf @hhXa (Kf @hhXb (Kf @hhXc (Kf @hhXd (Kf @hhXe (Kf @hhXf (Kf @hhXg (@hhXh)))))))
theorem hhSa:type_of% (Kf @ZK (Kf @ZL (Kf @ZM (Kf @ZN (Kf @ZO (Kf @ZP (Kf @ZQ (Kf @ZR (Kf @ZS (Kf @ZT (Kf @ZU (@ZV)))))))))))):=Kf @ZK (Kf @ZL (Kf @ZM (Kf @ZN (Kf @ZO (Kf @ZP (Kf @ZQ (Kf @ZR (Kf @ZS (Kf @ZT (Kf @ZU (@ZV)))))))))))
theorem hhSb:type_of% (Kf @ZW (Kf @ZX (Kf @ZY (Kf @Z0 (Kf @Z1 (Kf @Z2 (Kf @Z3 (Kf @Z4 (Kf @Z5 (Kf @Z7 (Kf @true_and (@Z8)))))))))))):=Kf @ZW (Kf @ZX (Kf @ZY (Kf @Z0 (Kf @Z1 (Kf @Z2 (Kf @Z3 (Kf @Z4 (Kf @Z5 (Kf @Z7 (Kf @true_and (@Z8)))))))))))
theorem hhSc:type_of% (Kf @Z9 (Kf @jfF (Kf @Ya (Kf @jez (Kf @Yb (Kf @Yc (Kf @Yd (Kf @Ye (Kf @Yf (Kf @Yg (Kf @Yh (@Yi)))))))))))):=Kf @Z9 (Kf @jfF (Kf @Ya (Kf @jez (Kf @Yb (Kf @Yc (Kf @Yd (Kf @Ye (Kf @Yf (Kf @Yg (Kf @Yh (@Yi)))))))))))
theorem hhSd:type_of% (Kf @Yj (Kf @Yk (Kf @Yl (Kf @Ym (Kf @Yn (Kf @Yo (Kf @Yp (Kf @Yq (Kf @Yr (Kf @Yt (Kf @Yu (@Yv)))))))))))):=Kf @Yj (Kf @Yk (Kf @Yl (Kf @Ym (Kf @Yn (Kf @Yo (Kf @Yp (Kf @Yq (Kf @Yr (Kf @Yt (Kf @Yu (@Yv)))))))))))
theorem hhSe:type_of% (Kf @Yw (Kf @Vk.{0} (Kf @V7.{0} (Kf @Je.{0} (Kf @Qr.{0} (Kf @Qg.{0} (Kf @Jt.{0} (Kf @Ji.{0} (Kf @Qx.{0} (Kf @Yx (Kf @Yy (@Qm)))))))))))):=Kf @Yw (Kf @Vk.{0} (Kf @V7.{0} (Kf @Je.{0} (Kf @Qr.{0} (Kf @Qg.{0} (Kf @Jt.{0} (Kf @Ji.{0} (Kf @Qx.{0} (Kf @Yx (Kf @Yy (@Qm)))))))))))
theorem hhSf:type_of% (Kf @Yz (Kf @YA (Kf @YB (Kf @YC (Kf @YD (Kf @YE (Kf @YF (Kf @YG (Kf @YH (Kf @YI (Kf @YJ (@YK)))))))))))):=Kf @Yz (Kf @YA (Kf @YB (Kf @YC (Kf @YD (Kf @YE (Kf @YF (Kf @YG (Kf @YH (Kf @YI (Kf @YJ (@YK)))))))))))
theorem hhSg:type_of% (Kf @YL (Kf @YM (Kf @YN (Kf @YO (Kf @Vi.{0} (Kf @YP (Kf @YQ (Kf @YR (Kf @YS (Kf @YT (Kf @YU (@YV)))))))))))):=Kf @YL (Kf @YM (Kf @YN (Kf @YO (Kf @Vi.{0} (Kf @YP (Kf @YQ (Kf @YR (Kf @YS (Kf @YT (Kf @YU (@YV)))))))))))
theorem hhSh:type_of% (Kf @YW (Kf @YX (Kf @Q5 (Kf @YY (Kf @YZ (Kf @K3 (Kf @Km (Kf @Jx (Kf @and_self (Kf @Y4 (Kf @Y5 (@Vb)))))))))))):=Kf @YW (Kf @YX (Kf @Q5 (Kf @YY (Kf @YZ (Kf @K3 (Kf @Km (Kf @Jx (Kf @and_self (Kf @Y4 (Kf @Y5 (@Vb)))))))))))
theorem hhSi:type_of% (Kf @Xn (Kf @not_true_eq_false (Kf @decide_true (Kf @decide_false (Kf @true_implies (Kf @false_implies (Kf @Xg (Kf @K0.{0} (Kf @K6.{0} (Kf @K7 (Kf @Js (@X0)))))))))))):=Kf @Xn (Kf @not_true_eq_false (Kf @decide_true (Kf @decide_false (Kf @true_implies (Kf @false_implies (Kf @Xg (Kf @K0.{0} (Kf @K6.{0} (Kf @K7 (Kf @Js (@X0)))))))))))
theorem hhSj:type_of% (Kf @Y6 (Kf @Vl (Kf @Jc (Kf @Xz (Kf @Xu (@X7)))))):=Kf @Y6 (Kf @Vl (Kf @Jc (Kf @Xz (Kf @Xu (@X7)))))
theorem Kb : type_of% (Kf @hhSa (Kf @hhSb (Kf @hhSc (Kf @hhSd (Kf @hhSe (Kf @hhSf (Kf @hhSg (Kf @hhSh (Kf @hhSi (@hhSj)))))))))) := Kf @hhSa (Kf @hhSb (Kf @hhSc (Kf @hhSd (Kf @hhSe (Kf @hhSf (Kf @hhSg (Kf @hhSh (Kf @hhSi (@hhSj)))))))))
theorem Ux:type_of% (And.intro @Kc (And.intro @jaj (And.intro @jax (@Kb)))):=And.intro @Kc (And.intro @jaj (And.intro @jax (@Kb)))
theorem hhWa:type_of% (Kf @jo0 (Kf @jo1 (Kf @jnh (Kf @jsx (Kf @jpU (Kf @jsy (Kf @jiZ (Kf @jgk (Kf @jlj (Kf @jmf (Kf @jpV (@jo2)))))))))))):=Kf @jo0 (Kf @jo1 (Kf @jnh (Kf @jsx (Kf @jpU (Kf @jsy (Kf @jiZ (Kf @jgk (Kf @jlj (Kf @jmf (Kf @jpV (@jo2)))))))))))
theorem hhWb:type_of% (Kf @jo3 (Kf @jni (Kf @jsz (Kf @jpW (Kf @jsA (Kf @ji0 (Kf @jgl (Kf @jlk (Kf @jmg (Kf @jsB (Kf @jiB (@jv1)))))))))))):=Kf @jo3 (Kf @jni (Kf @jsz (Kf @jpW (Kf @jsA (Kf @ji0 (Kf @jgl (Kf @jlk (Kf @jmg (Kf @jsB (Kf @jiB (@jv1)))))))))))
theorem hhWc:type_of% (Kf @jv2 (Kf @jqi (Kf @jqj (Kf @jv3 (Kf @jv4 (Kf @jqk (Kf @jql (Kf @jyi (Kf @jqm (Kf @jqn (Kf @jv5 (@jv6)))))))))))):=Kf @jv2 (Kf @jqi (Kf @jqj (Kf @jv3 (Kf @jv4 (Kf @jqk (Kf @jql (Kf @jyi (Kf @jqm (Kf @jqn (Kf @jv5 (@jv6)))))))))))
theorem hhWd:type_of% (Kf @jv7 (Kf @jv8 (Kf @jv9 (Kf @jwa (Kf @jwb (Kf @jwc (Kf @jwd (Kf @js2 (Kf @js3 (Kf @jqo (Kf @jqp (@jqq)))))))))))):=Kf @jv7 (Kf @jv8 (Kf @jv9 (Kf @jwa (Kf @jwb (Kf @jwc (Kf @jwd (Kf @js2 (Kf @js3 (Kf @jqo (Kf @jqp (@jqq)))))))))))
end Go.Ab
