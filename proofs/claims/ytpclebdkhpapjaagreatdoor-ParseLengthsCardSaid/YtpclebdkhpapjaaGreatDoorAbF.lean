/- Proved here: rules for stepping where code may panic. Conditions: those of each theorem; no statement of the seat is proved in this text. -/
import Derived.Test.YtpclebdkhpapjaaGreatDoorAbE
set_option linter.unusedSimpArgs false
set_option linter.unusedVariables false
set_option linter.unusedSectionVars false
namespace Go.Ab
section
variable (E:Env)
noncomputable def jbH (f:FuncId)(args:List V)(σ:S):Option (Sum V V × S) :=
 match jaC E (ev E) f args σ with
 | some (v,s)=>some (.inl v,s)
 | none=>(jg0 E (ev E) f args σ).map fun p=>(.inr p.1,p.2)
noncomputable def jjD (g:V)(args:List V)(σ:S):Option (Sum V V × S) :=
 match g with
 | .func f first captured=>jbH E f (first++args++captured) σ
 | g=>(jdW E (ev E) g args σ).map fun p=>(.inl p.1,p.2)
def panV (v:V)(σ:S):Option (Sum V V × S) :=
 match v with
 | .iface t u=>some (.inr (.iface t u),σ)
 | _=>none
noncomputable def opKX (mutb:Bool)(T:Tm)(σ:S)(op:Op):Option (Sum V V × S) :=
 match op with
 | .panic x=>(jaj E T x).bind fun v=>panV v σ
 | .call { callee:=.value g,args,.. }=>(jaj E T g).bind fun gv=>(jbn (jaj E T) args.toList).bind fun as=>jjD E gv as σ
 | op=>(opT E mutb T σ op).map fun p=>(.inl p.1,p.2)
def KX (X:V→S→Prop)(k:V→S→Prop)(p:Sum V V × S):Prop :=
 match p.1 with
 | .inl v=>k v p.2
 | .inr v=>X v p.2
def wpOX (X:V→S→Prop)(mutb:Bool)(T:Tm)(σ:S)(op:Op)(k:V→S→Prop):Prop:=V1 (opKX E mutb T σ op) (KX X k)
def wpLX (X:V→S→Prop) (mutb:Bool) (n:Nat) (ops:Array Oper):List Oper→Tm→S→(Tm→S→Prop)→Prop
  | [],T,σ,k=>k T σ
  | ⟨dst,op,_,_,_,none⟩::l,T,σ,k =>
    match dst with
    | none=>wpOX E X mutb T σ op fun _ σ'=>wpLX X mutb n ops l T σ' k
    | some d=>d<n∧wpOX E X mutb T σ op fun v σ'=>wpLX X mutb n ops l (upd T d v) σ' k
  | ⟨dst,op,_,_,_,some (j,b)⟩::l,T,σ,k =>
    V1 ((ops[j]?).bind (·.dst)) fun dj=>dj<n∧Br3 (T dj)
      (match b with
        | true=>(match dst with
          | none=>wpOX E X mutb (upd T dj (.bool true)) σ op fun _ σ'=>wpLX X mutb n ops l (upd T dj (.bool true)) σ' k
          | some d=>d<n∧wpOX E X mutb (upd T dj (.bool true)) σ op fun v σ'=>wpLX X mutb n ops l (upd (upd T dj (.bool true)) d v) σ' k)
        | false=>(match dst with
          | none=>wpLX X mutb n ops l (upd T dj (.bool true)) σ k
          | some d=>d<n∧wpLX X mutb n ops l (upd (upd T dj (.bool true)) d (.tup [])) σ k))
      (match b with
        | false=>(match dst with
          | none=>wpOX E X mutb (upd T dj (.bool false)) σ op fun _ σ'=>wpLX X mutb n ops l (upd T dj (.bool false)) σ' k
          | some d=>d<n∧wpOX E X mutb (upd T dj (.bool false)) σ op fun v σ'=>wpLX X mutb n ops l (upd (upd T dj (.bool false)) d v) σ' k)
        | true=>(match dst with
          | none=>wpLX X mutb n ops l (upd T dj (.bool false)) σ k
          | some d=>d<n∧wpLX X mutb n ops l (upd (upd T dj (.bool false)) d (.tup [])) σ k))
      (match dst with
        | none=>wpLX X mutb n ops l T σ k
        | some d=>d<n∧wpLX X mutb n ops l (upd T d (.tup [])) σ k)
variable {E}
theorem joD {mutb:Bool}{n:Nat}{T:Tm}{tmps:List V}(hr:Rep n T tmps){σ σ':S}{op:Op}{r:Sum V V}(h:opKX E mutb T σ op=some (r,σ')) :
  (∀ v,r=.inl v→opV E (ev E) mutb tmps σ op=some (v,σ'))∧∀ v,r=.inr v→opV E (ev E) mutb tmps σ op=none∧opP E (ev E) tmps σ op=some (v,σ'):=by
 unfold opKX at h
 split at h
 ·rename_i x
  cases hx:jaj E T x with
  | none=>rw [hx] at h; simp at h
  | some v =>
   rw [hx] at h
   simp only [Ko,panV] at h
   split at h
   ·rename_i t u
    simp only [Kf,Ki] at h
    obtain ⟨rfl,rfl⟩:=h
    have hp:opP E (ev E) tmps σ (.panic x)=some (.iface t u,σ):=by simp only [opP,hr.eval,hx]
    exact ⟨fun v e=>(by cases e),fun v e=>by cases e; exact ⟨jce hp,hp⟩⟩
   ·simp at h
 ·rename_i g args ats
  cases hg:jaj E T g with
  | none=>rw [hg] at h; simp at h
  | some gv =>
   cases ha:jbn (jaj E T) args.toList with
   | none=>rw [hg,ha] at h; simp at h
   | some as =>
    rw [hg,ha] at h
    simp only [Ko] at h
    have hV:opV E (ev E) mutb tmps σ (.call ⟨.value g,args,ats⟩)=jdW E (ev E) gv as σ:=by
     unfold opV
     rw [hr.eval]
     simp only [jbh,jbm,hg,ha,Ko]
    unfold jjD at h
    split at h
    ·rename_i f first captured
     unfold jbH at h
     split at h
     ·rename_i v s hc
      simp only [Kf,Ki] at h
      obtain ⟨rfl,rfl⟩:=h
      exact ⟨fun v e=>(by cases e; rw [hV]; exact hc),fun v e=>by cases e⟩
     ·rename_i hc
      simp only [Km,Ki] at h
      obtain ⟨⟨v,s⟩,hp,rfl,rfl⟩:=h
      have hP:opP E (ev E) tmps σ (.call ⟨.value g,args,ats⟩)=some (v,s):=by simp only [opP,hr.eval,hg,ha,hp]
      exact ⟨fun v e=>(by cases e),fun v e=>by cases e; exact ⟨jce hP,hP⟩⟩
    ·simp only [Km,Ki] at h
     obtain ⟨⟨v,s⟩,hc,rfl,rfl⟩:=h
     exact ⟨fun v e=>(by cases e; rw [hV]; exact hc),fun v e=>by cases e⟩
 ·simp only [Km,Ki] at h
  obtain ⟨⟨v,s⟩,hc,rfl,rfl⟩:=h
  refine ⟨fun v e => ?_,fun v e=>by cases e⟩
  cases e
  unfold opV
  rw [hr.eval]
  unfold opT at hc
  exact hc
theorem jfH {X k:V→S→Prop}{mutb:Bool}{n:Nat}{T:Tm}{tmps:List V}(hr:Rep n T tmps){σ:S}{op:Op}(h:wpOX E X mutb T σ op k) :
  (∃ v σ',opV E (ev E) mutb tmps σ op=some (v,σ')∧k v σ')∨(∃ v σ',opV E (ev E) mutb tmps σ op=none∧opP E (ev E) tmps σ op=some (v,σ')∧X v σ'):=by
 obtain ⟨⟨r,σ'⟩,h1,h2⟩:=h
 have h3:=joD hr h1
 cases r with
 | inl v=>exact .inl ⟨v,σ',h3.1 v rfl,h2⟩
 | inr v=>exact .inr ⟨v,σ',(h3.2 v rfl).1,(h3.2 v rfl).2,h2⟩
def EndL (E:Env)(rnd:Option Nat)(n:Nat)(X:V→S→Prop)(mutb:Bool)(ops:Array Oper)(l:List Oper)(tmps:List V)(D:List DE)(σ:S)(k:Tm→S→Prop):Prop :=
 (∃ tmps' σ' T',jb1 E (ev E) rnd mutb ops l none tmps D σ=some ⟨none,none,tmps',D,σ'⟩∧Rep n T' tmps'∧k T' σ')∨∃ v tmps' σ',jb1 E (ev E) rnd mutb ops l none tmps D σ=some ⟨some v,none,tmps',D,σ'⟩∧X v σ'
theorem jcI {rnd:Option Nat}{X:V→S→Prop}{mutb:Bool}{n:Nat}{ops:Array Oper}{D:List DE}:∀ (l:List Oper) {T:Tm} {tmps:List V} {σ:S} {k:Tm→S→Prop},Rep n T tmps→wpLX E X mutb n ops l T σ k→EndL E rnd n X mutb ops l tmps D σ k
  | [],T,tmps,σ,k,h,hw=>.inl ⟨tmps,σ,T,rfl,h,hw⟩
  | ⟨dst,op,t,p,a,none⟩::l,T,tmps,σ,k,h,hw=>by
    have hwn:Region.wanted (⟨dst,op,t,p,a,none⟩:Oper) (jaz ops tmps)=true:=rfl
    simp only [wpLX] at hw
    cases dst with
    | none =>
      rcases jfH h hw with ⟨v,σ',h1,h2⟩ | ⟨v,σ',h0,h1,h2⟩
      · have ih:=jcI (rnd:=rnd) (D:=D) l h h2
        unfold EndL at ih ⊢
        simp only [jb1,hwn,Kh,h1,putT]
        exact ih
      · refine .inr ⟨v,tmps,σ',?_,h2⟩
        simp only [jb1,hwn,Kh,h0,h1]
    | some d =>
      obtain ⟨hd,hw⟩:=hw
      rcases jfH h hw with ⟨v,σ',h1,h2⟩ | ⟨v,σ',h0,h1,h2⟩
      · have ih:=jcI (rnd:=rnd) (D:=D) l (h.upd hd v) h2
        unfold EndL at ih ⊢
        simp only [jb1,hwn,Kh,h1]
        exact ih
      · refine .inr ⟨v,tmps,σ',?_,h2⟩
        simp only [jb1,hwn,Kh,h0,h1]
  | ⟨dst,op,t,p,a,some (j,b)⟩::l,T,tmps,σ,k,h,hw=>by
    simp only [wpLX] at hw
    obtain ⟨dj,hdj,hlt,⟨htup,hw⟩ | ⟨b0,hb0,hT,hF⟩⟩:=hw
    · have hwn:Region.wanted (⟨dst,op,t,p,a,some (j,b)⟩:Oper) (jaz ops tmps)=false:=by
        simp [Region.wanted,jeU h hdj htup]
      unfold EndL
      simp only [jb1,hwn,Kk,Kg]
      cases dst with
      | none=>exact jcI l h hw
      | some d=>exact jcI l (h.upd hw.1 _) hw.2
    have hTd:=jcr hb0
    have hy:=jeT h hdj hTd
    have go:∀ (T2:Tm),T2=T→(match dst with
          | none=>wpOX E X mutb T2 σ op fun _ σ'=>wpLX E X mutb n ops l T2 σ' k
          | some d=>d<n∧wpOX E X mutb T2 σ op fun v σ'=>wpLX E X mutb n ops l (upd T2 d v) σ' k)→Region.wanted (⟨dst,op,t,p,a,some (j,b)⟩:Oper) (jaz ops tmps)=true→EndL E rnd n X mutb ops (⟨dst,op,t,p,a,some (j,b)⟩::l) tmps D σ k:=by
      intro T2 e hw hwn
      subst e
      cases dst with
      | none =>
        rcases jfH h hw with ⟨v,σ',h1,h2⟩ | ⟨v,σ',h0,h1,h2⟩
        · have ih:=jcI (rnd:=rnd) (D:=D) l h h2
          unfold EndL at ih ⊢
          simp only [jb1,hwn,Kh,h1,putT]
          exact ih
        · refine .inr ⟨v,tmps,σ',?_,h2⟩
          simp only [jb1,hwn,Kh,h0,h1]
      | some d =>
        obtain ⟨hd,hw⟩:=hw
        rcases jfH h hw with ⟨v,σ',h1,h2⟩ | ⟨v,σ',h0,h1,h2⟩
        · have ih:=jcI (rnd:=rnd) (D:=D) l (h.upd hd v) h2
          unfold EndL at ih ⊢
          simp only [jb1,hwn,Kh,h1]
          exact ih
        · refine .inr ⟨v,tmps,σ',?_,h2⟩
          simp only [jb1,hwn,Kh,h0,h1]
    have no:∀ (T2:Tm),T2=T→(match dst with
          | none=>wpLX E X mutb n ops l T2 σ k
          | some d=>d<n∧wpLX E X mutb n ops l (upd T2 d (.tup [])) σ k)→Region.wanted (⟨dst,op,t,p,a,some (j,b)⟩:Oper) (jaz ops tmps)=false→EndL E rnd n X mutb ops (⟨dst,op,t,p,a,some (j,b)⟩::l) tmps D σ k:=by
      intro T2 e hw hwn
      subst e
      unfold EndL
      simp only [jb1,hwn,Kk,Kg]
      cases dst with
      | none=>exact jcI l h hw
      | some d=>exact jcI l (h.upd hw.1 _) hw.2
    cases b0 with
    | true =>
      have hw:=hT rfl
      cases b with
      | true=>cases dst <;> exact go _ (jdp hTd) hw (by simp [Region.wanted,hy])
      | false=>cases dst <;> exact no _ (jdp hTd) hw (by simp [Region.wanted,hy])
    | false =>
      have hw:=hF rfl
      cases b with
      | false=>cases dst <;> exact go _ (jdp hTd) hw (by simp [Region.wanted,hy])
      | true=>cases dst <;> exact no _ (jdp hTd) hw (by simp [Region.wanted,hy])
end
section
variable (E:Env)(fn:FuncId)(rnd:Option Nat)(n:Nat)(X:V→List DE→S→Prop)
def jmN (c:Code)(T:Tm)(D:List DE)(σ:S)(Q:Post):Prop :=
 ∀ tmps,Rep n T tmps→∃ r,ev E (.loop fn rnd c tmps D σ)=some r∧Post.ofP n Q (fun v _ D σ=>X v D σ) r
def wpCX:Code→Tm→List DE→S→Post→Prop
 | .skip,T,D,σ,Q=>Q.norm T D σ
 | .exit i,T,D,σ,Q=>Q.exit i T D σ
 | .ret,T,D,σ,Q=>Q.ret T D σ
 | .seq a b,T,D,σ,Q=>wpCX a T D σ ⟨fun T D σ=>wpCX b T D σ Q,Q.exit,Q.ret⟩
 | .cond (.tmp t) a b,T,D,σ,Q=>t<n∧Br (T t) (wpCX a (upd T t (.bool true)) D σ Q) (wpCX b (upd T t (.bool false)) D σ Q)
 | .block id c,T,D,σ,Q=>wpCX c T D σ ⟨Q.norm,fun i T D σ=>if i=id then Q.norm T D σ else Q.exit i T D σ,Q.ret⟩
 | .loop c,T,D,σ,Q=>jmN E fn rnd n X c T D σ Q
 | .scope c,T,D,σ,Q=>wpCX c T D σ Q
 | .label _,T,D,σ,Q=>Q.norm T D σ
 | .region id ops false,T,D,σ,Q=>wpLX E (fun v σ=>X v D σ) (E.mutb fn id) n ops ops.toList T σ fun T σ=>Q.norm T D σ
 | .region id ops true,T,D,σ,Q =>
  match E.stab fn id with
  | false=>jfS E ops=true∧wpLX E (fun _ _=>False) (E.mutb fn id) n ops ops.toList T σ fun T σ=>Q.norm T D σ
  | true=>wpP E fn rnd n (fun v _ D σ=>X v D σ) (.region id ops true) T D σ Q
 | c,T,D,σ,Q=>wpP E fn rnd n (fun v _ D σ=>X v D σ) c T D σ Q
variable {E}
theorem jrs {mutb:Bool}{T:Tm}{σ σ':S}{op:Op}{v:V}(h:opKX E mutb T σ op=some (.inl v,σ')):opT E mutb T σ op=some (v,σ'):=by
 unfold opKX at h
 split at h
 ·rename_i x
  cases hx:jaj E T x with
  | none=>rw [hx] at h; simp at h
  | some u =>
   rw [hx] at h
   simp only [Ko,panV] at h
   split at h <;> simp at h
 ·rename_i g args ats
  have e:opT E mutb T σ (.call ⟨.value g,args,ats⟩)=(jaj E T g).bind fun gv=>(jbn (jaj E T) args.toList).bind fun as=>jdW E (ev E) gv as σ:=by
   unfold opT; simp only [jbh,jbm]
  rw [e]
  cases hg:jaj E T g with
  | none=>rw [hg] at h; simp at h
  | some gv =>
   cases ha:jbn (jaj E T) args.toList with
   | none=>rw [hg,ha] at h; simp at h
   | some as =>
    rw [hg,ha] at h
    simp only [Ko] at h ⊢
    unfold jjD at h
    split at h
    ·unfold jbH at h
     split at h
     ·rename_i hc
      simp only [Kf,Ki,Sum.inl.injEq] at h
      obtain ⟨rfl,rfl⟩:=h
      exact hc
     ·simp only [Km,Ki] at h
      obtain ⟨_,_,h,_⟩:=h
      cases h
    ·simp only [Km,Ki,Sum.inl.injEq] at h
     obtain ⟨⟨v,s⟩,hc,rfl,rfl⟩:=h
     exact hc
 ·simp only [Km,Ki,Sum.inl.injEq] at h
  obtain ⟨⟨v,s⟩,hc,rfl,rfl⟩:=h
  exact hc
theorem jdT {mutb:Bool}{T:Tm}{σ:S}{op:Op}{k k':V→S→Prop}(h:wpOX E (fun _ _=>False) mutb T σ op k)(hk:∀ v s,k v s→k' v s):wpO E mutb T σ op k':=by
 obtain ⟨⟨r,s⟩,h1,h2⟩:=h
 cases r with
 | inl v=>exact ⟨(v,s),jrs h1,hk v s h2⟩
 | inr v=>exact h2.elim
theorem jrt {v:V}{A B C A' B' C':Prop}(h:Br3 v A B C)(a:A→A')(b:B→B')(c:C→C'):Br3 v A' B' C':=by
 rcases h with ⟨h1,h2⟩ | ⟨x,h1,h2,h3⟩
 ·exact .inl ⟨h1,c h2⟩
 ·exact .inr ⟨x,h1,fun e=>a (h2 e),fun e=>b (h3 e)⟩
theorem jbX {mutb:Bool}{n:Nat}{ops:Array Oper}:∀ (l:List Oper) {T:Tm} {σ:S} {k:Tm→S→Prop},wpLX E (fun _ _=>False) mutb n ops l T σ k→wpL E mutb n ops l T σ k
 | [],T,σ,k,h=>h
 | ⟨dst,op,t,p,a,none⟩::l,T,σ,k,h=>by
  simp only [wpLX,wpL] at h ⊢
  cases dst with
  | none=>exact jdT h fun v s h=>jbX l h
  | some d=>exact ⟨h.1,jdT h.2 fun v s h=>jbX l h⟩
 | ⟨dst,op,t,p,a,some (j,b)⟩::l,T,σ,k,h=>by
  simp only [wpLX,wpL] at h ⊢
  obtain ⟨dj,hdj,hlt,hb⟩:=h
  refine ⟨dj,hdj,hlt,jrt hb (fun h => ?_) (fun h => ?_) (fun h => ?_)⟩
  ·cases b <;> cases dst
   ·exact jbX l h
   ·exact ⟨h.1,jbX l h.2⟩
   ·exact jdT h fun v s h=>jbX l h
   ·exact ⟨h.1,jdT h.2 fun v s h=>jbX l h⟩
  ·cases b <;> cases dst
   ·exact jdT h fun v s h=>jbX l h
   ·exact ⟨h.1,jdT h.2 fun v s h=>jbX l h⟩
   ·exact jbX l h
   ·exact ⟨h.1,jbX l h.2⟩
  ·cases dst
   ·exact jbX l h
   ·exact ⟨h.1,jbX l h.2⟩
variable {fn rnd n X}
theorem jc4:∀ (c:Code) {T:Tm} {D:List DE} {σ:S} {Q:Post},wpCX E fn rnd n X c T D σ Q→wpP E fn rnd n (fun v _ D σ=>X v D σ) c T D σ Q
 | .skip,T,D,σ,Q,h=>fun tmps hr=>⟨_,rfl,T,hr,h⟩
 | .exit i,T,D,σ,Q,h=>fun tmps hr=>⟨_,rfl,T,hr,h⟩
 | .ret,T,D,σ,Q,h=>fun tmps hr=>⟨_,rfl,T,hr,h⟩
 | .seq a b,T,D,σ,Q,h=>jga (fun tmps hr=>by
   obtain ⟨⟨ex,vals,d,st⟩,h1,hq⟩:=jc4 a h tmps hr
   refine ⟨_,h1,?_⟩
   cases ex with
   | normal =>
    obtain ⟨T1,hr1,hq⟩:=hq
    exact ⟨T1,hr1,jc4 b hq⟩
   | exit i=>exact hq
   | ret=>exact hq
   | pan v=>exact hq)
 | .cond (.tmp t) a b,T,D,σ,Q,h=>by
   obtain ⟨hlt,b0,hb0,hT,hF⟩:=h
   have hTd:=jcr hb0
   refine jnx hTd ?_
   cases b0 with
   | true =>
    have hw:=hT rfl
    rw [jdp hTd] at hw
    exact jc4 a hw
   | false =>
    have hw:=hF rfl
    rw [jdp hTd] at hw
    exact jc4 b hw
 | .cond (.const v) a b,T,D,σ,Q,h=>h
 | .cond (.global v) a b,T,D,σ,Q,h=>h
 | .cond (.func v) a b,T,D,σ,Q,h=>h
 | .block id c,T,D,σ,Q,h=>jpX (jc4 c h)
 | .loop c,T,D,σ,Q,h=>fun tmps hr=>h tmps hr
 | .region id ops false,T,D,σ,Q,h=>fun tmps hr=>by
   rcases jcI (rnd:=rnd) (D:=D) ops.toList hr h with ⟨tmps',σ',T',h1,h2,h3⟩ | ⟨v,tmps',σ',h1,h2⟩
   ·refine ⟨⟨.normal,tmps',D,σ'⟩,?_,T',h2,h3⟩
    rw [jdM,h1]; rfl
   ·refine ⟨⟨.pan v,tmps',D,σ'⟩,?_,h2⟩
    rw [jdM,h1]; rfl
 | .region id ops true,T,D,σ,Q,h=>by
   simp only [wpCX] at h
   cases hs:E.stab fn id with
   | false =>
    simp only [hs] at h
    obtain ⟨hd,h⟩:=h
    refine jsn fun tmps hr => ?_
    obtain ⟨tmps',σ',T',h1,h2,h3⟩:=jbR E ops.toList hr (jbX _ h)
    exact ⟨_,jf6 hd h1,T',h2,h3⟩
   | true =>
    simp only [hs] at h
    exact h
 | .rangeFunc _ _ _ _,T,D,σ,Q,h=>h
 | .scope c,T,D,σ,Q,h=>fun tmps hr=>by simp only [jbb]; exact jc4 c h tmps hr
 | .label _,T,D,σ,Q,h=>fun tmps hr=>⟨_,rfl,T,hr,h⟩
 | .goto _,T,D,σ,Q,h=>h
 | .refuse _,T,D,σ,Q,h=>h
end
section
variable (E:Env)(fn:FuncId)(rnd:Option Nat)(n:Nat)(X:V→List DE→S→Prop)
def Kt.postX (Q:Post):List Kt→Post
 | []=>Q
 | .code b::r=>⟨fun T D σ=>wpCX E fn rnd n X b T D σ (Kt.postX Q r),(Kt.postX Q r).exit,(Kt.postX Q r).ret⟩
 | .blk id::r=>⟨(Kt.postX Q r).norm,fun i T D σ=>if i=id then (Kt.postX Q r).norm T D σ else (Kt.postX Q r).exit i T D σ,(Kt.postX Q r).ret⟩
def H (Q:Post)(ks:List Kt)(c:Code)(T:Tm)(D:List DE)(σ:S):Prop:=wpCX E fn rnd n X c T D σ (Kt.postX E fn rnd n X Q ks)
def HL (Q:Post)(ks:List Kt)(Y:V→S→Prop)(m:Bool)(ops:Array Oper)(l:List Oper)(T:Tm)(D:List DE)(σ:S):Prop :=
 wpLX E Y m n ops l T σ fun T σ=>(Kt.postX E fn rnd n X Q ks).norm T D σ
def HS (Q:Post)(ks:List Kt)(Y:V→S→Prop)(m:Bool)(ops:Array Oper)(l:List Oper)(T:Tm)(D:List DE)(d:Nat)(o:Option (V × S)):Prop :=
 V1 o fun p=>HL E fn rnd n X Q ks Y m ops l (upd T d p.1) D p.2
def HN (Q:Post)(ks:List Kt)(Y:V→S→Prop)(m:Bool)(ops:Array Oper)(l:List Oper)(T:Tm)(D:List DE)(o:Option (V × S)):Prop :=
 V1 o fun p=>HL E fn rnd n X Q ks Y m ops l T D p.2
def HX (Q:Post)(ks:List Kt)(Y:V→S→Prop)(m:Bool)(ops:Array Oper)(l:List Oper)(T:Tm)(D:List DE)(d:Nat)(o:Option (Sum V V × S)):Prop :=
 V1 o (KX Y fun v σ=>HL E fn rnd n X Q ks Y m ops l (upd T d v) D σ)
def HXN (Q:Post)(ks:List Kt)(Y:V→S→Prop)(m:Bool)(ops:Array Oper)(l:List Oper)(T:Tm)(D:List DE)(o:Option (Sum V V × S)):Prop :=
 V1 o (KX Y fun v σ=>HL E fn rnd n X Q ks Y m ops l T D σ)
def HO (Q:Post)(ks:List Kt)(Y:V→S→Prop)(m:Bool)(ops:Array Oper)(l:List Oper)(T:Tm)(D:List DE)(σ:S)(d:Nat)(op:Op):Prop :=
 HX E fn rnd n X Q ks Y m ops l T D d (opKX E m T σ op)
def HON (Q:Post)(ks:List Kt)(Y:V→S→Prop)(m:Bool)(ops:Array Oper)(l:List Oper)(T:Tm)(D:List DE)(σ:S)(op:Op):Prop :=
 HXN E fn rnd n X Q ks Y m ops l T D (opKX E m T σ op)
def HB (Q:Post)(ks:List Kt)(a b:Code)(T:Tm)(D:List DE)(σ:S)(t:Nat)(v:V):Prop :=
 Br v (H E fn rnd n X Q ks a (upd T t (.bool true)) D σ) (H E fn rnd n X Q ks b (upd T t (.bool false)) D σ)
def HG (Q:Post)(ks:List Kt)(Y:V→S→Prop)(m:Bool)(ops:Array Oper)(l:List Oper)(T:Tm)(D:List DE)(σ:S)(d:Nat)(op:Op)(b:Bool)(g:Nat)(v:V):Prop :=
 Br3 v
  (match b with
   | true=>HO E fn rnd n X Q ks Y m ops l (upd T g (.bool true)) D σ d op
   | false=>HL E fn rnd n X Q ks Y m ops l (upd (upd T g (.bool true)) d (.tup [])) D σ)
  (match b with
   | true=>HL E fn rnd n X Q ks Y m ops l (upd (upd T g (.bool false)) d (.tup [])) D σ
   | false=>HO E fn rnd n X Q ks Y m ops l (upd T g (.bool false)) D σ d op)
  (HL E fn rnd n X Q ks Y m ops l (upd T d (.tup [])) D σ)
end
section
variable {E:Env}{fn:FuncId}{rnd:Option Nat}{n:Nat}{X:V→List DE→S→Prop}{Q:Post}{ks:List Kt}{Y:V→S→Prop}{m:Bool}{ops:Array Oper}{l:List Oper}{T:Tm}{D:List DE}{σ:S}
theorem jun (a b:Code):H E fn rnd n X Q ks (.seq a b) T D σ=H E fn rnd n X Q (.code b::ks) a T D σ:=rfl
theorem jpY (id:Nat)(c:Code):H E fn rnd n X Q ks (.block id c) T D σ=H E fn rnd n X Q (.blk id::ks) c T D σ:=rfl
theorem jiz (c:Code):H E fn rnd n X Q (.code c::ks) .skip T D σ=H E fn rnd n X Q ks c T D σ:=rfl
theorem jjE (id:Nat):H E fn rnd n X Q (.blk id::ks) .skip T D σ=H E fn rnd n X Q ks .skip T D σ:=rfl
theorem jjF:H E fn rnd n X Q [] .skip T D σ=Q.norm T D σ:=rfl
theorem jiA (c:Code)(i:Nat):H E fn rnd n X Q (.code c::ks) (.exit i) T D σ=H E fn rnd n X Q ks (.exit i) T D σ:=rfl
theorem jjG (id i:Nat):H E fn rnd n X Q (.blk id::ks) (.exit i) T D σ=if i=id then H E fn rnd n X Q ks .skip T D σ else H E fn rnd n X Q ks (.exit i) T D σ:=rfl
theorem jjH (i:Nat):H E fn rnd n X Q [] (.exit i) T D σ=Q.exit i T D σ:=rfl
theorem jjI (c:Code):H E fn rnd n X Q (.code c::ks) .ret T D σ=H E fn rnd n X Q ks .ret T D σ:=rfl
theorem jlo (id:Nat):H E fn rnd n X Q (.blk id::ks) .ret T D σ=H E fn rnd n X Q ks .ret T D σ:=rfl
theorem jlp:H E fn rnd n X Q [] .ret T D σ=Q.ret T D σ:=rfl
theorem jso (t:Nat)(a b:Code):H E fn rnd n X Q ks (.cond (.tmp t) a b) T D σ=(t<n∧HB E fn rnd n X Q ks a b T D σ t (T t)):=rfl
theorem jsp (c:Code):H E fn rnd n X Q ks (.loop c) T D σ=jmN E fn rnd n X c T D σ (Kt.postX E fn rnd n X Q ks):=rfl
theorem jpZ (c:Code):H E fn rnd n X Q ks (.scope c) T D σ=H E fn rnd n X Q ks c T D σ:=rfl
theorem jp0 (l:Nat):H E fn rnd n X Q ks (.label l) T D σ=H E fn rnd n X Q ks .skip T D σ:=rfl
theorem jal (id:Nat)(l:List Oper):H E fn rnd n X Q ks (.region id l.toArray false) T D σ=HL E fn rnd n X Q ks (fun v σ=>X v D σ) (E.mutb fn id) l.toArray l T D σ:=rfl
theorem jaw (id:Nat)(l:List Oper)(hs:E.stab fn id=false):H E fn rnd n X Q ks (.region id l.toArray true) T D σ=(jfS E l.toArray=true∧HL E fn rnd n X Q ks (fun _ _=>False) (E.mutb fn id) l.toArray l T D σ):=by
 unfold H wpCX
 simp only [hs]
 rfl
theorem jsq:HL E fn rnd n X Q ks Y m ops [] T D σ=H E fn rnd n X Q ks .skip T D σ:=rfl
theorem juo (d:Nat)(op:Op)(t:TypeId)(p:String)(a:Array Edge):HL E fn rnd n X Q ks Y m ops (⟨some d,op,t,p,a,none⟩::l) T D σ=(d<n∧HO E fn rnd n X Q ks Y m ops l T D σ d op):=rfl
theorem jp1 (op:Op)(t:TypeId)(p:String)(a:Array Edge):HL E fn rnd n X Q ks Y m ops (⟨none,op,t,p,a,none⟩::l) T D σ=HON E fn rnd n X Q ks Y m ops l T D σ op:=rfl
theorem jnD (d:Nat)(op:Op)(t:TypeId)(p:String)(a:Array Edge)(j:Nat)(b:Bool):HL E fn rnd n X Q ks Y m ops (⟨some d,op,t,p,a,some (j,b)⟩::l) T D σ =
  V1 ((ops[j]?).bind (·.dst)) fun g=>g<n∧d<n∧HG E fn rnd n X Q ks Y m ops l T D σ d op b g (T g):=by
 unfold HL HG HO HX
 refine congrArg (V1 _) (funext fun g => ?_)
 by_cases hd:d<n
 ·cases b <;> simp only [hd,true_and] <;> rfl
 ·cases b <;> simp only [hd,false_and,and_false,jnr]
theorem jjJ:(Kt.postX E fn rnd n X Q ks).norm T D σ=H E fn rnd n X Q ks .skip T D σ:=rfl
theorem jjK (i:Nat):(Kt.postX E fn rnd n X Q ks).exit i T D σ=H E fn rnd n X Q ks (.exit i) T D σ:=rfl
theorem jlq:(Kt.postX E fn rnd n X Q ks).ret T D σ=H E fn rnd n X Q ks .ret T D σ:=rfl
theorem jp2 (d:Nat)(v:V)(σ':S):HS E fn rnd n X Q ks Y m ops l T D d (some (v,σ'))=HL E fn rnd n X Q ks Y m ops l (upd T d v) D σ':=by simp only [HS,Yy]
theorem jsr (d:Nat)(c:Prop)[Decidable c](o:Option (V × S)):HS E fn rnd n X Q ks Y m ops l T D d (if c then o else none)=(c∧HS E fn rnd n X Q ks Y m ops l T D d o):=by simp only [HS,jjx]
theorem jp3 (d:Nat)(c:Prop)[Decidable c](o:Option (V × S)):HS E fn rnd n X Q ks Y m ops l T D d (if c then none else o)=(¬ c∧HS E fn rnd n X Q ks Y m ops l T D d o):=by simp only [HS,jhe]
theorem jp4 (v:V)(σ':S):HN E fn rnd n X Q ks Y m ops l T D (some (v,σ'))=HL E fn rnd n X Q ks Y m ops l T D σ':=by simp only [HN,Yy]
theorem jss (c:Prop)[Decidable c](o:Option (V × S)):HN E fn rnd n X Q ks Y m ops l T D (if c then o else none)=(c∧HN E fn rnd n X Q ks Y m ops l T D o):=by simp only [HN,jjx]
theorem jp5 (c:Prop)[Decidable c](o:Option (V × S)):HN E fn rnd n X Q ks Y m ops l T D (if c then none else o)=(¬ c∧HN E fn rnd n X Q ks Y m ops l T D o):=by simp only [HN,jhe]
theorem jnE (d:Nat)(v:V)(σ':S):HX E fn rnd n X Q ks Y m ops l T D d (some (.inl v,σ'))=HL E fn rnd n X Q ks Y m ops l (upd T d v) D σ':=by simp only [HX,Yy,KX]
theorem jp6 (d:Nat)(v:V)(σ':S):HX E fn rnd n X Q ks Y m ops l T D d (some (.inr v,σ'))=Y v σ':=by simp only [HX,Yy,KX]
theorem jp7 (v:V)(σ':S):HXN E fn rnd n X Q ks Y m ops l T D (some (.inl v,σ'))=HL E fn rnd n X Q ks Y m ops l T D σ':=by simp only [HXN,Yy,KX]
theorem jp8 (v:V)(σ':S):HXN E fn rnd n X Q ks Y m ops l T D (some (.inr v,σ'))=Y v σ':=by simp only [HXN,Yy,KX]
theorem jp9 (a b:Code)(t:Nat):HB E fn rnd n X Q ks a b T D σ t (.bool true)=H E fn rnd n X Q ks a (upd T t (.bool true)) D σ:=jkl _ _
theorem jnF (a b:Code)(t:Nat):HB E fn rnd n X Q ks a b T D σ t (.bool false)=H E fn rnd n X Q ks b (upd T t (.bool false)) D σ:=jh0 _ _
theorem jst (a b:Code)(t:Nat)(p:Prop)[Decidable p]:HB E fn rnd n X Q ks a b T D σ t (.bool (decide p))=((p→H E fn rnd n X Q ks a (upd T t (.bool true)) D σ)∧(¬ p→H E fn rnd n X Q ks b (upd T t (.bool false)) D σ)):=by
 simp only [HB,jmE,Ql,decide_eq_false_iff_not]
theorem jsu (d:Nat)(op:Op)(b:Bool)(g:Nat):HG E fn rnd n X Q ks Y m ops l T D σ d op b g (.tup [])=HL E fn rnd n X Q ks Y m ops l (upd T d (.tup [])) D σ:=jpr _ _ _
theorem jhB (d:Nat)(op:Op)(g:Nat):HG E fn rnd n X Q ks Y m ops l T D σ d op true g (.bool true)=HO E fn rnd n X Q ks Y m ops l (upd T g (.bool true)) D σ d op:=jh1 _ _ _
theorem jgC (d:Nat)(op:Op)(g:Nat):HG E fn rnd n X Q ks Y m ops l T D σ d op true g (.bool false)=HL E fn rnd n X Q ks Y m ops l (upd (upd T g (.bool false)) d (.tup [])) D σ:=jgv _ _ _
theorem jgD (d:Nat)(op:Op)(g:Nat):HG E fn rnd n X Q ks Y m ops l T D σ d op false g (.bool true)=HL E fn rnd n X Q ks Y m ops l (upd (upd T g (.bool true)) d (.tup [])) D σ:=jh1 _ _ _
theorem jfV (d:Nat)(op:Op)(g:Nat):HG E fn rnd n X Q ks Y m ops l T D σ d op false g (.bool false)=HO E fn rnd n X Q ks Y m ops l (upd T g (.bool false)) D σ d op:=jgv _ _ _
theorem jiB (d:Nat)(op:Op)(g:Nat)(p:Prop)[Decidable p]:HG E fn rnd n X Q ks Y m ops l T D σ d op true g (.bool (decide p))=((p→HO E fn rnd n X Q ks Y m ops l (upd T g (.bool true)) D σ d op)∧(¬ p→HL E fn rnd n X Q ks Y m ops l (upd (upd T g (.bool false)) d (.tup [])) D σ)):=by
 simp only [HG,jh2,Ql,decide_eq_false_iff_not]
theorem jhC (d:Nat)(op:Op)(g:Nat)(p:Prop)[Decidable p]:HG E fn rnd n X Q ks Y m ops l T D σ d op false g (.bool (decide p))=((p→HL E fn rnd n X Q ks Y m ops l (upd (upd T g (.bool true)) d (.tup [])) D σ)∧(¬ p→HO E fn rnd n X Q ks Y m ops l (upd T g (.bool false)) D σ d op)):=by
 simp only [HG,jh2,Ql,decide_eq_false_iff_not]
theorem jqa (d:Nat)(g:Operand)(as:Array Operand)(ts:Array TypeId):HO E fn rnd n X Q ks Y m ops l T D σ d (.call ⟨.value g,as,ts⟩)=HX E fn rnd n X Q ks Y m ops l T D d ((jaj E T g).bind fun gv=>(jbn (jaj E T) as.toList).bind fun as=>jjD E gv as σ):=rfl
theorem jnG (g:Operand)(as:Array Operand)(ts:Array TypeId):HON E fn rnd n X Q ks Y m ops l T D σ (.call ⟨.value g,as,ts⟩)=HXN E fn rnd n X Q ks Y m ops l T D ((jaj E T g).bind fun gv=>(jbn (jaj E T) as.toList).bind fun as=>jjD E gv as σ):=rfl
theorem jnH (d:Nat)(x:Operand):HO E fn rnd n X Q ks Y m ops l T D σ d (.panic x)=HX E fn rnd n X Q ks Y m ops l T D d ((jaj E T x).bind fun v=>panV v σ):=rfl
theorem jlr (x:Operand):HON E fn rnd n X Q ks Y m ops l T D σ (.panic x)=HXN E fn rnd n X Q ks Y m ops l T D ((jaj E T x).bind fun v=>panV v σ):=rfl
theorem jmO (t:TypeId)(u:V)(σ:S):panV (.iface t u) σ=some (.inr (.iface t u),σ):=rfl
theorem jiC (f:FuncId)(a c as:List V)(σ:S):jjD E (.func f a c) as σ=jbH E f (a++as++c) σ:=rfl
theorem jcO {d:Nat}{op:Op}(h:opKX E m T σ op=(opT E m T σ op).map fun p=>(.inl p.1,p.2)):HO E fn rnd n X Q ks Y m ops l T D σ d op=HS E fn rnd n X Q ks Y m ops l T D d (opT E m T σ op):=by
 unfold HO HX HS
 rw [h,jsm]
 rfl
theorem jhD {op:Op}(h:opKX E m T σ op=(opT E m T σ op).map fun p=>(.inl p.1,p.2)):HON E fn rnd n X Q ks Y m ops l T D σ op=HN E fn rnd n X Q ks Y m ops l T D (opT E m T σ op):=by
 unfold HON HXN HN
 rw [h,jsm]
 rfl
theorem jqb (d:Nat)(x:Operand):HO E fn rnd n X Q ks Y m ops l T D σ d (.move x)=HS E fn rnd n X Q ks Y m ops l T D d (opT E m T σ (.move x)):=jcO rfl
theorem jnI (x:Operand):HON E fn rnd n X Q ks Y m ops l T D σ (.move x)=HN E fn rnd n X Q ks Y m ops l T D (opT E m T σ (.move x)):=jhD rfl
theorem jls (d:Nat)(x:Operand):HO E fn rnd n X Q ks Y m ops l T D σ d (.assign x)=HS E fn rnd n X Q ks Y m ops l T D d (opT E m T σ (.assign x)):=jcO rfl
theorem jjL (x:Operand):HON E fn rnd n X Q ks Y m ops l T D σ (.assign x)=HN E fn rnd n X Q ks Y m ops l T D (opT E m T σ (.assign x)):=jhD rfl
theorem jqc (d:Nat)(a b c:Operand):HO E fn rnd n X Q ks Y m ops l T D σ d (.pick a b c)=HS E fn rnd n X Q ks Y m ops l T D d (opT E m T σ (.pick a b c)):=jcO rfl
theorem jnJ (d:Nat)(t:TypeId):HO E fn rnd n X Q ks Y m ops l T D σ d (.alloc t)=HS E fn rnd n X Q ks Y m ops l T D d (opT E m T σ (.alloc t)):=jcO rfl
theorem jsv (d:Nat)(t:TypeId)(x:Operand):HO E fn rnd n X Q ks Y m ops l T D σ d (.box t x)=HS E fn rnd n X Q ks Y m ops l T D d (opT E m T σ (.box t x)):=jcO rfl
theorem jnK (d:Nat)(t:TypeId)(ps:Array (Nat × Operand)):HO E fn rnd n X Q ks Y m ops l T D σ d (.build t ps)=HS E fn rnd n X Q ks Y m ops l T D d (opT E m T σ (.build t ps)):=jcO rfl
theorem jgE (d:Nat)(t:TypeId)(k:Nat)(ps:Array (Nat × Operand)):HO E fn rnd n X Q ks Y m ops l T D σ d (.buildSlice t k ps)=HS E fn rnd n X Q ks Y m ops l T D d (opT E m T σ (.buildSlice t k ps)):=jcO rfl
theorem jlt (d:Nat)(t:TypeId)(a b c:Operand):HO E fn rnd n X Q ks Y m ops l T D σ d (.insert t a b c)=HS E fn rnd n X Q ks Y m ops l T D d (opT E m T σ (.insert t a b c)):=jcO rfl
theorem jjM (t:TypeId)(a b c:Operand):HON E fn rnd n X Q ks Y m ops l T D σ (.insert t a b c)=HN E fn rnd n X Q ks Y m ops l T D (opT E m T σ (.insert t a b c)):=jhD rfl
theorem jqd (d:Nat)(t:TypeId)(x:Operand):HO E fn rnd n X Q ks Y m ops l T D σ d (.load t x)=HS E fn rnd n X Q ks Y m ops l T D d (opT E m T σ (.load t x)):=jcO rfl
theorem jnL (d:Nat)(t:TypeId)(a b:Operand):HO E fn rnd n X Q ks Y m ops l T D σ d (.store t a b)=HS E fn rnd n X Q ks Y m ops l T D d (opT E m T σ (.store t a b)):=jcO rfl
theorem jlu (t:TypeId)(a b:Operand):HON E fn rnd n X Q ks Y m ops l T D σ (.store t a b)=HN E fn rnd n X Q ks Y m ops l T D (opT E m T σ (.store t a b)):=jhD rfl
theorem jiD (d:Nat)(x:Operand):HO E fn rnd n X Q ks Y m ops l T D σ d (.nilCheck x)=HS E fn rnd n X Q ks Y m ops l T D d (opT E m T σ (.nilCheck x)):=jcO rfl
theorem jhE (x:Operand):HON E fn rnd n X Q ks Y m ops l T D σ (.nilCheck x)=HN E fn rnd n X Q ks Y m ops l T D (opT E m T σ (.nilCheck x)):=jhD rfl
theorem jnM (d:Nat)(o:BinOp)(t:TypeId)(x y:Operand)(u:TypeId):HO E fn rnd n X Q ks Y m ops l T D σ d (.binOp o t x y u)=HS E fn rnd n X Q ks Y m ops l T D d (opT E m T σ (.binOp o t x y u)):=jcO rfl
theorem jqe (d:Nat)(o:UnOp)(t:TypeId)(x:Operand):HO E fn rnd n X Q ks Y m ops l T D σ d (.unOp o t x)=HS E fn rnd n X Q ks Y m ops l T D d (opT E m T σ (.unOp o t x)):=jcO rfl
theorem jjN (d:Nat)(s d:TypeId)(x:Operand):HO E fn rnd n X Q ks Y m ops l T D σ d (.convert s d x)=HS E fn rnd n X Q ks Y m ops l T D d (opT E m T σ (.convert s d x)):=jcO rfl
theorem je3 (d:Nat)(t:TypeId)(x:Operand):HO E fn rnd n X Q ks Y m ops l T D σ d (.makeInterface t x)=HS E fn rnd n X Q ks Y m ops l T D d (opT E m T σ (.makeInterface t x)):=jcO rfl
theorem jiE (d:Nat)(f:Fn)(a c:Array Operand):HO E fn rnd n X Q ks Y m ops l T D σ d (.makeFunc f a c)=HS E fn rnd n X Q ks Y m ops l T D d (opT E m T σ (.makeFunc f a c)):=jcO rfl
theorem jjO (d:Nat)(t:TypeId)(r:Option Operand):HO E fn rnd n X Q ks Y m ops l T D σ d (.makeMap t r)=HS E fn rnd n X Q ks Y m ops l T D d (opT E m T σ (.makeMap t r)):=jcO rfl
theorem jhF (d:Nat)(t:TypeId)(a b:Operand):HO E fn rnd n X Q ks Y m ops l T D σ d (.makeSlice t a b)=HS E fn rnd n X Q ks Y m ops l T D d (opT E m T σ (.makeSlice t a b)):=jcO rfl
theorem jnN (d:Nat)(t:TypeId)(x:Operand)(a b c:Option Operand):HO E fn rnd n X Q ks Y m ops l T D σ d (.slice t x a b c)=HS E fn rnd n X Q ks Y m ops l T D d (opT E m T σ (.slice t x a b c)):=jcO rfl
theorem jhG (d:Nat)(t:TypeId)(x:Operand)(k:Nat):HO E fn rnd n X Q ks Y m ops l T D σ d (.fieldAddr t x k)=HS E fn rnd n X Q ks Y m ops l T D d (opT E m T σ (.fieldAddr t x k)):=jcO rfl
theorem jnO (d:Nat)(t:TypeId)(x:Operand)(k:Nat):HO E fn rnd n X Q ks Y m ops l T D σ d (.field t x k)=HS E fn rnd n X Q ks Y m ops l T D d (opT E m T σ (.field t x k)):=jcO rfl
theorem jhH (d:Nat)(t:TypeId)(a b:Operand):HO E fn rnd n X Q ks Y m ops l T D σ d (.indexAddr t a b)=HS E fn rnd n X Q ks Y m ops l T D d (opT E m T σ (.indexAddr t a b)):=jcO rfl
theorem jnP (d:Nat)(t:TypeId)(a b:Operand):HO E fn rnd n X Q ks Y m ops l T D σ d (.index t a b)=HS E fn rnd n X Q ks Y m ops l T D d (opT E m T σ (.index t a b)):=jcO rfl
theorem jlv (d:Nat)(t:TypeId)(a b:Operand)(c:Bool):HO E fn rnd n X Q ks Y m ops l T D σ d (.lookup t a b c)=HS E fn rnd n X Q ks Y m ops l T D d (opT E m T σ (.lookup t a b c)):=jcO rfl
theorem jhI (d:Nat)(t:TypeId)(a b c:Operand):HO E fn rnd n X Q ks Y m ops l T D σ d (.mapUpdate t a b c)=HS E fn rnd n X Q ks Y m ops l T D d (opT E m T σ (.mapUpdate t a b c)):=jcO rfl
theorem jgF (t:TypeId)(a b c:Operand):HON E fn rnd n X Q ks Y m ops l T D σ (.mapUpdate t a b c)=HN E fn rnd n X Q ks Y m ops l T D (opT E m T σ (.mapUpdate t a b c)):=jhD rfl
theorem jiF (d:Nat)(t:TypeId)(a b:Operand):HO E fn rnd n X Q ks Y m ops l T D σ d (.mapEntry t a b)=HS E fn rnd n X Q ks Y m ops l T D d (opT E m T σ (.mapEntry t a b)):=jcO rfl
theorem jgG (d:Nat)(t:TypeId)(a b c:Operand):HO E fn rnd n X Q ks Y m ops l T D σ d (.entryStore t a b c)=HS E fn rnd n X Q ks Y m ops l T D d (opT E m T σ (.entryStore t a b c)):=jcO rfl
theorem jfW (t:TypeId)(a b c:Operand):HON E fn rnd n X Q ks Y m ops l T D σ (.entryStore t a b c)=HN E fn rnd n X Q ks Y m ops l T D (opT E m T σ (.entryStore t a b c)):=jhD rfl
theorem jgH (d:Nat)(x:Operand)(t u:TypeId)(c:Bool):HO E fn rnd n X Q ks Y m ops l T D σ d (.typeAssert x t u c)=HS E fn rnd n X Q ks Y m ops l T D d (opT E m T σ (.typeAssert x t u c)):=jcO rfl
theorem jjP (d:Nat)(x:Operand)(k:Nat):HO E fn rnd n X Q ks Y m ops l T D σ d (.extract x k)=HS E fn rnd n X Q ks Y m ops l T D d (opT E m T σ (.extract x k)):=jcO rfl
theorem jjQ (d:Nat)(b:Builtin)(as:Array Operand)(ts:Array TypeId):HO E fn rnd n X Q ks Y m ops l T D σ d (.call ⟨.builtin b,as,ts⟩)=HS E fn rnd n X Q ks Y m ops l T D d (opT E m T σ (.call ⟨.builtin b,as,ts⟩)):=jcO rfl
theorem jiG (b:Builtin)(as:Array Operand)(ts:Array TypeId):HON E fn rnd n X Q ks Y m ops l T D σ (.call ⟨.builtin b,as,ts⟩)=HN E fn rnd n X Q ks Y m ops l T D (opT E m T σ (.call ⟨.builtin b,as,ts⟩)):=jhD rfl
theorem jlw (d:Nat)(x:Operand)(s:String)(as:Array Operand)(ts:Array TypeId):HO E fn rnd n X Q ks Y m ops l T D σ d (.call ⟨.invoke x s,as,ts⟩)=HS E fn rnd n X Q ks Y m ops l T D d (opT E m T σ (.call ⟨.invoke x s,as,ts⟩)):=jcO rfl
theorem jnQ (d:Nat)(c:Call):HO E fn rnd n X Q ks Y m ops l T D σ d (.defer c)=HS E fn rnd n X Q ks Y m ops l T D d (opT E m T σ (.defer c)):=jcO rfl
end
section
variable {E:Env}
theorem jcj {f:FuncId}{args:List V}{σ σ':S}{v:V}(h:jaC E (ev E) f args σ=some (v,σ')):jbH E f args σ=some (.inl v,σ'):=by
 unfold jbH; rw [h]
theorem jaW {f:FuncId}{args:List V}{σ:S}{F:Go.Func}{body:Code}(hp:E.pure f=false)(hk:E.hook f=none)(hz:E.frz f=false)(hS:E.hookS f=none)(hf:E.P.funcs[f]? = some F)(hb:F.body=some body)(hn:F.name ≠ "runtime.NumGoroutine")(hl:args.length≤F.ntmps)
  {K:Sum V V→S→Prop} (hw:H E f none F.ntmps (fun v D σ'=>D=[]∧K (.inr v) σ') ⟨wpR E F.results.toList fun v σ'=>K (.inl v) σ',fun _ _ _ _=>False,wpR E F.results.toList fun v σ'=>K (.inl v) σ'⟩ [] body (argT args) [] σ) :
  ∃ r σ',jbH E f args σ=some (r,σ')∧K r σ':=by
 obtain ⟨⟨ex,vals,d,st⟩,h1,hq⟩:=jc4 body hw _ (Rep.args args F.ntmps hl)
 have hret:(ex=.normal∨ex=.ret)→(∃ T1,Rep F.ntmps T1 vals∧wpR E F.results.toList (fun v σ'=>K (.inl v) σ') T1 d st)→∃ r σ',jbH E f args σ=some (r,σ')∧K r σ':=by
  rintro he ⟨T1,hr1,h,hh,vs,hvs,hk2⟩
  rw [← hr1.res] at hvs
  refine ⟨.inl (ja4 vs),⟨h,st.toks⟩,jcj ?_,hk2⟩
  have e1:ev E (.call f args σ)=some ⟨.ret,[ja4 vs],[],⟨h,st.toks⟩⟩:=jb0 (by
   simp only [jcy,hf,hb,hn,Kg,h1]
   rcases he with rfl | rfl <;> simp only [hh,hvs])
  unfold jaC
  simp only [hk,hp,hz,hS,Kk,Kg,e1]
 cases ex with
 | normal=>exact hret (.inl rfl) hq
 | ret=>exact hret (.inr rfl) hq
 | exit i=>obtain ⟨_,_,h⟩:=hq; exact h.elim
 | pan x =>
  obtain ⟨hd,hq⟩:=hq
  simp only at hd
  subst hd
  have e1:ev E (.call f args σ)=some ⟨.pan x,[],[],st⟩:=jb0 (by simp only [jcy,hf,hb,hn,Kg,h1,finD,jb9])
  refine ⟨.inr x,st,?_,hq⟩
  have hc:jaC E (ev E) f args σ=none:=by
   unfold jaC
   simp only [hk,hp,hz,hS,Kk,Kg,e1]
  have hP:jg0 E (ev E) f args σ=some (x,st):=by
   unfold jg0
   simp only [hk,hp,hz,hS,J4,Kk,Kg,e1]
  unfold jbH
  rw [hc,hP]
  rfl
theorem jhj {fn:FuncId}{rnd:Option Nat}{n:Nat}{X:V→List DE→S→Prop}{c:Code}{Q:Post}(I:Nat→Tm→List DE→S→Prop)(h:∀ m T D σ,I m T D σ→H E fn rnd n X ⟨fun T D σ=>∃ m',m'<m∧I m' T D σ,Q.exit,Q.ret⟩ [] c T D σ):∀ m T D σ,I m T D σ→jmN E fn rnd n X c T D σ Q:=by
 intro m T D σ hI tmps hr
 obtain ⟨r,h1,h2⟩:=jrr (E:=E) (fn:=fn) (rnd:=rnd) (n:=n) (X:=fun v _ D σ=>X v D σ) (c:=c) (Q:=Q) I (fun m T D σ hI=>jc4 c (h m T D σ hI)) m T D σ hI tmps hr
 exact ⟨r,h1,h2⟩
end
theorem jsw (E:Env)(x:Operand):scOp E (.nilCheck x)=false:=rfl
theorem jsx (x:Operand):ja9 (.nilCheck x)=false:=rfl
theorem jnR (E:Env)(t:TypeId):scOp E (.alloc t)=true:=rfl
theorem jnS (t:TypeId):ja9 (.alloc t)=false:=rfl
theorem jsy (E:Env)(t:TypeId)(x:Operand):scOp E (.box t x)=true:=rfl
theorem jsz (t:TypeId)(x:Operand):ja9 (.box t x)=false:=rfl
theorem jnT (E:Env)(t:TypeId)(ps:Array (Nat × Operand)):scOp E (.build t ps)=false:=rfl
theorem jnU (t:TypeId)(ps:Array (Nat × Operand)):ja9 (.build t ps)=false:=rfl
theorem jup (t:TypeId)(n:Nat)(ps:Array (Nat × Operand)):ja9 (.buildSlice t n ps)=false:=rfl
theorem jnV (E:Env)(t:TypeId)(x:Operand)(lo hi mx:Option Operand):scOp E (.slice t x lo hi mx)=false:=rfl
theorem jnW (t:TypeId)(x:Operand)(lo hi mx:Option Operand):ja9 (.slice t x lo hi mx)=false:=rfl
theorem jsA (E:Env)(f:Fn)(a b:Array Operand):scOp E (.makeFunc f a b)=false:=rfl
theorem jsB (f:Fn)(a b:Array Operand):ja9 (.makeFunc f a b)=false:=rfl
theorem jsC (E:Env)(t:TypeId)(x:Operand):scOp E (.makeInterface t x)=false:=rfl
theorem jsD (t:TypeId)(x:Operand):ja9 (.makeInterface t x)=false:=rfl
theorem jsE (E:Env)(ag:Array Operand)(ts:Array TypeId):scOp E (.call ⟨.builtin .append,ag,ts⟩)=true:=rfl
theorem jsF (E:Env)(t:TypeId)(x:Option Operand):scOp E (.makeMap t x)=true:=rfl
theorem jsG (t:TypeId)(x:Option Operand):ja9 (.makeMap t x)=false:=rfl
theorem jsH (E:Env)(t:TypeId)(x y z:Operand):scOp E (.insert t x y z)=true:=rfl
theorem jsI (t:TypeId)(x y z:Operand):ja9 (.insert t x y z)=false:=rfl
theorem jqf (E:Env)(t:TypeId)(x y:Operand)(b:Bool):scOp E (.lookup t x y b)=false:=rfl
theorem jqg (t:TypeId)(x y:Operand)(b:Bool):ja9 (.lookup t x y b)=true:=rfl
theorem jnX (E:Env)(t:TypeId)(x:Operand)(n:Nat):scOp E (.field t x n)=false:=rfl
theorem jnY (t:TypeId)(x:Operand)(n:Nat):ja9 (.field t x n)=false:=rfl
theorem jnZ (E:Env)(f:FuncId)(ag:Array Operand)(ts:Array TypeId):scOp E (.call ⟨.value (.func f),ag,ts⟩) = !(E.pure f || (E.hook f).isSome):=rfl
section
variable {E:Env}{fn:FuncId}{rnd:Option Nat}{n:Nat}{Q:Post}{ks:List Kt}{m:Bool}{ops:Array Oper}{l:List Oper}{T:Tm}{D:List DE}{f:FuncId}{args:List V}{σ:S}
theorem jqh {d:Nat}{K:V→S→Prop}(h:∃ v σ',jaC E (ev E) f args σ=some (v,σ')∧K v σ')(k:∀ v σ',K v σ'→GL E fn rnd n Q ks m ops l (upd T d v) D σ') :
  GS E fn rnd n Q ks m ops l T D d (jaC E (ev E) f args σ):=by
 obtain ⟨v,σ',h1,h2⟩:=h
 rw [h1,Zu]
 exact k v σ' h2
theorem jaT {X:V→List DE→S→Prop}{Y:V→S→Prop}{d:Nat}{K:Sum V V→S→Prop}(h:∃ r σ',jbH E f args σ=some (r,σ')∧K r σ')(k:∀ v σ',K (.inl v) σ'→HL E fn rnd n X Q ks Y m ops l (upd T d v) D σ')(kx:∀ v σ',K (.inr v) σ'→Y v σ') :
  HX E fn rnd n X Q ks Y m ops l T D d (jbH E f args σ):=by
 obtain ⟨r,σ',h1,h2⟩:=h
 rw [h1]
 cases r with
 | inl v=>rw [jnE]; exact k v σ' h2
 | inr v=>rw [jp6]; exact kx v σ' h2
theorem jcg {X:V→List DE→S→Prop}{Y:V→S→Prop}{d:Nat}{K:V→S→Prop}(h:∃ v σ',jaC E (ev E) f args σ=some (v,σ')∧K v σ')(k:∀ v σ',K v σ'→HL E fn rnd n X Q ks Y m ops l (upd T d v) D σ') :
  HX E fn rnd n X Q ks Y m ops l T D d (jbH E f args σ):=by
 obtain ⟨v,σ',h1,h2⟩:=h
 rw [jcj h1,jnE]
 exact k v σ' h2
end
theorem jfo {E:Env}{f:FuncId}{args:List V}{σ σ':S}{v:V}(h:jbH E f args σ=some (.inl v,σ')):jaC E (ev E) f args σ=some (v,σ'):=by
 unfold jbH at h
 split at h
 ·rename_i w s hc
  simp only [Kf,Ki,Sum.inl.injEq] at h
  rw [hc,h.1,h.2]
 ·simp only [Km,Ki] at h
  obtain ⟨_,_,h,_⟩:=h
  cases h
theorem jeC {E:Env}{f:FuncId}{args:List V}{σ σ':S}{v:V}(h:jbH E f args σ=some (.inr v,σ')):E.pure f=false∧E.hook f=none∧E.frz f=false∧E.hookS f=none∧ev E (.call f args σ)=some ⟨.pan v,[],[],σ'⟩:=by
 unfold jbH at h
 split at h
 ·simp at h
 ·simp only [Km,Ki,Sum.inr.injEq] at h
  obtain ⟨⟨x,s⟩,h1,h2,h3⟩:=h
  simp only at h2 h3
  subst h2 h3
  unfold jg0 at h1
  split at h1
  ·cases h1
  ·rename_i hk
   split at h1
   ·cases h1
   ·rename_i hp
    split at h1
    ·cases h1
    ·rename_i hz
     split at h1
     ·cases h1
     ·rename_i hS
      split at h1
      ·rename_i v' σ1 he
       simp only [Kf,Ki] at h1
       obtain ⟨rfl,rfl⟩:=h1
       exact ⟨by simpa using hp,hk,by simpa using hz,by simpa using hS,he⟩
      ·cases h1
theorem jiH {E:Env}{fn:FuncId}{rnd:Option Nat}{n:Nat}{X:V→List DE→S→Prop}{Q:Post}{ks:List Kt}{id:Nat}{ops:Array Oper}{T:Tm}{D:List DE}{σ:S}(hs:E.stab fn id=true)
  (h:wpP E fn rnd n (fun v _ D σ=>X v D σ) (.region id ops true) T D σ (Kt.postX E fn rnd n X Q ks)):H E fn rnd n X Q ks (.region id ops true) T D σ:=by
 unfold H wpCX
 simp only [hs]
 exact h
theorem jb2 {E:Env}{fn:FuncId}{rnd:Option Nat}{n:Nat}{X:V→List DE→S→Prop}{Q:Post}{ks:List Kt}{T:Tm}{D:List DE}{σ:S}(k:Nat)(id:Nat)(l:List Oper)(h:(id == k)=false) :
  H E fn rnd n X Q ks (.region id l.toArray false) T D σ=HL E fn rnd n X Q ks (fun v σ=>X v D σ) (E.mutb fn id) l.toArray l T D σ:=rfl
theorem jbg {E:Env}{fn:FuncId}{rnd:Option Nat}{n:Nat}{X:V→List DE→S→Prop}{Q:Post}{c:Code}{T:Tm}{D:List DE}{σ:S}(h:H E fn rnd n X Q [] c T D σ):wpCX E fn rnd n X c T D σ Q:=h
theorem hhXa:type_of% (Ke @jun (Ke @jpY (Ke @jiz (Ke @jjE (Ke @jjF (Ke @jiA (Ke @jjG (Ke @jjH (Ke @jjI (Ke @jlo (Ke @jlp (@jso)))))))))))):=Ke @jun (Ke @jpY (Ke @jiz (Ke @jjE (Ke @jjF (Ke @jiA (Ke @jjG (Ke @jjH (Ke @jjI (Ke @jlo (Ke @jlp (@jso)))))))))))
theorem hhXb:type_of% (Ke @jsp (Ke @jsq (Ke @juo (Ke @jp1 (Ke @jnD (Ke @jp2 (Ke @jsr (Ke @jp3 (Ke @jp4 (Ke @jss (Ke @jp5 (@jp9)))))))))))):=Ke @jsp (Ke @jsq (Ke @juo (Ke @jp1 (Ke @jnD (Ke @jp2 (Ke @jsr (Ke @jp3 (Ke @jp4 (Ke @jss (Ke @jp5 (@jp9)))))))))))
theorem hhXc:type_of% (Ke @jnF (Ke @jst (Ke @jsu (Ke @jhB (Ke @jgC (Ke @jgD (Ke @jfV (Ke @jiB (Ke @jhC (Ke @jiC (Ke @jjJ (@jjK)))))))))))):=Ke @jnF (Ke @jst (Ke @jsu (Ke @jhB (Ke @jgC (Ke @jgD (Ke @jfV (Ke @jiB (Ke @jhC (Ke @jiC (Ke @jjJ (@jjK)))))))))))
theorem hhXd:type_of% (Ke @jlq (Ke @jpZ (Ke @jp0 (Ke @jnE (Ke @jp6 (Ke @jp7 (Ke @jp8 (Ke @jqa (Ke @jnG (Ke @jnH (Ke @jlr (@jmO)))))))))))):=Ke @jlq (Ke @jpZ (Ke @jp0 (Ke @jnE (Ke @jp6 (Ke @jp7 (Ke @jp8 (Ke @jqa (Ke @jnG (Ke @jnH (Ke @jlr (@jmO)))))))))))
theorem hhXe:type_of% (Ke @jjQ (Ke @jiG (Ke @jlw (Ke @jnQ (Ke @jqb (Ke @jls (Ke @jqc (Ke @jnJ (Ke @jsv (Ke @jnK (Ke @jgE (@jlt)))))))))))):=Ke @jjQ (Ke @jiG (Ke @jlw (Ke @jnQ (Ke @jqb (Ke @jls (Ke @jqc (Ke @jnJ (Ke @jsv (Ke @jnK (Ke @jgE (@jlt)))))))))))
theorem hhXf:type_of% (Ke @jqd (Ke @jnL (Ke @jiD (Ke @jnM (Ke @jqe (Ke @jjN (Ke @je3 (Ke @jiE (Ke @jjO (Ke @jhF (Ke @jnN (@jhG)))))))))))):=Ke @jqd (Ke @jnL (Ke @jiD (Ke @jnM (Ke @jqe (Ke @jjN (Ke @je3 (Ke @jiE (Ke @jjO (Ke @jhF (Ke @jnN (@jhG)))))))))))
theorem hhXg:type_of% (Ke @jnO (Ke @jhH (Ke @jnP (Ke @jlv (Ke @jhI (Ke @jiF (Ke @jgG (Ke @jgH (Ke @jjP (Ke @jlu (Ke @jjM (@jgF)))))))))))):=Ke @jnO (Ke @jhH (Ke @jnP (Ke @jlv (Ke @jhI (Ke @jiF (Ke @jgG (Ke @jgH (Ke @jjP (Ke @jlu (Ke @jjM (@jgF)))))))))))
theorem hhXh:type_of% (Ke @jfW (Ke @jhE (Ke @jnI (@jjL)))):=Ke @jfW (Ke @jhE (Ke @jnI (@jjL)))
theorem Kc : type_of% (Ke @hhXa (Ke @hhXb (Ke @hhXc (Ke @hhXd (Ke @hhXe (Ke @hhXf (Ke @hhXg (@hhXh)))))))) := Ke @hhXa (Ke @hhXb (Ke @hhXc (Ke @hhXd (Ke @hhXe (Ke @hhXf (Ke @hhXg (@hhXh)))))))
theorem hhSa:type_of% (Ke @ZK (Ke @ZL (Ke @ZM (Ke @ZN (Ke @ZO (Ke @ZP (Ke @ZQ (Ke @ZR (Ke @ZS (Ke @ZT (Ke @ZU (@ZV)))))))))))):=Ke @ZK (Ke @ZL (Ke @ZM (Ke @ZN (Ke @ZO (Ke @ZP (Ke @ZQ (Ke @ZR (Ke @ZS (Ke @ZT (Ke @ZU (@ZV)))))))))))
theorem hhSb:type_of% (Ke @ZW (Ke @ZX (Ke @ZY (Ke @Z0 (Ke @Z1 (Ke @Z2 (Ke @Z3 (Ke @Z4 (Ke @Z5 (Ke @Z7 (Ke @true_and (@Z8)))))))))))):=Ke @ZW (Ke @ZX (Ke @ZY (Ke @Z0 (Ke @Z1 (Ke @Z2 (Ke @Z3 (Ke @Z4 (Ke @Z5 (Ke @Z7 (Ke @true_and (@Z8)))))))))))
theorem hhSc:type_of% (Ke @Z9 (Ke @jeV (Ke @Ya (Ke @jd3 (Ke @Yb (Ke @Yc (Ke @Yd (Ke @Ye (Ke @Yf (Ke @Yg (Ke @Yh (@Yi)))))))))))):=Ke @Z9 (Ke @jeV (Ke @Ya (Ke @jd3 (Ke @Yb (Ke @Yc (Ke @Yd (Ke @Ye (Ke @Yf (Ke @Yg (Ke @Yh (@Yi)))))))))))
theorem hhSd:type_of% (Ke @Yj (Ke @Yk (Ke @Yl (Ke @Ym (Ke @Yn (Ke @Yo (Ke @Yp (Ke @Yq (Ke @Yr (Ke @Yt (Ke @Yu (@Yv)))))))))))):=Ke @Yj (Ke @Yk (Ke @Yl (Ke @Ym (Ke @Yn (Ke @Yo (Ke @Yp (Ke @Yq (Ke @Yr (Ke @Yt (Ke @Yu (@Yv)))))))))))
theorem hhSe:type_of% (Ke @Yw (Ke @Vj.{0} (Ke @Vk.{0} (Ke @Q4.{0} (Ke @Qq.{0} (Ke @K8.{0} (Ke @Js.{0} (Ke @J3.{0} (Ke @Jy.{0} (Ke @Yx (Ke @Yy (@Qk)))))))))))):=Ke @Yw (Ke @Vj.{0} (Ke @Vk.{0} (Ke @Q4.{0} (Ke @Qq.{0} (Ke @K8.{0} (Ke @Js.{0} (Ke @J3.{0} (Ke @Jy.{0} (Ke @Yx (Ke @Yy (@Qk)))))))))))
theorem hhSf:type_of% (Ke @Yz (Ke @YA (Ke @YB (Ke @YC (Ke @YD (Ke @YE (Ke @YF (Ke @YG (Ke @YH (Ke @YI (Ke @YJ (@YK)))))))))))):=Ke @Yz (Ke @YA (Ke @YB (Ke @YC (Ke @YD (Ke @YE (Ke @YF (Ke @YG (Ke @YH (Ke @YI (Ke @YJ (@YK)))))))))))
theorem hhSg:type_of% (Ke @YL (Ke @YM (Ke @YN (Ke @YO (Ke @Xw.{0} (Ke @YP (Ke @YQ (Ke @YR (Ke @YS (Ke @YT (Ke @YU (@YV)))))))))))):=Ke @YL (Ke @YM (Ke @YN (Ke @YO (Ke @Xw.{0} (Ke @YP (Ke @YQ (Ke @YR (Ke @YS (Ke @YT (Ke @YU (@YV)))))))))))
theorem hhSh:type_of% (Ke @YW (Ke @YX (Ke @Jc (Ke @YY (Ke @YZ (Ke @K1 (Ke @Kk (Ke @Jl (Ke @and_self (Ke @Y4 (Ke @Y5 (@Xo)))))))))))):=Ke @YW (Ke @YX (Ke @Jc (Ke @YY (Ke @YZ (Ke @K1 (Ke @Kk (Ke @Jl (Ke @and_self (Ke @Y4 (Ke @Y5 (@Xo)))))))))))
theorem hhSi:type_of% (Ke @J6 (Ke @not_true_eq_false (Ke @decide_true (Ke @decide_false (Ke @true_implies (Ke @false_implies (Ke @Jv (Ke @K0.{0} (Ke @K6.{0} (Ke @K4 (Ke @Jh (@Xg)))))))))))):=Ke @J6 (Ke @not_true_eq_false (Ke @decide_true (Ke @decide_false (Ke @true_implies (Ke @false_implies (Ke @Jv (Ke @K0.{0} (Ke @K6.{0} (Ke @K4 (Ke @Jh (@Xg)))))))))))
theorem hhSj:type_of% (Ke @Y6 (Ke @Xz (Ke @Qy (Ke @Xe (Ke @Xc (@Xl)))))):=Ke @Y6 (Ke @Xz (Ke @Qy (Ke @Xe (Ke @Xc (@Xl)))))
theorem Ka : type_of% (Ke @hhSa (Ke @hhSb (Ke @hhSc (Ke @hhSd (Ke @hhSe (Ke @hhSf (Ke @hhSg (Ke @hhSh (Ke @hhSi (@hhSj)))))))))) := Ke @hhSa (Ke @hhSb (Ke @hhSc (Ke @hhSd (Ke @hhSe (Ke @hhSf (Ke @hhSg (Ke @hhSh (Ke @hhSi (@hhSj)))))))))
theorem hhWa:type_of% (Ke @jmJ (Ke @jmK (Ke @jlg (Ke @jpK (Ke @jnu (Ke @jpL (Ke @jhz (Ke @jfm (Ke @jjA (Ke @jko (Ke @jnv (@jmL)))))))))))):=Ke @jmJ (Ke @jmK (Ke @jlg (Ke @jpK (Ke @jnu (Ke @jpL (Ke @jhz (Ke @jfm (Ke @jjA (Ke @jko (Ke @jnv (@jmL)))))))))))
theorem hhWb:type_of% (Ke @jmM (Ke @jlh (Ke @jpM (Ke @jnw (Ke @jpN (Ke @jhA (Ke @jfn (Ke @jjB (Ke @jkp (Ke @jpO (Ke @jhh (@jsw)))))))))))):=Ke @jmM (Ke @jlh (Ke @jpM (Ke @jnw (Ke @jpN (Ke @jhA (Ke @jfn (Ke @jjB (Ke @jkp (Ke @jpO (Ke @jhh (@jsw)))))))))))
theorem hhWc:type_of% (Ke @jsx (Ke @jnR (Ke @jnS (Ke @jsy (Ke @jsz (Ke @jnT (Ke @jnU (Ke @jup (Ke @jnV (Ke @jnW (Ke @jsA (@jsB)))))))))))):=Ke @jsx (Ke @jnR (Ke @jnS (Ke @jsy (Ke @jsz (Ke @jnT (Ke @jnU (Ke @jup (Ke @jnV (Ke @jnW (Ke @jsA (@jsB)))))))))))
theorem hhWd:type_of% (Ke @jsC (Ke @jsD (Ke @jsE (Ke @jsF (Ke @jsG (Ke @jsH (Ke @jsI (Ke @jqf (Ke @jqg (Ke @jnX (Ke @jnY (@jnZ)))))))))))):=Ke @jsC (Ke @jsD (Ke @jsE (Ke @jsF (Ke @jsG (Ke @jsH (Ke @jsI (Ke @jqf (Ke @jqg (Ke @jnX (Ke @jnY (@jnZ)))))))))))
end Go.Ab
