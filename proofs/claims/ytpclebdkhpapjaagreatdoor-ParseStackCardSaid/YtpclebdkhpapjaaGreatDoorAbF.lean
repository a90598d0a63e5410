/- Proved here: rules for stepping where code may panic. Conditions: those of each theorem; no statement of the seat is proved in this text. -/
import Derived.Test.YtpclebdkhpapjaaGreatDoorAbE
set_option linter.unusedSimpArgs false
set_option linter.unusedVariables false
set_option linter.unusedSectionVars false
namespace Go.Ab
section
variable (E:Env)
noncomputable def jbL (f:FuncId)(args:List V)(σ:S):Option (Sum V V × S) :=
 match jas E (ev E) f args σ with
 | some (v,s)=>some (.inl v,s)
 | none=>(jhN E (ev E) f args σ).map fun p=>(.inr p.1,p.2)
noncomputable def jkK (g:V)(args:List V)(σ:S):Option (Sum V V × S) :=
 match g with
 | .func f first captured=>jbL E f (first++args++captured) σ
 | g=>(jdf E (ev E) g args σ).map fun p=>(.inl p.1,p.2)
def panV (v:V)(σ:S):Option (Sum V V × S) :=
 match v with
 | .iface t u=>some (.inr (.iface t u),σ)
 | _=>none
noncomputable def opKX (mutb:Bool)(T:Tm)(σ:S)(op:Op):Option (Sum V V × S) :=
 match op with
 | .panic x=>(jaL E T x).bind fun v=>panV v σ
 | .call { callee:=.value g,args,.. }=>(jaL E T g).bind fun gv=>(jbt (jaL E T) args.toList).bind fun as=>jkK E gv as σ
 | op=>(opT E mutb T σ op).map fun p=>(.inl p.1,p.2)
def KX (X:V→S→Prop)(k:V→S→Prop)(p:Sum V V × S):Prop :=
 match p.1 with
 | .inl v=>k v p.2
 | .inr v=>X v p.2
def wpOX (X:V→S→Prop)(mutb:Bool)(T:Tm)(σ:S)(op:Op)(k:V→S→Prop):Prop:=V1 (opKX E mutb T σ op) (KX X k)
def wpLX (X:V→S→Prop) (mutb:Bool) (n:Nat) (ops:Array Oper):List Oper→Tm→S→(Tm→S→Prop)→Prop
  | [],T,σ,k=>k T σ
  | ⟨dst,op,_,_,_,none⟩::l,T,σ,k =>
    match dst with
    | none=>wpOX E X mutb T σ op fun _ σ'=>wpLX X mutb n ops l T σ' k
    | some d=>d<n∧wpOX E X mutb T σ op fun v σ'=>wpLX X mutb n ops l (upd T d v) σ' k
  | ⟨dst,op,_,_,_,some (j,b)⟩::l,T,σ,k =>
    V1 ((ops[j]?).bind (·.dst)) fun dj=>dj<n∧Br3 (T dj)
      (match b with
        | true=>(match dst with
          | none=>wpOX E X mutb (upd T dj (.bool true)) σ op fun _ σ'=>wpLX X mutb n ops l (upd T dj (.bool true)) σ' k
          | some d=>d<n∧wpOX E X mutb (upd T dj (.bool true)) σ op fun v σ'=>wpLX X mutb n ops l (upd (upd T dj (.bool true)) d v) σ' k)
        | false=>(match dst with
          | none=>wpLX X mutb n ops l (upd T dj (.bool true)) σ k
          | some d=>d<n∧wpLX X mutb n ops l (upd (upd T dj (.bool true)) d (.tup [])) σ k))
      (match b with
        | false=>(match dst with
          | none=>wpOX E X mutb (upd T dj (.bool false)) σ op fun _ σ'=>wpLX X mutb n ops l (upd T dj (.bool false)) σ' k
          | some d=>d<n∧wpOX E X mutb (upd T dj (.bool false)) σ op fun v σ'=>wpLX X mutb n ops l (upd (upd T dj (.bool false)) d v) σ' k)
        | true=>(match dst with
          | none=>wpLX X mutb n ops l (upd T dj (.bool false)) σ k
          | some d=>d<n∧wpLX X mutb n ops l (upd (upd T dj (.bool false)) d (.tup [])) σ k))
      (match dst with
        | none=>wpLX X mutb n ops l T σ k
        | some d=>d<n∧wpLX X mutb n ops l (upd T d (.tup [])) σ k)
variable {E}
theorem jqt {mutb:Bool}{n:Nat}{T:Tm}{tmps:List V}(hr:Rep n T tmps){σ σ':S}{op:Op}{r:Sum V V}(h:opKX E mutb T σ op=some (r,σ')) :
  (∀ v,r=.inl v→opV E (ev E) mutb tmps σ op=some (v,σ'))∧∀ v,r=.inr v→opV E (ev E) mutb tmps σ op=none∧opP E (ev E) tmps σ op=some (v,σ'):=by
 unfold opKX at h
 split at h
 ·rename_i x
  cases hx:jaL E T x with
  | none=>rw [hx] at h; simp at h
  | some v =>
   rw [hx] at h
   simp only [Kk,panV] at h
   split at h
   ·rename_i t u
    simp only [Kg,Kh] at h
    obtain ⟨rfl,rfl⟩:=h
    have hp:opP E (ev E) tmps σ (.panic x)=some (.iface t u,σ):=by simp only [opP,hr.eval,hx]
    exact ⟨fun v e=>(by cases e),fun v e=>by cases e; exact ⟨jcj hp,hp⟩⟩
   ·simp at h
 ·rename_i g args ats
  cases hg:jaL E T g with
  | none=>rw [hg] at h; simp at h
  | some gv =>
   cases ha:jbt (jaL E T) args.toList with
   | none=>rw [hg,ha] at h; simp at h
   | some as =>
    rw [hg,ha] at h
    simp only [Kk] at h
    have hV:opV E (ev E) mutb tmps σ (.call ⟨.value g,args,ats⟩)=jdf E (ev E) gv as σ:=by
     unfold opV
     rw [hr.eval]
     simp only [jbn,jbs,hg,ha,Kk]
    unfold jkK at h
    split at h
    ·rename_i f first captured
     unfold jbL at h
     split at h
     ·rename_i v s hc
      simp only [Kg,Kh] at h
      obtain ⟨rfl,rfl⟩:=h
      exact ⟨fun v e=>(by cases e; rw [hV]; exact hc),fun v e=>by cases e⟩
     ·rename_i hc
      simp only [Ko,Kh] at h
      obtain ⟨⟨v,s⟩,hp,rfl,rfl⟩:=h
      have hP:opP E (ev E) tmps σ (.call ⟨.value g,args,ats⟩)=some (v,s):=by simp only [opP,hr.eval,hg,ha,hp]
      exact ⟨fun v e=>(by cases e),fun v e=>by cases e; exact ⟨jcj hP,hP⟩⟩
    ·simp only [Ko,Kh] at h
     obtain ⟨⟨v,s⟩,hc,rfl,rfl⟩:=h
     exact ⟨fun v e=>(by cases e; rw [hV]; exact hc),fun v e=>by cases e⟩
 ·simp only [Ko,Kh] at h
  obtain ⟨⟨v,s⟩,hc,rfl,rfl⟩:=h
  refine ⟨fun v e => ?_,fun v e=>by cases e⟩
  cases e
  unfold opV
  rw [hr.eval]
  unfold opT at hc
  exact hc
theorem jgi {X k:V→S→Prop}{mutb:Bool}{n:Nat}{T:Tm}{tmps:List V}(hr:Rep n T tmps){σ:S}{op:Op}(h:wpOX E X mutb T σ op k) :
  (∃ v σ',opV E (ev E) mutb tmps σ op=some (v,σ')∧k v σ')∨(∃ v σ',opV E (ev E) mutb tmps σ op=none∧opP E (ev E) tmps σ op=some (v,σ')∧X v σ'):=by
 obtain ⟨⟨r,σ'⟩,h1,h2⟩:=h
 have h3:=jqt hr h1
 cases r with
 | inl v=>exact .inl ⟨v,σ',h3.1 v rfl,h2⟩
 | inr v=>exact .inr ⟨v,σ',(h3.2 v rfl).1,(h3.2 v rfl).2,h2⟩
def EndL (E:Env)(rnd:Option Nat)(n:Nat)(X:V→S→Prop)(mutb:Bool)(ops:Array Oper)(l:List Oper)(tmps:List V)(D:List DE)(σ:S)(k:Tm→S→Prop):Prop :=
 (∃ tmps' σ' T',jb7 E (ev E) rnd mutb ops l none tmps D σ=some ⟨none,none,tmps',D,σ'⟩∧Rep n T' tmps'∧k T' σ')∨∃ v tmps' σ',jb7 E (ev E) rnd mutb ops l none tmps D σ=some ⟨some v,none,tmps',D,σ'⟩∧X v σ'
theorem jcP {rnd:Option Nat}{X:V→S→Prop}{mutb:Bool}{n:Nat}{ops:Array Oper}{D:List DE}:∀ (l:List Oper) {T:Tm} {tmps:List V} {σ:S} {k:Tm→S→Prop},Rep n T tmps→wpLX E X mutb n ops l T σ k→EndL E rnd n X mutb ops l tmps D σ k
  | [],T,tmps,σ,k,h,hw=>.inl ⟨tmps,σ,T,rfl,h,hw⟩
  | ⟨dst,op,t,p,a,none⟩::l,T,tmps,σ,k,h,hw=>by
    have hwn:Region.wanted (⟨dst,op,t,p,a,none⟩:Oper) (jaC ops tmps)=true:=rfl
    simp only [wpLX] at hw
    cases dst with
    | none =>
      rcases jgi h hw with ⟨v,σ',h1,h2⟩ | ⟨v,σ',h0,h1,h2⟩
      · have ih:=jcP (rnd:=rnd) (D:=D) l h h2
        unfold EndL at ih ⊢
        simp only [jb7,hwn,Ks,h1,putT]
        exact ih
      · refine .inr ⟨v,tmps,σ',?_,h2⟩
        simp only [jb7,hwn,Ks,h0,h1]
    | some d =>
      obtain ⟨hd,hw⟩:=hw
      rcases jgi h hw with ⟨v,σ',h1,h2⟩ | ⟨v,σ',h0,h1,h2⟩
      · have ih:=jcP (rnd:=rnd) (D:=D) l (h.upd hd v) h2
        unfold EndL at ih ⊢
        simp only [jb7,hwn,Ks,h1]
        exact ih
      · refine .inr ⟨v,tmps,σ',?_,h2⟩
        simp only [jb7,hwn,Ks,h0,h1]
  | ⟨dst,op,t,p,a,some (j,b)⟩::l,T,tmps,σ,k,h,hw=>by
    simp only [wpLX] at hw
    obtain ⟨dj,hdj,hlt,⟨htup,hw⟩ | ⟨b0,hb0,hT,hF⟩⟩:=hw
    · have hwn:Region.wanted (⟨dst,op,t,p,a,some (j,b)⟩:Oper) (jaC ops tmps)=false:=by
        simp [Region.wanted,jfh h hdj htup]
      unfold EndL
      simp only [jb7,hwn,Kl,Kr]
      cases dst with
      | none=>exact jcP l h hw
      | some d=>exact jcP l (h.upd hw.1 _) hw.2
    have hTd:=jcx hb0
    have hy:=jfg h hdj hTd
    have go:∀ (T2:Tm),T2=T→(match dst with
          | none=>wpOX E X mutb T2 σ op fun _ σ'=>wpLX E X mutb n ops l T2 σ' k
          | some d=>d<n∧wpOX E X mutb T2 σ op fun v σ'=>wpLX E X mutb n ops l (upd T2 d v) σ' k)→Region.wanted (⟨dst,op,t,p,a,some (j,b)⟩:Oper) (jaC ops tmps)=true→EndL E rnd n X mutb ops (⟨dst,op,t,p,a,some (j,b)⟩::l) tmps D σ k:=by
      intro T2 e hw hwn
      subst e
      cases dst with
      | none =>
        rcases jgi h hw with ⟨v,σ',h1,h2⟩ | ⟨v,σ',h0,h1,h2⟩
        · have ih:=jcP (rnd:=rnd) (D:=D) l h h2
          unfold EndL at ih ⊢
          simp only [jb7,hwn,Ks,h1,putT]
          exact ih
        · refine .inr ⟨v,tmps,σ',?_,h2⟩
          simp only [jb7,hwn,Ks,h0,h1]
      | some d =>
        obtain ⟨hd,hw⟩:=hw
        rcases jgi h hw with ⟨v,σ',h1,h2⟩ | ⟨v,σ',h0,h1,h2⟩
        · have ih:=jcP (rnd:=rnd) (D:=D) l (h.upd hd v) h2
          unfold EndL at ih ⊢
          simp only [jb7,hwn,Ks,h1]
          exact ih
        · refine .inr ⟨v,tmps,σ',?_,h2⟩
          simp only [jb7,hwn,Ks,h0,h1]
    have no:∀ (T2:Tm),T2=T→(match dst with
          | none=>wpLX E X mutb n ops l T2 σ k
          | some d=>d<n∧wpLX E X mutb n ops l (upd T2 d (.tup [])) σ k)→Region.wanted (⟨dst,op,t,p,a,some (j,b)⟩:Oper) (jaC ops tmps)=false→EndL E rnd n X mutb ops (⟨dst,op,t,p,a,some (j,b)⟩::l) tmps D σ k:=by
      intro T2 e hw hwn
      subst e
      unfold EndL
      simp only [jb7,hwn,Kl,Kr]
      cases dst with
      | none=>exact jcP l h hw
      | some d=>exact jcP l (h.upd hw.1 _) hw.2
    cases b0 with
    | true =>
      have hw:=hT rfl
      cases b with
      | true=>cases dst <;> exact go _ (jdE hTd) hw (by simp [Region.wanted,hy])
      | false=>cases dst <;> exact no _ (jdE hTd) hw (by simp [Region.wanted,hy])
    | false =>
      have hw:=hF rfl
      cases b with
      | false=>cases dst <;> exact go _ (jdE hTd) hw (by simp [Region.wanted,hy])
      | true=>cases dst <;> exact no _ (jdE hTd) hw (by simp [Region.wanted,hy])
end
section
variable (E:Env)(fn:FuncId)(rnd:Option Nat)(n:Nat)(X:V→List DE→S→Prop)
def joe (c:Code)(T:Tm)(D:List DE)(σ:S)(Q:Post):Prop :=
 ∀ tmps,Rep n T tmps→∃ r,ev E (.loop fn rnd c tmps D σ)=some r∧Post.ofP n Q (fun v _ D σ=>X v D σ) r
def wpCX:Code→Tm→List DE→S→Post→Prop
 | .skip,T,D,σ,Q=>Q.norm T D σ
 | .exit i,T,D,σ,Q=>Q.exit i T D σ
 | .ret,T,D,σ,Q=>Q.ret T D σ
 | .seq a b,T,D,σ,Q=>wpCX a T D σ ⟨fun T D σ=>wpCX b T D σ Q,Q.exit,Q.ret⟩
 | .cond (.tmp t) a b,T,D,σ,Q=>t<n∧Br (T t) (wpCX a (upd T t (.bool true)) D σ Q) (wpCX b (upd T t (.bool false)) D σ Q)
 | .block id c,T,D,σ,Q=>wpCX c T D σ ⟨Q.norm,fun i T D σ=>if i=id then Q.norm T D σ else Q.exit i T D σ,Q.ret⟩
 | .loop c,T,D,σ,Q=>joe E fn rnd n X c T D σ Q
 | .scope c,T,D,σ,Q=>wpCX c T D σ Q
 | .label _,T,D,σ,Q=>Q.norm T D σ
 | .region id ops false,T,D,σ,Q=>wpLX E (fun v σ=>X v D σ) (E.mutb fn id) n ops ops.toList T σ fun T σ=>Q.norm T D σ
 | .region id ops true,T,D,σ,Q =>
  match E.stab fn id with
  | false=>jgs E ops=true∧wpLX E (fun _ _=>False) (E.mutb fn id) n ops ops.toList T σ fun T σ=>Q.norm T D σ
  | true=>wpP E fn rnd n (fun v _ D σ=>X v D σ) (.region id ops true) T D σ Q
 | c,T,D,σ,Q=>wpP E fn rnd n (fun v _ D σ=>X v D σ) c T D σ Q
variable {E}
theorem jty {mutb:Bool}{T:Tm}{σ σ':S}{op:Op}{v:V}(h:opKX E mutb T σ op=some (.inl v,σ')):opT E mutb T σ op=some (v,σ'):=by
 unfold opKX at h
 split at h
 ·rename_i x
  cases hx:jaL E T x with
  | none=>rw [hx] at h; simp at h
  | some u =>
   rw [hx] at h
   simp only [Kk,panV] at h
   split at h <;> simp at h
 ·rename_i g args ats
  have e:opT E mutb T σ (.call ⟨.value g,args,ats⟩)=(jaL E T g).bind fun gv=>(jbt (jaL E T) args.toList).bind fun as=>jdf E (ev E) gv as σ:=by
   unfold opT; simp only [jbn,jbs]
  rw [e]
  cases hg:jaL E T g with
  | none=>rw [hg] at h; simp at h
  | some gv =>
   cases ha:jbt (jaL E T) args.toList with
   | none=>rw [hg,ha] at h; simp at h
   | some as =>
    rw [hg,ha] at h
    simp only [Kk] at h ⊢
    unfold jkK at h
    split at h
    ·unfold jbL at h
     split at h
     ·rename_i hc
      simp only [Kg,Kh,Sum.inl.injEq] at h
      obtain ⟨rfl,rfl⟩:=h
      exact hc
     ·simp only [Ko,Kh] at h
      obtain ⟨_,_,h,_⟩:=h
      cases h
    ·simp only [Ko,Kh,Sum.inl.injEq] at h
     obtain ⟨⟨v,s⟩,hc,rfl,rfl⟩:=h
     exact hc
 ·simp only [Ko,Kh,Sum.inl.injEq] at h
  obtain ⟨⟨v,s⟩,hc,rfl,rfl⟩:=h
  exact hc
theorem jea {mutb:Bool}{T:Tm}{σ:S}{op:Op}{k k':V→S→Prop}(h:wpOX E (fun _ _=>False) mutb T σ op k)(hk:∀ v s,k v s→k' v s):wpO E mutb T σ op k':=by
 obtain ⟨⟨r,s⟩,h1,h2⟩:=h
 cases r with
 | inl v=>exact ⟨(v,s),jty h1,hk v s h2⟩
 | inr v=>exact h2.elim
theorem jtz {v:V}{A B C A' B' C':Prop}(h:Br3 v A B C)(a:A→A')(b:B→B')(c:C→C'):Br3 v A' B' C':=by
 rcases h with ⟨h1,h2⟩ | ⟨x,h1,h2,h3⟩
 ·exact .inl ⟨h1,c h2⟩
 ·exact .inr ⟨x,h1,fun e=>a (h2 e),fun e=>b (h3 e)⟩
theorem jb1 {mutb:Bool}{n:Nat}{ops:Array Oper}:∀ (l:List Oper) {T:Tm} {σ:S} {k:Tm→S→Prop},wpLX E (fun _ _=>False) mutb n ops l T σ k→wpL E mutb n ops l T σ k
 | [],T,σ,k,h=>h
 | ⟨dst,op,t,p,a,none⟩::l,T,σ,k,h=>by
  simp only [wpLX,wpL] at h ⊢
  cases dst with
  | none=>exact jea h fun v s h=>jb1 l h
  | some d=>exact ⟨h.1,jea h.2 fun v s h=>jb1 l h⟩
 | ⟨dst,op,t,p,a,some (j,b)⟩::l,T,σ,k,h=>by
  simp only [wpLX,wpL] at h ⊢
  obtain ⟨dj,hdj,hlt,hb⟩:=h
  refine ⟨dj,hdj,hlt,jtz hb (fun h => ?_) (fun h => ?_) (fun h => ?_)⟩
  ·cases b <;> cases dst
   ·exact jb1 l h
   ·exact ⟨h.1,jb1 l h.2⟩
   ·exact jea h fun v s h=>jb1 l h
   ·exact ⟨h.1,jea h.2 fun v s h=>jb1 l h⟩
  ·cases b <;> cases dst
   ·exact jea h fun v s h=>jb1 l h
   ·exact ⟨h.1,jea h.2 fun v s h=>jb1 l h⟩
   ·exact jb1 l h
   ·exact ⟨h.1,jb1 l h.2⟩
  ·cases dst
   ·exact jb1 l h
   ·exact ⟨h.1,jb1 l h.2⟩
variable {fn rnd n X}
theorem jdd:∀ (c:Code) {T:Tm} {D:List DE} {σ:S} {Q:Post},wpCX E fn rnd n X c T D σ Q→wpP E fn rnd n (fun v _ D σ=>X v D σ) c T D σ Q
 | .skip,T,D,σ,Q,h=>fun tmps hr=>⟨_,rfl,T,hr,h⟩
 | .exit i,T,D,σ,Q,h=>fun tmps hr=>⟨_,rfl,T,hr,h⟩
 | .ret,T,D,σ,Q,h=>fun tmps hr=>⟨_,rfl,T,hr,h⟩
 | .seq a b,T,D,σ,Q,h=>jgN (fun tmps hr=>by
   obtain ⟨⟨ex,vals,d,st⟩,h1,hq⟩:=jdd a h tmps hr
   refine ⟨_,h1,?_⟩
   cases ex with
   | normal =>
    obtain ⟨T1,hr1,hq⟩:=hq
    exact ⟨T1,hr1,jdd b hq⟩
   | exit i=>exact hq
   | ret=>exact hq
   | pan v=>exact hq)
 | .cond (.tmp t) a b,T,D,σ,Q,h=>by
   obtain ⟨hlt,b0,hb0,hT,hF⟩:=h
   have hTd:=jcx hb0
   refine jo6 hTd ?_
   cases b0 with
   | true =>
    have hw:=hT rfl
    rw [jdE hTd] at hw
    exact jdd a hw
   | false =>
    have hw:=hF rfl
    rw [jdE hTd] at hw
    exact jdd b hw
 | .cond (.const v) a b,T,D,σ,Q,h=>h
 | .cond (.global v) a b,T,D,σ,Q,h=>h
 | .cond (.func v) a b,T,D,σ,Q,h=>h
 | .block id c,T,D,σ,Q,h=>jrQ (jdd c h)
 | .loop c,T,D,σ,Q,h=>fun tmps hr=>h tmps hr
 | .region id ops false,T,D,σ,Q,h=>fun tmps hr=>by
   rcases jcP (rnd:=rnd) (D:=D) ops.toList hr h with ⟨tmps',σ',T',h1,h2,h3⟩ | ⟨v,tmps',σ',h1,h2⟩
   ·refine ⟨⟨.normal,tmps',D,σ'⟩,?_,T',h2,h3⟩
    rw [jd2,h1]; rfl
   ·refine ⟨⟨.pan v,tmps',D,σ'⟩,?_,h2⟩
    rw [jd2,h1]; rfl
 | .region id ops true,T,D,σ,Q,h=>by
   simp only [wpCX] at h
   cases hs:E.stab fn id with
   | false =>
    simp only [hs] at h
    obtain ⟨hd,h⟩:=h
    refine juN fun tmps hr => ?_
    obtain ⟨tmps',σ',T',h1,h2,h3⟩:=jbX E ops.toList hr (jb1 _ h)
    exact ⟨_,jgH hd h1,T',h2,h3⟩
   | true =>
    simp only [hs] at h
    exact h
 | .rangeFunc _ _ _ _,T,D,σ,Q,h=>h
 | .scope c,T,D,σ,Q,h=>fun tmps hr=>by simp only [jbe]; exact jdd c h tmps hr
 | .label _,T,D,σ,Q,h=>fun tmps hr=>⟨_,rfl,T,hr,h⟩
 | .goto _,T,D,σ,Q,h=>h
 | .refuse _,T,D,σ,Q,h=>h
end
section
variable (E:Env)(fn:FuncId)(rnd:Option Nat)(n:Nat)(X:V→List DE→S→Prop)
def Kt.postX (Q:Post):List Kt→Post
 | []=>Q
 | .code b::r=>⟨fun T D σ=>wpCX E fn rnd n X b T D σ (Kt.postX Q r),(Kt.postX Q r).exit,(Kt.postX Q r).ret⟩
 | .blk id::r=>⟨(Kt.postX Q r).norm,fun i T D σ=>if i=id then (Kt.postX Q r).norm T D σ else (Kt.postX Q r).exit i T D σ,(Kt.postX Q r).ret⟩
def H (Q:Post)(ks:List Kt)(c:Code)(T:Tm)(D:List DE)(σ:S):Prop:=wpCX E fn rnd n X c T D σ (Kt.postX E fn rnd n X Q ks)
def HL (Q:Post)(ks:List Kt)(Y:V→S→Prop)(m:Bool)(ops:Array Oper)(l:List Oper)(T:Tm)(D:List DE)(σ:S):Prop :=
 wpLX E Y m n ops l T σ fun T σ=>(Kt.postX E fn rnd n X Q ks).norm T D σ
def HS (Q:Post)(ks:List Kt)(Y:V→S→Prop)(m:Bool)(ops:Array Oper)(l:List Oper)(T:Tm)(D:List DE)(d:Nat)(o:Option (V × S)):Prop :=
 V1 o fun p=>HL E fn rnd n X Q ks Y m ops l (upd T d p.1) D p.2
def HN (Q:Post)(ks:List Kt)(Y:V→S→Prop)(m:Bool)(ops:Array Oper)(l:List Oper)(T:Tm)(D:List DE)(o:Option (V × S)):Prop :=
 V1 o fun p=>HL E fn rnd n X Q ks Y m ops l T D p.2
def HX (Q:Post)(ks:List Kt)(Y:V→S→Prop)(m:Bool)(ops:Array Oper)(l:List Oper)(T:Tm)(D:List DE)(d:Nat)(o:Option (Sum V V × S)):Prop :=
 V1 o (KX Y fun v σ=>HL E fn rnd n X Q ks Y m ops l (upd T d v) D σ)
def HXN (Q:Post)(ks:List Kt)(Y:V→S→Prop)(m:Bool)(ops:Array Oper)(l:List Oper)(T:Tm)(D:List DE)(o:Option (Sum V V × S)):Prop :=
 V1 o (KX Y fun v σ=>HL E fn rnd n X Q ks Y m ops l T D σ)
def HO (Q:Post)(ks:List Kt)(Y:V→S→Prop)(m:Bool)(ops:Array Oper)(l:List Oper)(T:Tm)(D:List DE)(σ:S)(d:Nat)(op:Op):Prop :=
 HX E fn rnd n X Q ks Y m ops l T D d (opKX E m T σ op)
def HON (Q:Post)(ks:List Kt)(Y:V→S→Prop)(m:Bool)(ops:Array Oper)(l:List Oper)(T:Tm)(D:List DE)(σ:S)(op:Op):Prop :=
 HXN E fn rnd n X Q ks Y m ops l T D (opKX E m T σ op)
def HB (Q:Post)(ks:List Kt)(a b:Code)(T:Tm)(D:List DE)(σ:S)(t:Nat)(v:V):Prop :=
 Br v (H E fn rnd n X Q ks a (upd T t (.bool true)) D σ) (H E fn rnd n X Q ks b (upd T t (.bool false)) D σ)
def HG (Q:Post)(ks:List Kt)(Y:V→S→Prop)(m:Bool)(ops:Array Oper)(l:List Oper)(T:Tm)(D:List DE)(σ:S)(d:Nat)(op:Op)(b:Bool)(g:Nat)(v:V):Prop :=
 Br3 v
  (match b with
   | true=>HO E fn rnd n X Q ks Y m ops l (upd T g (.bool true)) D σ d op
   | false=>HL E fn rnd n X Q ks Y m ops l (upd (upd T g (.bool true)) d (.tup [])) D σ)
  (match b with
   | true=>HL E fn rnd n X Q ks Y m ops l (upd (upd T g (.bool false)) d (.tup [])) D σ
   | false=>HO E fn rnd n X Q ks Y m ops l (upd T g (.bool false)) D σ d op)
  (HL E fn rnd n X Q ks Y m ops l (upd T d (.tup [])) D σ)
end
section
variable {E:Env}{fn:FuncId}{rnd:Option Nat}{n:Nat}{X:V→List DE→S→Prop}{Q:Post}{ks:List Kt}{Y:V→S→Prop}{m:Bool}{ops:Array Oper}{l:List Oper}{T:Tm}{D:List DE}{σ:S}
theorem jw6 (a b:Code):H E fn rnd n X Q ks (.seq a b) T D σ=H E fn rnd n X Q (.code b::ks) a T D σ:=rfl
theorem jrR (id:Nat)(c:Code):H E fn rnd n X Q ks (.block id c) T D σ=H E fn rnd n X Q (.blk id::ks) c T D σ:=rfl
theorem jjs (c:Code):H E fn rnd n X Q (.code c::ks) .skip T D σ=H E fn rnd n X Q ks c T D σ:=rfl
theorem jkL (id:Nat):H E fn rnd n X Q (.blk id::ks) .skip T D σ=H E fn rnd n X Q ks .skip T D σ:=rfl
theorem jkM:H E fn rnd n X Q [] .skip T D σ=Q.norm T D σ:=rfl
theorem jjt (c:Code)(i:Nat):H E fn rnd n X Q (.code c::ks) (.exit i) T D σ=H E fn rnd n X Q ks (.exit i) T D σ:=rfl
theorem jkN (id i:Nat):H E fn rnd n X Q (.blk id::ks) (.exit i) T D σ=if i=id then H E fn rnd n X Q ks .skip T D σ else H E fn rnd n X Q ks (.exit i) T D σ:=rfl
theorem jkO (i:Nat):H E fn rnd n X Q [] (.exit i) T D σ=Q.exit i T D σ:=rfl
theorem jkP (c:Code):H E fn rnd n X Q (.code c::ks) .ret T D σ=H E fn rnd n X Q ks .ret T D σ:=rfl
theorem jmG (id:Nat):H E fn rnd n X Q (.blk id::ks) .ret T D σ=H E fn rnd n X Q ks .ret T D σ:=rfl
theorem jmH:H E fn rnd n X Q [] .ret T D σ=Q.ret T D σ:=rfl
theorem juO (t:Nat)(a b:Code):H E fn rnd n X Q ks (.cond (.tmp t) a b) T D σ=(t<n∧HB E fn rnd n X Q ks a b T D σ t (T t)):=rfl
theorem juP (c:Code):H E fn rnd n X Q ks (.loop c) T D σ=joe E fn rnd n X c T D σ (Kt.postX E fn rnd n X Q ks):=rfl
theorem jrS (c:Code):H E fn rnd n X Q ks (.scope c) T D σ=H E fn rnd n X Q ks c T D σ:=rfl
theorem jrT (l:Nat):H E fn rnd n X Q ks (.label l) T D σ=H E fn rnd n X Q ks .skip T D σ:=rfl
theorem jaj (id:Nat)(l:List Oper):H E fn rnd n X Q ks (.region id l.toArray false) T D σ=HL E fn rnd n X Q ks (fun v σ=>X v D σ) (E.mutb fn id) l.toArray l T D σ:=rfl
theorem jaw (id:Nat)(l:List Oper)(hs:E.stab fn id=false):H E fn rnd n X Q ks (.region id l.toArray true) T D σ=(jgs E l.toArray=true∧HL E fn rnd n X Q ks (fun _ _=>False) (E.mutb fn id) l.toArray l T D σ):=by
 unfold H wpCX
 simp only [hs]
 rfl
theorem juQ:HL E fn rnd n X Q ks Y m ops [] T D σ=H E fn rnd n X Q ks .skip T D σ:=rfl
theorem jw7 (d:Nat)(op:Op)(t:TypeId)(p:String)(a:Array Edge):HL E fn rnd n X Q ks Y m ops (⟨some d,op,t,p,a,none⟩::l) T D σ=(d<n∧HO E fn rnd n X Q ks Y m ops l T D σ d op):=rfl
theorem jrU (op:Op)(t:TypeId)(p:String)(a:Array Edge):HL E fn rnd n X Q ks Y m ops (⟨none,op,t,p,a,none⟩::l) T D σ=HON E fn rnd n X Q ks Y m ops l T D σ op:=rfl
theorem jpc (d:Nat)(op:Op)(t:TypeId)(p:String)(a:Array Edge)(j:Nat)(b:Bool):HL E fn rnd n X Q ks Y m ops (⟨some d,op,t,p,a,some (j,b)⟩::l) T D σ =
  V1 ((ops[j]?).bind (·.dst)) fun g=>g<n∧d<n∧HG E fn rnd n X Q ks Y m ops l T D σ d op b g (T g):=by
 unfold HL HG HO HX
 refine congrArg (V1 _) (funext fun g => ?_)
 by_cases hd:d<n
 ·cases b <;> simp only [hd,true_and] <;> rfl
 ·cases b <;> simp only [hd,false_and,and_false,jo0]
theorem jkQ:(Kt.postX E fn rnd n X Q ks).norm T D σ=H E fn rnd n X Q ks .skip T D σ:=rfl
theorem jkR (i:Nat):(Kt.postX E fn rnd n X Q ks).exit i T D σ=H E fn rnd n X Q ks (.exit i) T D σ:=rfl
theorem jmI:(Kt.postX E fn rnd n X Q ks).ret T D σ=H E fn rnd n X Q ks .ret T D σ:=rfl
theorem jrV (d:Nat)(v:V)(σ':S):HS E fn rnd n X Q ks Y m ops l T D d (some (v,σ'))=HL E fn rnd n X Q ks Y m ops l (upd T d v) D σ':=by simp only [HS,Yy]
theorem juR (d:Nat)(c:Prop)[Decidable c](o:Option (V × S)):HS E fn rnd n X Q ks Y m ops l T D d (if c then o else none)=(c∧HS E fn rnd n X Q ks Y m ops l T D d o):=by simp only [HS,jkD]
theorem jrW (d:Nat)(c:Prop)[Decidable c](o:Option (V × S)):HS E fn rnd n X Q ks Y m ops l T D d (if c then none else o)=(¬ c∧HS E fn rnd n X Q ks Y m ops l T D d o):=by simp only [HS,jh1]
theorem jrX (v:V)(σ':S):HN E fn rnd n X Q ks Y m ops l T D (some (v,σ'))=HL E fn rnd n X Q ks Y m ops l T D σ':=by simp only [HN,Yy]
theorem juS (c:Prop)[Decidable c](o:Option (V × S)):HN E fn rnd n X Q ks Y m ops l T D (if c then o else none)=(c∧HN E fn rnd n X Q ks Y m ops l T D o):=by simp only [HN,jkD]
theorem jrY (c:Prop)[Decidable c](o:Option (V × S)):HN E fn rnd n X Q ks Y m ops l T D (if c then none else o)=(¬ c∧HN E fn rnd n X Q ks Y m ops l T D o):=by simp only [HN,jh1]
theorem jpd (d:Nat)(v:V)(σ':S):HX E fn rnd n X Q ks Y m ops l T D d (some (.inl v,σ'))=HL E fn rnd n X Q ks Y m ops l (upd T d v) D σ':=by simp only [HX,Yy,KX]
theorem jrZ (d:Nat)(v:V)(σ':S):HX E fn rnd n X Q ks Y m ops l T D d (some (.inr v,σ'))=Y v σ':=by simp only [HX,Yy,KX]
theorem jr0 (v:V)(σ':S):HXN E fn rnd n X Q ks Y m ops l T D (some (.inl v,σ'))=HL E fn rnd n X Q ks Y m ops l T D σ':=by simp only [HXN,Yy,KX]
theorem jr1 (v:V)(σ':S):HXN E fn rnd n X Q ks Y m ops l T D (some (.inr v,σ'))=Y v σ':=by simp only [HXN,Yy,KX]
theorem jr2 (a b:Code)(t:Nat):HB E fn rnd n X Q ks a b T D σ t (.bool true)=H E fn rnd n X Q ks a (upd T t (.bool true)) D σ:=jlx _ _
theorem jpe (a b:Code)(t:Nat):HB E fn rnd n X Q ks a b T D σ t (.bool false)=H E fn rnd n X Q ks b (upd T t (.bool false)) D σ:=jiP _ _
theorem juT (a b:Code)(t:Nat)(p:Prop)[Decidable p]:HB E fn rnd n X Q ks a b T D σ t (.bool (decide p))=((p→H E fn rnd n X Q ks a (upd T t (.bool true)) D σ)∧(¬ p→H E fn rnd n X Q ks b (upd T t (.bool false)) D σ)):=by
 simp only [HB,jn7,Qv,decide_eq_false_iff_not]
theorem juU (d:Nat)(op:Op)(b:Bool)(g:Nat):HG E fn rnd n X Q ks Y m ops l T D σ d op b g (.tup [])=HL E fn rnd n X Q ks Y m ops l (upd T d (.tup [])) D σ:=jrl _ _ _
theorem jio (d:Nat)(op:Op)(g:Nat):HG E fn rnd n X Q ks Y m ops l T D σ d op true g (.bool true)=HO E fn rnd n X Q ks Y m ops l (upd T g (.bool true)) D σ d op:=jiQ _ _ _
theorem jhl (d:Nat)(op:Op)(g:Nat):HG E fn rnd n X Q ks Y m ops l T D σ d op true g (.bool false)=HL E fn rnd n X Q ks Y m ops l (upd (upd T g (.bool false)) d (.tup [])) D σ:=jhc _ _ _
theorem jhm (d:Nat)(op:Op)(g:Nat):HG E fn rnd n X Q ks Y m ops l T D σ d op false g (.bool true)=HL E fn rnd n X Q ks Y m ops l (upd (upd T g (.bool true)) d (.tup [])) D σ:=jiQ _ _ _
theorem jgu (d:Nat)(op:Op)(g:Nat):HG E fn rnd n X Q ks Y m ops l T D σ d op false g (.bool false)=HO E fn rnd n X Q ks Y m ops l (upd T g (.bool false)) D σ d op:=jhc _ _ _
theorem jju (d:Nat)(op:Op)(g:Nat)(p:Prop)[Decidable p]:HG E fn rnd n X Q ks Y m ops l T D σ d op true g (.bool (decide p))=((p→HO E fn rnd n X Q ks Y m ops l (upd T g (.bool true)) D σ d op)∧(¬ p→HL E fn rnd n X Q ks Y m ops l (upd (upd T g (.bool false)) d (.tup [])) D σ)):=by
 simp only [HG,jiR,Qv,decide_eq_false_iff_not]
theorem jip (d:Nat)(op:Op)(g:Nat)(p:Prop)[Decidable p]:HG E fn rnd n X Q ks Y m ops l T D σ d op false g (.bool (decide p))=((p→HL E fn rnd n X Q ks Y m ops l (upd (upd T g (.bool true)) d (.tup [])) D σ)∧(¬ p→HO E fn rnd n X Q ks Y m ops l (upd T g (.bool false)) D σ d op)):=by
 simp only [HG,jiR,Qv,decide_eq_false_iff_not]
theorem jr3 (d:Nat)(g:Operand)(as:Array Operand)(ts:Array TypeId):HO E fn rnd n X Q ks Y m ops l T D σ d (.call ⟨.value g,as,ts⟩)=HX E fn rnd n X Q ks Y m ops l T D d ((jaL E T g).bind fun gv=>(jbt (jaL E T) as.toList).bind fun as=>jkK E gv as σ):=rfl
theorem jpf (g:Operand)(as:Array Operand)(ts:Array TypeId):HON E fn rnd n X Q ks Y m ops l T D σ (.call ⟨.value g,as,ts⟩)=HXN E fn rnd n X Q ks Y m ops l T D ((jaL E T g).bind fun gv=>(jbt (jaL E T) as.toList).bind fun as=>jkK E gv as σ):=rfl
theorem jpg (d:Nat)(x:Operand):HO E fn rnd n X Q ks Y m ops l T D σ d (.panic x)=HX E fn rnd n X Q ks Y m ops l T D d ((jaL E T x).bind fun v=>panV v σ):=rfl
theorem jmJ (x:Operand):HON E fn rnd n X Q ks Y m ops l T D σ (.panic x)=HXN E fn rnd n X Q ks Y m ops l T D ((jaL E T x).bind fun v=>panV v σ):=rfl
theorem jof (t:TypeId)(u:V)(σ:S):panV (.iface t u) σ=some (.inr (.iface t u),σ):=rfl
theorem jjv (f:FuncId)(a c as:List V)(σ:S):jkK E (.func f a c) as σ=jbL E f (a++as++c) σ:=rfl
theorem jcU {d:Nat}{op:Op}(h:opKX E m T σ op=(opT E m T σ op).map fun p=>(.inl p.1,p.2)):HO E fn rnd n X Q ks Y m ops l T D σ d op=HS E fn rnd n X Q ks Y m ops l T D d (opT E m T σ op):=by
 unfold HO HX HS
 rw [h,juM]
 rfl
theorem jiq {op:Op}(h:opKX E m T σ op=(opT E m T σ op).map fun p=>(.inl p.1,p.2)):HON E fn rnd n X Q ks Y m ops l T D σ op=HN E fn rnd n X Q ks Y m ops l T D (opT E m T σ op):=by
 unfold HON HXN HN
 rw [h,juM]
 rfl
theorem jr4 (d:Nat)(x:Operand):HO E fn rnd n X Q ks Y m ops l T D σ d (.move x)=HS E fn rnd n X Q ks Y m ops l T D d (opT E m T σ (.move x)):=jcU rfl
theorem jph (x:Operand):HON E fn rnd n X Q ks Y m ops l T D σ (.move x)=HN E fn rnd n X Q ks Y m ops l T D (opT E m T σ (.move x)):=jiq rfl
theorem jmK (d:Nat)(x:Operand):HO E fn rnd n X Q ks Y m ops l T D σ d (.assign x)=HS E fn rnd n X Q ks Y m ops l T D d (opT E m T σ (.assign x)):=jcU rfl
theorem jkS (x:Operand):HON E fn rnd n X Q ks Y m ops l T D σ (.assign x)=HN E fn rnd n X Q ks Y m ops l T D (opT E m T σ (.assign x)):=jiq rfl
theorem jr5 (d:Nat)(a b c:Operand):HO E fn rnd n X Q ks Y m ops l T D σ d (.pick a b c)=HS E fn rnd n X Q ks Y m ops l T D d (opT E m T σ (.pick a b c)):=jcU rfl
theorem jpi (d:Nat)(t:TypeId):HO E fn rnd n X Q ks Y m ops l T D σ d (.alloc t)=HS E fn rnd n X Q ks Y m ops l T D d (opT E m T σ (.alloc t)):=jcU rfl
theorem juV (d:Nat)(t:TypeId)(x:Operand):HO E fn rnd n X Q ks Y m ops l T D σ d (.box t x)=HS E fn rnd n X Q ks Y m ops l T D d (opT E m T σ (.box t x)):=jcU rfl
theorem jpj (d:Nat)(t:TypeId)(ps:Array (Nat × Operand)):HO E fn rnd n X Q ks Y m ops l T D σ d (.build t ps)=HS E fn rnd n X Q ks Y m ops l T D d (opT E m T σ (.build t ps)):=jcU rfl
theorem jhn (d:Nat)(t:TypeId)(k:Nat)(ps:Array (Nat × Operand)):HO E fn rnd n X Q ks Y m ops l T D σ d (.buildSlice t k ps)=HS E fn rnd n X Q ks Y m ops l T D d (opT E m T σ (.buildSlice t k ps)):=jcU rfl
theorem jmL (d:Nat)(t:TypeId)(a b c:Operand):HO E fn rnd n X Q ks Y m ops l T D σ d (.insert t a b c)=HS E fn rnd n X Q ks Y m ops l T D d (opT E m T σ (.insert t a b c)):=jcU rfl
theorem jkT (t:TypeId)(a b c:Operand):HON E fn rnd n X Q ks Y m ops l T D σ (.insert t a b c)=HN E fn rnd n X Q ks Y m ops l T D (opT E m T σ (.insert t a b c)):=jiq rfl
theorem jr6 (d:Nat)(t:TypeId)(x:Operand):HO E fn rnd n X Q ks Y m ops l T D σ d (.load t x)=HS E fn rnd n X Q ks Y m ops l T D d (opT E m T σ (.load t x)):=jcU rfl
theorem jpk (d:Nat)(t:TypeId)(a b:Operand):HO E fn rnd n X Q ks Y m ops l T D σ d (.store t a b)=HS E fn rnd n X Q ks Y m ops l T D d (opT E m T σ (.store t a b)):=jcU rfl
theorem jmM (t:TypeId)(a b:Operand):HON E fn rnd n X Q ks Y m ops l T D σ (.store t a b)=HN E fn rnd n X Q ks Y m ops l T D (opT E m T σ (.store t a b)):=jiq rfl
theorem jjw (d:Nat)(x:Operand):HO E fn rnd n X Q ks Y m ops l T D σ d (.nilCheck x)=HS E fn rnd n X Q ks Y m ops l T D d (opT E m T σ (.nilCheck x)):=jcU rfl
theorem jir (x:Operand):HON E fn rnd n X Q ks Y m ops l T D σ (.nilCheck x)=HN E fn rnd n X Q ks Y m ops l T D (opT E m T σ (.nilCheck x)):=jiq rfl
theorem jpl (d:Nat)(o:BinOp)(t:TypeId)(x y:Operand)(u:TypeId):HO E fn rnd n X Q ks Y m ops l T D σ d (.binOp o t x y u)=HS E fn rnd n X Q ks Y m ops l T D d (opT E m T σ (.binOp o t x y u)):=jcU rfl
theorem jr7 (d:Nat)(o:UnOp)(t:TypeId)(x:Operand):HO E fn rnd n X Q ks Y m ops l T D σ d (.unOp o t x)=HS E fn rnd n X Q ks Y m ops l T D d (opT E m T σ (.unOp o t x)):=jcU rfl
theorem jkU (d:Nat)(s d:TypeId)(x:Operand):HO E fn rnd n X Q ks Y m ops l T D σ d (.convert s d x)=HS E fn rnd n X Q ks Y m ops l T D d (opT E m T σ (.convert s d x)):=jcU rfl
theorem jfu (d:Nat)(t:TypeId)(x:Operand):HO E fn rnd n X Q ks Y m ops l T D σ d (.makeInterface t x)=HS E fn rnd n X Q ks Y m ops l T D d (opT E m T σ (.makeInterface t x)):=jcU rfl
theorem jjx (d:Nat)(f:Fn)(a c:Array Operand):HO E fn rnd n X Q ks Y m ops l T D σ d (.makeFunc f a c)=HS E fn rnd n X Q ks Y m ops l T D d (opT E m T σ (.makeFunc f a c)):=jcU rfl
theorem jkV (d:Nat)(t:TypeId)(r:Option Operand):HO E fn rnd n X Q ks Y m ops l T D σ d (.makeMap t r)=HS E fn rnd n X Q ks Y m ops l T D d (opT E m T σ (.makeMap t r)):=jcU rfl
theorem jis (d:Nat)(t:TypeId)(a b:Operand):HO E fn rnd n X Q ks Y m ops l T D σ d (.makeSlice t a b)=HS E fn rnd n X Q ks Y m ops l T D d (opT E m T σ (.makeSlice t a b)):=jcU rfl
theorem jpm (d:Nat)(t:TypeId)(x:Operand)(a b c:Option Operand):HO E fn rnd n X Q ks Y m ops l T D σ d (.slice t x a b c)=HS E fn rnd n X Q ks Y m ops l T D d (opT E m T σ (.slice t x a b c)):=jcU rfl
theorem jit (d:Nat)(t:TypeId)(x:Operand)(k:Nat):HO E fn rnd n X Q ks Y m ops l T D σ d (.fieldAddr t x k)=HS E fn rnd n X Q ks Y m ops l T D d (opT E m T σ (.fieldAddr t x k)):=jcU rfl
theorem jpn (d:Nat)(t:TypeId)(x:Operand)(k:Nat):HO E fn rnd n X Q ks Y m ops l T D σ d (.field t x k)=HS E fn rnd n X Q ks Y m ops l T D d (opT E m T σ (.field t x k)):=jcU rfl
theorem jiu (d:Nat)(t:TypeId)(a b:Operand):HO E fn rnd n X Q ks Y m ops l T D σ d (.indexAddr t a b)=HS E fn rnd n X Q ks Y m ops l T D d (opT E m T σ (.indexAddr t a b)):=jcU rfl
theorem jpo (d:Nat)(t:TypeId)(a b:Operand):HO E fn rnd n X Q ks Y m ops l T D σ d (.index t a b)=HS E fn rnd n X Q ks Y m ops l T D d (opT E m T σ (.index t a b)):=jcU rfl
theorem jmN (d:Nat)(t:TypeId)(a b:Operand)(c:Bool):HO E fn rnd n X Q ks Y m ops l T D σ d (.lookup t a b c)=HS E fn rnd n X Q ks Y m ops l T D d (opT E m T σ (.lookup t a b c)):=jcU rfl
theorem jiv (d:Nat)(t:TypeId)(a b c:Operand):HO E fn rnd n X Q ks Y m ops l T D σ d (.mapUpdate t a b c)=HS E fn rnd n X Q ks Y m ops l T D d (opT E m T σ (.mapUpdate t a b c)):=jcU rfl
theorem jho (t:TypeId)(a b c:Operand):HON E fn rnd n X Q ks Y m ops l T D σ (.mapUpdate t a b c)=HN E fn rnd n X Q ks Y m ops l T D (opT E m T σ (.mapUpdate t a b c)):=jiq rfl
theorem jjy (d:Nat)(t:TypeId)(a b:Operand):HO E fn rnd n X Q ks Y m ops l T D σ d (.mapEntry t a b)=HS E fn rnd n X Q ks Y m ops l T D d (opT E m T σ (.mapEntry t a b)):=jcU rfl
theorem jhp (d:Nat)(t:TypeId)(a b c:Operand):HO E fn rnd n X Q ks Y m ops l T D σ d (.entryStore t a b c)=HS E fn rnd n X Q ks Y m ops l T D d (opT E m T σ (.entryStore t a b c)):=jcU rfl
theorem jgv (t:TypeId)(a b c:Operand):HON E fn rnd n X Q ks Y m ops l T D σ (.entryStore t a b c)=HN E fn rnd n X Q ks Y m ops l T D (opT E m T σ (.entryStore t a b c)):=jiq rfl
theorem jhq (d:Nat)(x:Operand)(t u:TypeId)(c:Bool):HO E fn rnd n X Q ks Y m ops l T D σ d (.typeAssert x t u c)=HS E fn rnd n X Q ks Y m ops l T D d (opT E m T σ (.typeAssert x t u c)):=jcU rfl
theorem jkW (d:Nat)(x:Operand)(k:Nat):HO E fn rnd n X Q ks Y m ops l T D σ d (.extract x k)=HS E fn rnd n X Q ks Y m ops l T D d (opT E m T σ (.extract x k)):=jcU rfl
theorem jkX (d:Nat)(b:Builtin)(as:Array Operand)(ts:Array TypeId):HO E fn rnd n X Q ks Y m ops l T D σ d (.call ⟨.builtin b,as,ts⟩)=HS E fn rnd n X Q ks Y m ops l T D d (opT E m T σ (.call ⟨.builtin b,as,ts⟩)):=jcU rfl
theorem jjz (b:Builtin)(as:Array Operand)(ts:Array TypeId):HON E fn rnd n X Q ks Y m ops l T D σ (.call ⟨.builtin b,as,ts⟩)=HN E fn rnd n X Q ks Y m ops l T D (opT E m T σ (.call ⟨.builtin b,as,ts⟩)):=jiq rfl
theorem jmO (d:Nat)(x:Operand)(s:String)(as:Array Operand)(ts:Array TypeId):HO E fn rnd n X Q ks Y m ops l T D σ d (.call ⟨.invoke x s,as,ts⟩)=HS E fn rnd n X Q ks Y m ops l T D d (opT E m T σ (.call ⟨.invoke x s,as,ts⟩)):=jcU rfl
theorem jpp (d:Nat)(c:Call):HO E fn rnd n X Q ks Y m ops l T D σ d (.defer c)=HS E fn rnd n X Q ks Y m ops l T D d (opT E m T σ (.defer c)):=jcU rfl
end
section
variable {E:Env}
theorem jcp {f:FuncId}{args:List V}{σ σ':S}{v:V}(h:jas E (ev E) f args σ=some (v,σ')):jbL E f args σ=some (.inl v,σ'):=by
 unfold jbL; rw [h]
theorem jaY {f:FuncId}{args:List V}{σ:S}{F:Go.Func}{body:Code}(hp:E.pure f=false)(hk:E.hook f=none)(hz:E.frz f=false)(hS:E.hookS f=none)(hf:E.P.funcs[f]? = some F)(hb:F.body=some body)(hn:F.name ≠ "runtime.NumGoroutine")(hl:args.length≤F.ntmps)
  {K:Sum V V→S→Prop} (hw:H E f none F.ntmps (fun v D σ'=>D=[]∧K (.inr v) σ') ⟨wpR E F.results.toList fun v σ'=>K (.inl v) σ',fun _ _ _ _=>False,wpR E F.results.toList fun v σ'=>K (.inl v) σ'⟩ [] body (argT args) [] σ) :
  ∃ r σ',jbL E f args σ=some (r,σ')∧K r σ':=by
 obtain ⟨⟨ex,vals,d,st⟩,h1,hq⟩:=jdd body hw _ (Rep.args args F.ntmps hl)
 have hret:(ex=.normal∨ex=.ret)→(∃ T1,Rep F.ntmps T1 vals∧wpR E F.results.toList (fun v σ'=>K (.inl v) σ') T1 d st)→∃ r σ',jbL E f args σ=some (r,σ')∧K r σ':=by
  rintro he ⟨T1,hr1,h,hh,vs,hvs,hk2⟩
  rw [← hr1.res] at hvs
  refine ⟨.inl (jaZ vs),⟨h,st.toks⟩,jcp ?_,hk2⟩
  have e1:ev E (.call f args σ)=some ⟨.ret,[jaZ vs],[],⟨h,st.toks⟩⟩:=jb6 (by
   simp only [jcF,hf,hb,hn,Kr,h1]
   rcases he with rfl | rfl <;> simp only [hh,hvs])
  unfold jas
  simp only [hk,hp,hz,hS,Kl,Kr,e1]
 cases ex with
 | normal=>exact hret (.inl rfl) hq
 | ret=>exact hret (.inr rfl) hq
 | exit i=>obtain ⟨_,_,h⟩:=hq; exact h.elim
 | pan x =>
  obtain ⟨hd,hq⟩:=hq
  simp only at hd
  subst hd
  have e1:ev E (.call f args σ)=some ⟨.pan x,[],[],st⟩:=jb6 (by simp only [jcF,hf,hb,hn,Kr,h1,finD,jce])
  refine ⟨.inr x,st,?_,hq⟩
  have hc:jas E (ev E) f args σ=none:=by
   unfold jas
   simp only [hk,hp,hz,hS,Kl,Kr,e1]
  have hP:jhN E (ev E) f args σ=some (x,st):=by
   unfold jhN
   simp only [hk,hp,hz,hS,Xf,Kl,Kr,e1]
  unfold jbL
  rw [hc,hP]
  rfl
theorem jh5 {fn:FuncId}{rnd:Option Nat}{n:Nat}{X:V→List DE→S→Prop}{c:Code}{Q:Post}(I:Nat→Tm→List DE→S→Prop)(h:∀ m T D σ,I m T D σ→H E fn rnd n X ⟨fun T D σ=>∃ m',m'<m∧I m' T D σ,Q.exit,Q.ret⟩ [] c T D σ):∀ m T D σ,I m T D σ→joe E fn rnd n X c T D σ Q:=by
 intro m T D σ hI tmps hr
 obtain ⟨r,h1,h2⟩:=jtx (E:=E) (fn:=fn) (rnd:=rnd) (n:=n) (X:=fun v _ D σ=>X v D σ) (c:=c) (Q:=Q) I (fun m T D σ hI=>jdd c (h m T D σ hI)) m T D σ hI tmps hr
 exact ⟨r,h1,h2⟩
end
theorem juW (E:Env)(x:Operand):scOp E (.nilCheck x)=false:=rfl
theorem juX (x:Operand):jbc (.nilCheck x)=false:=rfl
theorem jpq (E:Env)(t:TypeId):scOp E (.alloc t)=true:=rfl
theorem jpr (t:TypeId):jbc (.alloc t)=false:=rfl
theorem juY (E:Env)(t:TypeId)(x:Operand):scOp E (.box t x)=true:=rfl
theorem juZ (t:TypeId)(x:Operand):jbc (.box t x)=false:=rfl
theorem jps (E:Env)(t:TypeId)(ps:Array (Nat × Operand)):scOp E (.build t ps)=false:=rfl
theorem jpt (t:TypeId)(ps:Array (Nat × Operand)):jbc (.build t ps)=false:=rfl
theorem jw8 (t:TypeId)(n:Nat)(ps:Array (Nat × Operand)):jbc (.buildSlice t n ps)=false:=rfl
theorem jpu (E:Env)(t:TypeId)(x:Operand)(lo hi mx:Option Operand):scOp E (.slice t x lo hi mx)=false:=rfl
theorem jpv (t:TypeId)(x:Operand)(lo hi mx:Option Operand):jbc (.slice t x lo hi mx)=false:=rfl
theorem ju0 (E:Env)(f:Fn)(a b:Array Operand):scOp E (.makeFunc f a b)=false:=rfl
theorem ju1 (f:Fn)(a b:Array Operand):jbc (.makeFunc f a b)=false:=rfl
theorem ju2 (E:Env)(t:TypeId)(x:Operand):scOp E (.makeInterface t x)=false:=rfl
theorem ju3 (t:TypeId)(x:Operand):jbc (.makeInterface t x)=false:=rfl
theorem ju4 (E:Env)(ag:Array Operand)(ts:Array TypeId):scOp E (.call ⟨.builtin .append,ag,ts⟩)=true:=rfl
theorem ju5 (E:Env)(t:TypeId)(x:Option Operand):scOp E (.makeMap t x)=true:=rfl
theorem ju6 (t:TypeId)(x:Option Operand):jbc (.makeMap t x)=false:=rfl
theorem ju7 (E:Env)(t:TypeId)(x y z:Operand):scOp E (.insert t x y z)=true:=rfl
theorem ju8 (t:TypeId)(x y z:Operand):jbc (.insert t x y z)=false:=rfl
theorem jr8 (E:Env)(t:TypeId)(x y:Operand)(b:Bool):scOp E (.lookup t x y b)=false:=rfl
theorem jr9 (t:TypeId)(x y:Operand)(b:Bool):jbc (.lookup t x y b)=true:=rfl
theorem jpw (E:Env)(t:TypeId)(x:Operand)(n:Nat):scOp E (.field t x n)=false:=rfl
theorem jpx (t:TypeId)(x:Operand)(n:Nat):jbc (.field t x n)=false:=rfl
theorem jpy (E:Env)(f:FuncId)(ag:Array Operand)(ts:Array TypeId):scOp E (.call ⟨.value (.func f),ag,ts⟩) = !(E.pure f || (E.hook f).isSome):=rfl
section
variable {E:Env}{fn:FuncId}{rnd:Option Nat}{n:Nat}{Q:Post}{ks:List Kt}{m:Bool}{ops:Array Oper}{l:List Oper}{T:Tm}{D:List DE}{f:FuncId}{args:List V}{σ:S}
theorem jsa {d:Nat}{K:V→S→Prop}(h:∃ v σ',jas E (ev E) f args σ=some (v,σ')∧K v σ')(k:∀ v σ',K v σ'→GL E fn rnd n Q ks m ops l (upd T d v) D σ') :
  GS E fn rnd n Q ks m ops l T D d (jas E (ev E) f args σ):=by
 obtain ⟨v,σ',h1,h2⟩:=h
 rw [h1,Zu]
 exact k v σ' h2
theorem jaU {X:V→List DE→S→Prop}{Y:V→S→Prop}{d:Nat}{K:Sum V V→S→Prop}(h:∃ r σ',jbL E f args σ=some (r,σ')∧K r σ')(k:∀ v σ',K (.inl v) σ'→HL E fn rnd n X Q ks Y m ops l (upd T d v) D σ')(kx:∀ v σ',K (.inr v) σ'→Y v σ') :
  HX E fn rnd n X Q ks Y m ops l T D d (jbL E f args σ):=by
 obtain ⟨r,σ',h1,h2⟩:=h
 rw [h1]
 cases r with
 | inl v=>rw [jpd]; exact k v σ' h2
 | inr v=>rw [jrZ]; exact kx v σ' h2
theorem jcl {X:V→List DE→S→Prop}{Y:V→S→Prop}{d:Nat}{K:V→S→Prop}(h:∃ v σ',jas E (ev E) f args σ=some (v,σ')∧K v σ')(k:∀ v σ',K v σ'→HL E fn rnd n X Q ks Y m ops l (upd T d v) D σ') :
  HX E fn rnd n X Q ks Y m ops l T D d (jbL E f args σ):=by
 obtain ⟨v,σ',h1,h2⟩:=h
 rw [jcp h1,jpd]
 exact k v σ' h2
end
theorem jfU {E:Env}{f:FuncId}{args:List V}{σ σ':S}{v:V}(h:jbL E f args σ=some (.inl v,σ')):jas E (ev E) f args σ=some (v,σ'):=by
 unfold jbL at h
 split at h
 ·rename_i w s hc
  simp only [Kg,Kh,Sum.inl.injEq] at h
  rw [hc,h.1,h.2]
 ·simp only [Ko,Kh] at h
  obtain ⟨_,_,h,_⟩:=h
  cases h
theorem jeY {E:Env}{f:FuncId}{args:List V}{σ σ':S}{v:V}(h:jbL E f args σ=some (.inr v,σ')):E.pure f=false∧E.hook f=none∧E.frz f=false∧E.hookS f=none∧ev E (.call f args σ)=some ⟨.pan v,[],[],σ'⟩:=by
 unfold jbL at h
 split at h
 ·simp at h
 ·simp only [Ko,Kh,Sum.inr.injEq] at h
  obtain ⟨⟨x,s⟩,h1,h2,h3⟩:=h
  simp only at h2 h3
  subst h2 h3
  unfold jhN at h1
  split at h1
  ·cases h1
  ·rename_i hk
   split at h1
   ·cases h1
   ·rename_i hp
    split at h1
    ·cases h1
    ·rename_i hz
     split at h1
     ·cases h1
     ·rename_i hS
      split at h1
      ·rename_i v' σ1 he
       simp only [Kg,Kh] at h1
       obtain ⟨rfl,rfl⟩:=h1
       exact ⟨by simpa using hp,hk,by simpa using hz,by simpa using hS,he⟩
      ·cases h1
theorem jjA {E:Env}{fn:FuncId}{rnd:Option Nat}{n:Nat}{X:V→List DE→S→Prop}{Q:Post}{ks:List Kt}{id:Nat}{ops:Array Oper}{T:Tm}{D:List DE}{σ:S}(hs:E.stab fn id=true)
  (h:wpP E fn rnd n (fun v _ D σ=>X v D σ) (.region id ops true) T D σ (Kt.postX E fn rnd n X Q ks)):H E fn rnd n X Q ks (.region id ops true) T D σ:=by
 unfold H wpCX
 simp only [hs]
 exact h
theorem jca {E:Env}{fn:FuncId}{rnd:Option Nat}{n:Nat}{X:V→List DE→S→Prop}{Q:Post}{ks:List Kt}{T:Tm}{D:List DE}{σ:S}(k:Nat)(id:Nat)(l:List Oper)(h:(id == k)=false) :
  H E fn rnd n X Q ks (.region id l.toArray false) T D σ=HL E fn rnd n X Q ks (fun v σ=>X v D σ) (E.mutb fn id) l.toArray l T D σ:=rfl
theorem jbo {E:Env}{fn:FuncId}{rnd:Option Nat}{n:Nat}{X:V→List DE→S→Prop}{Q:Post}{c:Code}{T:Tm}{D:List DE}{σ:S}(h:H E fn rnd n X Q [] c T D σ):wpCX E fn rnd n X c T D σ Q:=h
theorem hhXa:type_of% (Kf @jw6 (Kf @jrR (Kf @jjs (Kf @jkL (Kf @jkM (Kf @jjt (Kf @jkN (Kf @jkO (Kf @jkP (Kf @jmG (Kf @jmH (@juO)))))))))))):=Kf @jw6 (Kf @jrR (Kf @jjs (Kf @jkL (Kf @jkM (Kf @jjt (Kf @jkN (Kf @jkO (Kf @jkP (Kf @jmG (Kf @jmH (@juO)))))))))))
theorem hhXb:type_of% (Kf @juP (Kf @juQ (Kf @jw7 (Kf @jrU (Kf @jpc (Kf @jrV (Kf @juR (Kf @jrW (Kf @jrX (Kf @juS (Kf @jrY (@jr2)))))))))))):=Kf @juP (Kf @juQ (Kf @jw7 (Kf @jrU (Kf @jpc (Kf @jrV (Kf @juR (Kf @jrW (Kf @jrX (Kf @juS (Kf @jrY (@jr2)))))))))))
theorem hhXc:type_of% (Kf @jpe (Kf @juT (Kf @juU (Kf @jio (Kf @jhl (Kf @jhm (Kf @jgu (Kf @jju (Kf @jip (Kf @jjv (Kf @jkQ (@jkR)))))))))))):=Kf @jpe (Kf @juT (Kf @juU (Kf @jio (Kf @jhl (Kf @jhm (Kf @jgu (Kf @jju (Kf @jip (Kf @jjv (Kf @jkQ (@jkR)))))))))))
theorem hhXd:type_of% (Kf @jmI (Kf @jrS (Kf @jrT (Kf @jpd (Kf @jrZ (Kf @jr0 (Kf @jr1 (Kf @jr3 (Kf @jpf (Kf @jpg (Kf @jmJ (@jof)))))))))))):=Kf @jmI (Kf @jrS (Kf @jrT (Kf @jpd (Kf @jrZ (Kf @jr0 (Kf @jr1 (Kf @jr3 (Kf @jpf (Kf @jpg (Kf @jmJ (@jof)))))))))))
theorem hhXe:type_of% (Kf @jkX (Kf @jjz (Kf @jmO (Kf @jpp (Kf @jr4 (Kf @jmK (Kf @jr5 (Kf @jpi (Kf @juV (Kf @jpj (Kf @jhn (@jmL)))))))))))):=Kf @jkX (Kf @jjz (Kf @jmO (Kf @jpp (Kf @jr4 (Kf @jmK (Kf @jr5 (Kf @jpi (Kf @juV (Kf @jpj (Kf @jhn (@jmL)))))))))))
theorem hhXf:type_of% (Kf @jr6 (Kf @jpk (Kf @jjw (Kf @jpl (Kf @jr7 (Kf @jkU (Kf @jfu (Kf @jjx (Kf @jkV (Kf @jis (Kf @jpm (@jit)))))))))))):=Kf @jr6 (Kf @jpk (Kf @jjw (Kf @jpl (Kf @jr7 (Kf @jkU (Kf @jfu (Kf @jjx (Kf @jkV (Kf @jis (Kf @jpm (@jit)))))))))))
theorem hhXg:type_of% (Kf @jpn (Kf @jiu (Kf @jpo (Kf @jmN (Kf @jiv (Kf @jjy (Kf @jhp (Kf @jhq (Kf @jkW (Kf @jmM (Kf @jkT (@jho)))))))))))):=Kf @jpn (Kf @jiu (Kf @jpo (Kf @jmN (Kf @jiv (Kf @jjy (Kf @jhp (Kf @jhq (Kf @jkW (Kf @jmM (Kf @jkT (@jho)))))))))))
theorem hhXh:type_of% (Kf @jgv (Kf @jir (Kf @jph (@jkS)))):=Kf @jgv (Kf @jir (Kf @jph (@jkS)))
theorem Kc : type_of% (Kf @hhXa (Kf @hhXb (Kf @hhXc (Kf @hhXd (Kf @hhXe (Kf @hhXf (Kf @hhXg (@hhXh)))))))) := Kf @hhXa (Kf @hhXb (Kf @hhXc (Kf @hhXd (Kf @hhXe (Kf @hhXf (Kf @hhXg (@hhXh)))))))
theorem hhSa:type_of% (Kf @ZK (Kf @ZL (Kf @ZM (Kf @ZN (Kf @ZO (Kf @ZP (Kf @ZQ (Kf @ZR (Kf @ZS (Kf @ZT (Kf @ZU (@ZV)))))))))))):=Kf @ZK (Kf @ZL (Kf @ZM (Kf @ZN (Kf @ZO (Kf @ZP (Kf @ZQ (Kf @ZR (Kf @ZS (Kf @ZT (Kf @ZU (@ZV)))))))))))
theorem hhSb:type_of% (Kf @ZW (Kf @ZX (Kf @ZY (Kf @Z0 (Kf @Z1 (Kf @Z2 (Kf @Z3 (Kf @Z4 (Kf @Z5 (Kf @Z7 (Kf @true_and (@Z8)))))))))))):=Kf @ZW (Kf @ZX (Kf @ZY (Kf @Z0 (Kf @Z1 (Kf @Z2 (Kf @Z3 (Kf @Z4 (Kf @Z5 (Kf @Z7 (Kf @true_and (@Z8)))))))))))
theorem hhSc:type_of% (Kf @Z9 (Kf @jiS (Kf @Ya (Kf @jhd (Kf @Yb (Kf @Yc (Kf @Yd (Kf @Ye (Kf @Yf (Kf @Yg (Kf @Yh (@Yi)))))))))))):=Kf @Z9 (Kf @jiS (Kf @Ya (Kf @jhd (Kf @Yb (Kf @Yc (Kf @Yd (Kf @Ye (Kf @Yf (Kf @Yg (Kf @Yh (@Yi)))))))))))
theorem hhSd:type_of% (Kf @Yj (Kf @Yk (Kf @Yl (Kf @Ym (Kf @Yn (Kf @Yo (Kf @Yp (Kf @Yq (Kf @Yr (Kf @Yt (Kf @Yu (@Yv)))))))))))):=Kf @Yj (Kf @Yk (Kf @Yl (Kf @Ym (Kf @Yn (Kf @Yo (Kf @Yp (Kf @Yq (Kf @Yr (Kf @Yt (Kf @Yu (@Yv)))))))))))
theorem hhSe:type_of% (Kf @Yw (Kf @X7.{0} (Kf @Vu.{0} (Kf @Jg.{0} (Kf @Qs.{0} (Kf @Qg.{0} (Kf @J2.{0} (Kf @J8.{0} (Kf @Qx.{0} (Kf @Yx (Kf @Yy (@Qo)))))))))))):=Kf @Yw (Kf @X7.{0} (Kf @Vu.{0} (Kf @Jg.{0} (Kf @Qs.{0} (Kf @Qg.{0} (Kf @J2.{0} (Kf @J8.{0} (Kf @Qx.{0} (Kf @Yx (Kf @Yy (@Qo)))))))))))
theorem hhSf:type_of% (Kf @Yz (Kf @YA (Kf @YB (Kf @YC (Kf @YD (Kf @YE (Kf @YF (Kf @YG (Kf @YH (Kf @YI (Kf @YJ (@YK)))))))))))):=Kf @Yz (Kf @YA (Kf @YB (Kf @YC (Kf @YD (Kf @YE (Kf @YF (Kf @YG (Kf @YH (Kf @YI (Kf @YJ (@YK)))))))))))
theorem hhSg:type_of% (Kf @YL (Kf @YM (Kf @YN (Kf @YO (Kf @List.append_eq.{0} (Kf @YP (Kf @YQ (Kf @YR (Kf @YS (Kf @YT (Kf @YU (@YV)))))))))))):=Kf @YL (Kf @YM (Kf @YN (Kf @YO (Kf @List.append_eq.{0} (Kf @YP (Kf @YQ (Kf @YR (Kf @YS (Kf @YT (Kf @YU (@YV)))))))))))
theorem hhSh:type_of% (Kf @YW (Kf @YX (Kf @Jl (Kf @YY (Kf @YZ (Kf @K3 (Kf @Kl (Kf @Jb (Kf @and_self (Kf @Y4 (Kf @Y5 (@Ui)))))))))))):=Kf @YW (Kf @YX (Kf @Jl (Kf @YY (Kf @YZ (Kf @K3 (Kf @Kl (Kf @Jb (Kf @and_self (Kf @Y4 (Kf @Y5 (@Ui)))))))))))
theorem hhSi:type_of% (Kf @Vz (Kf @not_true_eq_false (Kf @decide_true (Kf @decide_false (Kf @true_implies (Kf @false_implies (Kf @Vk (Kf @K1.{0} (Kf @K5.{0} (Kf @K8 (Kf @Jz (@V2)))))))))))):=Kf @Vz (Kf @not_true_eq_false (Kf @decide_true (Kf @decide_false (Kf @true_implies (Kf @false_implies (Kf @Vk (Kf @K1.{0} (Kf @K5.{0} (Kf @K8 (Kf @Jz (@V2)))))))))))
theorem hhSj:type_of% (Kf @Y6 (Kf @Vr (Kf @Jc (Kf @Xz (Kf @Xv (@X6)))))):=Kf @Y6 (Kf @Vr (Kf @Jc (Kf @Xz (Kf @Xv (@X6)))))
theorem Kb : type_of% (Kf @hhSa (Kf @hhSb (Kf @hhSc (Kf @hhSd (Kf @hhSe (Kf @hhSf (Kf @hhSg (Kf @hhSh (Kf @hhSi (@hhSj)))))))))) := Kf @hhSa (Kf @hhSb (Kf @hhSc (Kf @hhSd (Kf @hhSe (Kf @hhSf (Kf @hhSg (Kf @hhSh (Kf @hhSi (@hhSj)))))))))
theorem hhWa:type_of% (Kf @joa (Kf @job (Kf @jmx (Kf @jrD (Kf @jo2 (Kf @jrE (Kf @jim (Kf @jfS (Kf @jkH (Kf @jlz (Kf @jo3 (@joc)))))))))))):=Kf @joa (Kf @job (Kf @jmx (Kf @jrD (Kf @jo2 (Kf @jrE (Kf @jim (Kf @jfS (Kf @jkH (Kf @jlz (Kf @jo3 (@joc)))))))))))
theorem hhWb:type_of% (Kf @jod (Kf @jmy (Kf @jrF (Kf @jo4 (Kf @jrG (Kf @jin (Kf @jfT (Kf @jkI (Kf @jlA (Kf @jrH (Kf @jh3 (@juW)))))))))))):=Kf @jod (Kf @jmy (Kf @jrF (Kf @jo4 (Kf @jrG (Kf @jin (Kf @jfT (Kf @jkI (Kf @jlA (Kf @jrH (Kf @jh3 (@juW)))))))))))
theorem hhWc:type_of% (Kf @juX (Kf @jpq (Kf @jpr (Kf @juY (Kf @juZ (Kf @jps (Kf @jpt (Kf @jw8 (Kf @jpu (Kf @jpv (Kf @ju0 (@ju1)))))))))))):=Kf @juX (Kf @jpq (Kf @jpr (Kf @juY (Kf @juZ (Kf @jps (Kf @jpt (Kf @jw8 (Kf @jpu (Kf @jpv (Kf @ju0 (@ju1)))))))))))
theorem hhWd:type_of% (Kf @ju2 (Kf @ju3 (Kf @ju4 (Kf @ju5 (Kf @ju6 (Kf @ju7 (Kf @ju8 (Kf @jr8 (Kf @jr9 (Kf @jpw (Kf @jpx (@jpy)))))))))))):=Kf @ju2 (Kf @ju3 (Kf @ju4 (Kf @ju5 (Kf @ju6 (Kf @ju7 (Kf @ju8 (Kf @jr8 (Kf @jr9 (Kf @jpw (Kf @jpx (@jpy)))))))))))
end Go.Ab
