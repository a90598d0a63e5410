/- Proved here: the rules by which a run is found without running: a logic over the evaluator. Conditions: those of each theorem; no statement of the seat is proved in this text. -/
import Derived.Test.YtajaampgajieeaaGreatDoorAbC
import Derived.Lib.Bytealg
set_option linter.unusedSimpArgs false
namespace Go.Ab
def jdT (E:Env)(rec:Task→Option Res)(mutb:Bool)(ops:Array Oper):List Oper→List V→S→Option (List V × S)
 | [],tmps,σ=>some (tmps,σ)
 | o::l,tmps,σ =>
  if Region.wanted o (jaq ops tmps) then
   match opV E rec mutb tmps σ o.op with
   | some (v,σ')=>jdT E rec mutb ops l (putT tmps o.dst v) σ'
   | none=>none
  else jdT E rec mutb ops l (putT tmps o.dst (.tup [])) σ
theorem jeJ (E:Env)(rec:Task→Option Res)(mutb:Bool)(ops:Array Oper):∀ (m n:Nat) (tmps:List V) (σ:S),n+m=ops.size →
  jeX E rec mutb ops (List.range' n m) tmps σ=jdT E rec mutb ops (ops.toList.drop n) tmps σ
 | 0,n,tmps,σ,h=>by
  have:ops.toList.drop n=[]:=List.drop_eq_nil_iff.2 (by simp; omega)
  rw [this]; rfl
 | m+1,n,tmps,σ,h=>by
  have hn:n<ops.toList.length:=by simp; omega
  rw [Qu hn]
  have h2:ops[n]? = some (ops.toList[n]):=by simp only [Array.getElem_toList]; exact Jj (by simpa using hn)
  simp only [List.range'_succ,jeX,h2,jdT]
  by_cases hw:Region.wanted ops.toList[n] (jaq ops tmps)=true
  ·simp only [hw,Ke]
   cases opV E rec mutb tmps σ ops.toList[n].op with
   | none=>rfl
   | some p=>exact jeJ E rec mutb ops m (n+1) _ _ (by omega)
  ·simp only [hw,Kj,Kc]
   exact jeJ E rec mutb ops m (n+1) _ _ (by omega)
def jew (E:Env) (rec:Task→Option Res) (rnd:Option Nat) (mutb:Bool) (ops:Array Oper):List Oper→Option (Option V)→List V→List DE→S→Option XR
  | [],rc,tmps,dfs,σ=>some ⟨none,rc,tmps,dfs,σ⟩
  | o::l,rc,tmps,dfs,σ =>
    if Region.wanted o (jaq ops tmps) then
      match opV E rec mutb tmps σ o.op with
      | some (v,σ')=>jew E rec rnd mutb ops l rc (putT tmps o.dst v) dfs σ'
      | none =>
        match opP E rec tmps σ o.op with
        | some (v,σ')=>some ⟨some v,rc,tmps,dfs,σ'⟩
        | none =>
          match opD E tmps o.op,rnd with
          | some d,none=>jew E rec rnd mutb ops l rc (putT tmps o.dst (.tup [])) (d::dfs) σ
          | _,_ =>
            match jf2 o.op,rc with
            | true,some pv=>jew E rec rnd mutb ops l (some none) (putT tmps o.dst (pv.getD .nilif)) dfs σ
            | _,_=>none
    else jew E rec rnd mutb ops l rc (putT tmps o.dst (.tup [])) dfs σ
theorem jeb (E:Env)(rec:Task→Option Res)(rnd:Option Nat)(mutb:Bool)(ops:Array Oper):∀ (m n:Nat) (rc:Option (Option V)) (tmps:List V) (dfs:List DE) (σ:S),n+m=ops.size →
  jdh E rec rnd mutb ops (List.range' n m) rc tmps dfs σ=jew E rec rnd mutb ops (ops.toList.drop n) rc tmps dfs σ
 | 0,n,rc,tmps,dfs,σ,h=>by
  have:ops.toList.drop n=[]:=List.drop_eq_nil_of_le (by simp; omega)
  rw [this]; rfl
 | m+1,n,rc,tmps,dfs,σ,h=>by
  have hlt:n<ops.toList.length:=by simp; omega
  have h1:ops.toList.drop n=ops.toList[n]::ops.toList.drop (n+1):=Qu hlt
  have h2:ops[n]? = some ops.toList[n]:=by rw [← Jd]; exact Kw hlt
  have ih:=fun rc tmps dfs σ=>jeb E rec rnd mutb ops m (n+1) rc tmps dfs σ (by omega)
  rw [h1]
  simp only [List.range'_succ,jdh,h2,jew,ih]
  rfl
theorem jjO (E:Env)(rec:Task→Option Res)(fn:FuncId)(rnd:Option Nat)(id:Nat)(ops:Array Oper)(tmps:List V)(dfs:List DE)(σ:S) :
  jaY E rec fn rnd (.region id ops false) tmps dfs σ=XR.res (jew E rec rnd (E.mutb fn id) ops ops.toList none tmps dfs σ):=by
 simp only [jaY]
 rw [show List.range ops.size=List.range' 0 ops.size from Xh,jeb _ _ _ _ _ _ _ _ _ _ _ (by omega)]
 simp
theorem jg3 (E:Env)(rec:Task→Option Res)(fn:FuncId)(rnd:Option Nat)(id:Nat)(l:List Oper)(tmps t':List V)(dfs:List DE)(σ σ':S)(h:jdT E rec (E.mutb fn id) l.toArray l tmps σ=some (t',σ')) :
  jaY E rec fn rnd (.region id l.toArray false) tmps dfs σ=some ⟨.normal,t',dfs,σ'⟩:=by
 have h1:jeX E rec (E.mutb fn id) l.toArray (List.range l.toArray.size) tmps σ=some (t',σ'):=by
  rw [show List.range l.toArray.size=List.range' 0 l.toArray.size from Xh ,jeJ _ _ _ _ _ _ _ _ (by simp)]
  exact h
 simp only [jaY,jdy _ h1,XR.res]
theorem jny (E:Env)(rec:Task→Option Res)(mutb:Bool)(ops:Array Oper)(tmps:List V)(σ:S)(dst:Option Tmp)(op:Op)(t:TypeId)(p:String)(a:Array Edge)(l:List Oper) :
  jdT E rec mutb ops (⟨dst,op,t,p,a,none⟩::l) tmps σ=(match opV E rec mutb tmps σ op with | some (v,σ')=>jdT E rec mutb ops l (putT tmps dst v) σ' | none=>none):=by
 simp [jdT,Region.wanted]
theorem jlV (E:Env)(rec:Task→Option Res)(mutb:Bool)(ops:Array Oper)(tmps:List V)(σ:S)(dst:Option Tmp)(op:Op)(t:TypeId)(p:String)(a:Array Edge)(j:Nat)(b:Bool)(l:List Oper) :
  jdT E rec mutb ops (⟨dst,op,t,p,a,some (j,b)⟩::l) tmps σ=(if jaq ops tmps j == some b then (match opV E rec mutb tmps σ op with | some (v,σ')=>jdT E rec mutb ops l (putT tmps dst v) σ' | none=>none) else jdT E rec mutb ops l (putT tmps dst (.tup [])) σ):=by
 simp [jdT,Region.wanted]
theorem V.beq_refl:∀ a:V,a.beq a=true
 | .bool a=>by simp [V.beq]
 | .int k n=>by simp [V.beq]
 | .str s=>by simp [V.beq]
 | .ptr x y=>by simp [V.beq]
 | .nilptr=>rfl
 | .rptr a=>by simp only [V.beq]; exact beqL_refl a
 | .hsl _ _ _ _ _=>by simp [V.beq]
 | .row a n c=>by simp [V.beq,beqL_refl a]
 | .nilsl=>rfl
 | .func f a c=>by simp [V.beq,beqL_refl a,beqL_refl c]
 | .yld l=>by simp [V.beq]
 | .nilfn=>rfl
 | .iface t v=>by simp [V.beq,V.beq_refl v]
 | .nilif=>rfl
 | .agg a=>by simp only [V.beq]; exact beqL_refl a
 | .tup a=>by simp only [V.beq]; exact beqL_refl a
 | .nilmap=>rfl
 | .any=>rfl
 | .map _=>by simp [V.beq]
 | .meth t v=>by simp [V.beq,V.beq_refl v]
 where beqL_refl:∀ a:List V,V.beq.beqL a a=true
 | []=>rfl
 | x::r=>by simp [V.beq.beqL,V.beq_refl x,beqL_refl r]
def jaJ:Op→Bool
 | .load _ _=>true
 | .lookup _ _ _ _=>true
 | .convert _ _ _=>true
 | _=>false
def jh2 (E:Env)(ops:Array Oper)(masks:List Nat):Bool :=
 (List.range ops.size).all fun j =>
  match ops[j]? with
  | some oj => !jaJ oj.op || (List.range ops.size).all fun i =>
   match ops[i]? with
   | some oi => !scOp E oi.op || (if i<j then (masks.getD j 0).testBit i else (masks.getD i 0).testBit j)
   | none=>false
  | none=>false
def jgd (E:Env)(ops:Array Oper):Bool:=jcg E ops (jai [] ops.toList) && jh2 E ops (jai [] ops.toList)
theorem jfv {E:Env}{ρ:Operand→Option V}{σ:S}{op:Op}(h:jaJ op=false):ja8 E ρ σ op=none:=by
 cases op <;> first | rfl | (simp [jaJ] at h; done)
theorem jgK {E:Env}{rec:Task→Option Res}{mutb:Bool}{ops:Array Oper}:∀ (l:List Oper) {tmps tf:List V} {σ σf:S},jdT E rec mutb ops l tmps σ=some (tf,σf) →
  ∃ tr ss,dRun E rec mutb ops l tmps σ=some (tr,ss,tf,σf)
 | [],tmps,tf,σ,σf,h=>by
  simp only [jdT,Kf,Km] at h
  obtain ⟨rfl,rfl⟩:=h
  exact ⟨[],[],rfl⟩
 | o::l,tmps,tf,σ,σf,h=>by
  simp only [jdT] at h
  simp only [dRun]
  by_cases hw:Region.wanted o (jaq ops tmps)=true
  ·simp only [hw,Ke] at h ⊢
   cases hop:opV E rec mutb tmps σ o.op with
   | none=>rw [hop] at h; simp at h
   | some p =>
    obtain ⟨v,σ1⟩:=p
    simp only [hop] at h ⊢
    obtain ⟨tr,ss,hd⟩:=jgK l h
    rw [hd]
    exact ⟨_,_,rfl⟩
  ·simp only [hw,Kj,Kc] at h ⊢
   obtain ⟨tr,ss,hd⟩:=jgK l h
   rw [hd]
   exact ⟨_,_,rfl⟩
theorem jho {E:Env}{rec:Task→Option Res}{mutb:Bool}{tmps:List V}{op:Op}{v:V}{σ σ':S}(hs:scOp E op=false)(hp:jbc E op=false)
  (h0:ja3 E (jaU E tmps) op=none) (h:opV E rec mutb tmps σ op=some (v,σ')):ja8 E (jaU E tmps) σ op=some v:=by
 unfold opV at h
 rw [h0] at h
 simp only at h
 cases hr:ja8 E (jaU E tmps) σ op with
 | some u=>rw [hr] at h; simp at h; rw [h.1]
 | none =>
  exfalso
  rw [hr] at h
  simp only at h
  cases op
  case convert src dst x=>exact jeE hs hp h
  case call =>
   rename Call=>c
   obtain ⟨callee,args,ats⟩:=c
   cases callee with
   | invoke r n=>simp [scOp] at hs
   | value g=>cases g <;> simp_all [jbc,scOp]
   | builtin b=>cases b <;> first | (simp [scOp] at hs; done) | (simp [jbo] at h; done) | exact jgD hs h
  all_goals first | (simp [scOp] at hs; done) | (simp [jbo] at h; done) | exact jeE hs h | (simp_all [scOp,jbc]; done)
theorem jiG {E:Env}{rec:Task→Option Res}{mutb:Bool}{ops:Array Oper}{tmps tf:List V}{σ σf:S}{tr:List (List V × V)}{ss:List S}
  (ho:jh2 E ops (jai [] ops.toList)=true) (h:dRun E rec mutb ops ops.toList tmps σ=some (tr,ss,tf,σf)) :
  jeN E ops (jai [] ops.toList) tr (σ::ss)=true:=by
 obtain ⟨h1,h2,_,_,_,h6⟩:=jeu ops.toList h
 unfold jeN
 rw [Kz]
 intro j hj
 have hj:j<ops.size:=by simpa using hj
 have hoj:ops[j]? = some ops[j]:=Jj hj
 have hoj2:ops.toList[j]? = some ops[j]:=by rw [Jd]; exact hoj
 obtain ⟨t,v,ht,_,σ1,hop,_⟩:=h6 j ops[j] hoj2
 simp only [hoj,ht]
 by_cases hs:scOp E ops[j].op=true
 ·simp [hs]
 by_cases hp:jbc E ops[j].op=true
 ·simp [hp]
 by_cases hw':¬ Region.wanted ops[j] (jaq ops t)=true
 ·simp [hw']
 have hw:=Classical.not_not.1 hw'
 by_cases ha:(ja3 E (jaU E t) ops[j].op).isSome=true
 ·simp [ha]
 have hs':scOp E ops[j].op=false:=by simpa using hs
 have hp':jbc E ops[j].op=false:=by simpa using hp
 have ha':ja3 E (jaU E t) ops[j].op=none:=by simpa using ha
 rw [hw,Kh rfl] at hop
 have hread:=jho hs' hp' ha' hop
 have hreads:jaJ ops[j].op=true:=by
  cases hx:jaJ ops[j].op with
  | true=>rfl
  | false=>rw [jfv hx] at hread; simp at hread
 have hord:∀ i oi,ops[i]? = some oi→scOp E oi.op=true→(if i<j then ((jai [] ops.toList).getD j 0).testBit i else ((jai [] ops.toList).getD i 0).testBit j)=true:=by
  intro i oi hi hsi
  unfold jh2 at ho
  rw [Kz] at ho
  have:=ho j (by simpa using hj)
  simp only [hoj,hreads,Qr,Js,Kz] at this
  have hi2:i<ops.size:=by
   rcases K1 i ops.size with h | h
   ·exact h
   ·rw [Vm h] at hi; simp at hi
  have:=this i (by simpa using hi2)
  simpa only [hi,hsi,Qr,Js] using this
 simp only [hs',hp',hw,ha',Qr,Bool.or_self,Xo,Js,Kz]
 intro m hm
 have hm:m<(σ::ss).length:=by simpa using hm
 by_cases hal':¬ jeW E ops (jai [] ops.toList) j m=true
 ·simp [hal']
 have hal:=Classical.not_not.1 hal'
 rw [hal]
 have hall:∀ i oi,ops[i]? = some oi→scOp E oi.op=true→(((jai [] ops.toList).getD j 0).testBit i=true→jaH E ops i<m)∧(((jai [] ops.toList).getD i 0).testBit j=true→m≤jaH E ops i):=by
  intro i oi hi hsi
  unfold jeW at hal
  rw [Kz] at hal
  have hi2:i<ops.size:=by
   rcases K1 i ops.size with h | h
   ·exact h
   ·rw [Vm h] at hi; simp at hi
  have:=hal i (by simpa using hi2)
  simp only [hi,hsi,Qr,Js,K5,Je,J7,Qm] at this
  refine ⟨fun hb => ?_,fun hb => ?_⟩
  ·rcases this.1 with h | h
   ·rw [hb] at h; simp at h
   ·exact h
  ·rcases this.2 with h | h
   ·rw [hb] at h; simp at h
   ·exact h
 have hcnt:cntO E ops.toList j=jaH E ops j:=rfl
 have htot:ss.length=jaH E ops ops.size:=by rw [h2]; unfold cntO jaH; simp
 have hm1:¬ m<jaH E ops j:=by
  intro hlt
  obtain ⟨i,oi,hi,hio,hsi,he⟩:=jdH (E:=E) ops m j hlt
  have h3:=hord i oi hio hsi
  rw [Kh hi] at h3
  have:=(hall i oi hio hsi).1 h3
  omega
 have hm2:¬ jaH E ops j<m:=by
  intro hlt
  have hlen:jaH E ops j<jaH E ops ops.size:=by
   have:m≤ss.length:=by simp at hm; omega
   omega
  obtain ⟨i,oi,hi,hio,hsi,he⟩:=jdH (E:=E) ops (jaH E ops j) ops.size hlen
  have hij:¬ i<j:=by
   intro hlt2
   have:=jet (E:=E) ops hio hsi hlt2
   omega
  have h3:=hord i oi hio hsi
  rw [Kg hij] at h3
  have:=(hall i oi hio hsi).2 h3
  omega
 have hme:m=jaH E ops j:=by omega
 have hget:(σ::ss)[m]? = some (SS σ ss (cntO E ops.toList j)):=by
  rw [hcnt,← hme]
  unfold SS
  rw [Kw hm]
  rfl
 rw [hget]
 simp only [hread,V.beq_refl,J2]
theorem jh3 {E:Env}{rec:Task→Option Res}{fn:FuncId}{rnd:Option Nat}{id:Nat}{ops:Array Oper}{tmps tf:List V}{dfs:List DE}{σ σf:S}(hd:jgd E ops=true)
  (h:jdT E rec (E.mutb fn id) ops ops.toList tmps σ=some (tf,σf)):jaY E rec fn rnd (.region id ops true) tmps dfs σ=some ⟨.normal,tf,dfs,σf⟩:=by
 unfold jgd at hd
 rw [K5] at hd
 obtain ⟨tr,ss,hr⟩:=jgK ops.toList h
 simp only [jaY,hd.1,Ke,hr,jiG hd.2 hr]
set_option linter.unusedVariables false
inductive Tre where
 | leaf
 | node (l:Tre) (v:V) (r:Tre)
noncomputable def Tre.get (t:Tre):Nat→V :=
 Tre.rec (motive:=fun _=>Nat→V) (fun _=>.tup []) (fun _ v _ gl gr n=>Bool.rec (motive:=fun _=>V) (Bool.rec (motive:=fun _=>V) (gr (Nat.pred (Nat.div n 2))) (gl (Nat.div n 2)) (Nat.beq (Nat.mod n 2) 1)) v (Nat.beq n 0)) t
noncomputable def Tre.set (v:V)(t:Tre):Nat→Tre :=
 Tre.rec (motive:=fun _=>Nat→Tre) (fun _=>.leaf) (fun l u r sl sr n=>Bool.rec (motive:=fun _=>Tre) (Bool.rec (motive:=fun _=>Tre) (.node l u (sr (Nat.pred (Nat.div n 2)))) (.node (sl (Nat.div n 2)) u r) (Nat.beq (Nat.mod n 2) 1)) (.node l v r) (Nat.beq n 0)) t
theorem Tre.get_node (l r:Tre)(v:V)(n:Nat):(Tre.node l v r).get n=cond (Nat.beq n 0) v (cond (Nat.beq (n % 2) 1) (l.get (n / 2)) (r.get (n / 2 - 1))):=by
 show Bool.rec (motive:=fun _=>V) (Bool.rec (motive:=fun _=>V) (r.get (n / 2 - 1)) (l.get (n / 2)) (Nat.beq (n % 2) 1)) v (Nat.beq n 0)=_
 cases Nat.beq n 0 <;> cases Nat.beq (n % 2) 1 <;> rfl
theorem Tre.set_node (v:V)(l r:Tre)(u:V)(n:Nat):Tre.set v (.node l u r) n=cond (Nat.beq n 0) (.node l v r) (cond (Nat.beq (n % 2) 1) (.node (Tre.set v l (n / 2)) u r) (.node l u (Tre.set v r (n / 2 - 1)))):=by
 show Bool.rec (motive:=fun _=>Tre) (Bool.rec (motive:=fun _=>Tre) (.node l u (Tre.set v r (n / 2 - 1))) (.node (Tre.set v l (n / 2)) u r) (Nat.beq (n % 2) 1)) (.node l v r) (Nat.beq n 0)=_
 cases Nat.beq n 0 <;> cases Nat.beq (n % 2) 1 <;> rfl
noncomputable def Tre.tab (k:Nat):(Nat→V)→Tre :=
 Nat.rec (motive:=fun _=>(Nat→V)→Tre) (fun _=>.leaf) (fun _ ih f=>.node (ih fun j=>f (2 * j+1)) (f 0) (ih fun j=>f (2 * j+2))) k
theorem Tre.tab_succ (k:Nat)(f:Nat→V):Tre.tab (k+1) f=.node (Tre.tab k fun j=>f (2 * j+1)) (f 0) (Tre.tab k fun j=>f (2 * j+2)):=rfl
def Tre.isFull:Nat→Tre→Prop
 | 0,_=>True
 | k+1,.node l _ r=>isFull k l∧isFull k r
 | _+1,.leaf=>False
theorem Tre.tab_full:∀ (k:Nat) (f:Nat→V),(Tre.tab k f).isFull k
 | 0,_=>trivial
 | k+1,f=>⟨tab_full k _,tab_full k _⟩
theorem jge {a b:Nat}(h:a ≠ b):Nat.beq a b=false:=by
 cases hb:Nat.beq a b with
 | false=>rfl
 | true=>exact absurd (Xs hb) h
theorem jjP {a b:Nat}(h:a=b):Nat.beq a b=true:=by subst h; exact Nat.beq_refl a
theorem jfa (n:Nat):n=0∨(n ≠ 0∧n % 2=1∧n=2 * (n / 2)+1)∨(n ≠ 0∧n % 2 ≠ 1∧n=2 * (n / 2 - 1)+2):=by omega
theorem Tre.tab_get:∀ (k:Nat) (f:Nat→V) (n:Nat),n<2 ^ k - 1→(Tre.tab k f).get n=f n
 | 0,f,n,h=>by simp at h
 | k+1,f,n,h=>by
  rw [Tre.tab_succ,Tre.get_node]
  have hp:2 ^ (k+1)=2 * 2 ^ k:=by rw [Nat.pow_succ]; omega
  rcases jfa n with rfl | ⟨h0,h1,h2⟩ | ⟨h0,h1,h2⟩
  ·rfl
  ·have e0:Nat.beq n 0=false:=jge h0
   have e1:Nat.beq (n % 2) 1=true:=jjP h1
   rw [e0,e1]
   show (Tre.tab k _).get (n / 2)=_
   rw [tab_get k _ _ (by omega),← h2]
  ·have e0:Nat.beq n 0=false:=jge h0
   have e1:Nat.beq (n % 2) 1=false:=jge h1
   rw [e0,e1]
   show (Tre.tab k _).get (n / 2 - 1)=_
   rw [tab_get k _ _ (by omega),← h2]
theorem Tre.get_out:∀ (k:Nat) (f:Nat→V) (n:Nat),2 ^ k - 1≤n→(Tre.tab k f).get n=.tup []
 | 0,f,n,h=>rfl
 | k+1,f,n,h=>by
  rw [Tre.tab_succ,Tre.get_node]
  have hp:2 ^ (k+1)=2 * 2 ^ k:=by rw [Nat.pow_succ]; omega
  have h1k:1≤2 ^ k:=Nat.one_le_two_pow
  rcases jfa n with rfl | ⟨h0,h1,h2⟩ | ⟨h0,h1,h2⟩
  ·omega
  ·have e0:Nat.beq n 0=false:=jge h0
   have e1:Nat.beq (n % 2) 1=true:=jjP h1
   rw [e0,e1]
   exact get_out k _ _ (by omega)
  ·have e0:Nat.beq n 0=false:=jge h0
   have e1:Nat.beq (n % 2) 1=false:=jge h1
   rw [e0,e1]
   exact get_out k _ _ (by omega)
theorem Tre.set_full (v:V):∀ (k:Nat) (t:Tre) (d:Nat),t.isFull k→(Tre.set v t d).isFull k
 | 0,t,d,h=>trivial
 | k+1,.leaf,d,h=>h.elim
 | k+1,.node l u r,d,h=>by
  rw [Tre.set_node]
  cases Nat.beq d 0 with
  | true=>exact h
  | false =>
   cases Nat.beq (d % 2) 1 with
   | true=>exact ⟨set_full v k l _ h.1,h.2⟩
   | false=>exact ⟨h.1,set_full v k r _ h.2⟩
theorem Tre.get_set (v:V):∀ (k:Nat) (t:Tre) (d i:Nat),t.isFull k→d<2 ^ k - 1→(Tre.set v t d).get i=if i=d then v else t.get i
 | 0,t,d,i,h,hd=>by simp at hd
 | k+1,.leaf,d,i,h,hd=>h.elim
 | k+1,.node l u r,d,i,h,hd=>by
  have hp:2 ^ (k+1)=2 * 2 ^ k:=by rw [Nat.pow_succ]; omega
  rw [Tre.set_node]
  have b0:∀ n:Nat,n ≠ 0→Nat.beq n 0=false:=fun n h=>jge h
  have b1:∀ n:Nat,n % 2=1→Nat.beq (n % 2) 1=true:=fun n h=>jjP h
  have b2:∀ n:Nat,n % 2 ≠ 1→Nat.beq (n % 2) 1=false:=fun n h=>jge h
  rcases jfa d with rfl | ⟨h0,h1,h2⟩ | ⟨h0,h1,h2⟩
  ·show (Tre.node l v r).get i=_
   rw [Tre.get_node,Tre.get_node]
   by_cases hi:i=0
   ·subst hi; rfl
   ·rw [b0 i hi,Kg hi]; rfl
  ·rw [b0 d h0,b1 d h1]
   show (Tre.node (Tre.set v l (d / 2)) u r).get i=_
   rw [Tre.get_node,Tre.get_node]
   rcases jfa i with rfl | ⟨g0,g1,g2⟩ | ⟨g0,g1,g2⟩
   ·rw [Kg (fun e=>h0 e.symm)]; rfl
   ·rw [b0 i g0,b1 i g1]
    show (Tre.set v l (d / 2)).get (i / 2)=if i=d then v else l.get (i / 2)
    rw [get_set v k l (d / 2) (i / 2) h.1 (by omega)]
    by_cases e:i=d
    ·subst e; simp
    ·rw [Kg e,Kg (by omega)]
   ·rw [b0 i g0,b2 i g1,Kg (by omega)]; rfl
  ·rw [b0 d h0,b2 d h1]
   show (Tre.node l u (Tre.set v r (d / 2 - 1))).get i=_
   rw [Tre.get_node,Tre.get_node]
   rcases jfa i with rfl | ⟨g0,g1,g2⟩ | ⟨g0,g1,g2⟩
   ·rw [Kg (fun e=>h0 e.symm)]; rfl
   ·rw [b0 i g0,b1 i g1,Kg (by omega)]; rfl
   ·rw [b0 i g0,b2 i g1]
    show (Tre.set v r (d / 2 - 1)).get (i / 2 - 1)=if i=d then v else r.get (i / 2 - 1)
    rw [get_set v k r (d / 2 - 1) (i / 2 - 1) h.2 (by omega)]
    by_cases e:i=d
    ·subst e; simp
    ·rw [Kg e,Kg (by omega)]
def depthF:Nat:=11
structure RepT (n:Nat) (t:Tre) (l:List V):Prop where
 len:l.length=n
 get:∀ i,l.getD i (.tup [])=t.get i
 full:t.isFull depthF
 room:n≤2 ^ depthF - 1
theorem RepT.set {n:Nat}{t:Tre}{l:List V}(h:RepT n t l){d:Nat}(hd:d<n)(v:V):RepT n (Tre.set v t d) (l.set d v):=by
 refine ⟨by simp [h.len],fun i => ?_,Tre.set_full v _ _ _ h.full,h.room⟩
 have hr:=h.room
 rw [Tre.get_set v _ _ _ _ h.full (by omega),← h.get i]
 have hl:=h.len
 by_cases e:i=d
 ·subst e; simp [List.getD,hl,hd]
 ·have e2:¬ d=i:=fun h=>e h.symm
  simp [List.getD,e,e2]
noncomputable def ofF (l:List V):Tre:=Tre.tab depthF fun i=>l.getD i (.tup [])
theorem RepT.of {n:Nat}(l:List V)(h:l.length=n)(hn:n≤2 ^ depthF - 1):RepT n (ofF l) l:=by
 refine ⟨h,fun i => ?_,Tre.tab_full _ _,hn⟩
 by_cases hi:i<2 ^ depthF - 1
 ·rw [ofF,Tre.tab_get _ _ _ hi]
 ·rw [ofF,Tre.get_out _ _ _ (by omega)]
  simp [List.getD,K8 (show l.length≤i by omega)]
theorem RepT.args {n:Nat}(as:List V)(h:as.length≤n)(hn:n≤2 ^ depthF - 1):RepT n (ofF as) (as++List.replicate (n - as.length) (.tup [])):=by
 refine ⟨by simp; omega,fun i => ?_,Tre.tab_full _ _,hn⟩
 have e:(as++List.replicate (n - as.length) (V.tup [])).getD i (.tup [])=as.getD i (.tup []):=by
  simp only [List.getD]
  by_cases hi:i<as.length
  ·rw [Kn hi]
  ·rw [Jp (by omega),K8 (l:=as) (by omega)]
   by_cases h2:i - as.length<n - as.length
   ·rw [List.getElem?_replicate]; simp [h2]
   ·rw [K8 (by simpa using h2)]
 rw [e]
 by_cases hi:i<2 ^ depthF - 1
 ·rw [ofF,Tre.tab_get _ _ _ hi]
 ·rw [ofF,Tre.get_out _ _ _ (by omega)]
  simp [List.getD,K8 (show as.length≤i by omega)]
noncomputable def lstF (n:Nat)(t:Tre):List V:=(List.range n).map t.get
theorem RepT.lst {n:Nat}{t:Tre}{l:List V}(h:RepT n t l):lstF n t=l:=by
 apply List.ext_getElem
 ·simp [lstF,h.len]
 ·intro i h1 h2
  have:=h.get i
  simp [List.getD,h2] at this
  simp [lstF,this]
noncomputable def jba (E:Env)(t:Tre)(x:Operand):Option V :=
 match x with
 | .tmp i=>some (t.get i)
 | .const v=>jfL v
 | .global g=>E.gl g
 | .func f=>some (.func f [] [])
theorem RepT.eval {E:Env}{n:Nat}{t:Tre}{l:List V}(h:RepT n t l):jaU E l=jba E t:=by
 funext x
 cases x with
 | tmp i=>simp only [jaU,jba,h.get i]
 | const v=>rfl
 | global g=>rfl
 | func f=>rfl
section
variable (E:Env)
def opR (rec:Task→Option Res)(mutb:Bool)(ρ:Operand→Option V)(σ:S)(op:Op):Option (V × S) :=
 match ja3 E ρ op with
 | some v=>some (v,σ)
 | none =>
  match ja8 E ρ σ op with
  | some v=>some (v,σ)
  | none =>
   match op with
   | .call { callee:=.value g,args,.. } =>
    (ρ g).bind fun gv=>(jbn ρ args.toList).bind fun as=>jgx E rec gv as σ
   | .call { callee:=.invoke x name,args,.. } =>
    (ρ x).bind fun xv=>(jhH E xv name).bind fun p=>(jbn ρ args.toList).bind fun as=>jah E rec p.1 (p.2::as) σ
   | op=>jbo E mutb ρ σ op
theorem joE {rec:Task→Option Res}{mutb:Bool}{tmps:List V}{σ:S}{op:Op}:opV E rec mutb tmps σ op=opR E rec mutb (jaU E tmps) σ op:=rfl
end
abbrev KT:=Env→(Task→Option Res)→Bool→Tre→S→Option (V × S)
def retK (σ:S)(o:Option V):Option (V × S) :=
 match o with
 | some v=>some (v,σ)
 | none=>none
noncomputable def kIx (k:IntKind):Nat:=IntKind.rec (motive:=fun _=>Nat) 0 1 2 3 4 5 6 7 k
theorem jrh {a b:IntKind}(h:Nat.beq (kIx a) (kIx b)=true):a=b:=by
 cases a <;> cases b <;> first | rfl | (exact absurd h (by simp [kIx]))
theorem jp0 (a:IntKind):Nat.beq (kIx a) (kIx a)=true:=Nat.beq_refl _
noncomputable def kTop (k:IntKind):Nat :=
 IntKind.rec (motive:=fun _=>Nat) 127 32767 2147483647 9223372036854775807 255 65535 4294967295 18446744073709551615 k
noncomputable def kSgn (k:IntKind):Bool:=IntKind.rec (motive:=fun _=>Bool) true true true true false false false false k
noncomputable def jlW (k:IntKind)(n:Int):Int :=
 Int.rec (motive:=fun _=>Int) (fun m=>cond (Nat.ble m (kTop k)) (Int.ofNat m) (k.wrap (Int.ofNat m)))
  (fun m=>cond (kSgn k) (cond (Nat.ble m (kTop k)) (Int.negSucc m) (k.wrap (Int.negSucc m))) (k.wrap (Int.negSucc m))) n
theorem jjQ (k:IntKind)(n:Int):jlW k n=k.wrap n:=by
 cases n with
 | ofNat m =>
  show cond (Nat.ble m (kTop k)) (Int.ofNat m) (k.wrap (Int.ofNat m))=_
  cases hb:Nat.ble m (kTop k) with
  | false=>rfl
  | true =>
   have h:=Xt hb
   simp only [cond]
   cases k <;> simp only [kTop] at h <;> simp only [IntKind.wrap,IntKind.bits,IntKind.signed] <;> simp <;> omega
 | negSucc m =>
  show cond (kSgn k) (cond (Nat.ble m (kTop k)) (Int.negSucc m) (k.wrap (Int.negSucc m))) (k.wrap (Int.negSucc m))=_
  cases hs:kSgn k with
  | false=>rfl
  | true =>
   simp only [cond]
   cases hb:Nat.ble m (kTop k) with
   | false=>rfl
   | true =>
    have h:=Xt hb
    simp only
    have e:Int.negSucc m = -(m:Int) - 1:=by omega
    rw [e]
    cases k <;> first | (simp [kSgn] at hs; done) | (simp only [kTop] at h; simp only [IntKind.wrap,IntKind.bits,IntKind.signed,Jz,Qm,Nat.reduceSub,Int.reducePow,ge_iff_le]; split <;> omega)
noncomputable def ltK (a b:Int):Bool :=
 Int.rec (motive:=fun _=>Bool)
  (fun m=>Int.rec (motive:=fun _=>Bool) (fun n=>Nat.ble (m+1) n) (fun _=>false) b)
  (fun m=>Int.rec (motive:=fun _=>Bool) (fun _=>true) (fun n=>Nat.ble (n+1) m) b) a
theorem jmH (a b:Int):ltK a b=decide (a<b):=by
 have hb:∀ m n:Nat,Nat.ble m n=decide (m≤n):=by
  intro m n
  by_cases h:m≤n
  ·simp [h,Nat.ble_eq]
  ·simp only [h,decide_false]
   cases hh:Nat.ble m n with
   | false=>rfl
   | true=>exact absurd (Xt hh) h
 cases a <;> cases b
 ·rename_i m n
  show Nat.ble (m+1) n=_
  rw [hb]; congr 1; apply propext; simp only [Xj]; omega
 ·rename_i m n; show false=_; symm; simp only [decide_eq_false_iff_not,Xj]; omega
 ·rename_i m n; show true=_; symm; simp only [Qm,Xj]; omega
 ·rename_i m n
  show Nat.ble (n+1) m=_
  rw [hb]; congr 1; apply propext; omega
noncomputable def eqK (a b:Int):Bool :=
 Int.rec (motive:=fun _=>Bool)
  (fun m=>Int.rec (motive:=fun _=>Bool) (fun n=>Nat.beq m n) (fun _=>false) b)
  (fun m=>Int.rec (motive:=fun _=>Bool) (fun _=>false) (fun n=>Nat.beq m n) b) a
theorem jqJ (a b:Int):eqK a b=(a == b):=by
 have hb:∀ m n:Nat,Nat.beq m n=decide (m=n):=by
  intro m n
  by_cases h:m=n
  ·subst h; simp
  ·simp only [h,decide_false]
   cases hh:Nat.beq m n with
   | false=>rfl
   | true=>exact absurd (Xs hh) h
 have e:∀ x y:Int,(x == y)=decide (x=y):=fun x y=>by
  by_cases h:x=y
  ·subst h; simp
  ·simp [h]
 rw [e]
 cases a <;> cases b
 ·rename_i m n; show Nat.beq m n=_; rw [hb]; congr 1; apply propext; simp only [Xj]; omega
 ·rename_i m n; show false=_; symm; simp only [decide_eq_false_iff_not,Xj]; omega
 ·rename_i m n; show false=_; symm; simp only [decide_eq_false_iff_not,Xj]; omega
 ·rename_i m n; show Nat.beq m n=_; rw [hb]; congr 1; apply propext; omega
noncomputable def intK (op:BinOp):IntKind→Int→Int→Option V :=
 BinOp.rec (motive:=fun _=>IntKind→Int→Int→Option V)
  (fun k a b=>some (.int k (jlW k (Int.add a b))))
  (fun k a b=>some (.int k (jlW k (Int.sub a b))))
  (fun k a b=>some (.int k (jlW k (Int.mul a b))))
  (jb2 .quo) (jb2 .rem) (jb2 .and) (jb2 .or) (jb2 .xor) (jb2 .shl) (jb2 .shr) (jb2 .andNot)
  (fun _ a b=>some (.bool (eqK a b))) (fun _ a b=>some (.bool (!eqK a b)))
  (fun _ a b=>some (.bool (ltK a b))) (fun _ a b=>some (.bool (!ltK b a))) (fun _ a b=>some (.bool (ltK b a))) (fun _ a b=>some (.bool (!ltK a b))) op
theorem jri (op:BinOp)(k:IntKind)(a b:Int):intK op k a b=jb2 op k a b:=by
 cases op <;> first | rfl | skip
 case add=>show some (V.int k (jlW k (a+b)))=some (.int k (k.wrap (a+b))); rw [jjQ]
 case sub=>show some (V.int k (jlW k (a - b)))=some (.int k (k.wrap (a - b))); rw [jjQ]
 case mul=>show some (V.int k (jlW k (a * b)))=some (.int k (k.wrap (a * b))); rw [jjQ]
 case eql=>show some (V.bool (eqK a b))=some (.bool (a == b)); rw [jqJ]
 case neq=>show some (V.bool (!eqK a b))=some (.bool (a != b)); rw [jqJ]; rfl
 case lss=>show some (V.bool (ltK a b))=some (.bool (a<b)); rw [jmH]
 case leq=>show some (V.bool (!ltK b a))=some (.bool (a≤b)); rw [jmH]; congr 1; congr 1; rw [← decide_not]; congr 1; apply propext; omega
 case gtr=>show some (V.bool (ltK b a))=some (.bool (a > b)); rw [jmH]
 case geq=>show some (V.bool (!ltK a b))=some (.bool (a ≥ b)); rw [jmH]; congr 1; congr 1; rw [← decide_not]; congr 1; apply propext; omega
noncomputable def jrj (op:BinOp):Bool:=BinOp.rec (motive:=fun _=>Bool) false false false false false false false false true true false false false false false false false op
noncomputable def binK (E:Env)(t:TypeId)(c:Bool)(op:BinOp)(a b:V):Option V :=
 match a,b with
 | .int k n,.int k' m=>cond (jrj op) (jhE E t c op (.int k n) (.int k' m)) (cond (Nat.beq (kIx k) (kIx k')) (intK op k n m) none)
 | a,b=>jhE E t c op a b
theorem jrk (E:Env)(t:TypeId)(c:Bool)(op:BinOp)(a b:V):binK E t c op a b=jhE E t c op a b:=by
 unfold binK
 split
 ·rename_i k n k' m
  cases hs:jrj op with
  | true=>rfl
  | false =>
   simp only [cond]
   have hb:vBin op (.int k n) (.int k' m)=if k=k' then jb2 op k n m else none:=by
    cases op <;> first | rfl | (exact absurd hs (by simp [jrj]))
   have hq:∀ us,vEq us c (.int k n) (.int k' m)=none:=by
    intro us
    cases us with
    | none=>rfl
    | some d=>cases d <;> rfl
   have hA:jod E t op (.int k n) (.int k' m)=none:=by cases op <;> rfl
   cases hk:Nat.beq (kIx k) (kIx k') with
   | true =>
    have e:=jrh hk
    subst e
    simp only [jhE,jbR,hb,Ke,jri]
    cases hv:jb2 op k n m with
    | some v=>rfl
    | none=>simp only [hA,hq]; cases op <;> rfl
   | false =>
    have e:¬ k=k':=fun e=>by subst e; rw [jp0] at hk; simp at hk
    simp only [jhE,jbR,hb,e,Kc,hA,hq]
    cases op <;> rfl
 ·rfl
def faS (E:Env)(t:TypeId)(f:Nat):Option Nat :=
 match E.P.underlying t with
 | some (.struct fields)=>(fields[f]?).bind fun fd=>(sz E fd.type).bind fun s=>if s=0 then none else some fd.offset
 | _=>none
def fS (E:Env)(t:TypeId)(f:Nat):Option (Nat × Bool × Nat) :=
 match E.P.underlying t with
 | some (.struct fields)=>(fields[f]?).bind fun fd=>(sz E fd.type).bind fun s=>(aggT E fd.type).bind fun g=>some (s,g,fd.offset)
 | _=>none
def iaS (E:Env)(t:TypeId):Option (Option Nat × Nat) :=
 match E.P.underlying t with
 | some (.slice e)=>(sz E e).bind fun s=>some (none,s)
 | some (.array n e)=>(sz E e).bind fun s=>some (some n,s)
 | _=>none
def ldS (E:Env)(t:TypeId):Option (Option Nat) :=
 (aggT E t).bind fun
 | true=>(sz E t).bind fun s=>some (some s)
 | false=>some none
def miS (E:Env)(t:TypeId):Bool :=
 match E.P.underlying t with
 | some (.interface _)=>false
 | some _=>true
 | none=>false
noncomputable def kGen (op:Op):KT:=fun E rec mutb t σ=>opR E rec mutb (jba E t) σ op
noncomputable def jr4 (x:Operand):KT:=fun E rec mutb t σ=>retK σ (jba E t x)
noncomputable def jts (c a b:Operand):KT:=fun E rec mutb t σ=>retK σ (ja3 E (jba E t) (.pick c a b))
noncomputable def jr5 (ty:TypeId):KT:=fun E rec mutb t σ=>(jbr E ty).map fun z=>(.ptr σ.heap.length 0,σ.push (.cells z.cells ty))
noncomputable def kBox (ty:TypeId)(x:Operand):KT:=fun E rec mutb t σ=>(jba E t x).map fun v=>(.ptr σ.heap.length 0,σ.push (.cells v.cells ty))
noncomputable def jr6 (ty:TypeId)(parts:Array (Nat × Operand)):KT:=fun E rec mutb t σ =>
 retK σ ((jcI (jba E t) parts.toList).bind fun ps=>(jbr E ty).bind fun z=>(jf1 E ty).bind fun pl=>(jfE pl z.cells ps).map .agg)
noncomputable def ldK (h:List AObj)(p:V)(o:Option Nat):Option V :=
 match o with
 | some s=>(jag h s p).map .agg
 | none=>(jag h 1 p).bind (·[0]?)
noncomputable def jtt (ty:TypeId)(x:Operand):KT:=fun E rec mutb t σ =>
 retK σ ((jba E t x).bind fun p=>(ldS E ty).bind fun o=>ldK σ.heap p o)
noncomputable def jr7 (ty:TypeId)(a x:Operand):KT:=fun E rec mutb t σ =>
 (jba E t a).bind fun p=>(jba E t x).bind fun v=>(sz E ty).bind fun s =>
   if v.cells.length=s then (jbd σ v.cells p).map fun σ'=>(.tup [],σ') else none
noncomputable def kBin (op:BinOp)(ty:TypeId)(x y:Operand)(_:TypeId):KT:=fun E rec mutb t σ =>
 retK σ ((jba E t x).bind fun a=>(jba E t y).bind fun b=>binK E ty (jcf x || jcf y) op a b)
noncomputable def kUn (op:UnOp)(_:TypeId)(x:Operand):KT:=fun E rec mutb t σ=>retK σ ((jba E t x).bind fun a=>vUn op a)
noncomputable def jr8 (ty:TypeId)(x:Operand):KT:=fun E rec mutb t σ =>
 retK σ ((jba E t x).bind fun v=>cond (miS E ty) (some (.iface ty v)) none)
noncomputable def jtu (fn:Fn)(first captured:Array Operand):KT:=fun E rec mutb t σ=>retK σ (ja3 E (jba E t) (.makeFunc fn first captured))
noncomputable def jr9 (ty:TypeId)(x:Operand)(lo hi mx:Option Operand):KT:=fun E rec mutb t σ=>retK σ (ja3 E (jba E t) (.slice ty x lo hi mx))
noncomputable def jnz (ty:TypeId)(x:Operand)(f:Nat):KT:=fun E rec mutb t σ =>
 retK σ ((jba E t x).bind fun v=>(faS E ty f).bind fun off=>jcH off v)
noncomputable def jsa (ty:TypeId)(x:Operand)(f:Nat):KT:=fun E rec mutb t σ =>
 retK σ ((jba E t x).bind fun v=>(joe v).bind fun cs=>(fS E ty f).bind fun p=>jhb p.2.1 p.1 cs p.2.2)
noncomputable def iaK (v i:V)(p:Option Nat × Nat):Option V :=
 match p.1 with
 | none=>jaC p.2 v i
 | some n=>jen n p.2 v i
noncomputable def jnA (ty:TypeId)(x ix:Operand):KT:=fun E rec mutb t σ =>
 retK σ ((jba E t x).bind fun v=>(jba E t ix).bind fun i=>(iaS E ty).bind (iaK v i))
noncomputable def jsb (ty:TypeId)(x ix:Operand):KT:=fun E rec mutb t σ=>retK σ (ja3 E (jba E t) (.index ty x ix))
noncomputable def extK (i:Nat)(v:V):Option V :=
 match v with
 | .tup vs=>vs[i]?
 | _=>none
noncomputable def jp1 (x:Operand)(i:Nat):KT:=fun E rec mutb t σ=>retK σ ((jba E t x).bind (extK i))
noncomputable def jsc (g:Operand)(args:List Operand):KT:=fun E rec mutb t σ =>
 (jba E t g).bind fun gv=>(jbn (jba E t) args).bind fun as=>jgx E rec gv as σ
noncomputable def jrl (x:Operand)(name:String)(args:List Operand):KT:=fun E rec mutb t σ =>
 (jba E t x).bind fun xv=>(jhH E xv name).bind fun p=>(jbn (jba E t) args).bind fun as=>jah E rec p.1 (p.2::as) σ
noncomputable def kApp (c:Call):KT:=fun E rec mutb t σ=>jbo E mutb (jba E t) σ (.call c)
noncomputable def jsd (b:Builtin):Bool:=match b with | .append | .copy=>true | _=>false
noncomputable def jrm (args:Array Operand)(ats:Array TypeId)(cal:Callee):KT :=
 Callee.rec (motive:=fun _=>KT) (fun g=>jsc g args.toList) (fun x name=>jrl x name args.toList)
  (fun b=>cond (jsd b) (kApp ⟨.builtin b,args,ats⟩) (kGen (.call ⟨.builtin b,args,ats⟩))) cal
noncomputable def jtv (c:Call):KT:=Call.rec (motive:=fun _=>KT) (fun cal args ats=>jrm args ats cal) c
noncomputable def opK (op:Op):KT :=
 Op.rec (motive:=fun _=>KT) jr4 jr4 jts jr5 kBox jr6 (fun t l p=>kGen (.buildSlice t l p)) (fun t m k v=>kGen (.insert t m k v)) jtt jr7
  (fun g=>kGen (.ready g)) (fun g=>kGen (.waits g)) (fun x=>kGen (.nilCheck x)) kBin kUn (fun a b x=>kGen (.convert a b x)) (fun a x=>kGen (.sliceToArrayPointer a x)) jr8 jtu
  (fun t r=>kGen (.makeMap t r)) (fun t r=>kGen (.makeChan t r)) (fun t l c=>kGen (.makeSlice t l c)) jr9 jnz jsa jnA jsb
  (fun t x i c=>kGen (.lookup t x i c)) (fun t m k v=>kGen (.mapUpdate t m k v)) (fun t m k=>kGen (.mapEntry t m k)) (fun t m s v=>kGen (.entryStore t m s v))
  (fun t x=>kGen (.range t x)) (fun i b=>kGen (.next i b)) (fun i=>kGen (.entry i)) (fun x a b c=>kGen (.typeAssert x a b c)) jp1 jtv (fun c=>kGen (.go c)) (fun c=>kGen (.defer c))
  (fun x=>kGen (.panic x)) (fun c x=>kGen (.send c x)) (fun t c b=>kGen (.recv t c b)) (fun c b=>kGen (.select c b)) op
section
variable {E:Env}{rec:Task→Option Res}{mutb:Bool}{t:Tre}{σ:S}
theorem jcc {op:Op}(h1:ja8 E (jba E t) σ op=none)(h2:∀ c,op ≠ .call c)(h3:jbo E mutb (jba E t) σ op=none):opR E rec mutb (jba E t) σ op=retK σ (ja3 E (jba E t) op):=by
 unfold opR retK
 cases ja3 E (jba E t) op with
 | some v=>rfl
 | none =>
  simp only [h1]
  cases op <;> first | exact h3 | (exact absurd rfl (h2 _))
theorem jse (ty:TypeId)(x:Operand)(f:Nat):((jba E t x).bind fun v=>(faS E ty f).bind fun off=>jcH off v)=ja3 E (jba E t) (.fieldAddr ty x f):=by
 simp only [ja3]
 cases jba E t x with
 | none=>rfl
 | some v =>
  simp only [Ko,faS]
  cases hu:E.P.underlying ty with
  | none=>rfl
  | some d =>
   cases d <;> first | rfl | skip
   rename_i fields
   simp only
   cases fields[f]? with
   | none=>rfl
   | some fd =>
    simp only [Ko]
    cases sz E fd.type with
    | none=>rfl
    | some s =>
     simp only [Ko]
     by_cases h:s=0
     ·simp [h]
     ·simp [h]
theorem jtw (ty:TypeId)(x:Operand)(f:Nat):((jba E t x).bind fun v=>(joe v).bind fun cs=>(fS E ty f).bind fun p=>jhb p.2.1 p.1 cs p.2.2)=ja3 E (jba E t) (.field ty x f):=by
 simp only [ja3]
 cases jba E t x with
 | none=>rfl
 | some v =>
  simp only [Ko,fS]
  cases hu:E.P.underlying ty with
  | none=>cases v <;> rfl
  | some d =>
   cases d <;> first | (cases v <;> rfl) | skip
   rename_i fields
   cases v <;> first | rfl | skip
   rename_i cs
   simp only [joe,Ko]
   cases fields[f]? with
   | none=>rfl
   | some fd =>
    simp only [Ko]
    cases sz E fd.type with
    | none=>rfl
    | some s =>
     simp only [Ko]
     cases aggT E fd.type with
     | none=>rfl
     | some g=>rfl
theorem jsf (ty:TypeId)(x ix:Operand):((jba E t x).bind fun v=>(jba E t ix).bind fun i=>(iaS E ty).bind (iaK v i))=ja3 E (jba E t) (.indexAddr ty x ix):=by
 simp only [ja3]
 cases jba E t x with
 | none=>rfl
 | some v =>
  simp only [Ko]
  cases jba E t ix with
  | none=>rfl
  | some i =>
   simp only [Ko,iaS]
   cases E.P.underlying ty with
   | none=>rfl
   | some d =>
    cases d <;> first | rfl | skip
    ·rename_i e; simp only; cases sz E e <;> rfl
    ·rename_i n e; simp only; cases sz E e <;> rfl
theorem jsg (ty:TypeId)(x:Operand):((jba E t x).bind fun p=>(ldS E ty).bind fun o=>ldK σ.heap p o)=ja8 E (jba E t) σ (.load ty x):=by
 simp only [ja8]
 congr 1
 funext p
 simp only [jaS,ldS]
 cases aggT E ty with
 | none=>rfl
 | some g =>
  cases g with
  | false=>rfl
  | true =>
   simp only [Ko]
   cases sz E ty <;> rfl
theorem jqK (op:Op)(E:Env)(rec:Task→Option Res)(mutb:Bool)(t:Tre)(σ:S):opK op E rec mutb t σ=opR E rec mutb (jba E t) σ op:=by
 cases op with
 | move x=>exact (jcc (op:=.move x) rfl (by simp) rfl).symm
 | assign x=>exact (jcc (op:=.assign x) rfl (by simp) rfl).symm
 | pick c a b=>exact (jcc (op:=.pick c a b) rfl (by simp) rfl).symm
 | build ty ps=>exact (jcc (op:=.build ty ps) rfl (by simp) rfl).symm
 | unOp o ty x=>exact (jcc (op:=.unOp o ty x) rfl (by simp) rfl).symm
 | makeFunc f a b=>exact (jcc (op:=.makeFunc f a b) rfl (by simp) rfl).symm
 | slice ty x a b c=>exact (jcc (op:=.slice ty x a b c) rfl (by simp) rfl).symm
 | index ty x i=>exact (jcc (op:=.index ty x i) rfl (by simp) rfl).symm
 | extract x i=>exact (jcc (op:=.extract x i) rfl (by simp) rfl).symm
 | alloc ty=>rfl
 | box ty x=>rfl
 | store ty a x=>rfl
 | binOp o ty x y yt =>
  rw [jcc rfl (by simp) rfl]
  show retK σ ((jba E t x).bind fun a=>(jba E t y).bind fun b=>binK E ty (jcf x || jcf y) o a b)=_
  congr 1
  simp only [ja3,jrk]
 | makeInterface ty x =>
  rw [jcc rfl (by simp) rfl]
  show retK σ ((jba E t x).bind fun v=>cond (miS E ty) (some (.iface ty v)) none)=_
  congr 1
  simp only [ja3,miS]
  congr 1
  funext v
  cases E.P.underlying ty with
  | none=>rfl
  | some d=>cases d <;> rfl
 | fieldAddr ty x f=>rw [jcc rfl (by simp) rfl]; exact congrArg (retK σ) (jse ty x f)
 | field ty x f=>rw [jcc rfl (by simp) rfl]; exact congrArg (retK σ) (jtw ty x f)
 | indexAddr ty x i=>rw [jcc rfl (by simp) rfl]; exact congrArg (retK σ) (jsf ty x i)
 | load ty x =>
  show retK σ ((jba E t x).bind fun p=>(ldS E ty).bind fun o=>ldK σ.heap p o)=_
  rw [jsg]
  unfold opR retK
  simp only [ja3]
  cases ja8 E (jba E t) σ (.load ty x) <;> rfl
 | call c =>
  obtain ⟨callee,args,ats⟩:=c
  cases callee with
  | value g=>rfl
  | invoke x n=>rfl
  | builtin b=>cases b <;> rfl
 | _=>rfl
end
section
variable (E:Env)
noncomputable def nthF (l:List Oper):Nat→Option Oper :=
 List.rec (motive:=fun _=>Nat→Option Oper) (fun _=>none) (fun o _ ih j=>cond (Nat.beq j 0) (some o) (ih (j - 1))) l
theorem joF:∀ (l:List Oper) (j:Nat),nthF l j=l[j]?
 | [],j=>by simp [nthF]
 | o::l,0=>rfl
 | o::l,j+1=>by
  have:nthF (o::l) (j+1)=nthF l j:=rfl
  rw [this,joF l j,K9]
noncomputable def jgf (ops:List Oper)(t:Tre)(j:Nat):Option Bool :=
 match nthF ops j with
 | some o=>match o.dst with
  | some d=>match t.get d with
   | .bool b=>some b
   | _=>none
  | none=>none
 | none=>none
theorem RepT.yield {n:Nat}{t:Tre}{l:List V}(h:RepT n t l)(ops:Array Oper):jaq ops l=jgf ops.toList t:=by
 funext j
 unfold jaq jgf
 rw [joF,Jd]
 cases ops[j]? with
 | none=>rfl
 | some o =>
  simp only [Ko]
  cases o.dst with
  | none=>rfl
  | some d =>
   simp only [Ko]
   rw [← h.get d]
   simp only [List.getD]
   cases l[d]? with
   | none=>rfl
   | some v=>cases v <;> rfl
noncomputable def putF (n:Nat)(t:Tre)(dst:Option Tmp)(v:V):Option Tre :=
 match dst with
 | none=>some t
 | some d=>cond (Nat.ble (d+1) n) (some (Tre.set v t d)) none
theorem RepT.put {n:Nat}{t t':Tre}{l:List V}(h:RepT n t l){dst:Option Tmp}{v:V}(hp:putF n t dst v=some t'):RepT n t' (putT l dst v):=by
 unfold putF at hp
 cases dst with
 | none=>simp at hp; subst hp; exact h
 | some d =>
  simp only at hp
  cases hb:Nat.ble (d+1) n with
  | false=>rw [hb] at hp; simp at hp
  | true =>
   rw [hb] at hp
   simp at hp; subst hp
   exact h.set (Xt hb) v
noncomputable def jex (rec:Task→Option Res)(mutb:Bool)(n:Nat)(ops:List Oper):List Oper→Tre→S→Option (Tre × S)
 | [],t,σ=>some (t,σ)
 | o::l,t,σ =>
  match Region.wanted o (jgf ops t) with
  | true =>
   match opK o.op E rec mutb t σ with
   | some (v,σ') =>
    match putF n t o.dst v with
    | some t'=>jex rec mutb n ops l t' σ'
    | none=>none
   | none=>none
  | false =>
   match putF n t o.dst (.tup []) with
   | some t'=>jex rec mutb n ops l t' σ
   | none=>none
theorem jec {rec:Task→Option Res}{mutb:Bool}{n:Nat}{ops:Array Oper}:∀ (l:List Oper) {t t':Tre} {tmps:List V} {σ σ':S},RepT n t tmps→jex E rec mutb n ops.toList l t σ=some (t',σ') →
  ∃ tmps',jdT E rec mutb ops l tmps σ=some (tmps',σ')∧RepT n t' tmps'
 | [],t,t',tmps,σ,σ',h,he=>by
  simp only [jex,Kf,Km] at he
  obtain ⟨rfl,rfl⟩:=he
  exact ⟨tmps,rfl,h⟩
 | o::l,t,t',tmps,σ,σ',h,he=>by
  simp only [jex,jqK] at he
  simp only [jdT,h.yield ops,joE,h.eval]
  cases hw:Region.wanted o (jgf ops.toList t) with
  | true =>
   simp only [hw] at he
   simp only [Ke]
   cases ho:opR E rec mutb (jba E t) σ o.op with
   | none=>rw [ho] at he; simp at he
   | some p =>
    obtain ⟨v,σ1⟩:=p
    simp only [ho] at he
    cases hp:putF n t o.dst v with
    | none=>rw [hp] at he; simp at he
    | some t1 =>
     simp only [hp] at he
     exact jec l (h.put hp) he
  | false =>
   simp only [hw] at he
   simp only [Kj,Kc]
   cases hp:putF n t o.dst (.tup []) with
   | none=>rw [hp] at he; simp at he
   | some t1 =>
    simp only [hp] at he
    exact jec l (h.put hp) he
end
inductive TaskF where
 | call (f:FuncId) (args:List V) (σ:S)
 | round (l:Nat) (args:List V) (σ:S)
 | loop (fn:FuncId) (rnd:Option Nat) (n:Nat) (body:Code) (t:Tre) (dfs:List DE) (σ:S)
 | dcall (f:FuncId) (args:List V) (pv:Option V) (σ:S)
structure RF where
 ex:Ex
 t:Tre
 dfs:List DE
 st:S
def RF.one:Option RF→Option Res
 | some ⟨.ret,.node _ v _,[],σ⟩=>some ⟨.ret,[v],[],σ⟩
 | some ⟨.pan v,.leaf,[],σ⟩=>some ⟨.pan v,[],[],σ⟩
 | _=>none
def recF (rf:TaskF→Option RF):Task→Option Res
 | .call f args σ=>RF.one (rf (.call f args σ))
 | .round l args σ=>RF.one (rf (.round l args σ))
 | .dcall f args pv σ=>RF.one (rf (.dcall f args pv σ))
 | .loop .. => none
structure XF where
 pan:Option V
 rcv:Option (Option V)
 t:Tre
 dfs:List DE
 st:S
section
variable (E:Env)
def opPR (rec:Task→Option Res)(ρ:Operand→Option V)(σ:S)(op:Op):Option (V × S) :=
 match op with
 | .panic x =>
  match ρ x with
  | some (.iface t v)=>some (.iface t v,σ)
  | _=>none
 | .call { callee:=.value g,args,.. } =>
  match ρ g,jbn ρ args.toList with
  | some (.func f first captured),some as=>jiC E rec f (first++as++captured) σ
  | _,_=>none
 | _=>none
theorem jp2 {rec:Task→Option Res}{tmps:List V}{σ:S}{op:Op}:opP E rec tmps σ op=opPR E rec (jaU E tmps) σ op:=rfl
def opDR (ρ:Operand→Option V)(op:Op):Option DE :=
 match op with
 | .defer { callee:=.value g,args,.. } =>
  match ρ g,jbn ρ args.toList with
  | some (.func f first captured),some as=>some (.call f (first++as++captured))
  | _,_=>none
 | _=>none
theorem jp3 {tmps:List V}{op:Op}:opD E tmps op=opDR (jaU E tmps) op:=rfl
noncomputable def jfb (rec:Task→Option Res)(rnd:Option Nat)(mutb:Bool)(n:Nat)(ops:List Oper):List Oper→Option (Option V)→Tre→List DE→S→Option XF
 | [],rc,t,dfs,σ=>some ⟨none,rc,t,dfs,σ⟩
 | o::l,rc,t,dfs,σ =>
  match Region.wanted o (jgf ops t) with
  | true =>
   match opK o.op E rec mutb t σ with
   | some (v,σ') =>
    match putF n t o.dst v with
    | some t'=>jfb rec rnd mutb n ops l rc t' dfs σ'
    | none=>none
   | none =>
    match opPR E rec (jba E t) σ o.op with
    | some (v,σ')=>some ⟨some v,rc,t,dfs,σ'⟩
    | none =>
     match opDR (jba E t) o.op,rnd with
     | some d,none =>
      match putF n t o.dst (.tup []) with
      | some t'=>jfb rec rnd mutb n ops l rc t' (d::dfs) σ
      | none=>none
     | _,_ =>
      match jf2 o.op,rc with
      | true,some pv =>
       match putF n t o.dst (pv.getD .nilif) with
       | some t'=>jfb rec rnd mutb n ops l (some none) t' dfs σ
       | none=>none
      | _,_=>none
  | false =>
   match putF n t o.dst (.tup []) with
   | some t'=>jfb rec rnd mutb n ops l rc t' dfs σ
   | none=>none
theorem jcj {rec:Task→Option Res}{rnd:Option Nat}{mutb:Bool}{n:Nat}{ops:Array Oper}:∀ (l:List Oper) {rc:Option (Option V)} {t:Tre} {tmps:List V} {dfs:List DE} {σ:S} {r:XF},RepT n t tmps→jfb E rec rnd mutb n ops.toList l rc t dfs σ=some r →
  ∃ tmps',jew E rec rnd mutb ops l rc tmps dfs σ=some ⟨r.pan,r.rcv,tmps',r.dfs,r.st⟩∧RepT n r.t tmps'
 | [],rc,t,tmps,dfs,σ,r,h,he=>by
  simp only [jfb,Kf] at he
  subst he
  exact ⟨tmps,rfl,h⟩
 | o::l,rc,t,tmps,dfs,σ,r,h,he=>by
  simp only [jfb,jqK] at he
  simp only [jew,h.yield ops,joE,jp2,jp3,h.eval]
  cases hw:Region.wanted o (jgf ops.toList t) with
  | true =>
   simp only [hw] at he
   simp only [Ke]
   cases ho:opR E rec mutb (jba E t) σ o.op with
   | some p =>
    obtain ⟨v,σ1⟩:=p
    simp only [ho] at he
    cases hp:putF n t o.dst v with
    | none=>rw [hp] at he; simp at he
    | some t1 =>
     simp only [hp] at he
     exact jcj l (h.put hp) he
   | none =>
    simp only [ho] at he
    cases hpp:opPR E rec (jba E t) σ o.op with
    | some p =>
     obtain ⟨v,σ1⟩:=p
     simp only [hpp,Kf] at he
     subst he
     exact ⟨tmps,rfl,h⟩
    | none =>
     simp only [hpp] at he
     cases hd:opDR (jba E t) o.op with
     | some d =>
      cases rnd with
      | none =>
       simp only [hd] at he ⊢
       cases hp:putF n t o.dst (.tup []) with
       | none=>rw [hp] at he; simp at he
       | some t1 =>
        simp only [hp] at he
        exact jcj l (h.put hp) he
      | some q =>
       simp only [hd] at he ⊢
       cases hv:jf2 o.op with
       | false=>simp [hv] at he
       | true =>
        cases rc with
        | none=>simp [hv] at he
        | some pv =>
         simp only [hv] at he ⊢
         cases hp:putF n t o.dst (pv.getD .nilif) with
         | none=>rw [hp] at he; simp at he
         | some t1 =>
          simp only [hp] at he
          exact jcj l (h.put hp) he
     | none =>
      simp only [hd] at he ⊢
      cases hv:jf2 o.op with
      | false=>simp [hv] at he
      | true =>
       cases rc with
       | none=>simp [hv] at he
       | some pv =>
        simp only [hv] at he ⊢
        cases hp:putF n t o.dst (pv.getD .nilif) with
        | none=>rw [hp] at he; simp at he
        | some t1 =>
         simp only [hp] at he
         exact jcj l (h.put hp) he
  | false =>
   simp only [hw] at he
   simp only [Kj,Kc]
   cases hp:putF n t o.dst (.tup []) with
   | none=>rw [hp] at he; simp at he
   | some t1 =>
    simp only [hp] at he
    exact jcj l (h.put hp) he
def jtx:Op→Bool
 | .panic _=>true
 | .defer _=>true
 | op=>jf2 op
def jp4 (fn:FuncId)(ops:List Oper):Bool:=E.pan fn || ops.any fun o=>jtx o.op
end
section
variable (E:Env)(rf:TaskF→Option RF)
noncomputable def jaV (fn:FuncId)(rnd:Option Nat)(n:Nat):Code→Tre→List DE→S→Option RF
 | .skip,t,dfs,σ=>some ⟨.normal,t,dfs,σ⟩
 | .label _,t,dfs,σ=>some ⟨.normal,t,dfs,σ⟩
 | .exit id,t,dfs,σ=>some ⟨.exit id,t,dfs,σ⟩
 | .ret,t,dfs,σ=>some ⟨.ret,t,dfs,σ⟩
 | .seq a b,t,dfs,σ =>
  match jaV fn rnd n a t dfs σ with
  | some ⟨.normal,t,dfs,σ⟩=>jaV fn rnd n b t dfs σ
  | r=>r
 | .cond c a b,t,dfs,σ =>
  match jba E t c with
  | some (.bool true)=>jaV fn rnd n a t dfs σ
  | some (.bool false)=>jaV fn rnd n b t dfs σ
  | _=>none
 | .block id c,t,dfs,σ =>
  match jaV fn rnd n c t dfs σ with
  | some ⟨.exit i,t,dfs,σ⟩=>some ⟨if i=id then .normal else .exit i,t,dfs,σ⟩
  | r=>r
 | .loop c,t,dfs,σ=>rf (.loop fn rnd n c t dfs σ)
 | .scope c,t,dfs,σ=>jaV fn rnd n c t dfs σ
 | .region id ops false,t,dfs,σ =>
  match jp4 E fn ops.toList with
  | false =>
   match jex E (recF rf) (E.mutb fn id) n ops.toList ops.toList t σ with
   | some (t,σ)=>some ⟨.normal,t,dfs,σ⟩
   | none=>none
  | true =>
   match jfb E (recF rf) rnd (E.mutb fn id) n ops.toList ops.toList none t dfs σ with
   | some ⟨none,_,t,dfs,σ⟩=>some ⟨.normal,t,dfs,σ⟩
   | some ⟨some v,_,t,dfs,σ⟩=>some ⟨.pan v,t,dfs,σ⟩
   | none=>none
 | .region id ops true,t,dfs,σ =>
  if jgd E ops then
   match jex E (recF rf) (E.mutb fn id) n ops.toList ops.toList t σ with
   | some (t,σ)=>some ⟨.normal,t,dfs,σ⟩
   | none=>none
  else if jcg E ops (jai [] ops.toList) then
   match dRun E (recF rf) (E.mutb fn id) ops ops.toList (lstF n t) σ with
   | some (tr,ss,tf,σf)=>if jeN E ops (jai [] ops.toList) tr (σ::ss) then if tf.length=n then some ⟨.normal,ofF tf,dfs,σf⟩ else none else none
   | none=>none
  else none
 | .rangeFunc f ps asg body,t,dfs,σ =>
  match jba E t f,rnd with
  | some (.func fid first captured),none =>
   match recF rf (.call fid (first++[V.yld (σ.heap.length+1)]++captured) ⟨σ.heap++[.defd true,.loop .ready none fn (lstF n t) ps asg body σ.heap.length],σ.toks⟩) with
   | some { ex:=.ret,vals:=[_],dfs:=[],st:=σ2 } =>
    match σ2.heap[σ.heap.length+1]? with
    | some (.loop st pend fn' tmps' ps' asg' body' dfr) =>
     if st=LoopState.busy then none else
     match pend with
     | none=>some ⟨.normal,t,DE.mark σ.heap.length::dfs,σ2.set (σ.heap.length+1) (.loop .exhausted pend fn' tmps' ps' asg' body' dfr)⟩
     | some (.exit i)=>some ⟨.exit i,t,DE.mark σ.heap.length::dfs,σ2.set (σ.heap.length+1) (.loop .exhausted pend fn' tmps' ps' asg' body' dfr)⟩
     | some .ret=>some ⟨.ret,t,DE.mark σ.heap.length::dfs,σ2.set (σ.heap.length+1) (.loop .exhausted pend fn' tmps' ps' asg' body' dfr)⟩
     | _=>none
    | _=>none
   | _=>none
  | _,_=>none
 | _,_,_,_=>none
noncomputable def resF (t:Tre)(h:List AObj):List ResultVar→Option (List V)
 | []=>some []
 | .tmp i::r=>(resF t h r).map (t.get i :: ·)
 | .cell a ty::r=>(jaS E h ty (t.get a)).bind fun v=>(resF t h r).map (v :: ·)
noncomputable def finF (fn:Func)(pv:Option V)(t:Tre)(dfs:List DE)(σ:S):Option RF :=
 match jcC (recF rf) pv dfs σ with
 | some (none,σ') =>
  match resF E t σ'.heap fn.results.toList with
  | some vs=>some ⟨.ret,.node .leaf (jau vs) .leaf,[],σ'⟩
  | none=>none
 | some (some v,σ')=>some ⟨.pan v,.leaf,[],σ'⟩
 | none=>none
noncomputable def jcs (fn:FuncId)(n:Nat):Code→Option V→Tre→S→Option (Bool × RF)
 | .seq a b,pv,t,σ =>
  match jcs fn n a pv t σ with
  | some (g,⟨.normal,t,dfs,σ⟩) =>
   match jaV E rf fn none n b t dfs σ with
   | some r=>some (g,r)
   | none=>none
  | r=>r
 | .block id c,pv,t,σ =>
  match jcs fn n c pv t σ with
  | some (g,⟨.exit i,t,dfs,σ⟩)=>some (g,⟨if i=id then .normal else .exit i,t,dfs,σ⟩)
  | r=>r
 | .scope c,pv,t,σ=>jcs fn n c pv t σ
 | .region id ops false,pv,t,σ =>
  match jfb E (recF rf) none (E.mutb fn id) n ops.toList ops.toList (some pv) t [] σ with
  | some ⟨none,rc,t,dfs,σ⟩=>some (gotV rc pv,⟨.normal,t,dfs,σ⟩)
  | _=>none
 | _,_,_,_=>none
noncomputable def jnB (n:Nat):List (Tmp × V)→Tre→Option Tre
 | [],t=>some t
 | (d,v)::r,t=>match putF n t (some d) v with
  | some t'=>jnB n r t'
  | none=>none
noncomputable def jh4:TaskF→Option RF
  | .call f args σ =>
    match E.P.funcs[f]? with
    | some fn =>
      match fn.body with
      | some body =>
        if fn.name = "runtime.NumGoroutine" then none else
        if fn.ntmps≤2 ^ depthF - 1∧args.length≤fn.ntmps then
        match jaV E rf f none fn.ntmps body (ofF args) [] σ with
        | some ⟨.exit _,_,_,_⟩=>none
        | some ⟨.pan v,t,dfs,σ'⟩=>finF E rf fn (some v) t dfs σ'
        | some ⟨_,t,dfs,σ'⟩ =>
          match jbS σ'.heap dfs with
          | some h =>
            match resF E t h fn.results.toList with
            | some vs=>some ⟨.ret,.node .leaf (jau vs) .leaf,[],⟨h,σ'.toks⟩⟩
            | none=>none
          | none=>finF E rf fn none t dfs σ'
        | none=>none
        else none
      | none=>none
    | none=>none
  | .round l args σ =>
    match σ.heap[l]? with
    | some (.loop .ready none fn tmps ps asg body _) =>
      if args.length ≠ ps.size then none else
      if tmps.length≤2 ^ depthF - 1 then
      (jnB tmps.length (ps.toList.zip args) (ofF tmps)).bind fun t0 =>
      match jaV E rf fn (some l) tmps.length asg t0 [] σ with
      | some ⟨.normal,t1,[],σ1⟩ =>
        match σ1.heap[l]? with
        | some (.loop .ready none fn1 tm1 ps1 as1 bo1 df1) =>
          match jaV E rf fn (some l) tmps.length body t1 [] (σ1.set l (.loop .busy none fn1 tm1 ps1 as1 bo1 df1)) with
          | some ⟨ex,_,[],σ2⟩ =>
            match σ2.heap[l]? with
            | some (.loop _ _ fn2 tm2 ps2 as2 bo2 df2) =>
              match ex with
              | .normal=>some ⟨.ret,.node .leaf (.bool true) .leaf,[],σ2.set l (.loop .ready none fn2 tm2 ps2 as2 bo2 df2)⟩
              | .ret=>some ⟨.ret,.node .leaf (.bool false) .leaf,[],σ2.set l (.loop .done (some .ret) fn2 tm2 ps2 as2 bo2 df2)⟩
              | .exit i=>some ⟨.ret,.node .leaf (.bool false) .leaf,[],σ2.set l (.loop .done (some (.exit i)) fn2 tm2 ps2 as2 bo2 df2)⟩
              | .pan _=>none
            | _=>none
          | _=>none
        | _=>none
      | _=>none
      else none
    | _=>none
  | .loop fn rnd n c t dfs σ =>
    match jaV E rf fn rnd n c t dfs σ with
    | some ⟨.normal,t',dfs',σ'⟩=>rf (.loop fn rnd n c t' dfs' σ')
    | r=>r
  | .dcall f args pv σ =>
    match E.P.funcs[f]? with
    | some fn =>
      match fn.body with
      | some body =>
        if fn.name = "runtime.NumGoroutine" then none else
        if fn.ntmps≤2 ^ depthF - 1∧args.length≤fn.ntmps then
        match jcs E rf f fn.ntmps body pv (ofF args) σ with
        | some (_,⟨.exit _,_,_,_⟩)=>none
        | some (_,⟨.pan _,_,_,_⟩)=>none
        | some (g,⟨_,t,dfs,σ'⟩) =>
          match jbS σ'.heap dfs with
          | some h =>
            match resF E t h fn.results.toList with
            | some _=>some ⟨.ret,.node .leaf (.bool g) .leaf,[],⟨h,σ'.toks⟩⟩
            | none=>none
          | none=>none
        | none=>none
        else none
      | none=>none
    | none=>none
end
noncomputable def runF (E:Env):Nat→TaskF→Option RF
 | 0,_=>none
 | k+1,t=>jh4 E (runF E k) t
def OkF (E:Env)(t:TaskF)(r:RF):Prop :=
 match t with
 | .call f args σ=>∀ s,RF.one (some r)=some s→ev E (.call f args σ)=some s
 | .round n args σ=>∀ s,RF.one (some r)=some s→ev E (.round n args σ)=some s
 | .dcall f args pv σ=>∀ s,RF.one (some r)=some s→ev E (.dcall f args pv σ)=some s
 | .loop fn rnd n c t dfs σ=>∀ tmps,RepT n t tmps→∃ tmps',ev E (.loop fn rnd c tmps dfs σ)=some ⟨r.ex,tmps',r.dfs,r.st⟩∧RepT n r.t tmps'
section
variable {E:Env}{rf:TaskF→Option RF}
theorem jjR {o:Option RF}{r:Res}(h:RF.one o=some r):∃ q,o=some q:=by
 cases o with
 | none=>simp [RF.one] at h
 | some q=>exact ⟨q,rfl⟩
theorem jfT (h:∀ t r,rf t=some r→OkF E t r):∀ t r,recF rf t=some r→ev E t=some r:=by
 intro t r hr
 cases t with
 | call f args σ =>
  obtain ⟨q,hq⟩:=jjR hr
  have hr':RF.one (rf (.call f args σ))=some r:=hr
  rw [hq] at hr'
  exact h _ _ hq r hr'
 | round f args σ =>
  obtain ⟨q,hq⟩:=jjR hr
  have hr':RF.one (rf (.round f args σ))=some r:=hr
  rw [hq] at hr'
  exact h _ _ hq r hr'
 | dcall f args pv σ =>
  obtain ⟨q,hq⟩:=jjR hr
  have hr':RF.one (rf (.dcall f args pv σ))=some r:=hr
  rw [hq] at hr'
  exact h _ _ hq r hr'
 | loop=>simp [recF] at hr
theorem jgL {α:Type}{rec:Task→Option Res}{F:(Task→Option Res)→Option α}{r:α}(h:∀ t r,rec t=some r→ev E t=some r)(hu:Uses rec F r):F (ev E)=some r:=by
 obtain ⟨L,h1,h2⟩:=hu
 exact h2 _ fun p hp=>h _ _ (h1 p hp)
theorem jfw {rec:Task→Option Res}{mutb:Bool}{ops:Array Oper}:∀ {l:List Oper} {tmps:List V} {σ:S} {r:List V × S},jdT E rec mutb ops l tmps σ=some r→Uses rec (fun g=>jdT E g mutb ops l tmps σ) r
 | [],tmps,σ,r,h=>by simp only [jdT] at h ⊢; exact Uses.const fun _=>h
 | o::l,tmps,σ,r,h=>by
  simp only [jdT] at h ⊢
  by_cases hw:Region.wanted o (jaq ops tmps)=true
  ·simp only [hw,Ke] at h ⊢
   cases hop:opV E rec mutb tmps σ o.op with
   | none=>rw [hop] at h; simp at h
   | some p =>
    obtain ⟨v,σ1⟩:=p
    simp only [hop] at h
    exact (jeH hop).and (jfw h) fun g h1 h2=>by simp only [h1,h2]
  ·simp only [hw,Kj,Kc] at h ⊢
   exact jfw h
theorem jh5 {rec:Task→Option Res}{rnd:Option Nat}{mutb:Bool}{ops:Array Oper}{rc:Option (Option V)}{tmps:List V}{dfs:List DE}{σ:S}{r:XR}(h:jew E rec rnd mutb ops ops.toList rc tmps dfs σ=some r) :
  Uses rec (fun g=>jew E g rnd mutb ops ops.toList rc tmps dfs σ) r:=by
 have e:∀ g,jew E g rnd mutb ops ops.toList rc tmps dfs σ=jdh E g rnd mutb ops (List.range ops.size) rc tmps dfs σ:=by
  intro g
  rw [show List.range ops.size=List.range' 0 ops.size from Xh,jeb _ _ _ _ _ _ _ _ _ _ _ (by omega)]
  simp
 rw [e] at h
 exact (jcM h).map fun g h1=>by rw [e]; exact h1
theorem jbv (h:∀ t r,rf t=some r→OkF E t r){fn:FuncId}{rnd:Option Nat}{n:Nat}:∀ (c:Code) {t:Tre} {tmps:List V} {dfs:List DE} {σ:S} {r:RF},RepT n t tmps→jaV E rf fn rnd n c t dfs σ=some r →
  ∃ tmps',jaY E (ev E) fn rnd c tmps dfs σ=some ⟨r.ex,tmps',r.dfs,r.st⟩∧RepT n r.t tmps'
 | .skip,t,tmps,dfs,σ,r,ht,he=>by simp [jaV] at he; subst he; exact ⟨_,rfl,ht⟩
 | .label _,t,tmps,dfs,σ,r,ht,he=>by simp [jaV] at he; subst he; exact ⟨_,rfl,ht⟩
 | .exit _,t,tmps,dfs,σ,r,ht,he=>by simp [jaV] at he; subst he; exact ⟨_,rfl,ht⟩
 | .ret,t,tmps,dfs,σ,r,ht,he=>by simp [jaV] at he; subst he; exact ⟨_,rfl,ht⟩
 | .goto _,t,tmps,dfs,σ,r,ht,he=>by simp [jaV] at he
 | .refuse _,t,tmps,dfs,σ,r,ht,he=>by simp [jaV] at he
 | .scope c,t,tmps,dfs,σ,r,ht,he=>by simp only [jaV] at he; simp only [jaY]; exact jbv h c ht he
 | .seq a b,t,tmps,dfs,σ,r,ht,he=>by
  simp only [jaV] at he
  cases ha:jaV E rf fn rnd n a t dfs σ with
  | none=>rw [ha] at he; simp at he
  | some ra =>
   obtain ⟨l1,h1,h2⟩:=jbv h a ht ha
   obtain ⟨ex,t1,d1,s1⟩:=ra
   cases ex with
   | normal =>
    simp only [ha] at he
    simp only [jaY,h1]
    exact jbv h b h2 he
   | exit i=>simp only [ha,Kf] at he; subst he; exact ⟨l1,by simp only [jaY,h1],h2⟩
   | ret=>simp only [ha,Kf] at he; subst he; exact ⟨l1,by simp only [jaY,h1],h2⟩
   | pan v=>simp only [ha,Kf] at he; subst he; exact ⟨l1,by simp only [jaY,h1],h2⟩
 | .cond c a b,t,tmps,dfs,σ,r,ht,he=>by
  simp only [jaV] at he
  simp only [jaY,ht.eval]
  split at he
  ·rename_i hc; simp only [hc]; exact jbv h a ht he
  ·rename_i hc; simp only [hc]; exact jbv h b ht he
  ·simp at he
 | .block id c,t,tmps,dfs,σ,r,ht,he=>by
  simp only [jaV] at he
  cases hc:jaV E rf fn rnd n c t dfs σ with
  | none=>rw [hc] at he; simp at he
  | some rc =>
   obtain ⟨l1,h1,h2⟩:=jbv h c ht hc
   obtain ⟨ex,t1,d1,s1⟩:=rc
   simp only [hc] at he
   simp only [jaY,h1]
   cases ex with
   | normal=>simp only [Kf] at he; subst he; exact ⟨l1,rfl,h2⟩
   | exit i=>simp only [Kf] at he; subst he; exact ⟨l1,rfl,h2⟩
   | ret=>simp only [Kf] at he; subst he; exact ⟨l1,rfl,h2⟩
   | pan v=>simp only [Kf] at he; subst he; exact ⟨l1,rfl,h2⟩
 | .loop c,t,tmps,dfs,σ,r,ht,he=>by
  simp only [jaV] at he
  simp only [jaY]
  exact h _ _ he tmps ht
 | .region id ops false,t,tmps,dfs,σ,r,ht,he=>by
  simp only [jaV] at he
  split at he
  ·cases hc:jex E (recF rf) (E.mutb fn id) n ops.toList ops.toList t σ with
   | none=>rw [hc] at he; simp at he
   | some p =>
    obtain ⟨t1,σ1⟩:=p
    simp only [hc,Kf] at he
    subst he
    obtain ⟨l1,h1,h2⟩:=jec E ops.toList ht hc
    have h3:=jgL (jfT h) (jfw h1)
    obtain ⟨lo⟩:=ops
    exact ⟨l1,jg3 _ _ _ _ _ _ _ _ _ _ _ h3,h2⟩
  ·cases hc:jfb E (recF rf) rnd (E.mutb fn id) n ops.toList ops.toList none t dfs σ with
   | none=>rw [hc] at he; simp at he
   | some p =>
    obtain ⟨l1,h1,h2⟩:=jcj E ops.toList ht hc
    have h3:=jgL (jfT h) (jh5 h1)
    obtain ⟨pan,rc,t1,d1,s1⟩:=p
    rw [hc] at he
    rw [jjO,h3]
    cases pan with
    | none=>simp only [Kf] at he; subst he; exact ⟨l1,rfl,h2⟩
    | some v=>simp only [Kf] at he; subst he; exact ⟨l1,rfl,h2⟩
 | .region id ops true,t,tmps,dfs,σ,r,ht,he=>by
  simp only [jaV] at he
  split at he
  ·rename_i hd
   cases hc:jex E (recF rf) (E.mutb fn id) n ops.toList ops.toList t σ with
   | none=>rw [hc] at he; simp at he
   | some p =>
    obtain ⟨t1,σ1⟩:=p
    simp only [hc,Kf] at he
    subst he
    obtain ⟨l1,h1,h2⟩:=jec E ops.toList ht hc
    have h3:=jgL (jfT h) (jfw h1)
    exact ⟨l1,jh3 hd h3,h2⟩
  ·split at he
   ·rename_i hp
    rw [ht.lst] at he
    cases hc:dRun E (recF rf) (E.mutb fn id) ops ops.toList tmps σ with
    | none=>rw [hc] at he; simp at he
    | some q =>
     obtain ⟨tr,ss,tf,σf⟩:=q
     simp only [hc] at he
     split at he
     ·rename_i hk
      split at he
      ·rename_i hl
       simp only [Kf] at he
       subst he
       have h3:=jgL (jfT h) (jgb hc)
       exact ⟨tf,by simp only [jaY,hp,Ke,h3,hk],RepT.of tf hl ht.room⟩
      ·simp at he
     ·simp at he
   ·simp at he
 | .rangeFunc f ps asg body,t,tmps,dfs,σ,r,ht,he=>by
  simp only [jaV] at he
  simp only [jaY,ht.eval]
  split at he
  ·rename_i fid first captured hf
   rw [ht.lst] at he
   simp only [hf]
   cases hc:recF rf (.call fid (first++[V.yld (σ.heap.length+1)]++captured) ⟨σ.heap++[.defd true,.loop .ready none fn tmps ps asg body σ.heap.length],σ.toks⟩) with
   | none=>rw [hc] at he; simp at he
   | some rc =>
    rw [hc] at he
    rw [jfT h _ _ hc]
    split at he
    ·rename_i heq
     simp only [Kf] at heq
     subst heq
     simp only
     split at he
     ·rename_i hl
      simp only [hl]
      split at he
      ·simp at he
      ·rename_i hb
       simp only [hb,Kc]
       split at he
       ·simp only [Kf] at he; subst he; exact ⟨tmps,rfl,ht⟩
       ·simp only [Kf] at he; subst he; exact ⟨tmps,rfl,ht⟩
       ·simp only [Kf] at he; subst he; exact ⟨tmps,rfl,ht⟩
       ·simp at he
     ·simp at he
    ·simp at he
  ·simp at he
theorem RepT.res {n:Nat}{t:Tre}{l:List V}(hr:RepT n t l){h:List AObj}:∀ rs,resV E l h rs=resF E t h rs
 | []=>rfl
 | .tmp t::r=>by simp only [resV,resF,hr.get t,RepT.res hr r]
 | .cell a t::r=>by simp only [resV,resF,hr.get a,RepT.res hr r]
theorem RepT.sets {n:Nat}:∀ (l:List (Tmp × V)) {t t':Tre} {tmps:List V},RepT n t tmps→jnB n l t=some t'→RepT n t' (l.foldl (fun ts (x:Tmp × V)=>ts.set x.1 x.2) tmps)
 | [],t,t',tmps,h,hs=>by simp [jnB] at hs; subst hs; exact h
 | (d,v)::r,t,t',tmps,h,hs=>by
  simp only [jnB] at hs
  cases hp:putF n t (some d) v with
  | none=>rw [hp] at hs; simp at hs
  | some t1 =>
   simp only [hp] at hs
   exact RepT.sets r (h.put hp) hs
theorem ji3 (h:∀ t r,rf t=some r→OkF E t r){n:Nat}{fn:Func}{pv:Option V}{t:Tre}{tmps:List V}{dfs:List DE}{σ:S}{r:RF}{s:Res}(ht:RepT n t tmps)(he:finF E rf fn pv t dfs σ=some r)(hs:RF.one (some r)=some s) :
  finD E (ev E) fn pv tmps dfs σ=some s:=by
 unfold finF at he
 unfold finD
 cases hu:jcC (recF rf) pv dfs σ with
 | none=>rw [hu] at he; simp at he
 | some p =>
  have hu2:=jgL (jfT h) (jea hu)
  rw [hu] at he
  rw [hu2]
  obtain ⟨o,σ'⟩:=p
  cases o with
  | none =>
   simp only at he ⊢
   rw [ht.res]
   cases hr:resF E t σ'.heap fn.results.toList with
   | none=>rw [hr] at he; simp at he
   | some vs =>
    simp only [hr,Kf] at he ⊢
    subst he
    simpa [RF.one] using hs
  | some v =>
   simp only [Kf] at he ⊢
   subst he
   simpa [RF.one] using hs
theorem jed (h:∀ t r,rf t=some r→OkF E t r){fn:FuncId}{n:Nat}:∀ (c:Code) {pv:Option V} {t:Tre} {tmps:List V} {σ:S} {g:Bool} {r:RF},RepT n t tmps→jcs E rf fn n c pv t σ=some (g,r) →
  ∃ tmps',jbH E (ev E) fn c pv tmps σ=some (g,⟨r.ex,tmps',r.dfs,r.st⟩)∧RepT n r.t tmps'
 | .seq a b,pv,t,tmps,σ,g,r,ht,he=>by
  simp only [jcs] at he
  cases ha:jcs E rf fn n a pv t σ with
  | none=>rw [ha] at he; simp at he
  | some ra =>
   obtain ⟨g0,ex,t1,d1,s1⟩:=ra
   obtain ⟨l1,h1,h2⟩:=jed h a ht ha
   cases ex with
   | normal =>
    simp only [ha] at he
    simp only [jbH,h1]
    cases hb:jaV E rf fn none n b t1 d1 s1 with
    | none=>rw [hb] at he; simp at he
    | some rb =>
     simp only [hb,Kf,Km] at he
     obtain ⟨rfl,rfl⟩:=he
     obtain ⟨l2,h3,h4⟩:=jbv h b h2 hb
     exact ⟨l2,by simp only [h3],h4⟩
   | exit i=>simp only [ha,Kf,Km] at he; obtain ⟨rfl,rfl⟩:=he; exact ⟨l1,by simp only [jbH,h1],h2⟩
   | ret=>simp only [ha,Kf,Km] at he; obtain ⟨rfl,rfl⟩:=he; exact ⟨l1,by simp only [jbH,h1],h2⟩
   | pan v=>simp only [ha,Kf,Km] at he; obtain ⟨rfl,rfl⟩:=he; exact ⟨l1,by simp only [jbH,h1],h2⟩
 | .block id c,pv,t,tmps,σ,g,r,ht,he=>by
  simp only [jcs] at he
  cases hc:jcs E rf fn n c pv t σ with
  | none=>rw [hc] at he; simp at he
  | some rc =>
   obtain ⟨g0,ex,t1,d1,s1⟩:=rc
   obtain ⟨l1,h1,h2⟩:=jed h c ht hc
   simp only [hc] at he
   simp only [jbH,h1]
   cases ex <;> (simp only [Kf,Km] at he; obtain ⟨rfl,rfl⟩:=he; exact ⟨l1,rfl,h2⟩)
 | .scope c,pv,t,tmps,σ,g,r,ht,he=>by simp only [jcs] at he; simp only [jbH]; exact jed h c ht he
 | .region id ops d,pv,t,tmps,σ,g,r,ht,he=>by
  cases d with
  | true=>simp [jcs] at he
  | false =>
   simp only [jcs] at he
   simp only [jbH]
   have e:∀ q,jdh E q none (E.mutb fn id) ops (List.range ops.size) (some pv) tmps [] σ=jew E q none (E.mutb fn id) ops ops.toList (some pv) tmps [] σ:=by
    intro q
    rw [show List.range ops.size=List.range' 0 ops.size from Xh,jeb _ _ _ _ _ _ _ _ _ _ _ (by omega)]
    simp
   cases hc:jfb E (recF rf) none (E.mutb fn id) n ops.toList ops.toList (some pv) t [] σ with
   | none=>rw [hc] at he; simp at he
   | some p =>
    obtain ⟨l1,h1,h2⟩:=jcj E ops.toList ht hc
    have h3:=jgL (jfT h) (jh5 h1)
    obtain ⟨pan,rc,t1,d1,s1⟩:=p
    rw [hc] at he
    rw [e,h3]
    cases pan with
    | none=>simp only [Kf,Km] at he; obtain ⟨rfl,rfl⟩:=he; exact ⟨l1,rfl,h2⟩
    | some v=>simp at he
 | .skip,pv,t,tmps,σ,g,r,ht,he=>by simp [jcs] at he
 | .label _,pv,t,tmps,σ,g,r,ht,he=>by simp [jcs] at he
 | .exit _,pv,t,tmps,σ,g,r,ht,he=>by simp [jcs] at he
 | .ret,pv,t,tmps,σ,g,r,ht,he=>by simp [jcs] at he
 | .goto _,pv,t,tmps,σ,g,r,ht,he=>by simp [jcs] at he
 | .refuse _,pv,t,tmps,σ,g,r,ht,he=>by simp [jcs] at he
 | .cond _ _ _,pv,t,tmps,σ,g,r,ht,he=>by simp [jcs] at he
 | .loop _,pv,t,tmps,σ,g,r,ht,he=>by simp [jcs] at he
 | .rangeFunc _ _ _ _,pv,t,tmps,σ,g,r,ht,he=>by simp [jcs] at he
theorem jlX (h:∀ t r,rf t=some r→OkF E t r):∀ t r,jh4 E rf t=some r→OkF E t r:=by
 intro t r he
 cases t with
 | call f args σ =>
  simp only [jh4] at he
  intro s hv
  refine jdS ?_
  simp only [jdC]
  cases hf:E.P.funcs[f]? with
  | none=>rw [hf] at he; simp at he
  | some fn =>
   simp only [hf] at he ⊢
   cases hb:fn.body with
   | none=>rw [hb] at he; simp at he
   | some body =>
    simp only [hb] at he ⊢
    by_cases hn:fn.name = "runtime.NumGoroutine"
    ·simp [hn] at he
    ·simp only [hn,Kc] at he ⊢
     split at he
     ·rename_i hsz
      cases hc:jaV E rf f none fn.ntmps body (ofF args) [] σ with
      | none=>rw [hc] at he; simp at he
      | some rc =>
       obtain ⟨l1,h1,h2⟩:=jbv h body (RepT.args args hsz.2 hsz.1) hc
       obtain ⟨ex,t1,d1,s1⟩:=rc
       simp only [hc] at he
       simp only [h1]
       have fin:(match jbS s1.heap d1 with
         | some h=>match resF E t1 h fn.results.toList with
          | some vs=>some (⟨Ex.ret,.node .leaf (jau vs) .leaf,[],⟨h,s1.toks⟩⟩:RF)
          | none=>none
         | none=>finF E rf fn none t1 d1 s1)=some r→(match jbS s1.heap d1 with
         | some h=>match resV E l1 h fn.results.toList with
          | some vs=>some (⟨Ex.ret,[jau vs],[],⟨h,s1.toks⟩⟩:Res)
          | none=>none
         | none=>finD E (ev E) fn none l1 d1 s1)=some s:=by
        intro hh
        cases ht:jbS s1.heap d1 with
        | none=>simp only [ht] at hh ⊢; exact ji3 h h2 hh hv
        | some hp =>
         simp only [ht] at hh ⊢
         rw [h2.res]
         cases hrs:resF E t1 hp fn.results.toList with
         | none=>rw [hrs] at hh; simp at hh
         | some vs =>
          simp only [hrs,Kf] at hh ⊢
          subst hh
          simpa [RF.one] using hv
       cases ex with
       | exit i=>simp at he
       | normal=>exact fin he
       | ret=>exact fin he
       | pan v=>exact ji3 h h2 he hv
     ·simp at he
 | round l args σ =>
  simp only [jh4] at he
  intro s0 hv
  refine jdS ?_
  simp only [jdC]
  split at he
  ·rename_i fn tmps ps asg body d hl
   simp only [hl]
   split at he
   ·simp at he
   ·rename_i hn
    simp only [hn,Kc]
    split at he
    ·rename_i hsz
     cases hs:jnB tmps.length (ps.toList.zip args) (ofF tmps) with
     | none=>rw [hs] at he; simp at he
     | some t0 =>
      simp only [hs,Ko] at he
      have hr0:=RepT.sets _ (RepT.of tmps rfl hsz) hs
      cases hc:jaV E rf fn (some l) tmps.length asg t0 [] σ with
      | none=>rw [hc] at he; simp at he
      | some rc =>
       obtain ⟨l1,h1,h2⟩:=jbv h asg hr0 hc
       rw [hc] at he
       split at he
       ·rename_i t1 σ1 heq
        simp only [Kf] at heq
        subst heq
        simp only at h1 h2
        simp only [h1]
        split at he
        ·rename_i fn1 tm1 ps1 as1 bo1 df1 hl1
         simp only [hl1]
         cases hc2:jaV E rf fn (some l) tmps.length body t1 [] (σ1.set l (.loop .busy none fn1 tm1 ps1 as1 bo1 df1)) with
         | none=>rw [hc2] at he; simp at he
         | some rd =>
          obtain ⟨l2,g1,g2⟩:=jbv h body h2 hc2
          rw [hc2] at he
          split at he
          ·rename_i ex t2 σ2 heq2
           simp only [Kf] at heq2
           subst heq2
           simp only at g1
           simp only [g1]
           split at he
           ·rename_i hl2
            simp only [hl2]
            cases ex with
            | pan v=>simp at he
            | normal=>simp only [Kf] at he; subst he; simpa [RF.one] using hv
            | exit i=>simp only [Kf] at he; subst he; simpa [RF.one] using hv
            | ret=>simp only [Kf] at he; subst he; simpa [RF.one] using hv
           ·simp at he
          ·simp at he
        ·simp at he
       ·simp at he
    ·simp at he
  ·simp at he
 | loop fn rnd n c t dfs σ =>
  simp only [jh4] at he
  intro tmps ht
  cases hc:jaV E rf fn rnd n c t dfs σ with
  | none=>rw [hc] at he; simp at he
  | some rc =>
   obtain ⟨l1,h1,h2⟩:=jbv h c ht hc
   obtain ⟨ex,t1,d1,s1⟩:=rc
   cases ex with
   | normal =>
    simp only [hc] at he
    obtain ⟨l2,g1,g2⟩:=h _ _ he l1 h2
    exact ⟨l2,jdS (by simp only [jdC,h1]; exact g1),g2⟩
   | exit i=>simp only [hc,Kf] at he; subst he; exact ⟨l1,jdS (by simp only [jdC,h1]),h2⟩
   | ret=>simp only [hc,Kf] at he; subst he; exact ⟨l1,jdS (by simp only [jdC,h1]),h2⟩
   | pan v=>simp only [hc,Kf] at he; subst he; exact ⟨l1,jdS (by simp only [jdC,h1]),h2⟩
 | dcall f args pv σ =>
  simp only [jh4] at he
  intro s hv
  refine jdS ?_
  simp only [jdC]
  cases hf:E.P.funcs[f]? with
  | none=>rw [hf] at he; simp at he
  | some fn =>
   simp only [hf] at he ⊢
   cases hb:fn.body with
   | none=>rw [hb] at he; simp at he
   | some body =>
    simp only [hb] at he ⊢
    by_cases hn:fn.name = "runtime.NumGoroutine"
    ·simp [hn] at he
    ·simp only [hn,Kc] at he ⊢
     split at he
     ·rename_i hsz
      cases hc:jcs E rf f fn.ntmps body pv (ofF args) σ with
      | none=>rw [hc] at he; simp at he
      | some rc =>
       obtain ⟨g,ex,t1,d1,s1⟩:=rc
       obtain ⟨l1,h1,h2⟩:=jed h body (RepT.args args hsz.2 hsz.1) hc
       simp only [hc] at he
       simp only [h1]
       have fin:(match jbS s1.heap d1 with
         | some h=>match resF E t1 h fn.results.toList with
          | some _=>some (⟨Ex.ret,.node .leaf (.bool g) .leaf,[],⟨h,s1.toks⟩⟩:RF)
          | none=>none
         | none=>none)=some r→(match jbS s1.heap d1 with
         | some h=>match resV E l1 h fn.results.toList with
          | some _=>some (⟨Ex.ret,[.bool g],[],⟨h,s1.toks⟩⟩:Res)
          | none=>none
         | none=>none)=some s:=by
        intro hh
        cases ht:jbS s1.heap d1 with
        | none=>rw [ht] at hh; simp at hh
        | some hp =>
         simp only [ht] at hh ⊢
         rw [h2.res]
         cases hrs:resF E t1 hp fn.results.toList with
         | none=>rw [hrs] at hh; simp at hh
         | some vs =>
          simp only [hrs,Kf] at hh ⊢
          subst hh
          simpa [RF.one] using hv
       cases ex with
       | exit i=>simp at he
       | pan v=>simp at he
       | normal=>exact fin he
       | ret=>exact fin he
     ·simp at he
theorem ji4 (E:Env):∀ (k:Nat) (t:TaskF) (r:RF),runF E k t=some r→OkF E t r
 | 0,t,r,h=>by simp [runF] at h
 | k+1,t,r,h=>jlX (ji4 E k) t r h
theorem evF {k:Nat}{f:FuncId}{args:List V}{σ σ':S}{l q:Tre}{v:V}(h:runF E k (.call f args σ)=some ⟨.ret,.node l v q,[],σ'⟩):ev E (.call f args σ)=some ⟨.ret,[v],[],σ'⟩ :=
 ji4 E k _ _ h _ rfl
end
abbrev LT:=Env→(Task→Option Res)→Bool→Nat→List Oper→Tre→S→Option (Tre × S)
noncomputable def kNil:LT:=fun E rec mutb n ops t σ=>some (t,σ)
noncomputable def kPut (ih:LT)(dst:Option Tmp)(E:Env)(rec:Task→Option Res)(mutb:Bool)(n:Nat)(ops:List Oper)(t:Tre)(v:V)(σ:S):Option (Tre × S) :=
 Option.rec (motive:=fun _=>Option (Tre × S)) none (fun t'=>ih E rec mutb n ops t' σ) (putF n t dst v)
noncomputable def kRun (ih:LT)(o:Oper)(E:Env)(rec:Task→Option Res)(mutb:Bool)(n:Nat)(ops:List Oper)(t:Tre)(σ:S):Option (Tre × S) :=
 Option.rec (motive:=fun _=>Option (Tre × S)) none (fun p=>kPut ih o.dst E rec mutb n ops t p.1 p.2) (opK o.op E rec mutb t σ)
noncomputable def jty (o:Oper)(_:List Oper)(ih:LT):LT:=fun E rec mutb n ops t σ =>
 Bool.rec (motive:=fun _=>Option (Tre × S)) (kPut ih o.dst E rec mutb n ops t (.tup []) σ) (kRun ih o E rec mutb n ops t σ) (Region.wanted o (jgf ops t))
noncomputable def jmI (l:List Oper):LT:=List.rec (motive:=fun _=>LT) kNil jty l
theorem jh6:∀ (l:List Oper) (E:Env) (rec:Task→Option Res) (mutb:Bool) (n:Nat) (ops:List Oper) (t:Tre) (σ:S),jmI l E rec mutb n ops t σ=jex E rec mutb n ops l t σ
 | [],E,rec,mutb,n,ops,t,σ=>rfl
 | o::l,E,rec,mutb,n,ops,t,σ=>by
  show Bool.rec (motive:=fun _=>Option (Tre × S)) (kPut (jmI l) o.dst E rec mutb n ops t (.tup []) σ) (kRun (jmI l) o E rec mutb n ops t σ) (Region.wanted o (jgf ops t))=_
  simp only [jex]
  cases Region.wanted o (jgf ops t) with
  | true =>
   simp only [kRun]
   cases opK o.op E rec mutb t σ with
   | none=>rfl
   | some p =>
    obtain ⟨v,σ1⟩:=p
    simp only [kPut]
    cases putF n t o.dst v with
    | none=>rfl
    | some t1=>exact jh6 l E rec mutb n ops t1 σ1
  | false =>
   simp only [kPut]
   cases putF n t o.dst (.tup []) with
   | none=>rfl
   | some t1=>exact jh6 l E rec mutb n ops t1 σ
abbrev CT:=Env→(TaskF→Option RF)→FuncId→Option Nat→Nat→Tre→List DE→S→Option RF
noncomputable def jsh:CT:=fun E rf fn rnd n t dfs σ=>some ⟨.normal,t,dfs,σ⟩
noncomputable def jtz (id:Nat):CT:=fun E rf fn rnd n t dfs σ=>some ⟨.exit id,t,dfs,σ⟩
noncomputable def cRet:CT:=fun E rf fn rnd n t dfs σ=>some ⟨.ret,t,dfs,σ⟩
noncomputable def jsi:CT:=fun E rf fn rnd n t dfs σ=>none
noncomputable def jsj (ib:CT)(E:Env)(rf:TaskF→Option RF)(fn:FuncId)(rnd:Option Nat)(n:Nat)(r:RF):Option RF :=
 match r with
 | ⟨.normal,t,dfs,σ⟩=>ib E rf fn rnd n t dfs σ
 | r=>some r
noncomputable def cSeq (_ _:Code)(ia ib:CT):CT:=fun E rf fn rnd n t dfs σ=>Option.rec (motive:=fun _=>Option RF) none (fun r=>jsj ib E rf fn rnd n r) (ia E rf fn rnd n t dfs σ)
noncomputable def cIf (ia ib:CT)(E:Env)(rf:TaskF→Option RF)(fn:FuncId)(rnd:Option Nat)(n:Nat)(t:Tre)(dfs:List DE)(σ:S)(v:V):Option RF :=
 match v with
 | .bool b=>Bool.rec (motive:=fun _=>Option RF) (ib E rf fn rnd n t dfs σ) (ia E rf fn rnd n t dfs σ) b
 | _=>none
noncomputable def jtA (c:Operand)(_ _:Code)(ia ib:CT):CT:=fun E rf fn rnd n t dfs σ=>Option.rec (motive:=fun _=>Option RF) none (fun v=>cIf ia ib E rf fn rnd n t dfs σ v) (jba E t c)
noncomputable def cOut (id:Nat)(r:RF):RF :=
 match r with
 | ⟨.exit i,t,dfs,σ⟩=>Bool.rec (motive:=fun _=>RF) ⟨.exit i,t,dfs,σ⟩ ⟨.normal,t,dfs,σ⟩ (Nat.beq i id)
 | r=>r
noncomputable def jsk (id:Nat)(_:Code)(ia:CT):CT:=fun E rf fn rnd n t dfs σ=>Option.rec (motive:=fun _=>Option RF) none (fun r=>some (cOut id r)) (ia E rf fn rnd n t dfs σ)
noncomputable def jtB (c:Code)(_:CT):CT:=fun E rf fn rnd n t dfs σ=>rf (.loop fn rnd n c t dfs σ)
noncomputable def jsl (_:Code)(ia:CT):CT:=fun E rf fn rnd n t dfs σ=>ia E rf fn rnd n t dfs σ
noncomputable def jsm (f:Operand)(ps:Array Tmp)(asg body:Code)(_ _:CT):CT:=fun E rf fn rnd n t dfs σ=>jaV E rf fn rnd n (.rangeFunc f ps asg body) t dfs σ
noncomputable def jtC (dfs:List DE)(p:Tre × S):Option RF:=some ⟨.normal,p.1,dfs,p.2⟩
noncomputable def ji5 (id:Nat)(ops:List Oper):CT:=fun E rf fn rnd n t dfs σ =>
 Option.rec (motive:=fun _=>Option RF) none (jtC dfs) (jmI ops E (recF rf) (E.mutb fn id) n ops t σ)
noncomputable def jtD (id:Nat)(ops:Array Oper):CT:=fun E rf fn rnd n t dfs σ =>
 Bool.rec (motive:=fun _=>Option RF) (ji5 id ops.toList E rf fn rnd n t dfs σ) (jaV E rf fn rnd n (.region id ops false) t dfs σ) (jp4 E fn ops.toList)
noncomputable def jsn (id:Nat)(ops:Array Oper):CT:=fun E rf fn rnd n t dfs σ =>
 Bool.rec (motive:=fun _=>Option RF) (jaV E rf fn rnd n (.region id ops true) t dfs σ) (ji5 id ops.toList E rf fn rnd n t dfs σ) (jgd E ops)
noncomputable def jrn (id:Nat)(ops:Array Oper)(d:Bool):CT:=Bool.rec (motive:=fun _=>CT) (jtD id ops) (jsn id ops) d
noncomputable def jgg (c:Code):CT :=
 Code.rec (motive:=fun _=>CT) jsh jrn cSeq jtA jsk jtB jsm jtz jsl (fun _=>jsh) (fun _=>jsi) cRet (fun _=>jsi) c
theorem jkI (id:Nat)(ops:Array Oper)(E:Env)(rf:TaskF→Option RF)(fn:FuncId)(rnd:Option Nat)(n:Nat)(t:Tre)(dfs:List DE)(σ:S) :
  ji5 id ops.toList E rf fn rnd n t dfs σ=(match jex E (recF rf) (E.mutb fn id) n ops.toList ops.toList t σ with
   | some (t,σ)=>some ⟨.normal,t,dfs,σ⟩
   | none=>none):=by
 simp only [ji5,jh6]
 cases jex E (recF rf) (E.mutb fn id) n ops.toList ops.toList t σ with
 | none=>rfl
 | some p=>rfl
theorem jdq:∀ (c:Code) (E:Env) (rf:TaskF→Option RF) (fn:FuncId) (rnd:Option Nat) (n:Nat) (t:Tre) (dfs:List DE) (σ:S),jgg c E rf fn rnd n t dfs σ=jaV E rf fn rnd n c t dfs σ
 | .skip,E,rf,fn,rnd,n,t,dfs,σ=>by simp only [jaV]; rfl
 | .label _,E,rf,fn,rnd,n,t,dfs,σ=>by simp only [jaV]; rfl
 | .exit _,E,rf,fn,rnd,n,t,dfs,σ=>by simp only [jaV]; rfl
 | .ret,E,rf,fn,rnd,n,t,dfs,σ=>by simp only [jaV]; rfl
 | .goto _,E,rf,fn,rnd,n,t,dfs,σ=>by simp only [jaV]; rfl
 | .refuse _,E,rf,fn,rnd,n,t,dfs,σ=>by simp only [jaV]; rfl
 | .rangeFunc _ _ _ _,E,rf,fn,rnd,n,t,dfs,σ=>rfl
 | .loop _,E,rf,fn,rnd,n,t,dfs,σ=>by simp only [jaV]; rfl
 | .scope c,E,rf,fn,rnd,n,t,dfs,σ=>by simp only [jaV]; exact jdq c E rf fn rnd n t dfs σ
 | .seq a b,E,rf,fn,rnd,n,t,dfs,σ=>by
  show Option.rec (motive:=fun _=>Option RF) none (fun r=>jsj (jgg b) E rf fn rnd n r) (jgg a E rf fn rnd n t dfs σ)=_
  simp only [jaV,jdq a]
  cases jaV E rf fn rnd n a t dfs σ with
  | none=>rfl
  | some r =>
   obtain ⟨ex,t1,d1,s1⟩:=r
   cases ex with
   | normal=>exact jdq b E rf fn rnd n t1 d1 s1
   | exit i=>rfl
   | ret=>rfl
   | pan v=>rfl
 | .cond c a b,E,rf,fn,rnd,n,t,dfs,σ=>by
  show Option.rec (motive:=fun _=>Option RF) none (fun v=>cIf (jgg a) (jgg b) E rf fn rnd n t dfs σ v) (jba E t c)=_
  simp only [jaV]
  cases jba E t c with
  | none=>rfl
  | some v =>
   cases v <;> first | rfl | skip
   rename_i b0
   cases b0 with
   | true=>exact jdq a E rf fn rnd n t dfs σ
   | false=>exact jdq b E rf fn rnd n t dfs σ
 | .block id c,E,rf,fn,rnd,n,t,dfs,σ=>by
  show Option.rec (motive:=fun _=>Option RF) none (fun r=>some (cOut id r)) (jgg c E rf fn rnd n t dfs σ)=_
  simp only [jaV,jdq c]
  cases jaV E rf fn rnd n c t dfs σ with
  | none=>rfl
  | some r =>
   obtain ⟨ex,t1,d1,s1⟩:=r
   cases ex with
   | normal=>rfl
   | ret=>rfl
   | pan v=>rfl
   | exit i =>
    show some (Bool.rec (motive:=fun _=>RF) ⟨.exit i,t1,d1,s1⟩ ⟨.normal,t1,d1,s1⟩ (Nat.beq i id))=some ⟨if i=id then .normal else .exit i,t1,d1,s1⟩
    by_cases h:i=id
    ·rw [jjP h,Kh h]
    ·rw [jge h,Kg h]
 | .region id ops d,E,rf,fn,rnd,n,t,dfs,σ=>by
  cases d with
  | false =>
   show Bool.rec (motive:=fun _=>Option RF) (ji5 id ops.toList E rf fn rnd n t dfs σ) (jaV E rf fn rnd n (.region id ops false) t dfs σ) (jp4 E fn ops.toList)=_
   cases hx:jp4 E fn ops.toList with
   | true=>rfl
   | false=>simp only [jaV,hx,jkI] <;> rfl
  | true =>
   show Bool.rec (motive:=fun _=>Option RF) (jaV E rf fn rnd n (.region id ops true) t dfs σ) (ji5 id ops.toList E rf fn rnd n t dfs σ) (jgd E ops)=_
   cases hx:jgd E ops with
   | false=>rfl
   | true=>simp only [jaV,hx,jkI,Ke] <;> rfl
noncomputable def tEnd (E:Env)(rf:TaskF→Option RF)(fn:Func)(t:Tre)(dfs:List DE)(σ:S):Option RF :=
 match jbS σ.heap dfs with
 | some h =>
  match resF E t h fn.results.toList with
  | some vs=>some ⟨.ret,.node .leaf (jau vs) .leaf,[],⟨h,σ.toks⟩⟩
  | none=>none
 | none=>finF E rf fn none t dfs σ
noncomputable def tOut (E:Env)(rf:TaskF→Option RF)(fn:Func)(r:RF):Option RF :=
 match r with
 | ⟨.exit _,_,_,_⟩=>none
 | ⟨.pan v,t,dfs,σ⟩=>finF E rf fn (some v) t dfs σ
 | ⟨_,t,dfs,σ⟩=>tEnd E rf fn t dfs σ
noncomputable def fnS (E:Env)(f:FuncId):Option Func:=E.P.funcs[f]?
noncomputable def okS (E:Env)(f:FuncId)(k:Nat):Bool :=
 match E.P.funcs[f]? with
 | some fn=>decide (fn.name ≠ "runtime.NumGoroutine") && decide (fn.ntmps≤2 ^ depthF - 1) && Nat.ble k fn.ntmps
 | none=>false
noncomputable def ntS (E:Env)(f:FuncId):Nat:=match E.P.funcs[f]? with | some fn=>fn.ntmps | none=>0
noncomputable def jso (E:Env)(f:FuncId):Option Code:=(E.P.funcs[f]?).bind (·.body)
noncomputable def tFn (E:Env)(rf:TaskF→Option RF)(f:FuncId)(args:List V)(σ:S)(fn:Func)(body:Code):Option RF :=
 Bool.rec (motive:=fun _=>Option RF) none (Option.rec (motive:=fun _=>Option RF) none (tOut E rf fn) (jgg body E rf f none (ntS E f) (ofF args) [] σ)) (okS E f args.length)
noncomputable def jro (E:Env)(rf:TaskF→Option RF)(f:FuncId)(args:List V)(σ:S):Option RF :=
 Option.rec (motive:=fun _=>Option RF) none (fun fn=>Option.rec (motive:=fun _=>Option RF) none (fun body=>tFn E rf f args σ fn body) (jso E f)) (fnS E f)
noncomputable def jsp (E:Env)(rf:TaskF→Option RF)(fn:FuncId)(rnd:Option Nat)(n:Nat)(c:Code)(r:RF):Option RF :=
 match r with
 | ⟨.normal,t,dfs,σ⟩=>rf (.loop fn rnd n c t dfs σ)
 | r=>some r
noncomputable def jrp (E:Env)(rf:TaskF→Option RF)(t:TaskF):Option RF :=
 TaskF.rec (motive:=fun _=>Option RF) (fun f args σ=>jro E rf f args σ) (fun l args σ=>jh4 E rf (.round l args σ))
  (fun fn rnd n c t dfs σ=>Option.rec (motive:=fun _=>Option RF) none (jsp E rf fn rnd n c) (jgg c E rf fn rnd n t dfs σ)) (fun f args pv σ=>jh4 E rf (.dcall f args pv σ)) t
theorem jp5 (E:Env)(rf:TaskF→Option RF)(t:TaskF):jrp E rf t=jh4 E rf t:=by
 cases t with
 | round l args σ=>rfl
 | dcall f args pv σ=>rfl
 | loop fn rnd n c t dfs σ =>
  show Option.rec (motive:=fun _=>Option RF) none (jsp E rf fn rnd n c) (jgg c E rf fn rnd n t dfs σ)=_
  simp only [jh4,jdq]
  cases jaV E rf fn rnd n c t dfs σ with
  | none=>rfl
  | some r=>obtain ⟨ex,t1,d1,s1⟩:=r; cases ex <;> rfl
 | call f args σ =>
  show jro E rf f args σ=_
  simp only [jh4,jro,fnS,jso]
  cases hf:E.P.funcs[f]? with
  | none=>rfl
  | some fn =>
   simp only [Ko]
   cases hb:fn.body with
   | none=>rfl
   | some body =>
    simp only [tFn,okS,ntS,hf,jdq]
    by_cases hn:fn.name = "runtime.NumGoroutine"
    ·simp [hn]
    ·by_cases h1:fn.ntmps≤2 ^ depthF - 1
     ·by_cases h2:args.length≤fn.ntmps
      ·have e:(decide (fn.name ≠ "runtime.NumGoroutine") && decide (fn.ntmps≤2 ^ depthF - 1) && Nat.ble args.length fn.ntmps)=true:=by
        rw [Nat.ble_eq_true_of_le h2]; simp [hn,h1]
       rw [e]
       simp only [hn,Kc,h1,h2,and_self,Ke]
       cases jaV E rf f none fn.ntmps body (ofF args) [] σ with
       | none=>rfl
       | some r=>obtain ⟨ex,t1,d1,s1⟩:=r; cases ex <;> rfl
      ·have e:Nat.ble args.length fn.ntmps=false:=by
        cases hh:Nat.ble args.length fn.ntmps with
        | false=>rfl
        | true=>exact absurd (Xt hh) h2
       rw [e]
       simp [hn,h2]
     ·simp [hn,h1]
noncomputable def runQ (E:Env)(k:Nat):TaskF→Option RF:=Nat.rec (motive:=fun _=>TaskF→Option RF) (fun _=>none) (fun _ ih=>jrp E ih) k
theorem jb1 (E:Env):∀ k,runQ E k=runF E k
 | 0=>rfl
 | k+1=>by
  funext t
  show jrp E (runQ E k) t=_
  rw [jp5,jb1 E k]
  rfl
abbrev Tm:=Nat→V
def upd (T:Tm)(d:Nat)(v:V):Tm:=fun t=>if t=d then v else T t
theorem Z7 (T:Tm)(d:Nat)(v:V)(t:Nat):upd T d v t=if t=d then v else T t:=rfl
def Rep (n:Nat)(T:Tm)(l:List V):Prop:=l.length=n∧∀ t,l.getD t (.tup [])=T t
theorem Rep.upd {n:Nat}{T:Tm}{l:List V}(h:Rep n T l){d:Nat}(hd:d<n)(v:V):Rep n (upd T d v) (l.set d v):=by
 refine ⟨by simp [h.1],fun t => ?_⟩
 rw [Z7]
 have hl:=h.1
 by_cases e:t=d
 ·subst e
  simp [List.getD,hl,hd]
 ·simp only [e,Kc]
  rw [← h.2 t]
  simp [List.getD,show ¬ d=t from fun h=>e h.symm]
def jaM (E:Env)(T:Tm):Operand→Option V
 | .tmp t=>some (T t)
 | .const v=>jfL v
 | .global g=>E.gl g
 | .func f=>some (.func f [] [])
theorem Rep.eval {E:Env}{n:Nat}{T:Tm}{l:List V}(h:Rep n T l):jaU E l=jaM E T:=by
 funext x
 cases x with
 | tmp t=>simp only [jaU,jaM,h.2 t]
 | const v=>rfl
 | global g=>rfl
 | func f=>rfl
def argT (vs:List V):Tm:=fun t=>vs.getD t (.tup [])
theorem Rep.args (vs:List V)(n:Nat)(h:vs.length≤n):Rep n (argT vs) (vs++List.replicate (n - vs.length) (.tup [])):=by
 refine ⟨by simp; omega,fun t => ?_⟩
 simp only [argT,List.getD]
 by_cases ht:t<vs.length
 ·rw [Kn ht]
 ·rw [Jp (by omega),K8 (l:=vs) (by omega)]
  by_cases h2:t - vs.length<n - vs.length
  ·rw [List.getElem?_replicate]; simp [h2]
  ·rw [K8 (by simpa using h2)]
def V1 {α:Type}(o:Option α)(k:α→Prop):Prop:=∃ v,o=some v∧k v
theorem Yy {α:Type}(v:α)(k:α→Prop):V1 (some v) k=k v:=by simp [V1]
theorem jkJ {α:Type}(c:Prop)[Decidable c](a:Option α)(k:α→Prop):V1 (if c then a else none) k=(c∧V1 a k):=by
 by_cases h:c <;> simp [h,V1]
theorem jh7 {α:Type}(c:Prop)[Decidable c](a:Option α)(k:α→Prop):V1 (if c then none else a) k=(¬ c∧V1 a k):=by
 by_cases h:c <;> simp [h,V1]
section
variable (E:Env)
noncomputable def opT (mutb:Bool)(T:Tm)(σ:S)(op:Op):Option (V × S) :=
 match ja3 E (jaM E T) op with
 | some v=>some (v,σ)
 | none =>
  match ja8 E (jaM E T) σ op with
  | some v=>some (v,σ)
  | none =>
   match op with
   | .call { callee:=.value g,args,.. } =>
    (jaM E T g).bind fun gv=>(jbn (jaM E T) args.toList).bind fun as=>jgx E (ev E) gv as σ
   | .call { callee:=.invoke x name,args,.. } =>
    (jaM E T x).bind fun xv=>(jhH E xv name).bind fun p=>(jbn (jaM E T) args.toList).bind fun as=>jah E (ev E) p.1 (p.2::as) σ
   | op=>jbo E mutb (jaM E T) σ op
def wpO (mutb:Bool)(T:Tm)(σ:S)(op:Op)(k:V→S→Prop):Prop:=V1 (opT E mutb T σ op) fun p=>k p.1 p.2
theorem ji6 {mutb:Bool}{n:Nat}{T:Tm}{l:List V}(h:Rep n T l){σ:S}{op:Op}{k:V→S→Prop}(hw:wpO E mutb T σ op k) :
  ∃ v σ',opV E (ev E) mutb l σ op=some (v,σ')∧k v σ':=by
 obtain ⟨⟨v,σ'⟩,h1,h2⟩:=hw
 refine ⟨v,σ',?_,h2⟩
 unfold opV
 rw [h.eval]
 exact h1
def jg4 (v:V):Option Bool :=
 match v with
 | .bool b=>some b
 | _=>none
def Br (v:V)(A B:Prop):Prop:=V1 (jg4 v) fun b=>(b=true→A)∧(b=false→B)
theorem jlY (A B:Prop):Br (.bool true) A B=A:=by simp [Br,jg4,V1]
theorem jjS (A B:Prop):Br (.bool false) A B=B:=by simp [Br,jg4,V1]
theorem jrq (v:V):Br v False False=False:=by simp only [Br,V1,eq_iff_iff,iff_false]; rintro ⟨b,_,h1,h2⟩; cases b; exact h2 rfl; exact h1 rfl
theorem joG (b:Bool)(A B:Prop):Br (.bool b) A B=((b=true→A)∧(b=false→B)):=by simp [Br,jg4,V1]
def Br3 (v:V)(A B C:Prop):Prop:=(v=.tup []∧C)∨Br v A B
theorem jmJ (A B C:Prop):Br3 (.bool true) A B C=A:=by simp [Br3,jlY]
theorem jkK (A B C:Prop):Br3 (.bool false) A B C=B:=by simp [Br3,jjS]
theorem jmK (b:Bool)(A B C:Prop):Br3 (.bool b) A B C=((b=true→A)∧(b=false→B)):=by simp [Br3,joG]
theorem jrr (A B C:Prop):Br3 (.tup []) A B C=C:=by simp [Br3,Br,jg4,V1]
theorem jp6 (v:V):Br3 v False False False=False:=by simp only [Br3,jrq,and_false,or_self]
theorem jhp {T:Tm}{t:Nat}{v:V}(h:T t=v):upd T t v=T:=by
 funext x
 rw [Z7]
 by_cases e:x=t
 ·subst e; simp [h]
 ·simp [e]
def wpL (mutb:Bool)(n:Nat)(ops:Array Oper):List Oper→Tm→S→(Tm→S→Prop)→Prop
  | [],T,σ,k=>k T σ
  | ⟨dst,op,_,_,_,none⟩::l,T,σ,k =>
    match dst with
    | none=>wpO E mutb T σ op fun _ σ'=>wpL mutb n ops l T σ' k
    | some d=>d<n∧wpO E mutb T σ op fun v σ'=>wpL mutb n ops l (upd T d v) σ' k
  | ⟨dst,op,_,_,_,some (j,b)⟩::l,T,σ,k =>
    V1 ((ops[j]?).bind (·.dst)) fun dj=>dj<n∧Br3 (T dj)
      (match b with
        | true=>(match dst with
          | none=>wpO E mutb (upd T dj (.bool true)) σ op fun _ σ'=>wpL mutb n ops l (upd T dj (.bool true)) σ' k
          | some d=>d<n∧wpO E mutb (upd T dj (.bool true)) σ op fun v σ'=>wpL mutb n ops l (upd (upd T dj (.bool true)) d v) σ' k)
        | false=>(match dst with
          | none=>wpL mutb n ops l (upd T dj (.bool true)) σ k
          | some d=>d<n∧wpL mutb n ops l (upd (upd T dj (.bool true)) d (.tup [])) σ k))
      (match b with
        | false=>(match dst with
          | none=>wpO E mutb (upd T dj (.bool false)) σ op fun _ σ'=>wpL mutb n ops l (upd T dj (.bool false)) σ' k
          | some d=>d<n∧wpO E mutb (upd T dj (.bool false)) σ op fun v σ'=>wpL mutb n ops l (upd (upd T dj (.bool false)) d v) σ' k)
        | true=>(match dst with
          | none=>wpL mutb n ops l (upd T dj (.bool false)) σ k
          | some d=>d<n∧wpL mutb n ops l (upd (upd T dj (.bool false)) d (.tup [])) σ k))
      (match dst with
        | none=>wpL mutb n ops l T σ k
        | some d=>d<n∧wpL mutb n ops l (upd T d (.tup [])) σ k)
theorem jh8 {ops:Array Oper}{n:Nat}{T:Tm}{tmps:List V}(h:Rep n T tmps){j dj:Nat}(hj:(ops[j]?).bind (·.dst)=some dj){b:Bool}(hb:T dj=.bool b) :
  jaq ops tmps j=some b:=by
 unfold jaq
 rw [hj]
 have h1:tmps[dj]? = some (.bool b):=by
  have h2:=h.2 dj
  rw [hb,List.getD] at h2
  cases hx:tmps[dj]? with
  | none=>rw [hx] at h2; simp at h2
  | some x=>rw [hx] at h2; simpa using h2
 simp [h1]
theorem jh9 {ops:Array Oper}{n:Nat}{T:Tm}{tmps:List V}(h:Rep n T tmps){j dj:Nat}(hj:(ops[j]?).bind (·.dst)=some dj)(hb:T dj=.tup []) :
  jaq ops tmps j=none:=by
 unfold jaq
 rw [hj]
 simp only [Ko]
 have h2:=h.2 dj
 rw [hb,List.getD] at h2
 cases hx:tmps[dj]? with
 | none=>rfl
 | some x =>
  rw [hx] at h2
  simp only [Kv] at h2
  rw [h2]
theorem jbN {mutb:Bool}{n:Nat}{ops:Array Oper}:∀ (l:List Oper) {T:Tm} {tmps:List V} {σ:S} {k:Tm→S→Prop},Rep n T tmps→wpL E mutb n ops l T σ k →
  ∃ tmps' σ' T',jdT E (ev E) mutb ops l tmps σ=some (tmps',σ')∧Rep n T' tmps'∧k T' σ'
 | [],T,tmps,σ,k,h,hw=>⟨tmps,σ,T,rfl,h,hw⟩
 | ⟨dst,op,t,p,a,none⟩::l,T,tmps,σ,k,h,hw=>by
  rw [jny]
  simp only [wpL] at hw
  cases dst with
  | none =>
   obtain ⟨v,σ',h1,h2⟩:=ji6 E h hw
   rw [h1]
   exact jbN l h h2
  | some d =>
   obtain ⟨hd,hw⟩:=hw
   obtain ⟨v,σ',h1,h2⟩:=ji6 E h hw
   rw [h1]
   exact jbN l (h.upd hd v) h2
 | ⟨dst,op,t,p,a,some (j,b)⟩::l,T,tmps,σ,k,h,hw=>by
  rw [jlV]
  simp only [wpL] at hw
  obtain ⟨dj,hdj,hlt,⟨htup,hw⟩ | ⟨b0,hb0,hT,hF⟩⟩:=hw
  ·rw [jh9 h hdj htup]
   rw [Kg (by simp)]
   cases dst with
   | none=>exact jbN l h hw
   | some d=>exact jbN l (h.upd hw.1 _) hw.2
  have hTd:T dj=.bool b0:=by
   unfold jg4 at hb0
   split at hb0
   ·rename_i b1 he; simp at hb0; rw [he,hb0]
   ·simp at hb0
  rw [jh8 h hdj hTd]
  cases b0 with
  | true =>
   have hw:=hT rfl
   rw [jhp hTd] at hw
   cases b with
   | true =>
    simp only [BEq.rfl,Ke]
    cases dst with
    | none =>
     obtain ⟨v,σ',h1,h2⟩:=ji6 E h hw
     rw [h1]
     exact jbN l h h2
    | some d =>
     obtain ⟨hd,hw⟩:=hw
     obtain ⟨v,σ',h1,h2⟩:=ji6 E h hw
     rw [h1]
     exact jbN l (h.upd hd v) h2
   | false =>
    rw [Kg (by decide)]
    cases dst with
    | none=>exact jbN l h hw
    | some d=>exact jbN l (h.upd hw.1 _) hw.2
  | false =>
   have hw:=hF rfl
   rw [jhp hTd] at hw
   cases b with
   | false =>
    simp only [BEq.rfl,Ke]
    cases dst with
    | none =>
     obtain ⟨v,σ',h1,h2⟩:=ji6 E h hw
     rw [h1]
     exact jbN l h h2
    | some d =>
     obtain ⟨hd,hw⟩:=hw
     obtain ⟨v,σ',h1,h2⟩:=ji6 E h hw
     rw [h1]
     exact jbN l (h.upd hd v) h2
   | true =>
    rw [Kg (by decide)]
    cases dst with
    | none=>exact jbN l h hw
    | some d=>exact jbN l (h.upd hw.1 _) hw.2
def wpS (mutb:Bool)(n:Nat)(K:S→Prop):List Oper→Tm→S→(Tm→S→Prop)→Prop
 | [],T,σ,k=>k T σ
 | ⟨dst,op,_,_,_,none⟩::l,T,σ,k=>V1 (opT E mutb T σ op) fun p=>(scOp E op=true→K p.2)∧(jaJ op=true→∀ σ',K σ'→ja8 E (jaM E T) σ' op=some p.1) ∧
  (match dst with
   | none=>wpS mutb n K l T p.2 k
   | some d=>d<n∧wpS mutb n K l (upd T d p.1) p.2 k)
 | ⟨_,_,_,_,_,some _⟩::_,_,_,_=>False
theorem jgM {mutb:Bool}{n:Nat}{T:Tm}{l:List V}(h:Rep n T l){σ:S}{op:Op}:opT E mutb T σ op=opV E (ev E) mutb l σ op:=by
 unfold opV
 rw [h.eval]
 rfl
theorem jkL {rec:Task→Option Res}{mutb:Bool}{ops:Array Oper}{tmps:List V}{σ σ1:S}{dst:Option Tmp}{op:Op}{t:TypeId}{p:String}{a:Array Edge}{l:List Oper}{v:V}(h:opV E rec mutb tmps σ op=some (v,σ1)) :
  dRun E rec mutb ops (⟨dst,op,t,p,a,none⟩::l) tmps σ=(match dRun E rec mutb ops l (putT tmps dst v) σ1 with
   | some (tr,ss,tf,σf)=>some ((tmps,v)::tr,if scOp E op then σ1::ss else ss,tf,σf)
   | none=>none):=by
 simp only [dRun,Region.wanted,Ke,h]
 cases dRun E rec mutb ops l (putT tmps dst v) σ1 <;> rfl
theorem jkM {mutb:Bool}{n:Nat}{ops:Array Oper}{K:S→Prop}:∀ (l:List Oper) {T:Tm} {tmps:List V} {σ:S} {k:Tm→S→Prop},Rep n T tmps→wpS E mutb n K l T σ k →
  ∃ (tr:List (List V × V)) (ss:List S) (tf:List V) (σf:S) (T':Tm),dRun E (ev E) mutb ops l tmps σ=some (tr,ss,tf,σf)∧Rep n T' tf∧k T' σf∧(∀ s∈ss,K s) ∧
   ∀ (j:Nat) (o:Oper),l[j]? = some o→∃ (t:List V) (v:V) (σ0 σ1:S),tr[j]? = some (t,v)∧opV E (ev E) mutb t σ0 o.op=some (v,σ1)∧(jaJ o.op=true→∀ σ',K σ'→ja8 E (jaU E t) σ' o.op=some v)
 | [],T,tmps,σ,k,h,hw=>⟨[],[],tmps,σ,T,rfl,h,hw,fun s hs=>by simp at hs,fun j o hj=>by simp at hj⟩
 | ⟨dst,op,t,p,a,none⟩::l,T,tmps,σ,k,h,hw=>by
  simp only [wpS] at hw
  obtain ⟨⟨v,σ1⟩,hop,hK,hR,hw⟩:=hw
  rw [jgM E h] at hop
  simp only at hK hR hw
  have hput:∃ T1,Rep n T1 (putT tmps dst v)∧wpS E mutb n K l T1 σ1 k:=by
   cases dst with
   | none=>exact ⟨T,h,hw⟩
   | some d=>exact ⟨_,h.upd hw.1 v,hw.2⟩
  obtain ⟨T1,hr1,hw1⟩:=hput
  obtain ⟨tr,ss,tf,σf,T',h1,h2,h3,h4,h5⟩:=jkM l hr1 hw1
  refine ⟨(tmps,v)::tr,if scOp E op then σ1::ss else ss,tf,σf,T',by rw [jkL E hop,h1],h2,h3,?_,?_⟩
  ·intro s hs
   by_cases hsc:scOp E op=true
   ·simp only [hsc,Ke,Jf] at hs
    rcases hs with rfl | hs
    ·exact hK hsc
    ·exact h4 s hs
   ·simp only [hsc,Kj,Kc] at hs
    exact h4 s hs
  ·intro j o hj
   cases j with
   | zero =>
    simp only [Qw,Kf] at hj
    subst hj
    exact ⟨tmps,v,σ,σ1,rfl,hop,fun hrd σ' hσ'=>by rw [h.eval]; exact hR hrd σ' hσ'⟩
   | succ j =>
    simp only [K9] at hj ⊢
    exact h5 j o hj
 | ⟨_,_,_,_,_,some _⟩::_,T,tmps,σ,k,h,hw=>hw.elim
theorem jkN {fn:FuncId}{rnd:Option Nat}{id:Nat}{ops:Array Oper}{K:S→Prop}{n:Nat}{T:Tm}{tmps:List V}{dfs:List DE}{σ:S}{k:Tm→S→Prop}(hp:jcg E ops (jai [] ops.toList)=true)(hK:K σ)
  (hr:Rep n T tmps) (hw:wpS E (E.mutb fn id) n K ops.toList T σ k) :
  ∃ tf σf T',jaY E (ev E) fn rnd (.region id ops true) tmps dfs σ=some ⟨.normal,tf,dfs,σf⟩∧Rep n T' tf∧k T' σf:=by
 obtain ⟨tr,ss,tf,σf,T',h1,h2,h3,h4,h5⟩:=jkM E (ops:=ops) ops.toList hr hw
 refine ⟨tf,σf,T',?_,h2,h3⟩
 have hc:jeN E ops (jai [] ops.toList) tr (σ::ss)=true:=by
  unfold jeN
  rw [Kz]
  intro j hj
  have hj:j<ops.size:=by simpa using hj
  have hoj:ops[j]? = some ops[j]:=Jj hj
  have hoj2:ops.toList[j]? = some ops[j]:=by rw [Jd]; exact hoj
  obtain ⟨t,v,σ0,σ1,ht,hop,hrd⟩:=h5 j ops[j] hoj2
  simp only [hoj,ht]
  by_cases hs:scOp E ops[j].op=true
  ·simp [hs]
  by_cases hpc:jbc E ops[j].op=true
  ·simp [hpc]
  by_cases ha:(ja3 E (jaU E t) ops[j].op).isSome=true
  ·simp [ha]
  have ha':ja3 E (jaU E t) ops[j].op=none:=by simpa using ha
  have hread:=jho (by simpa using hs) (by simpa using hpc) ha' hop
  have hreads:jaJ ops[j].op=true:=by
   cases hx:jaJ ops[j].op with
   | true=>rfl
   | false=>rw [jfv hx] at hread; simp at hread
  rw [Je]
  right
  rw [Kz]
  intro m hm
  have hm:m<(σ::ss).length:=by simpa using hm
  have hKm:K (σ::ss)[m]:=by
   have:(σ::ss)[m]∈σ::ss:=Jo hm
   rcases Jf.1 this with h | h
   ·rw [h]; exact hK
   ·exact h4 _ h
  rw [Kw hm]
  simp only [hrd hreads _ hKm,V.beq_refl,J2]
 simp only [jaY,hp,Ke,h1,hc]
structure Post where
 norm:Tm→List DE→S→Prop
 exit:Nat→Tm→List DE→S→Prop
 ret:Tm→List DE→S→Prop
def Post.of (n:Nat)(Q:Post)(r:Res):Prop :=
 ∃ T,Rep n T r.vals∧match r.ex with
  | .normal=>Q.norm T r.dfs r.st
  | .exit i=>Q.exit i T r.dfs r.st
  | .ret=>Q.ret T r.dfs r.st
  | .pan _=>False
variable (fn:FuncId)(rnd:Option Nat)(n:Nat)
def wpX (c:Code)(T:Tm)(D:List DE)(σ:S)(Q:Post):Prop :=
 ∀ tmps,Rep n T tmps→∃ r,jaY E (ev E) fn rnd c tmps D σ=some r∧Q.of n r
theorem jnC {id:Nat}{ops:Array Oper}{T:Tm}{D:List DE}{σ:S}{Q:Post}(K:S→Prop)(hK:K σ)(hp:jcg E ops (jai [] ops.toList)=true)
  (h:wpS E (E.mutb fn id) n K ops.toList T σ fun T σ=>Q.norm T D σ):wpX E fn rnd n (.region id ops true) T D σ Q:=fun tmps hr=>by
 obtain ⟨tf,σf,T',h1,h2,h3⟩:=jkN E (rnd:=rnd) (dfs:=D) hp hK hr h
 exact ⟨_,h1,T',h2,h3⟩
def jia (c:Code)(T:Tm)(D:List DE)(σ:S)(Q:Post):Prop :=
 ∀ tmps,Rep n T tmps→∃ r,ev E (.loop fn rnd c tmps D σ)=some r∧Q.of n r
def wpC:Code→Tm→List DE→S→Post→Prop
 | .skip,T,D,σ,Q=>Q.norm T D σ
 | .exit i,T,D,σ,Q=>Q.exit i T D σ
 | .ret,T,D,σ,Q=>Q.ret T D σ
 | .seq a b,T,D,σ,Q=>wpC a T D σ ⟨fun T D σ=>wpC b T D σ Q,Q.exit,Q.ret⟩
 | .cond (.tmp t) a b,T,D,σ,Q=>t<n∧Br (T t) (wpC a (upd T t (.bool true)) D σ Q) (wpC b (upd T t (.bool false)) D σ Q)
 | .cond c a b,T,D,σ,Q=>V1 (jaM E T c) fun v=>Br v (wpC a T D σ Q) (wpC b T D σ Q)
 | .block id c,T,D,σ,Q=>wpC c T D σ ⟨Q.norm,fun i T D σ=>if i=id then Q.norm T D σ else Q.exit i T D σ,Q.ret⟩
 | .loop c,T,D,σ,Q=>jia E fn rnd n c T D σ Q
 | .scope c,T,D,σ,Q=>wpC c T D σ Q
 | .label _,T,D,σ,Q=>Q.norm T D σ
 | .region id ops false,T,D,σ,Q=>wpL E (E.mutb fn id) n ops ops.toList T σ fun T σ=>Q.norm T D σ
 | .region id ops true,T,D,σ,Q =>
  match E.stab fn id with
  | false=>jgd E ops=true∧wpL E (E.mutb fn id) n ops ops.toList T σ fun T σ=>Q.norm T D σ
  | true=>wpX E fn rnd n (.region id ops true) T D σ Q
 | c,T,D,σ,Q=>wpX E fn rnd n c T D σ Q
theorem jdc {v:V}{b:Bool}(h:jg4 v=some b):v=.bool b:=by
 unfold jg4 at h
 split at h
 ·simp at h; rw [h]
 ·simp at h
theorem jbO:∀ (c:Code) {T:Tm} {D:List DE} {σ:S} {Q:Post},wpC E fn rnd n c T D σ Q→wpX E fn rnd n c T D σ Q
 | .skip,T,D,σ,Q,h=>fun tmps hr=>⟨_,rfl,T,hr,h⟩
 | .exit i,T,D,σ,Q,h=>fun tmps hr=>⟨_,rfl,T,hr,h⟩
 | .ret,T,D,σ,Q,h=>fun tmps hr=>⟨_,rfl,T,hr,h⟩
 | .seq a b,T,D,σ,Q,h=>fun tmps hr=>by
  obtain ⟨⟨ex,vals,d,st⟩,h1,T1,hr1,hq⟩:=jbO a h tmps hr
  simp only [jaY,h1]
  cases ex with
  | normal=>exact jbO b hq vals hr1
  | exit i=>exact ⟨_,rfl,T1,hr1,hq⟩
  | ret=>exact ⟨_,rfl,T1,hr1,hq⟩
  | pan _=>exact hq.elim
 | .cond c a b,T,D,σ,Q,h=>fun tmps hr=>by
  simp only [jaY,hr.eval]
  cases c with
  | tmp t =>
   obtain ⟨hlt,b0,hb0,hT,hF⟩:=h
   have hTd:=jdc hb0
   simp only [jaM,hTd]
   cases b0 with
   | true =>
    have hw:=hT rfl
    rw [jhp hTd] at hw
    exact jbO a hw tmps hr
   | false =>
    have hw:=hF rfl
    rw [jhp hTd] at hw
    exact jbO b hw tmps hr
  | const v =>
   obtain ⟨v0,h1,b0,hb0,hT,hF⟩:=h
   rw [h1,jdc hb0]
   cases b0 with
   | true=>exact jbO a (hT rfl) tmps hr
   | false=>exact jbO b (hF rfl) tmps hr
  | global g =>
   obtain ⟨v0,h1,b0,hb0,hT,hF⟩:=h
   rw [h1,jdc hb0]
   cases b0 with
   | true=>exact jbO a (hT rfl) tmps hr
   | false=>exact jbO b (hF rfl) tmps hr
  | func f =>
   obtain ⟨v0,h1,b0,hb0,hT,hF⟩:=h
   rw [h1,jdc hb0]
   cases b0 with
   | true=>exact jbO a (hT rfl) tmps hr
   | false=>exact jbO b (hF rfl) tmps hr
 | .block id c,T,D,σ,Q,h=>fun tmps hr=>by
  obtain ⟨⟨ex,vals,d,st⟩,h1,T1,hr1,hq⟩:=jbO c h tmps hr
  simp only [jaY,h1]
  cases ex with
  | normal=>exact ⟨_,rfl,T1,hr1,hq⟩
  | exit i =>
   refine ⟨_,rfl,T1,hr1,?_⟩
   simp only at hq ⊢
   by_cases e:i=id
   ·simp only [e,Ke] at hq ⊢; exact hq
   ·simp only [e,Kc] at hq ⊢; exact hq
  | ret=>exact ⟨_,rfl,T1,hr1,hq⟩
  | pan _=>exact hq.elim
 | .loop c,T,D,σ,Q,h=>fun tmps hr=>h tmps hr
 | .region id ops false,T,D,σ,Q,h=>fun tmps hr=>by
  obtain ⟨l⟩:=ops
  obtain ⟨tmps',σ',T',h1,h2,h3⟩:=jbN E l hr h
  rw [jg3 _ _ _ _ _ _ _ _ _ _ _ h1]
  exact ⟨_,rfl,T',h2,h3⟩
 | .region id ops true,T,D,σ,Q,h=>fun tmps hr=>by
  simp only [wpC] at h
  cases hs:E.stab fn id with
  | false =>
   simp only [hs] at h
   obtain ⟨hd,h⟩:=h
   obtain ⟨tmps',σ',T',h1,h2,h3⟩:=jbN E ops.toList hr h
   exact ⟨_,jh3 hd h1,T',h2,h3⟩
  | true =>
   simp only [hs] at h
   exact h tmps hr
 | .rangeFunc _ _ _ _,T,D,σ,Q,h=>h
 | .scope c,T,D,σ,Q,h=>fun tmps hr=>by simp only [jaY]; exact jbO c h tmps hr
 | .label _,T,D,σ,Q,h=>fun tmps hr=>⟨_,rfl,T,hr,h⟩
 | .goto _,T,D,σ,Q,h=>h
 | .refuse _,T,D,σ,Q,h=>h
end
section
variable {E:Env}{fn:FuncId}{rnd:Option Nat}{n:Nat}
theorem jaI {c:Code}{Q:Post}(I:Nat→Tm→List DE→S→Prop)
  (h:∀ m T D σ,I m T D σ→wpC E fn rnd n c T D σ ⟨fun T D σ=>∃ m',m'<m∧I m' T D σ,Q.exit,Q.ret⟩):∀ m T D σ,I m T D σ→jia E fn rnd n c T D σ Q:=by
 intro m
 induction m using Nat.strongRecOn with
 | ind m ih =>
  intro T D σ hI tmps hr
  obtain ⟨⟨ex,vals,d,st⟩,h1,T1,hr1,hq⟩:=jbO E fn rnd n c (h m T D σ hI) tmps hr
  cases ex with
  | normal =>
   obtain ⟨m',hm,hI'⟩:=hq
   obtain ⟨r,h2,h3⟩:=ih m' hm T1 d st hI' vals hr1
   exact ⟨r,jdS (by simp only [jdC,h1]; exact h2),h3⟩
  | exit i=>exact ⟨_,jdS (by simp only [jdC,h1]),T1,hr1,hq⟩
  | ret=>exact ⟨_,jdS (by simp only [jdC,h1]),T1,hr1,hq⟩
  | pan _=>exact hq.elim
def resT (E:Env)(T:Tm)(h:List AObj):List ResultVar→Option (List V)
 | []=>some []
 | .tmp t::r=>(resT E T h r).map (T t :: ·)
 | .cell a t::r=>(jaS E h t (T a)).bind fun v=>(resT E T h r).map (v :: ·)
theorem Rep.res {T:Tm}{l:List V}(hr:Rep n T l){h:List AObj}:∀ rs,resV E l h rs=resT E T h rs
 | []=>rfl
 | .tmp t::r=>by simp only [resV,resT,hr.2 t,Rep.res hr r]
 | .cell a t::r=>by simp only [resV,resT,hr.2 a,Rep.res hr r]
def wpR (E:Env)(rs:List ResultVar)(k:V→S→Prop)(T:Tm)(D:List DE)(σ:S):Prop :=
 V1 (jbS σ.heap D) fun h=>V1 (resT E T h rs) fun vs=>k (jau vs) ⟨h,σ.toks⟩
theorem Yx (E:Env)(rs:List ResultVar)(k:V→S→Prop)(T:Tm)(σ:S):wpR E rs k T [] σ=V1 (resT E T σ.heap rs) fun vs=>k (jau vs) σ:=by
 simp only [wpR,jbS,Yy]
theorem jlZ {f:FuncId}{args:List V}{σ:S}{k:V→S→Prop}{F:Go.Func}{body:Code}(hf:E.P.funcs[f]? = some F)(hb:F.body=some body)(hn:F.name ≠ "runtime.NumGoroutine")
  (hl:args.length≤F.ntmps) (hw:wpC E f none F.ntmps body (argT args) [] σ ⟨wpR E F.results.toList k,fun _ _ _ _=>False,wpR E F.results.toList k⟩) :
  ∃ v σ',ev E (.call f args σ)=some ⟨.ret,[v],[],σ'⟩∧k v σ':=by
 obtain ⟨⟨ex,vals,d,st⟩,h1,T1,hr1,hq⟩:=jbO E f none F.ntmps body hw _ (Rep.args args F.ntmps hl)
 have key:wpR E F.results.toList k T1 d st→ex ≠ .exit 0∨True→(∀ i,ex ≠ .exit i)→(∀ v,ex ≠ .pan v)→∃ v σ',ev E (.call f args σ)=some ⟨.ret,[v],[],σ'⟩∧k v σ':=by
  intro ⟨h,hh,vs,hvs,hk⟩ _ hne hnp
  refine ⟨jau vs,⟨h,st.toks⟩,jdS ?_,hk⟩
  rw [← hr1.res] at hvs
  simp only [jdC,hf,hb,hn,Kc,h1]
  cases ex with
  | exit i=>exact absurd rfl (hne i)
  | pan v=>exact absurd rfl (hnp v)
  | normal=>simp only [hh,hvs]
  | ret=>simp only [hh,hvs]
 cases ex with
 | normal=>exact key hq (.inr trivial) (fun i h=>by cases h) fun i h=>by cases h
 | exit i=>exact hq.elim
 | ret=>exact key hq (.inr trivial) (fun i h=>by cases h) fun i h=>by cases h
 | pan _=>exact hq.elim
theorem jfc {args:List V}(h:args.all V.closed=true):wargs args=args:=by simp [wargs,h]
theorem jar {f:FuncId}{args:List V}{v:V}{F:Go.Func}{body:Code}(hp:E.pure f=true)(hk:E.hook f=none)(hc:args.all V.closed=true)(hf:E.P.funcs[f]? = some F)(hb:F.body=some body)
  (hn:F.name ≠ "runtime.NumGoroutine") (hl:args.length≤F.ntmps)
  (hw:wpC E f none F.ntmps body (argT args) [] S.empty ⟨wpR E F.results.toList fun v' σ'=>ja2 σ'.heap jak v'=some v,fun _ _ _ _=>False,wpR E F.results.toList fun v' σ'=>ja2 σ'.heap jak v'=some v⟩)
  (σ:S):jah E (ev E) f args σ=some (v,σ):=by
 obtain ⟨v',σ',h1,h2⟩:=jlZ hf hb hn hl hw
 unfold jah
 simp only [hk,hp,jfc hc,hc,h1,h2,Ke,Qh]
theorem jib {f:FuncId}{args:List V}{rec:Task→Option Res}(hp:E.pure f=true)(hk:E.hook f=none)(hn:args.all V.closed=false)(hc:(args.map V.weak).all V.closed=true)(σ:S) :
  jah E rec f args σ=jah E rec f (args.map V.weak) σ:=by
 have h1:wargs args=args.map V.weak:=by simp only [wargs,hn,Kj,Kc]
 unfold jah
 simp only [hk,hp,h1,jfc hc,hc,Ke]
theorem jaE {f:FuncId}{args:List V}{σ:S}{k:V→S→Prop}{F:Go.Func}{body:Code}(hp:E.pure f=false)(hk:E.hook f=none)(hf:E.P.funcs[f]? = some F)(hb:F.body=some body)
  (hn:F.name ≠ "runtime.NumGoroutine") (hl:args.length≤F.ntmps)
  (hw:wpC E f none F.ntmps body (argT args) [] σ ⟨wpR E F.results.toList k,fun _ _ _ _=>False,wpR E F.results.toList k⟩) (hz:E.frz f=false:=by rfl) (hs:E.hookS f=none:=by rfl) :
  ∃ v σ',jah E (ev E) f args σ=some (v,σ')∧k v σ':=by
 obtain ⟨v',σ',h1,h2⟩:=jlZ hf hb hn hl hw
 refine ⟨v',σ',?_,h2⟩
 unfold jah
 simp only [hk,hp,hz,hs,h1,Kj,Kc]
theorem jl0 {f:FuncId}{vs:List V}{σ':S}(h:ev E (.call f vs S.empty)=some ⟨.ret,[.bool true],[],σ'⟩):Found E f vs:=by
 obtain ⟨n,hn⟩:=joy h
 exact ⟨n,σ',hn⟩
theorem jl1 {f:FuncId}{args:List V}{F:Go.Func}{body:Code}(hf:E.P.funcs[f]? = some F)(hb:F.body=some body)(hn:F.name ≠ "runtime.NumGoroutine")
  (hl:args.length≤F.ntmps) (hw:wpC E f none F.ntmps body (argT args) [] S.empty ⟨wpR E F.results.toList fun v _=>v=.bool true,fun _ _ _ _=>False,wpR E F.results.toList fun v _=>v=.bool true⟩):Found E f args:=by
 obtain ⟨v,σ',h1,rfl⟩:=jlZ hf hb hn hl hw
 exact jl0 h1
end
theorem jat (h:List AObj)(d:Nat)(k:IntKind)(x:Int):ja2 h (d+1) (.int k x)=some (.int k x):=rfl
theorem jaF (h:List AObj)(d:Nat)(b:Bool):ja2 h (d+1) (.bool b)=some (.bool b):=rfl
theorem jdr (h:List AObj)(d:Nat)(b:List UInt8):ja2 h (d+1) (.str b)=some (.str b):=rfl
theorem jbP (h:List AObj)(d:Nat)(vs:List V):ja2 h (d+1) (.tup vs)=(vs.mapM (ja2 h d)).map .tup:=rfl
theorem jic (h:List AObj)(d:Nat)(vs:List V):ja2 h (d+1) (.agg vs)=(vs.mapM (ja2 h d)).map .agg:=rfl
theorem jfd (h:List AObj)(d:Nat)(cs:List V)(n:Nat)(c:RCap):ja2 h (d+1) (.row cs n c)=(cs.mapM (ja2 h d)).map fun c=>.row c n .unk:=rfl
theorem jaz (h:List AObj)(d:Nat)(v:V)(vs:List V):(v::vs).mapM (ja2 h d)=(ja2 h d v).bind fun a=>(vs.mapM (ja2 h d)).bind fun b=>some (a::b):=by
 rw [J6]; rfl
theorem jaW (h:List AObj)(d:Nat):([]:List V).mapM (ja2 h d)=some []:=rfl
theorem jfJ (h:List AObj)(d:Nat):∀ vs:List V,(∀ v∈vs,ja2 h d v=some v)→vs.mapM (ja2 h d)=some vs
 | [],_=>rfl
 | v::vs,hv=>by
  rw [jaz,hv v (by simp),jfJ h d vs fun x hx=>hv x (by simp [hx])]
  rfl
def jkO (v:V):Option RF→Bool
 | some ⟨.ret,.node _ u _,[],st⟩=>(match ja2 st.heap jak u with | some x=>x.beq v | none=>false)
 | _=>false
theorem jbb {E:Env}{k:Nat}{f:FuncId}{args:List V}{v:V}(hp:E.pure f=true)(hk:E.hook f=none)(hc:args.all V.closed=true)(h:jkO v (runF E k (.call f args S.empty))=true) :
  ∀ σ,jah E (ev E) f args σ=some (v,σ):=by
 intro σ
 unfold jkO at h
 split at h
 ·rename_i l u q st hr
  split at h
  ·rename_i x hs
   have e:=V.beq_eq x v h
   subst e
   have h1:=evF hr
   unfold jah
   simp only [hk,hp,jfc hc,hc,h1,Ke,hs,Qh]
  ·simp at h
 ·simp at h
def jbI (E:Env)(f:FuncId)(args:List V)(v:V):Prop :=
 ∀ Γ σ w xs,WRel Γ σ w→GOK E Γ→LRel Γ args xs→∃ Γ' w' y,Moved Γ Γ' σ w w'∧VRel Γ' v y∧jkt E.P f xs w y w'
theorem jnD {E:Env}(hE:E.Ok){k:Nat}{f:FuncId}{args:List V}{v:V}(hc:args.all V.closed=true)(h:jkO v (runQ E k (.call f args S.empty))=true):jbI E f args v:=by
 intro Γ σ w xs hw hg hx
 unfold jkO at h
 split at h
 ·rename_i l u q st hr
  split at h
  ·rename_i x hs
   have e:=V.beq_eq x v h
   subst e
   rw [jb1] at hr
   have h1:=evF hr
   have hx':LRel (Γ.own w.heap.size) args xs:=⟨hx.len,fun i a b=>VRel.of_closed (Γ:=Γ) (Γ':=Γ.own w.heap.size) (fun _ _ _ h=>h) (hx.rel i a b) (jej hc i a)⟩
   obtain ⟨Γ',w',y,m,hy,h2,h3⟩:=(jmB hE h1).1 u rfl (Γ.own w.heap.size) w xs hw.own (hg.own hE) hx'
   have hpin:∀ b i x,Γ.pin b i=some x→b<w.heap.size:=fun b i x hp=>jcJ (hw.pins b i x hp)
   exact ⟨_,w',y,hw.after m.below,jjJ hpin m _ hy hs,.inr ⟨h2,fun cs=>let ⟨fr,a,_,b⟩:=h3 cs; ⟨fr,a,b⟩⟩⟩
  ·simp at h
 ·simp at h
abbrev RTab:=List (FuncId × List V × V)
def ji7 (f:FuncId)(args:List V):RTab→Option V
 | []=>none
 | p::r=>match Nat.beq p.1 f with
  | true=>if V.beq.beqL p.2.1 args then some p.2.2 else ji7 f args r
  | false=>ji7 f args r
theorem jgN {f:FuncId}{args:List V}{v:V}:∀ {T:RTab},ji7 f args T=some v→(f,args,v)∈T
 | [],h=>by simp [ji7] at h
 | p::r,h=>by
  simp only [ji7] at h
  split at h
  ·rename_i hf
   have e1:=Xs hf
   split at h
   ·rename_i he
    have e2:=V.beq_eq.beqL_eq p.2.1 args he
    simp only [Kf] at h
    subst e1 e2 h
    exact List.mem_cons_self
   ·exact Vw _ (jgN h)
  ·exact Vw _ (jgN h)
def hasR (f:FuncId):RTab→Bool
 | []=>false
 | p::r=>match Nat.beq p.1 f with
  | true=>true
  | false=>hasR f r
def jsq (base:FuncId→Option (List V→Option V))(T:RTab)(f:FuncId):Option (List V→Option V) :=
 match hasR f T with
 | true=>some fun args=>ji7 f (wargs args) T
 | false=>base f
def Env.tab (E:Env)(T:RTab):Env:={ E with hook:=jsq E.hook T }
theorem Env.Ok.tab {E:Env}(hE:E.Ok){T:RTab}(hT:∀ p∈T,jbI E p.1 p.2.1 p.2.2):(E.tab T).Ok where
 mixed:=hE.mixed
 glc:=hE.glc
 hook:=by
  intro f g h args v hv Γ σ w xs hw hg hx
  simp only [Env.tab,jsq] at h
  split at h
  ·simp only [Kf] at h
   subst h
   exact hT _ (jgN hv) Γ σ w xs hw hg hx.wargs
  ·exact hE.hook f g h args v hv Γ σ w xs hw hg hx
 hookS:=fun f g h args σ v σ' hv Γ w xs hw hg hx=>hE.hookS f g h args σ v σ' hv Γ w xs hw hg hx
theorem GOK.tab {E:Env}{T:RTab}{Γ:Ctx}(h:GOK E Γ):GOK (E.tab T) Γ:=h
theorem jrs {E:Env}:∀ p∈([]:RTab),jbI E p.1 p.2.1 p.2.2:=fun p hp=>by simp at hp
theorem jcG {E:Env}{A B:RTab}(hA:∀ p∈A,jbI E p.1 p.2.1 p.2.2)(hB:∀ p∈B,jbI E p.1 p.2.1 p.2.2):∀ p∈A++B,jbI E p.1 p.2.1 p.2.2:=by
 intro p hp
 rcases Jv.1 hp with hp | hp
 ·exact hA p hp
 ·exact hB p hp
theorem jbI.untab {E:Env}{T:RTab}{f:FuncId}{args:List V}{v:V}(h:jbI (E.tab T) f args v):jbI E f args v:=h
noncomputable def jrt (E:Env)(k:Nat)(T:RTab):Bool:=T.all fun p=>p.2.1.all V.closed && jkO p.2.2 (runQ E k (.call p.1 p.2.1 S.empty))
theorem jbw {E:Env}(hE:E.Ok){S0 T:RTab}(hS:∀ p∈S0,jbI E p.1 p.2.1 p.2.2){k:Nat}(h:jrt (E.tab S0) k T=true):∀ p∈T,jbI E p.1 p.2.1 p.2.2:=by
 intro p hp
 have h1:=Kz.1 h p hp
 rw [K5] at h1
 exact (jnD (hE.tab hS) h1.1 h1.2).untab
def idxV:List V→Option V
 | [.str s,.int .u8 c]=>some (.int .i64 (Lib.indexByte s c.toNat.toUInt8))
 | _=>none
theorem jru {E:Env}{f:FuncId}{fn:Func}(hf:E.P.funcs[f]? = some fn)(hn:(fn.name == "runtime.NumGoroutine")=false)(hb:fn.body.isNone=true)(h1:Extern.findNext fn=none)
  (h2:Extern.find fn=some Extern.BytealgIndexByte.indexByte):∀ args v,idxV args=some v→jbI E f args v:=by
 intro args v hv Γ σ w xs hw hg hx
 unfold idxV at hv
 split at hv
 ·rename_i s c
  simp only [Kf] at hv
  subst hv
  have hl:=hx.len
  obtain ⟨lx⟩:=xs
  match lx,hl,hx with
  | [a,b],_,hx =>
   have ha:=hx.rel 0 (by simp) (by simp)
   have hb2:=hx.rel 1 (by simp) (by simp)
   simp only [Jm,Jh,Jt] at ha hb2
   cases ha with
   | str x =>
    cases hb2 with
    | int k n =>
     refine ⟨Γ,w,_,Moved.refl hw,.int _ _,.inl ?_⟩
     show (callFunc f #[.string x,.int .u8 c]).run E.P w=_
     rw [run_callFunc_extern hf hn hb h1 h2,Lib.run_indexByteString]
     rfl
 ·simp at hv
end Go.Ab
