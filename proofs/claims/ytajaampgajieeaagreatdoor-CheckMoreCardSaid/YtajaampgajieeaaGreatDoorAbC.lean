/- Proved here: that its runs are the machine's, and how a law follows from a run. Conditions: those of each theorem; no statement of the seat is proved in this text. -/
import Derived.Test.YtajaampgajieeaaGreatDoorAbB
import Derived.RangeFuncIn
import Derived.RangeFuncRecord
import Derived.MakeChecks
import Derived.LaidMore
import Derived.ProofKit
import Derived.Stop.Joined
set_option linter.unusedSimpArgs false
namespace Go.Ab
open Go.RowKit (Below)
section
variable {E:Env}
def jrf:FrameMode→FrameMode
 | .panicking (e::older)=>.panicking ({ e with recovered:=true }::older)
 | u=>u
def jfS (got:Bool)(cs:List Frame):List Frame :=
 match got,cs with
 | true,c::r=>{ c with mode:=jrf c.mode }::r
 | _,cs=>cs
def gotR:Option (Option V)→Option (Option V)→Bool
 | some (some _),some none=>true
 | _,_=>false
theorem jkB (rc:Option (Option V)):gotR rc rc=false:=by
 cases rc with
 | none=>rfl
 | some p=>cases p <;> rfl
def RcOK (Γ:Ctx)(rc:Option (Option V))(u:FrameMode):Prop :=
 match rc with
 | none=>True
 | some none=>∀ (c:Frame) r,c.mode=u→recoverD (c::r)=none
 | some (some v)=>∃ y,VRel Γ v y∧u=.panicking [{ v:=y,recovered:=false }]
theorem RcOK.mono {Γ Γ':Ctx}(hle:Γ.le Γ'){rc:Option (Option V)}{u:FrameMode}(h:RcOK Γ rc u):RcOK Γ' rc u:=by
 match rc,h with
 | none,_=>trivial
 | some none,h=>exact h
 | some (some v),⟨y,h1,h2⟩=>exact ⟨y,h1.mono hle,h2⟩
def CsOK (rc:Option (Option V))(b:Frame)(u:FrameMode)(cs:List Frame):Prop :=
 match rc with
 | none=>True
 | some _=>b.kind=.deferred∧b.roundOf=none∧∃ c r,cs=c::r∧c.mode=u
def EndX (P:Program)(m:Machine)(b:Frame)(k:List Item)(cs:List Frame)(pan:Option V)(a:Act)(w:World)(y:Value):Prop :=
 match pan with
 | none=>Steps P m (lone (b.atR a k) cs w)
 | some _=>∃ k1,Steps P m (lone { b.atR a k1 with mode:=.panicking [{ v:=y,recovered:=false }] } cs w)
theorem EndX.of_steps {P:Program}{m m1:Machine}{b:Frame}{k:List Item}{cs:List Frame}{pan:Option V}{a:Act}{w:World}{y:Value}(h:Steps P m m1)(h':EndX P m1 b k cs pan a w y):EndX P m b k cs pan a w y:=by
 cases pan with
 | none=>exact h.trans h'
 | some v=>obtain ⟨k1,h1⟩:=h'; exact ⟨k1,h.trans h1⟩
theorem jlP {rec:Task→Option Res}(hrec:∀ t r,rec t=some r→jcA E t r){Γ:Ctx}{σ:S}{w:World}{f:FuncId}{args:List V}{v:V}{σ':S}(h:jiC E rec f args σ=some (v,σ'))
  (hw:WRel Γ σ w) (hg:GOK E Γ) {xs:Array Value} (hx:LRel Γ args xs):∃ Γ' w' y,Moved Γ Γ' σ' w w'∧VRel Γ' v y ∧
   (callFunc f xs).run E.P w=.ok (.enter f xs) w∧∀ cs,∃ fr,Steps E.P (lone (Frame.enter E.P f xs .normal) cs w) (lone fr cs w')∧fr.fn=f∧fr.leaving E.P w' (.panicked [{ v:=y,recovered:=false }]):=by
 unfold jiC at h
 split at h
 ·simp at h
 ·split at h
  ·simp at h
  ·split at h
   ·simp at h
   ·split at h
    ·simp at h
    ·split at h
     ·rename_i v0 σ0 hr
      simp only [Kf,Km] at h
      obtain ⟨rfl,rfl⟩:=h
      exact (hrec _ _ hr).2 v0 rfl Γ w xs hw hg hx
     ·simp at h
theorem jkC {rec:Task→Option Res}(hrec:∀ t r,rec t=some r→jcA E t r){Γ:Ctx}{σ:S}{w:World}{tmps:List V}{o:Oper}{v:V}{σ':S}(h:opP E rec tmps σ o.op=some (v,σ'))
  (hw:WRel Γ σ w) (hg:GOK E Γ) {a:Act} (hx:LRel Γ tmps a.tmps) {b:Frame} {ops:Array Oper} {i:Nat} {rest:List Nat} (ho:ops[i]? = some o) (hwant:Region.wanted o (yielded ops a.tmps)=true) :
  ∃ Γ' w' y,Moved Γ Γ' σ' w w'∧VRel Γ' v y∧∀ k cs,Steps E.P (lone (b.atR a (.inRegion ops (i::rest)::k)) cs w) (lone { b.atR a (.inRegion ops (i::rest)::k) with mode:=.panicking [{ v:=y,recovered:=false }] } cs w'):=by
 have hρ:=jes hg hx
 unfold opP at h
 split at h
 ·rename_i x hop
  have hd:∀ c,o.op ≠ .defer c:=by intro c hc; rw [hop] at hc; cases hc
  split at h
  ·rename_i t u hev
   simp only [Kf,Km] at h
   obtain ⟨rfl,rfl⟩:=h
   have hr:=hρ _ _ hev
   generalize hge:a.eval x=xv at hr
   cases hr with
   | iface _ _ z hz =>
    refine ⟨Γ,w,.iface t z,Moved.refl hw,.iface _ _ z hz,fun k cs=>.one ?_⟩
    have hexec:(execOp a.eval o).run E.P w=.halt (.panic (.iface t z)) w:=by
     obtain ⟨dst,op,type,pos,after,guard⟩:=o
     simp only at hop
     subst hop
     simp only [execOp,hge,Instr.panic,Sem.run_bind]
     rfl
    have hg2:=stepGR_op (P:=E.P) (b:=b) (a:=a) (k:=k) (cs:=cs) (w:=w) (rest:=rest) ho hwant
    rw [Oper.semAt_eq _ _ _ hd] at hg2
    refine step_lone_go ?_
    rw [hg2,← Frame.raise_atR]; simp [stepG.apply,hexec]
  ·simp at h
 ·rename_i g args ats hop
  have hd:∀ c,o.op ≠ .defer c:=by intro c hc; rw [hop] at hc; cases hc
  split at h
  ·rename_i f first captured as hgv has
   have hrg:=hρ _ _ hgv
   have hra:=jbp hρ has
   generalize hge:a.eval g=gval at hrg
   cases hrg with
   | func _ _ _ xs ys h1 h2 h3 h4 =>
    have hargs:LRel Γ (first++as++captured) (xs++args.map a.eval++ys):=(LRel.append (LRel.append ⟨h1,h2⟩ hra) ⟨h3,h4⟩)
    obtain ⟨Γ',w',y,m,hy,hc1,hc2⟩:=jlP hrec h hw hg hargs
    have hexec:(execOp a.eval o).run E.P w=(callFunc f (xs++args.map a.eval++ys)).run E.P w:=by
     obtain ⟨dst,op,type,pos,after,guard⟩:=o
     simp only at hop
     subst hop
     simp only [execOp,resolve,hge,Deferred.ofValue,Sem.run_bind,Sem.run_pure,Result.andThen_ok,invoke]
    refine ⟨Γ',w',y,m,hy,fun k cs => ?_⟩
    obtain ⟨fr,hs,_,hl⟩:=hc2 (b.atR a (.inRegion ops (i::rest)::k)::cs)
    refine .head (jfQ ho hwant hd (by rw [hexec,hc1])) (hs.trans (.one ?_))
    rw [step_leave_panicked hl,Frame.raise_atR]
  ·simp at h
 ·simp at h
theorem jos {Γ:Ctx}{w:World}{tmps:List V}{o:Oper}{d:DE}(h:opD E tmps o.op=some d)
  (hg:GOK E Γ) {a:Act} (hx:LRel Γ tmps a.tmps) {dfs:List DE} (hdr:DRel Γ dfs a.defers) {b:Frame} (hb:b.roundOf=none) {ops:Array Oper} {i:Nat} {rest:List Nat} (ho:ops[i]? = some o) (hwant:Region.wanted o (yielded ops a.tmps)=true) :
  ∃ dd,DRel Γ (d::dfs) (dd::a.defers)∧∀ k cs,Steps E.P (lone (b.atR a (.inRegion ops (i::rest)::k)) cs w) (lone (b.atR ({ a with defers:=dd::a.defers }.put o.dst undef) (.inRegion ops rest::k)) cs w):=by
 have hρ:=jes hg hx
 unfold opD at h
 split at h
 ·rename_i g args ats hop
  split at h
  ·rename_i f first captured as hgv has
   simp only [Kf] at h
   subst h
   have hrg:=hρ _ _ hgv
   have hra:=jbp hρ has
   generalize hge:a.eval g=gval at hrg
   cases hrg with
   | func _ _ _ xs ys h1 h2 h3 h4 =>
    have hargs:LRel Γ (first++as++captured) (xs++args.map a.eval++ys):=(LRel.append (LRel.append ⟨h1,h2⟩ hra) ⟨h3,h4⟩)
    refine ⟨{ target:=.fn (.func f) ys,args:=xs++args.map a.eval },⟨⟨_,_,rfl,hargs⟩,hdr⟩,fun k cs=>.one ?_⟩
    have hexec:(execOp a.eval o).run E.P w=.ok (.defer { target:=.fn (.func f) ys,args:=xs++args.map a.eval }) w:=by
     obtain ⟨dst,op,type,pos,after,guard⟩:=o
     simp only at hop
     subst hop
     simp only [execOp,resolve,hge,Deferred.ofValue,Sem.run_bind,Sem.run_pure,Result.andThen_ok]
    have hg2:=stepGR_op (P:=E.P) (b:=b) (a:=a) (k:=k) (cs:=cs) (w:=w) (rest:=rest) ho hwant
    rw [hb,Oper.semAt_none] at hg2
    have hfin:({ b.atR a (.inRegion ops (i::rest)::k) with defers:={ target:=.fn (.func f) ys,args:=xs++args.map a.eval }::a.defers }:Frame).finish undef =
      b.atR ({ a with defers:={ target:=.fn (.func f) ys,args:=xs++args.map a.eval }::a.defers }.put o.dst undef) (.inRegion ops rest::k):=by
     have:=Frame.finish_atR b { a with defers:={ target:=.fn (.func f) ys,args:=xs++args.map a.eval }::a.defers } ops i rest k undef
     rw [ho] at this; exact this
    refine step_lone_go ?_
    rw [hg2]
    simp only [stepG.apply,Sem.runT_eq,hexec,GStep.bare_after]
    exact congrArg (fun fr=>GStep.go { frame:=fr,callers:=cs,status:=.running,dying:=none } w) hfin
  ·simp at h
 ·simp at h
theorem je8 {rec:Task→Option Res}{rnd:Option Nat}{mutb:Bool}{ops:Array Oper}:∀ (is:List Nat) {tmps:List V} {dfs:List DE} {σ:S} {xr:XR},
  jdh E rec rnd mutb ops is (some none) tmps dfs σ=some xr→xr.rcv=some none
 | [],tmps,dfs,σ,xr,h=>by simp [jdh] at h; subst h; rfl
 | i::is,tmps,dfs,σ,xr,h=>by
  simp only [jdh] at h
  split at h
  ·simp at h
  ·split at h
   ·split at h
    ·exact je8 is h
    ·split at h
     ·simp at h; subst h; rfl
     ·split at h
      ·exact je8 is h
      ·split at h
       ·exact je8 is h
       ·simp at h
   ·exact je8 is h
theorem jlQ {ρ:Operand→Value}{o:Oper}{w:World}{P:Program}(h:jf2 o.op=true):(execOp ρ o).run P w=.ok .recover w:=by
 obtain ⟨dst,op,type,pos,after,guard⟩:=o
 simp only at h
 unfold jf2 at h
 split at h
 ·rename_i args ats
  rfl
 ·simp at h
theorem jcF (hE:E.Ok){rec:Task→Option Res}(hrec:∀ t r,rec t=some r→jcA E t r){rnd:Option Nat}{mutb:Bool}{ops:Array Oper}:∀ (is:List Nat) {rc:Option (Option V)} {tmps:List V} {dfs:List DE} {σ:S} {xr:XR},
  jdh E rec rnd mutb ops is rc tmps dfs σ=some xr→∀ {Γ:Ctx} {w:World} {a:Act} {u:FrameMode} (b:Frame),WRel Γ σ w→GOK E Γ→LRel Γ tmps a.tmps→DRel Γ dfs a.defers→RRel Γ rnd b.roundOf→RcOK Γ rc u →
  ∃ Γ' w' a' y,Moved Γ Γ' xr.st w w'∧LRel Γ' xr.tmps a'.tmps∧DRel Γ' xr.dfs a'.defers∧(∀ v,xr.pan=some v→VRel Γ' v y) ∧
   ∀ k cs,CsOK rc b u cs→EndX E.P (lone (b.atR a (.inRegion ops is::k)) cs w) b k (jfS (gotR rc xr.rcv) cs) xr.pan a' w' y
 | [],rc,tmps,dfs,σ,xr,h,Γ,w,a,u,b,hw,hg,hx,hd,hr,hc=>by
  simp [jdh] at h
  subst h
  refine ⟨Γ,w,a,undef,Moved.refl hw,hx,hd,fun v hv=>by simp at hv,fun k cs _ => ?_⟩
  simp only [jkB,jfS]
  exact .one stepR_region_end
 | i::is,rc,tmps,dfs,σ,xr,h,Γ,w,a,u,b,hw,hg,hx,hd,hr,hc=>by
  simp only [jdh] at h
  split at h
  ·simp at h
  ·rename_i o ho
   split at h
   ·rename_i hwant
    rw [jcr hx] at hwant
    split at h
    ·rename_i v σ1 hop
     obtain ⟨Γ1,w1,y,m1,hy,hs⟩:=je4 hE hrec hop hw hg hx (b:=b) (rest:=is) ho hwant
     obtain ⟨Γ',w',a',y',m2,hx',hd',hp',hs2⟩:=jcF hE hrec is h b m1.rel (hg.mono m1.le) (jdO (hx.mono m1.le) o.dst hy) (by rw [jbV]; exact hd.mono m1.le) (hr.mono m1.le) (hc.mono m1.le)
     exact ⟨Γ',w',a',y',m1.trans m2,hx',hd',hp',fun k cs hcs=>.of_steps (hs k cs) (hs2 k cs hcs)⟩
    ·split at h
     ·rename_i v σ1 hop
      simp only [Kf] at h
      subst h
      obtain ⟨Γ1,w1,y,m1,hy,hs⟩:=jkC hrec hop hw hg hx (b:=b) (rest:=is) ho hwant
      refine ⟨Γ1,w1,a,y,m1,hx.mono m1.le,hd.mono m1.le,fun v hv=>by simp at hv; subst hv; exact hy,fun k cs _ => ?_⟩
      simp only [jkB,jfS]
      exact ⟨_,hs k cs⟩
     ·split at h
      ·rename_i d hop
       have hb:b.roundOf=none:=hr
       obtain ⟨dd,hdd,hs⟩:=jos (w:=w) hop hg hx hd hb (rest:=is) ho hwant
       obtain ⟨Γ',w',a',y',m2,hx',hd',hp',hs2⟩:=jcF hE hrec is h b hw hg (jdO (a:={ a with defers:=dd::a.defers }) hx o.dst (jbU Γ)) (by rw [jbV]; exact hdd) hr hc
       exact ⟨Γ',w',a',y',m2,hx',hd',hp',fun k cs hcs=>.of_steps (hs k cs) (hs2 k cs hcs)⟩
      ·split at h
       ·rename_i pv hrv
        have hd0:∀ c,o.op ≠ .defer c:=by intro c hc2; rw [hc2] at hrv; simp [jf2] at hrv
        have hexec:=jlQ (ρ:=a.eval) (w:=w) (P:=E.P) hrv
        have hrcv:=je8 is h
        have hstep:∀ k cs,CsOK (some pv) b u cs→step E.P (lone (b.atR a (.inRegion ops (i::is)::k)) cs w)=.next (match recoverD cs with
          | some (v,cs')=>lone (b.atR (a.put o.dst v) (.inRegion ops is::k)) cs' w
          | none=>lone (b.atR (a.put o.dst .nilIface) (.inRegion ops is::k)) cs w):=by
         intro k cs hcs
         obtain ⟨hk,hro,_⟩:=hcs
         have hg2:=stepGR_op (P:=E.P) (b:=b) (a:=a) (k:=k) (cs:=cs) (w:=w) (rest:=is) ho hwant
         rw [Oper.semAt_eq _ _ _ hd0] at hg2
         have hfin:∀ v,(b.atR a (.inRegion ops (i::is)::k)).finish v=b.atR (a.put o.dst v) (.inRegion ops is::k):=by
          intro v; rw [Frame.finish_atR,ho]; rfl
         have hk2:(b.atR a (.inRegion ops (i::is)::k)).kind=.deferred:=hk
         have hro2:(b.atR a (.inRegion ops (i::is)::k)).roundOf=none:=hro
         have htr:=tryRecover_deferred hk2 cs
         split
         ·rename_i v cs' hrd
          refine step_lone_go ?_
          rw [hg2,← hfin]
          simp [stepG.apply,hexec,hro2,htr,hrd]
         ·rename_i hrd
          refine step_lone_go ?_
          rw [hg2,← hfin]
          simp [stepG.apply,hexec,hro2,htr,hrd]
        cases pv with
        | none =>
         obtain ⟨Γ',w',a',y',m2,hx',hd',hp',hs2⟩:=jcF hE hrec is h b hw hg (jdO hx o.dst VRel.nilif) (by rw [jbV]; exact hd) hr (u:=u) hc
         refine ⟨Γ',w',a',y',m2,hx',hd',hp',fun k cs hcs=>.of_steps (.one (hstep k cs hcs)) ?_⟩
         obtain ⟨hk,hro,c,r,rfl,hm⟩:=hcs
         have hn:=hc c r hm
         simp only [hn]
         exact hs2 k (c::r) ⟨hk,hro,c,r,rfl,hm⟩
        | some pv =>
         obtain ⟨y,hy,hu⟩:=hc
         obtain ⟨Γ',w',a',y',m2,hx',hd',hp',hs2⟩:=jcF hE hrec is h b hw hg (jdO hx o.dst hy) (by rw [jbV]; exact hd) hr (u:=.panicking [{ v:=y,recovered:=true }]) (fun c r hm=>by simp [recoverD,hm])
         refine ⟨Γ',w',a',y',m2,hx',hd',hp',fun k cs hcs=>.of_steps (.one (hstep k cs hcs)) ?_⟩
         obtain ⟨hk,hro,c,r,rfl,hm⟩:=hcs
         have hn:recoverD (c::r)=some (y,{ c with mode:=.panicking [{ v:=y,recovered:=true }] }::r):=by simp [recoverD,hm,hu]
         simp only [hn]
         have:=hs2 k ({ c with mode:=.panicking [{ v:=y,recovered:=true }] }::r) ⟨hk,hro,_,r,rfl,rfl⟩
         rw [hrcv] at this ⊢
         have e1:jfS (gotR (some (some pv)) (some none)) (c::r)={ c with mode:=.panicking [{ v:=y,recovered:=true }] }::r:=by simp [gotR,jfS,jrf,hm,hu]
         rw [e1]
         exact this
       ·simp at h
   ·rename_i hwant
    rw [jcr hx] at hwant
    obtain ⟨Γ',w',a',y',m2,hx',hd',hp',hs2⟩:=jcF hE hrec is h b hw hg (jdO hx o.dst (jbU Γ)) (by rw [jbV]; exact hd) hr hc
    refine ⟨Γ',w',a',y',m2,hx',hd',hp',fun k cs hcs=>.of_steps (.one (stepR_op_skip (by simp [ho]; simpa using hwant))) ?_⟩
    rw [ho]; exact hs2 k cs hcs
theorem jkD (hE:E.Ok){rec:Task→Option Res}(hrec:∀ t r,rec t=some r→jcA E t r){rnd:Option Nat}{mutb:Bool}{ops:Array Oper}{is:List Nat}{tmps:List V}{dfs:List DE}{σ:S}{xr:XR}
  (h:jdh E rec rnd mutb ops is none tmps dfs σ=some xr) {Γ:Ctx} {w:World} {a:Act} (b:Frame) (hw:WRel Γ σ w) (hg:GOK E Γ) (hx:LRel Γ tmps a.tmps) (hd:DRel Γ dfs a.defers) (hr:RRel Γ rnd b.roundOf) :
  ∃ Γ' w' a' y,Moved Γ Γ' xr.st w w'∧LRel Γ' xr.tmps a'.tmps∧DRel Γ' xr.dfs a'.defers∧(∀ v,xr.pan=some v→VRel Γ' v y) ∧
   ∀ k cs,EndX E.P (lone (b.atR a (.inRegion ops is::k)) cs w) b k cs xr.pan a' w' y:=by
 obtain ⟨Γ',w',a',y,m,l,e,x,s⟩:=jcF hE hrec is h b hw hg hx hd hr (u:=.run) trivial
 exact ⟨Γ',w',a',y,m,l,e,x,fun k cs=>s k cs trivial⟩
theorem jdy {rec:Task→Option Res}{rnd:Option Nat}{mutb:Bool}{ops:Array Oper}{rc:Option (Option V)}{dfs:List DE}:∀ (is:List Nat) {tmps t':List V} {σ σ':S},
  jeX E rec mutb ops is tmps σ=some (t',σ')→jdh E rec rnd mutb ops is rc tmps dfs σ=some ⟨none,rc,t',dfs,σ'⟩
 | [],tmps,t',σ,σ',h=>by simp [jeX] at h; obtain ⟨rfl,rfl⟩:=h; rfl
 | i::is,tmps,t',σ,σ',h=>by
  simp only [jeX] at h
  simp only [jdh]
  cases ho:ops[i]? with
  | none=>rw [ho] at h; simp at h
  | some o =>
   simp only [ho] at h ⊢
   by_cases hw:Region.wanted o (jaq ops tmps)=true
   ·simp only [hw,Ke] at h ⊢
    cases hop:opV E rec mutb tmps σ o.op with
    | none=>rw [hop] at h; simp at h
    | some p =>
     obtain ⟨v,σ1⟩:=p
     rw [hop] at h
     exact jdy is h
   ·simp only [hw,Kj,Kc] at h ⊢
    exact jdy is h
end
section
variable {E:Env}
theorem jot {rec:Task→Option Res}{τ t:List V}{σ:S}(op:Op)(h:∀ x∈op.operands,jaU E τ x=jaU E t x):opP E rec τ σ op=opP E rec t σ op:=by
 unfold opP
 cases op
 case panic x =>
  have h1:jaU E τ x=jaU E t x:=h x (by simp [Op.operands])
  simp only [h1]
 case call c =>
  obtain ⟨callee,args,ats⟩:=c
  cases callee with
  | invoke r n=>rfl
  | builtin b=>rfl
  | value g =>
   have h1:jaU E τ g=jaU E t g:=h g (by simp [Op.operands,Call.operands])
   have h2:jbn (jaU E τ) args.toList=jbn (jaU E t) args.toList:=jch (fun y hy=>h y (by simp [Op.operands,Call.operands]; right; simpa using hy))
   simp only [h1,h2]
 all_goals rfl
theorem jou (hE:E.Ok){rec:Task→Option Res}(hrec:∀ t r,rec t=some r→jcA E t r){mutb:Bool}{ops:Array Oper}{J:Nat}{oJ:Oper}{tmps tf:List V}{σ σf σx:S}{x0:V}{tr:List (List V × V)}{ss:List S}
    (hp:jcg E ops (jai [] ops.toList)=true) (hJ:ops[J]? = some oJ) (hlate:∀ i,J<i→i<ops.size→((jai [] ops.toList).getD i 0).testBit J=true) (hscJ:scOp E oJ.op=true)
    (hdr:dRun E rec mutb ops (ops.toList.take J) tmps σ=some (tr,ss,tf,σf)) (hck:joh E ops (jai [] ops.toList) J tr (σ::ss)=true)
    (hwJ:Region.wanted oJ (jaq ops tf)=true) (hopJ:opP E rec tf σf oJ.op=some (x0,σx)) (b:Frame) :
    ∀ (fuel t:Nat) (listed:Array Bool) (m:Nat) (τ:List V) (Γ:Ctx) (w:World) (a:Act),listed.size=ops.size→cntL listed ops.size+fuel=ops.size →
      (∀ j o,listed.getD j false=true→ops[j]? = some o→∀ e∈o.after,Region.binds .any e=true→listed.getD e.on false=true) →
      (∀ i o,ops[i]? = some o→scOp E o.op=true→listed.getD i false=true→jaH E ops i<m) →
      (∀ i o,ops[i]? = some o→scOp E o.op=true→listed.getD i false=false→m≤jaH E ops i) →
      m≤jaH E ops J→τ.length=tmps.length→listed.getD J false=false →
      (∀ x j,j≤J→(∀ i o,ops[i]? = some o→o.dst=some x→(listed.getD i false=true↔i<j))→τ[x]? = (TT tr tf j)[x]?) →
      (∀ (x:Nat),(∀ (i:Nat) (o:Oper),ops[i]? = some o→o.dst ≠ some x)→τ[x]? = tmps[x]?) →
      WRel Γ (SS σ ss m) w→GOK E Γ→LRel Γ τ a.tmps →
      ∃ Γ' w' a' τ' y,Moved Γ Γ' σx w w'∧VRel Γ' x0 y∧LRel Γ' τ' a'.tmps∧τ'.length=tmps.length∧(∀ (x:Nat),(∀ (i:Nat) (o:Oper),ops[i]? = some o→o.dst ≠ some x)→τ'[x]? = tmps[x]?)∧a'.defers=a.defers ∧
        ∀ k cs,∃ k1,Steps E.P (lone (b.atR a (.inRegion ops (Region.linearise.go .any ops fuel t listed [])::k)) cs w) (lone { b.atR a' k1 with mode:=.panicking [{ v:=y,recovered:=false }] } cs w'):=by
  have hJl:J<ops.size:=(Kq.1 hJ).1
  obtain ⟨hl1,hl2,hT0,hTn,hSf,hspec0⟩:=jeu (ops.toList.take J) hdr
  have hlenJ:(ops.toList.take J).length=J:=by rw [Qi,Qo]; omega
  have hcnt:∀ j,j≤J→cntO E (ops.toList.take J) j=jaH E ops j:=fun j hj=>by
    unfold cntO jaH; rw [List.take_take,J9 hj]
  have hcJ:cntO E (ops.toList.take J) J=jaH E ops J:=hcnt J (Ku _)
  simp only [hlenJ,hcJ] at hl1 hl2 hTn hSf
  have hspec:∀ j o,j<J→ops[j]? = some o→∃ t v,tr[j]? = some (t,v)∧TT tr tf (j+1)=putT t o.dst v ∧
      ∃ σ1,(if Region.wanted o (jaq ops t) then opV E rec mutb t (SS σ ss (jaH E ops j)) o.op else some (.tup [],SS σ ss (jaH E ops j)))=some (v,σ1) ∧
        (scOp E o.op=true→SS σ ss (jaH E ops j+1)=σ1∧jaH E ops j<ss.length):=by
    intro j o hj ho
    have h:=hspec0 j o (by rw [Vj hj,Jd]; exact ho)
    rw [hcnt j (by omega)] at h
    exact h
  -- the lengths
  have hTlen:∀ j,j≤J→(TT tr tf j).length=tmps.length:=by
    intro j
    induction j with
    | zero=>intro _; rw [hT0]
    | succ j ih =>
      intro hj
      have hlt:j<ops.size:=by omega
      obtain ⟨t,v,h1,h2,_⟩:=hspec j ops[j] (by omega) (by simp [hlt])
      rw [h2,jfp]
      have:=ih (by omega)
      simpa [TT,h1] using this
  have hTsame:∀ x i j,i≤j→j≤J→(∀ i' o',i≤i'→i'<j→ops[i']? = some o'→o'.dst ≠ some x)→(TT tr tf j)[x]? = (TT tr tf i)[x]? := by
    intro x i j hij
    induction j with
    | zero => intro _ _; have:i=0:=by omega
              subst this; rfl
    | succ j ih =>
      intro hj hno
      rcases K1 j i with h1 | h1
      · have:i=j+1:=by omega
        subst this; rfl
      · have hlt:j<ops.size:=by omega
        obtain ⟨t,v,h2,h3,_⟩:=hspec j ops[j] (by omega) (by simp [hlt])
        rw [h3,jbW (hno j ops[j] h1 (by omega) (by simp [hlt]))]
        have:=ih h1 (by omega) (fun i' o' a b c=>hno i' o' a (by omega) c)
        rw [← this]; simp [TT,h2]
  -- what the static look says
  have hpair:∀ i j oi oj,i<j→ops[i]? = some oi→ops[j]? = some oj→((jai [] ops.toList).getD j 0).testBit i=true∨(oi.apart ops oj=true∧¬ (scOp E oi.op=true∧scOp E oj.op=true)):=by
    intro i j oi oj hij hi hj
    have hjl:=(Kq.1 hj).1
    have h1:=Kz.1 hp j (Jb.2 hjl)
    rw [hj] at h1
    simp only [K5] at h1
    have h2:=Kz.1 h1.2 i (Jb.2 hij)
    rw [hi] at h2
    simp only [jof,Je,K5,J7,Vs] at h2
    rcases h2 with h2 | ⟨h2,h3⟩
    · exact .inl h2
    · exact .inr ⟨h2,fun ⟨a,b⟩=>by rcases h3 with h3 | h3 <;> simp_all⟩
  have hacyc:∀ j oj e,ops[j]? = some oj→e∈oj.after→Region.binds .any e=true→e.on<j:=by
    intro j oj e hj he hb
    have hjl:=(Kq.1 hj).1
    have h1:=Kz.1 hp j (Jb.2 hjl)
    rw [hj] at h1
    simp only [K5] at h1
    have:=Kz.1 h1.1 e (by simpa using he)
    simpa [hb] using this
  intro fuel
  have hnot:∀ listed:Array Bool,listed.getD J false=false→(∀ i,i<ops.size→listed.getD i false=true)→False:=fun listed h1 h2=>by
    rw [h2 J hJl] at h1; cases h1
  induction fuel with
  | zero =>
    intro t listed m τ Γ w a hsz hfu hshut i1 i2 hm hτ hunJ hinv hkp hw hg hx
    exact (hnot listed hunJ (jhl listed ops.size (by omega))).elim
  | succ fuel ih =>
    intro t listed m τ Γ w a hsz hfu hshut i1 i2 hm hτ hunJ hinv hkp hw hg hx
    have hgo:Region.linearise.go .any ops (fuel+1) t listed []=(match (Region.ready .any ops listed)[t % (Region.ready .any ops listed).length]? with
      | some i=>Region.linearise.go .any ops fuel (t / (Region.ready .any ops listed).length) (listed.setIfInBounds i true) [i]
      | none=>[].reverse):=rfl
    rw [hgo]
    cases hi:(Region.ready .any ops listed)[t % (Region.ready .any ops listed).length]? with
    | none =>
      have hnil:Region.ready .any ops listed=[]:=by
        cases hr:Region.ready .any ops listed with
        | nil=>rfl
        | cons x xs =>
          rw [hr] at hi
          have hlt:t % (x::xs).length<(x::xs).length:=Vc _ (by simp)
          simp at hi
          simp at hlt
          omega
      refine (hnot listed hunJ ?_).elim
      intro i
      induction i using Nat.strongRecOn with
      | _ i ihi =>
        intro hin
        cases hb:listed.getD i false with
        | true=>rfl
        | false =>
          exfalso
          have:i∈Region.ready .any ops listed:=by
            rw [mem_ready]
            refine ⟨?_,ops[i],by simp [hin],fun e he hbd => ?_⟩
            · have:i<listed.size:=by omega
              simpa [this] using hb
            · have:=hacyc i ops[i] e (by simp [hin]) he hbd
              exact ihi e.on this (by omega)
          rw [hnil] at this; simp at this
    | some i =>
      simp only
      rw [linearise_go_acc,Vn,X8]
      have hmem:=X0 hi
      rw [mem_ready] at hmem
      obtain ⟨hun,o,ho,hedges⟩:=hmem
      have hin:i<ops.size:=(Kq.1 ho).1
      have hil:i<listed.size:=by omega
      have hun':listed.getD i false=false:=by simpa [hil] using hun
      -- D with i is shut as well
      have hshut':∀ j oj,(listed.getD j false=true∨j=i)→ops[j]? = some oj→∀ e∈oj.after,Region.binds .any e=true→(listed.getD e.on false=true∨e.on=i):=by
        intro j oj hj hoj e he hb
        rcases hj with hj | rfl
        · exact .inl (hshut j oj hj hoj e he hb)
        · rw [ho] at hoj; cases hoj
          exact .inl (hedges e he hb)
      have hbefore:∀ i',((jai [] ops.toList).getD i 0).testBit i'=true→i' ≠ i→listed.getD i' false=true:=by
        intro i' hb hne
        have:=jdm (D:=fun j=>listed.getD j false=true∨j=i) hshut' i i' (.inr rfl) hb
        exact this.resolve_right hne
      have hafter:∀ i',((jai [] ops.toList).getD i' 0).testBit i=true→listed.getD i' false=true→False:=by
        intro i' hb hl
        have:=jdm (D:=fun j=>listed.getD j false=true) hshut i' i hl hb
        rw [hun'] at this; simp at this
      have hiJ:i≤J:=by
        rcases K1 J i with h | h
        · exfalso
          have:=hbefore J (hlate i h hin) (by omega)
          rw [hunJ] at this; cases this
        · exact h
      -- the temporaries that it looks at
      have hlook0:∀ x∈o.looksAt ops,τ[x]? = (TT tr tf i)[x]? := by
        intro x hxl
        refine hinv x i (by omega) (fun i' o' ho' hd'=>⟨fun hl => ?_,fun hlt => ?_⟩)
        · rcases Xl i' i with h1 | h1 | h1
          · exact h1
          · subst h1; rw [hun'] at hl; simp at hl
          · exfalso
            rcases hpair i i' o o' h1 ho ho' with h2 | ⟨h2,_⟩
            · exact hafter i' h2 hl
            · exact (Oper.apart_spec h2).2.2 x hd' hxl
        · rcases hpair i' i o' o hlt ho' ho with h2 | ⟨h2,_⟩
          · exact hbefore i' h2 (by omega)
          · exact absurd hxl ((Oper.apart_spec h2).1 x hd')
      -- the state in which it runs
      have hm':scOp E o.op=true→m=jaH E ops i:=by
        intro hs
        have h1:=i2 i o ho hs hun'
        rcases K1 m (jaH E ops i) with h2 | h2
        · exfalso
          obtain ⟨i',o',a1,a2,a3,a4⟩:=jdH ops m _ h2
          rcases hpair i' i o' o a1 a2 ho with h3 | ⟨_,h3⟩
          · have:=i1 i' o' a2 a3 (hbefore i' h3 (by omega)); omega
          · exact h3 ⟨a3,hs⟩
        · omega
      by_cases hiJ2:i=J
      · subst hiJ2
        rw [hJ] at ho
        cases ho
        rw [hTn] at hlook0
        have hwt:Region.wanted oJ (jaq ops τ)=Region.wanted oJ (jaq ops tf):=jd9 hlook0
        have hwant2:Region.wanted oJ (yielded ops a.tmps)=true:=by rw [← jcr hx,hwt]; exact hwJ
        have hmJ:=hm' hscJ
        rw [hmJ,hSf] at hw
        have hopτ:opP E rec τ σf oJ.op=some (x0,σx):=by rw [jot oJ.op (jdP (E:=E) hlook0)]; exact hopJ
        obtain ⟨Γ1,w1,y,m1,hy,hs⟩:=jkC hrec hopτ hw hg hx (b:=b) (rest:=Region.linearise.go .any ops fuel (t / (Region.ready .any ops listed).length) (listed.setIfInBounds i true) []) hJ hwant2
        exact ⟨Γ1,w1,a,τ,y,m1,hy,hx.mono m1.le,hτ,hkp,rfl,fun k cs=>⟨_,hs k cs⟩⟩
      have hiJ3:i<J:=by omega
      obtain ⟨ti,v,htr,hTi1,σ1,hop,hscs⟩:=hspec i o hiJ3 ho
      have hTi:TT tr tf i=ti:=by simp [TT,htr]
      have hlook:∀ x∈o.looksAt ops,τ[x]? = ti[x]? := by rw [← hTi]; exact hlook0
      have hwt:Region.wanted o (jaq ops τ)=Region.wanted o (jaq ops ti):=jd9 hlook
      have hev:=jdP (E:=E) hlook
      -- the new book
      have hsz2:(listed.setIfInBounds i true).size=ops.size:=by simpa using hsz
      have hfu2:cntL (listed.setIfInBounds i true) ops.size+fuel=ops.size:=by
        rw [jhk listed hil hun',Kh hin]; omega
      have hset:∀ j,(listed.setIfInBounds i true).getD j false=true↔(listed.getD j false=true∨j=i):=by
        intro j
        by_cases hji:i=j
        · subst hji; simp [hil]
        · rw [getD_set_ne false hji]
          constructor
          · exact .inl
          · rintro (h | h)
            · exact h
            · exact absurd h.symm hji
      have hshut2:∀ j oj,(listed.setIfInBounds i true).getD j false=true→ops[j]? = some oj→∀ e∈oj.after,Region.binds .any e=true→(listed.setIfInBounds i true).getD e.on false=true:=by
        intro j oj hj hoj e he hb
        rw [hset] at hj ⊢
        exact hshut' j oj hj hoj e he hb
      have i1':∀ i' o',ops[i']? = some o'→scOp E o'.op=true→(listed.setIfInBounds i true).getD i' false=true→jaH E ops i'<(if scOp E o.op then m+1 else m):=by
        intro i' o' ho' hs' hl'
        rcases (hset i').1 hl' with h1 | h1
        · have:=i1 i' o' ho' hs' h1
          split <;> omega
        · subst h1
          rw [ho] at ho'; cases ho'
          rw [Kh hs',hm' hs']; omega
      have i2':∀ i' o',ops[i']? = some o'→scOp E o'.op=true→(listed.setIfInBounds i true).getD i' false=false→(if scOp E o.op then m+1 else m)≤jaH E ops i':=by
        intro i' o' ho' hs' hl'
        have hnot:¬ (listed.getD i' false=true∨i'=i):=by
          intro hc; rw [(hset i').2 hc] at hl'; simp at hl'
        have hl2':listed.getD i' false=false:=by
          cases hb:listed.getD i' false with
          | true=>exact absurd (.inl hb) hnot
          | false=>rfl
        have hne:i' ≠ i:=fun e=>hnot (.inr e)
        have h1:=i2 i' o' ho' hs' hl2'
        by_cases hs:scOp E o.op=true
        · rw [Kh hs]
          have h2:=hm' hs
          rcases K1 i' i with h3 | h3
          · exfalso
            rcases hpair i' i o' o h3 ho' ho with h4 | ⟨_,h4⟩
            · have:=hbefore i' h4 hne; rw [hl2'] at this; simp at this
            · exact h4 ⟨hs',hs⟩
          · have:=jet (E:=E) ops ho hs (show i<i' by omega); omega
        · rw [Kg hs]; exact h1
      have hm2:(if scOp E o.op then m+1 else m)≤jaH E ops J:=by
        by_cases hs:scOp E o.op=true
        · rw [Kh hs,hm' hs]
          have:=jet (E:=E) ops ho hs hiJ3; omega
        · rw [Kg hs]; exact hm
      have hτ2:(putT τ o.dst v).length=tmps.length:=by rw [jfp]; exact hτ
      have hkp2:∀ (x:Nat),(∀ (i:Nat) (o:Oper),ops[i]? = some o→o.dst ≠ some x)→(putT τ o.dst v)[x]? = tmps[x]? := fun x hno=>by rw [jbW (hno i o ho)]; exact hkp x hno
      have hunJ2:(listed.setIfInBounds i true).getD J false=false:=by rw [getD_set_ne false hiJ2]; exact hunJ
      have hinv2:∀ x j,j≤J→(∀ i' o',ops[i']? = some o'→o'.dst=some x→((listed.setIfInBounds i true).getD i' false=true↔i'<j))→(putT τ o.dst v)[x]? = (TT tr tf j)[x]? := by
        intro x j hj hwr
        by_cases hd:o.dst=some x
        · have hij:i<j:=(hwr i o ho hd).1 ((hset i).2 (.inr rfl))
          have hno:∀ i' o',i+1≤i'→i'<j→ops[i']? = some o'→o'.dst ≠ some x:=by
            intro i' o' h1 h2 ho' hd'
            have hl:=(hset i').1 ((hwr i' o' ho' hd').2 h2)
            have hl2:listed.getD i' false=true:=hl.resolve_right (by omega)
            rcases hpair i i' o o' (by omega) ho ho' with h3 | ⟨h3,_⟩
            · exact hafter i' h3 hl2
            · exact (Oper.apart_spec h3).2.1 x hd hd'
          rw [hTsame x (i+1) j hij hj hno,hTi1,hd]
          simp only [putT]
          have hlen:τ.length=ti.length:=by rw [hτ,← hTi,hTlen i (by omega)]
          rw [Q7,Q7,hlen]
          simp
        · rw [jbW hd]
          refine hinv x j hj (fun i' o' ho' hd' => ?_)
          have hne:i' ≠ i:=by
            intro e; subst e; rw [ho] at ho'; cases ho'; exact hd hd'
          rw [← hwr i' o' ho' hd',hset]
          constructor
          · exact .inl
          · rintro (h | h)
            · exact h
            · exact absurd h hne
      by_cases hwant:Region.wanted o (jaq ops ti)=true
      · -- it runs
        rw [Kh hwant] at hop
        have hrun:opV E rec mutb τ (SS σ ss m) o.op=some (v,SS σ ss (if scOp E o.op then m+1 else m)):=by
          rw [jf8 o.op hev]
          by_cases hs:scOp E o.op=true
          · rw [Kh hs,hm' hs,(hscs hs).1]; exact hop
          · rw [Kg hs]
            have hs':scOp E o.op=false:=by simpa using hs
            by_cases hpc:jbc E o.op=true
            · exact jd8 hpc hop _
            · cases hap:ja3 E (jaU E ti) o.op with
              | some u =>
                have:=jdn (rec:=rec) (mutb:=mutb) hap (SS σ ss (jaH E ops i))
                rw [this] at hop; simp at hop
                rw [← hop.1]; exact jdn hap _
              | none =>
                have h1:=Kz.1 hck i (Jb.2 hiJ3)
                rw [ho,htr] at h1
                simp only [hs',hpc,hwant,hap,Js,Qr,Xo,J0] at h1
                have hml:m<(σ::ss).length:=by simp; omega
                have h2:=Kz.1 h1 m (Jb.2 hml)
                have hal:jeW E ops (jai [] ops.toList) i m=true:=by
                  refine Kz.2 (fun i' hi' => ?_)
                  have hi2:=Jb.1 hi'
                  have ho':ops[i']? = some ops[i']:=by simp [hi2]
                  rw [ho']
                  simp only [Je,J7,K5,Qm]
                  by_cases hs2:scOp E ops[i'].op=true
                  · refine .inr ⟨?_,?_⟩
                    · cases hb:((jai [] ops.toList).getD i 0).testBit i' with
                      | false=>exact .inl rfl
                      | true =>
                        have hne:i' ≠ i:=by
                          intro e; subst e
                          rw [ho] at ho'; cases ho'; exact hs hs2
                        exact .inr (i1 i' _ ho' hs2 (hbefore i' hb hne))
                    · cases hb:((jai [] ops.toList).getD i' 0).testBit i with
                      | false=>exact .inl rfl
                      | true =>
                        refine .inr (i2 i' _ ho' hs2 ?_)
                        cases hl:listed.getD i' false with
                        | false=>rfl
                        | true=>exact (hafter i' hb hl).elim
                  · exact .inl (by simpa using hs2)
                rw [hal] at h2
                simp only [Qr,Js] at h2
                have hss:(σ::ss)[m]? = some (SS σ ss m):=by
                  simp only [SS]; rw [Kw hml]; rfl
                rw [hss] at h2
                simp only at h2
                cases har:ja8 E (jaU E ti) (SS σ ss m) o.op with
                | none=>rw [har] at h2; simp at h2
                | some u =>
                  rw [har] at h2
                  have:=V.beq_eq u v h2
                  subst this
                  exact jhV hap har
        have hwant2:Region.wanted o (yielded ops a.tmps)=true:=by rw [← jcr hx,hwt]; exact hwant
        obtain ⟨Γ1,w1,y,m1,hy,hs1⟩:=je4 hE hrec hrun hw hg hx (b:=b) (rest:=Region.linearise.go .any ops fuel (t / (Region.ready .any ops listed).length) (listed.setIfInBounds i true) []) ho hwant2
        obtain ⟨Γ',w',a',τ',y',m2,q1,q2,q3,q4,hd,hs2⟩:=ih _ _ _ _ Γ1 w1 (a.put o.dst y) hsz2 hfu2 hshut2 i1' i2' hm2 hτ2 hunJ2 hinv2 hkp2 m1.rel (hg.mono m1.le) (jdO (hx.mono m1.le) o.dst hy)
        refine ⟨Γ',w',a',τ',y',m1.trans m2,q1,q2,q3,q4,hd.trans (jbV _ _ _),fun k cs => ?_⟩
        obtain ⟨k1,s⟩:=hs2 k cs
        exact ⟨k1,(hs1 k cs).trans s⟩
      · -- it is passed over
        rw [Kg hwant] at hop
        simp only [Kf,Km] at hop
        obtain ⟨rfl,hσ⟩:=hop
        have hSS:SS σ ss (if scOp E o.op then m+1 else m)=SS σ ss m:=by
          by_cases hs:scOp E o.op=true
          · rw [Kh hs,hm' hs,(hscs hs).1,hσ]
          · rw [Kg hs]
        have hwant2:¬ Region.wanted o (yielded ops a.tmps)=true:=by rw [← jcr hx,hwt]; exact hwant
        obtain ⟨Γ',w',a',τ',y',m2,q1,q2,q3,q4,hd,hs2⟩:=ih (t / (Region.ready .any ops listed).length) _ _ _ Γ w (a.put o.dst undef) hsz2 hfu2 hshut2 i1' i2' hm2 hτ2 hunJ2 hinv2 hkp2 (by rw [hSS]; exact hw) hg (jdO hx o.dst (jbU Γ))
        refine ⟨Γ',w',a',τ',y',m2,q1,q2,q3,q4,hd.trans (jbV _ _ _),fun k cs => ?_⟩
        obtain ⟨k1,s⟩:=hs2 k cs
        refine ⟨k1,.head (stepR_op_skip (by simp [ho]; simpa using hwant2)) ?_⟩
        rw [ho]; exact s
theorem jiZ {rec:Task→Option Res}{mutb:Bool}{ops:Array Oper}:∀ (l:List Oper) {tmps tf:List V} {σ σf σx:S} {tr:List (List V × V)} {ss:List S} {x:V},jfM E rec mutb ops l tmps σ=some (tr,ss,tf,σf,x,σx) →
  dRun E rec mutb ops (l.take tr.length) tmps σ=some (tr,ss,tf,σf)∧∃ o,l[tr.length]? = some o∧Region.wanted o (jaq ops tf)=true∧opP E rec tf σf o.op=some (x,σx)
 | [],tmps,tf,σ,σf,σx,tr,ss,x,h=>by simp [jfM] at h
 | o::l,tmps,tf,σ,σf,σx,tr,ss,x,h=>by
  simp only [jfM] at h
  split at h
  ·rename_i v σ1 hop
   split at h
   ·rename_i tr1 ss1 tf1 σf1 x1 σx1 h1
    simp only [Kf,Km] at h
    obtain ⟨rfl,rfl,rfl,rfl,rfl,rfl⟩:=h
    obtain ⟨a1,o',a2,a3⟩:=jiZ l h1
    refine ⟨?_,o',by simpa using a2,a3⟩
    simp only [K7,Q6,dRun,hop,a1]
   ·simp at h
  ·rename_i hop
   split at h
   ·rename_i x1 σx1 h1
    simp only [Kf,Km] at h
    obtain ⟨rfl,rfl,rfl,rfl,rfl,rfl⟩:=h
    refine ⟨rfl,o,rfl,?_,h1⟩
    by_cases hw:Region.wanted o (jaq ops tmps)=true
    ·exact hw
    ·rw [Kg hw] at hop; simp at hop
   ·simp at h
theorem jkE:∀ (l:List Oper) (n:Nat),jf3 l n≤n∧∀ o∈l,∀ d,o.dst=some d→jf3 l n≤d
 | [],n=>⟨Ku _,fun o ho=>by simp at ho⟩
 | o::r,n=>by
  obtain ⟨h1,h2⟩:=jkE r n
  simp only [jf3]
  refine ⟨by split <;> omega,fun o' ho' d hd => ?_⟩
  rcases Jf.1 ho' with rfl | h
  ·rw [hd]; simp only; omega
  ·have:=h2 o' h d hd
   split <;> omega
theorem jkF (hE:E.Ok){rec:Task→Option Res}(hrec:∀ t r,rec t=some r→jcA E t r)(hmix:E.P.follows .mixedOrders=true){fn:FuncId}{mutb:Bool}{id:Nat}{ops:Array Oper}{tmps tv:List V}{σ σx:S}{x:V}
  (hp:jcg E ops (jai [] ops.toList)=true) (h:dPan E rec fn mutb ops tmps σ=some (x,tv,σx)) (b:Frame)
  {Γ:Ctx} {w:World} {a:Act} (hw:WRel Γ σ w) (hg:GOK E Γ) (hx:LRel Γ tmps a.tmps) :
  ∃ Γ' w' a' y,Moved Γ Γ' σx w w'∧VRel Γ' x y∧PreL E fn Γ' tv a'.tmps∧a'.defers=a.defers ∧
    ∀ k cs,∃ k1,Steps E.P (lone (b.atR a (.code (.region id ops true)::k)) cs w) (lone { b.atR a' k1 with mode:=.panicking [{ v:=y,recovered:=false }] } cs w'):=by
 unfold dPan at h
 split at h
 ·rename_i tr ss tf σf x1 σx1 hrun
  split at h
  ·rename_i hc
   simp only [Kf,Km] at h
   obtain ⟨rfl,rfl,rfl⟩:=h
   simp only [K5] at hc
   obtain ⟨⟨hpan,hck⟩,hres⟩:=hc
   obtain ⟨hdr,o,ho,hwant,hop⟩:=jiZ ops.toList hrun
   rw [Jd] at ho
   simp only [jr0,ho,K5] at hpan
   obtain ⟨hsc,hlate⟩:=hpan
   have hlate':∀ i,tr.length<i→i<ops.size→((jai [] ops.toList).getD i 0).testBit tr.length=true:=fun i h1 h2=>by
    have:=Kz.1 hlate i (Jb.2 h2)
    have h3:¬ i≤tr.length:=by omega
    simpa [h3] using this
   have hw1:=hw.same (w':={ w with drawn:=w.drawn+1 }) rfl
   have hb1:Below Γ.base w { w with drawn:=w.drawn+1 }:=⟨rfl,rfl,rfl,Ku _,fun _ _=>rfl⟩
   have h0:∀ j,(Array.replicate ops.size false).getD j false=false:=by
    intro j; by_cases h:j<ops.size <;> simp [h]
   have hc0:∀ n,cntL (Array.replicate ops.size false) n=0:=by
    intro n; induction n with
    | zero=>rfl
    | succ n ih=>simp only [cntL,ih,h0]; rfl
   have hJl:tr.length<ops.size:=(Kq.1 ho).1
   have hspec:=jeu _ hdr
   obtain ⟨Γ',w',a',τ',y,m,q1,q2,q3,q4,hd,s⟩:=jou hE hrec hp ho hlate' hsc hdr hck hwant hop b ops.size (w.tape w.drawn (.order b.fn id)) (Array.replicate ops.size false) 0 tmps Γ _ a (by simp) (by rw [hc0]; omega)
    (fun j o hj=>by rw [h0] at hj; simp at hj) (fun i o _ _ hl=>by rw [h0] at hl; simp at hl) (fun i o _ _ _=>Jc _) (Jc _) rfl (h0 _)
    (fun x j hj hwr=>by
     rw [← hspec.2.2.1]
     have hno:∀ i o,i<j→ops[i]? = some o→o.dst ≠ some x:=by
      intro i o hij ho hd
      have:=(hwr i o ho hd).2 hij
      rw [h0] at this; simp at this
     clear hwr
     induction j with
     | zero=>rfl
     | succ j ih =>
      have hlt:j<ops.size:=by omega
      obtain ⟨t,v,h2,h3,_⟩:=hspec.2.2.2.2.2 j ops[j] (by rw [Vj (show j<tr.length from hj)]; simp [hlt])
      rw [h3,jbW (hno j ops[j] (by omega) (by simp [hlt])),ih (by omega) (fun i o a b=>hno i o (by omega) b)]
      simp [TT,h2]) (fun _ _=>rfl) hw1 hg hx
   have hfl:=jkE ops.toList tmps.length
   refine ⟨Γ',w',a',y,⟨m.le,m.rel,hb1.trans m.below⟩,q1,⟨?_,fun i h1 h2 => ?_,.inr ?_⟩,hd,fun k cs => ?_⟩
   ·have h9:=q2.len
    have h8:=hfl.1
    simp only [Qi]; omega
   ·have hi:i<jf3 ops.toList tmps.length:=by rw [Qi] at h1; omega
    have hnd:∀ (i':Nat) (o':Oper),ops[i']? = some o'→o'.dst ≠ some i:=fun i' o' ho' hd'=>by
     have:=hfl.2 o' (X0 (by rw [Jd]; exact ho')) i hd'
     omega
    have he:=q4 i hnd
    have hi2:i<τ'.length:=by rw [q2.len]; exact h2
    have hr:=q2.rel i hi2 h2
    have e2:(tmps.take (jf3 ops.toList tmps.length))[i]=τ'[i]:=by
     have h5:i<tmps.length:=by rw [← q3]; exact hi2
     rw [List.getElem_take]
     rw [Kw hi2,Kw h5,Kf] at he
     exact he.symm
    rw [e2]; exact hr
   ·rw [Qi,J9 hfl.1]; exact hres
   ·have hsch:Region.schedule (E.P.follows .mixedOrders) ops (w.tape w.drawn (.order b.fn id))=Region.linearise.go .any ops ops.size (w.tape w.drawn (.order b.fn id)) (Array.replicate ops.size false) []:=by
     simp only [Region.schedule,hmix,X9,Ke,Region.linearise]
    obtain ⟨k1,s1⟩:=s k cs
    refine ⟨k1,.head stepR_region_draw ?_⟩
    rw [hsch]
    exact s1
  ·simp at h
 ·simp at h
end
section
variable {E:Env}
def ArrA (P:Program)(m:Machine)(b:Frame)(k:List Item)(cs:List Frame)(ex:Ex)(a:Act)(w:World)(y:Value):Prop :=
 match ex with
 | .normal=>Steps P m (lone (b.atR a k) cs w)
 | .exit id=>∃ k1,exitTo id k1=exitTo id k∧Steps P m (lone (b.atR a (.code (.exit id)::k1)) cs w)
 | .ret=>∃ k1,Steps P m (lone (b.atR a (.code .ret::k1)) cs w)
 | .pan _=>∃ k1,Steps P m (lone { b.atR a k1 with mode:=.panicking [{ v:=y,recovered:=false }] } cs w)
theorem ArrA.of_steps {P:Program}{m m1:Machine}{b:Frame}{k:List Item}{cs:List Frame}{ex:Ex}{a:Act}{w:World}{y:Value}(h:Steps P m m1)(h':ArrA P m1 b k cs ex a w y):ArrA P m b k cs ex a w y:=by
 cases ex with
 | normal=>exact h.trans h'
 | exit id=>obtain ⟨k1,h1,h2⟩:=h'; exact ⟨k1,h1,h.trans h2⟩
 | ret=>obtain ⟨k1,h1⟩:=h'; exact ⟨k1,h.trans h1⟩
 | pan _=>obtain ⟨k1,h1⟩:=h'; exact ⟨k1,h.trans h1⟩
def jr2 (E:Env)(c:Code)(fn:FuncId)(rnd:Option Nat)(tmps:List V)(dfs:List DE)(σ:S)(r:Res):Prop :=
 ∀ Γ w (a:Act) (b:Frame),WRel Γ σ w→GOK E Γ→LRel Γ tmps a.tmps→DRel Γ dfs a.defers→b.fn=fn→RRel Γ rnd b.roundOf →
  ∃ Γ' w' a' y,Moved Γ Γ' r.st w w'∧jg1 E fn Γ' r.ex r.vals a'.tmps∧DRel Γ' r.dfs a'.defers∧XRel Γ' r.ex y∧∀ k cs,ArrA E.P (lone (b.atR a (.code c::k)) cs w) b k cs r.ex a' w' y
theorem jhY {id:Nat}{c:Code}{k:List Item}:exitTo id (.code c::k)=exitTo id k:=rfl
theorem jjM {id:Nat}{c:Code}{k:List Item}:exitTo id (.inLoop c::k)=exitTo id k:=rfl
theorem jci {P:Program}{b:Frame}{a:Act}{k:List Item}{cs:List Frame}{w:World}{c:Code} :
  step P (lone (b.atR a (.code (.scope c)::k)) cs w)=.next (lone (b.atR a (.code c::.inScope c::k)) cs w):=step_lone_go rfl
theorem jga {P:Program}{b:Frame}{a:Act}{k:List Item}{cs:List Frame}{w:World}{c:Code} :
  step P (lone (b.atR a (.inScope c::k)) cs w)=.next (lone (b.atR a k) cs w):=step_lone_go rfl
theorem ja9 (hE:E.Ok){rec:Task→Option Res}(hrec:∀ t r,rec t=some r→jcA E t r)(fn:FuncId)(rnd:Option Nat):∀ (c:Code) (tmps:List V) (dfs:List DE) (σ:S) (r:Res),
  jaY E rec fn rnd c tmps dfs σ=some r→jr2 E c fn rnd tmps dfs σ r
 | .skip,tmps,dfs,σ,r,h=>by
  simp [jaY] at h; subst h
  intro Γ w a b hw hg hx hd hf hr
  exact ⟨Γ,w,a,undef,Moved.refl hw,hx,hd,trivial,fun k cs=>.one stepR_skip⟩
 | .label _,tmps,dfs,σ,r,h=>by
  simp [jaY] at h; subst h
  intro Γ w a b hw hg hx hd hf hr
  exact ⟨Γ,w,a,undef,Moved.refl hw,hx,hd,trivial,fun k cs=>.one stepR_label⟩
 | .exit id,tmps,dfs,σ,r,h=>by
  simp [jaY] at h; subst h
  intro Γ w a b hw hg hx hd hf hr
  exact ⟨Γ,w,a,undef,Moved.refl hw,hx,hd,trivial,fun k cs=>⟨k,rfl,Steps.refl _ _⟩⟩
 | .ret,tmps,dfs,σ,r,h=>by
  simp [jaY] at h; subst h
  intro Γ w a b hw hg hx hd hf hr
  exact ⟨Γ,w,a,undef,Moved.refl hw,hx,hd,trivial,fun k cs=>⟨k,Steps.refl _ _⟩⟩
 | .seq x y,tmps,dfs,σ,r,h=>by
  simp only [jaY] at h
  intro Γ w a b hw hg hx hd hf hr
  split at h
  ·rename_i t1 d1 σ1 hx1
   obtain ⟨Γ1,w1,a1,y1,m1,l1,e1,x1,s1⟩:=ja9 hE hrec fn rnd x _ _ _ _ hx1 Γ w a b hw hg hx hd hf hr
   obtain ⟨Γ2,w2,a2,y2,m2,l2,e2,x2,s2⟩:=ja9 hE hrec fn rnd y _ _ _ _ h Γ1 w1 a1 b m1.rel (hg.mono m1.le) l1 e1 hf (hr.mono m1.le)
   exact ⟨Γ2,w2,a2,y2,m1.trans m2,l2,e2,x2,fun k cs=>.of_steps (.head stepR_seq (s1 (.code y::k) cs)) (s2 k cs)⟩
  ·rename_i hne
   obtain ⟨Γ1,w1,a1,y1,m1,l1,e1,x1,s1⟩:=ja9 hE hrec fn rnd x _ _ _ _ h Γ w a b hw hg hx hd hf hr
   refine ⟨Γ1,w1,a1,y1,m1,l1,e1,x1,fun k cs => ?_⟩
   have s:=s1 (.code y::k) cs
   obtain ⟨ex,vals,dfs',st⟩:=r
   cases ex with
   | normal=>exact absurd h (hne _ _ _)
   | exit id=>obtain ⟨k1,g1,g2⟩:=s; exact ⟨k1,g1.trans jhY,.head stepR_seq g2⟩
   | ret=>obtain ⟨k1,g1⟩:=s; exact ⟨k1,.head stepR_seq g1⟩
   | pan _=>obtain ⟨k1,g1⟩:=s; exact ⟨k1,.head stepR_seq g1⟩
 | .cond c x y,tmps,dfs,σ,r,h=>by
  simp only [jaY] at h
  intro Γ w a b hw hg hx hd hf hr
  split at h
  ·rename_i hc
   have hev:=(jes hg hx _ _ hc).bool_inv
   obtain ⟨Γ1,w1,a1,y1,m1,l1,e1,x1,s1⟩:=ja9 hE hrec fn rnd x _ _ _ _ h Γ w a b hw hg hx hd hf hr
   exact ⟨Γ1,w1,a1,y1,m1,l1,e1,x1,fun k cs=>.of_steps (.one (stepR_cond hev)) (s1 k cs)⟩
  ·rename_i hc
   have hev:=(jes hg hx _ _ hc).bool_inv
   obtain ⟨Γ1,w1,a1,y1,m1,l1,e1,x1,s1⟩:=ja9 hE hrec fn rnd y _ _ _ _ h Γ w a b hw hg hx hd hf hr
   exact ⟨Γ1,w1,a1,y1,m1,l1,e1,x1,fun k cs=>.of_steps (.one (stepR_cond hev)) (s1 k cs)⟩
  ·simp at h
 | .block id c,tmps,dfs,σ,r,h=>by
  simp only [jaY] at h
  intro Γ w a b hw hg hx hd hf hr
  split at h
  ·rename_i i t1 d1 σ1 hx1
   simp at h; subst h
   obtain ⟨Γ1,w1,a1,y1,m1,l1,e1,x1,s1⟩:=ja9 hE hrec fn rnd c _ _ _ _ hx1 Γ w a b hw hg hx hd hf hr
   refine ⟨Γ1,w1,a1,undef,m1,LRel.vals l1,e1,?_,fun k cs => ?_⟩
   ·by_cases hid:i=id
    ·subst hid; simp only [Ke]; trivial
    ·simp only [Kg hid]; trivial
   obtain ⟨k1,g1,g2⟩:=s1 (.inBlock id::k) cs
   by_cases hid:i=id
   ·subst hid
    simp only [Ke]
    have:exitTo i k1=some k:=by rw [g1]; simp [exitTo]
    exact (Steps.head stepR_block g2).trans (.one (stepR_exit this))
   ·simp only [Kg hid]
    refine ⟨k1,?_,.head stepR_block g2⟩
    rw [g1]
    have:(id == i)=false:=by simp; exact fun e=>hid e.symm
    simp [exitTo,this]
  ·rename_i hne
   obtain ⟨Γ1,w1,a1,y1,m1,l1,e1,x1,s1⟩:=ja9 hE hrec fn rnd c _ _ _ _ h Γ w a b hw hg hx hd hf hr
   refine ⟨Γ1,w1,a1,y1,m1,l1,e1,x1,fun k cs => ?_⟩
   have s:=s1 (.inBlock id::k) cs
   obtain ⟨ex,vals,dfs',st⟩:=r
   cases ex with
   | normal=>exact (Steps.head stepR_block s).trans (.one stepR_inBlock)
   | exit i=>exact absurd h (hne _ _ _ _)
   | ret=>obtain ⟨k1,g1⟩:=s; exact ⟨k1,.head stepR_block g1⟩
   | pan _=>obtain ⟨k1,g1⟩:=s; exact ⟨k1,.head stepR_block g1⟩
 | .loop c,tmps,dfs,σ,r,h=>by
  simp only [jaY] at h
  intro Γ w a b hw hg hx hd hf hr
  obtain ⟨Γ1,w1,a1,y1,m1,l1,e1,x1,s1⟩:=hrec _ _ h Γ w a b hw hg hx hd hf hr
  refine ⟨Γ1,w1,a1,y1,m1,l1,e1,x1,fun k cs => ?_⟩
  have s:=s1 k cs
  obtain ⟨ex,vals,dfs',st⟩:=r
  cases ex with
  | normal=>exact s.elim
  | exit i=>obtain ⟨k1,g1,g2⟩:=s; exact ⟨k1,g1,.head stepR_loop g2⟩
  | ret=>obtain ⟨k1,g1⟩:=s; exact ⟨k1,.head stepR_loop g1⟩
  | pan _=>obtain ⟨k1,g1⟩:=s; exact ⟨k1,.head stepR_loop g1⟩
 | .region id ops d,tmps,dfs,σ,r,h=>by
  cases d with
  | true =>
   simp only [jaY] at h
   intro Γ w a b hw hg hx hd hf hr
   split at h
   ·rename_i hp
    split at h
    ·rename_i tr ss t1 σ1 hrun
     split at h
     ·rename_i hck
      simp at h; subst h
      obtain ⟨Γ',w',a',m,l,e,s⟩:=jlM hE hrec hE.mixed hp hrun hck b (id:=id) hw hg hx
      exact ⟨Γ',w',a',undef,m,l,by rw [e]; exact hd.mono m.le,trivial,s⟩
     ·simp at h
    ·simp only [Kl] at h
     obtain ⟨⟨x,tv,σx⟩,hpan,h⟩:=h
     subst h
     obtain ⟨Γ',w',a',y,m,hy,l,e,s⟩:=jkF hE hrec hE.mixed hp hpan b (id:=id) hw hg hx
     exact ⟨Γ',w',a',y,m,l,by rw [e]; exact hd.mono m.le,hy,s⟩
   ·simp only [Kl] at h
    obtain ⟨⟨t1,σ1⟩,hrun,h⟩:=h
    subst h
    obtain ⟨Γ',w',a',m,l,e,s⟩:=jiF hE hrec hE.mixed hrun b (id:=id) hw hg hx
    exact ⟨Γ',w',a',undef,m,l,by rw [e]; exact hd.mono m.le,trivial,s⟩
  | false =>
   simp only [jaY] at h
   intro Γ w a b hw hg hx hd hf hr
   cases hX:jdh E rec rnd (E.mutb fn id) ops (List.range ops.size) none tmps dfs σ with
   | none=>rw [hX] at h; simp [XR.res] at h
   | some xr =>
    rw [hX] at h
    obtain ⟨Γ',w',a',y,m,l,e,x,s⟩:=jkD hE hrec hX b hw hg hx hd hr
    obtain ⟨pan,rc,t1,d1,σ1⟩:=xr
    cases pan with
    | none =>
     simp only [XR.res,Kf] at h
     subst h
     exact ⟨Γ',w',a',undef,m,l,e,trivial,fun k cs=>.head stepR_region (s k cs)⟩
    | some pv =>
     simp only [XR.res,Kf] at h
     subst h
     refine ⟨Γ',w',a',y,m,l.pre,e,x pv rfl,fun k cs => ?_⟩
     obtain ⟨k1,s1⟩:=s k cs
     exact ⟨k1,.head stepR_region s1⟩
 | .rangeFunc f ps asg body,tmps,dfs,σ,r,h=>by
  simp only [jaY] at h
  intro Γ w a b hw hg hx hd hf hr
  split at h
  ·rename_i g hgv
   have hro:b.roundOf=none:=hr
   split at h
   ·rename_i v0 σ2 hcall
    split at hcall
    ·rename_i fid first captured
     split at h
     ·rename_i st pend fn' tmps' ps' asg' body' dfr hl
      split at h
      ·simp at h
      ·rename_i hbusy
       have hrg:=jes hg hx _ _ hgv
       generalize hge:a.eval f=gval at hrg
       cases hrg with
       | func _ _ _ xs ys h1 h2 h3 h4 =>
        -- the block for the deferred calls,and the record
        have m1:=hw.push (o:=.defd true) (ob:=.deferred (some [])) trivial
        have m2:=m1.rel.push (o:=.loop .ready none fn tmps ps asg body σ.heap.length) (ob:=.loop { state:=.ready,pending:=none,fn:=b.fn,tmps:=a.tmps,params:=ps,assign:=asg,body:=body,defers:=w.heap.size }) ⟨rfl,rfl,hf,hx.mono m1.le,rfl,rfl,rfl,by simp [Ctx.push]⟩
        have m12:=m1.trans m2
        have hl1:(σ.push (.defd true)).heap.length=σ.heap.length+1:=by simp [S.push]
        have hsz:(w.heap.push (Obj.deferred (some []))).size=w.heap.size+1:=by simp
        have hσ:((σ.push (.defd true)).push (.loop .ready none fn tmps ps asg body σ.heap.length))=⟨σ.heap++[.defd true,.loop .ready none fn tmps ps asg body σ.heap.length],σ.toks⟩:=by simp [S.push]
        rw [hσ] at m12
        rw [hl1] at m12
        simp only [hsz] at m12
        generalize hΓ2:(Γ.push σ.heap.length w.heap.size).push (σ.heap.length+1) (w.heap.size+1)=Γ2 at m12
        have hbl:Γ2.blk (σ.heap.length+1)=some (w.heap.size+1):=by rw [← hΓ2]; simp [Ctx.push]
        have hbd:Γ2.blk σ.heap.length=some w.heap.size:=by rw [← hΓ2]; simp [Ctx.push]
        have hargs:LRel Γ2 (first++[V.yld (σ.heap.length+1)]++captured) (xs ++ #[.func (.yield (w.heap.size+1)) #[] #[]]++ys) :=
         ((LRel.mono m12.le ⟨h1,h2⟩).append (LRel.one (.yld _ _ hbl))).append (LRel.mono m12.le ⟨h3,h4⟩)
        obtain ⟨Γ3,w3,y,m3,hy,hent,hcs⟩:=(hrec _ _ hcall).1 v0 rfl Γ2 _ _ m12.rel (hg.mono m12.le) hargs
        have hb3:=m3.le.blk _ _ hbl
        obtain ⟨ob,g1,g2,g3,g4⟩:=m3.rel.at hb3 hl
        cases ob <;> simp only [ORel] at g2
        rename_i rc
        obtain ⟨q1,q2,q3,q4,q5,q6,q7,q8⟩:=g2
        have hlt:=(Kq.1 g1).1
        have m4:=m3.rel.upd (o:=.loop .exhausted pend fn' tmps' ps' asg' body' dfr) (Upd.putObj (ob:=.loop { rc with state:=.exhausted }) hlt) hb3 hl rfl ⟨rfl,q2,q3,q4,q5,q6,q7,q8⟩
        have hend:(Instr.endLoop (w.heap.size+1)).run E.P w3=.ok pend { w3 with heap:=w3.heap.setIfInBounds (w.heap.size+1) (.loop { rc with state:=.exhausted }) }:=by
         have hnb:(rc.state == LoopState.busy)=false:=by rw [q1]; simpa using hbusy
         simp only [Instr.endLoop,Instr.getLoop,Sem.run_bind,run_getObj_loop g1,Result.andThen_ok,Sem.run_pure,hnb,Kj,Kc,run_setObj_loop _ g1,q2]
         rfl
        have hent0:(Instr.enterLoop b.fn a.tmps ps asg body b.roundOf).run E.P w=.ok (w.heap.size+1,[{ target:=.collected w.heap.size,args := #[] }]) { w with heap:=(w.heap.push (.deferred (some []))).push (.loop { state:=.ready,pending:=none,fn:=b.fn,tmps:=a.tmps,params:=ps,assign:=asg,body:=body,defers:=w.heap.size }) }:=by
         rw [hro]
         simp only [Instr.enterLoop,Sem.run_bind,run_newObj,Result.andThen_ok,Sem.run_pure,hsz]
        have fin:∃ a':Act,LRel Γ3 tmps a'.tmps∧DRel Γ3 (.mark σ.heap.length::dfs) a'.defers∧∀ k cs,Steps E.P (lone (b.atR a (.code (.rangeFunc f ps asg body)::k)) cs w) (lone (b.atR a' ((pend.map Item.code).toList++k)) cs { w3 with heap:=w3.heap.setIfInBounds (w.heap.size+1) (.loop { rc with state:=.exhausted }) }):=by
         refine ⟨{ a with defers:=[{ target:=.collected w.heap.size,args := #[] }]++a.defers },hx.mono (m12.le.trans m3.le),⟨⟨_,m3.le.blk _ _ hbd,rfl⟩,hd.mono (m12.le.trans m3.le)⟩,fun k cs => ?_⟩
         have hres:(resolve a.eval (rangeCall f (w.heap.size+1)) 0).run E.P { w with heap:=(w.heap.push (.deferred (some []))).push (.loop { state:=.ready,pending:=none,fn:=b.fn,tmps:=a.tmps,params:=ps,assign:=asg,body:=body,defers:=w.heap.size }) }=.ok { target:=.fn (.func fid) ys,args:=xs ++ #[.func (.yield (w.heap.size+1)) #[] #[]] } { w with heap:=(w.heap.push (.deferred (some []))).push (.loop { state:=.ready,pending:=none,fn:=b.fn,tmps:=a.tmps,params:=ps,assign:=asg,body:=body,defers:=w.heap.size }) }:=by
          have hmap:Array.map a.eval #[Operand.const (Value.func (Fn.yield (w.heap.size+1)) #[] #[])] = #[.func (.yield (w.heap.size+1)) #[] #[]]:=by simp; rfl
          simp only [resolve,hge,Deferred.ofValue,Sem.run_pure,hmap]
         have hinv:(invoke (.fn (.func fid) ys) (xs ++ #[.func (.yield (w.heap.size+1)) #[] #[]])).run E.P { w with heap:=(w.heap.push (.deferred (some []))).push (.loop { state:=.ready,pending:=none,fn:=b.fn,tmps:=a.tmps,params:=ps,assign:=asg,body:=body,defers:=w.heap.size }) }=.ok (.enter fid (xs ++ #[.func (.yield (w.heap.size+1)) #[] #[]]++ys)) { w with heap:=(w.heap.push (.deferred (some []))).push (.loop { state:=.ready,pending:=none,fn:=b.fn,tmps:=a.tmps,params:=ps,assign:=asg,body:=body,defers:=w.heap.size }) }:=hent
         obtain ⟨fr,hs,_,hlv⟩:=hcs (b.atR { a with defers:=[{ target:=.collected w.heap.size,args := #[] }]++a.defers } (.inRangeFunc (w.heap.size+1)::k)::cs)
         refine .head (stepR_rangeFunc hent0 hres hinv) (hs.trans (.head ?_ (.one (stepR_endRangeFunc hend))))
         ·rw [step_leave_returned hlv,finish_atR_inRangeFunc]
        obtain ⟨a',fa,fb,fc⟩:=fin
        have mall:=(m12.trans m3).trans m4
        split at h
        ·simp at h; subst h
         exact ⟨Γ3,_,a',undef,mall,fa,fb,trivial,fun k cs=>fc k cs⟩
        ·simp at h; subst h
         exact ⟨Γ3,_,a',undef,mall,fa,fb,trivial,fun k cs=>⟨k,rfl,fc k cs⟩⟩
        ·simp at h; subst h
         exact ⟨Γ3,_,a',undef,mall,fa,fb,trivial,fun k cs=>⟨k,fc k cs⟩⟩
        ·simp at h
     ·simp at h
    ·simp at hcall
   ·simp at h
  ·simp at h
 | .scope c,tmps,dfs,σ,r,h=>by
  simp only [jaY] at h
  intro Γ w a b hw hg hx hd hf hr
  obtain ⟨Γ1,w1,a1,y1,m1,l1,e1,x1,s1⟩:=ja9 hE hrec fn rnd c _ _ _ _ h Γ w a b hw hg hx hd hf hr
  refine ⟨Γ1,w1,a1,y1,m1,l1,e1,x1,fun k cs => ?_⟩
  have s:=s1 (.inScope c::k) cs
  obtain ⟨ex,vals,dfs',st⟩:=r
  cases ex with
  | normal=>exact .head jci (Steps.trans s (.one jga))
  | exit i=>obtain ⟨k1,g1,g2⟩:=s; exact ⟨k1,g1.trans rfl,.head jci g2⟩
  | ret=>obtain ⟨k1,g1⟩:=s; exact ⟨k1,.head jci g1⟩
  | pan _=>obtain ⟨k1,g1⟩:=s; exact ⟨k1,.head jci g1⟩
 | .goto _,tmps,dfs,σ,r,h=>by simp [jaY] at h
 | .refuse _,tmps,dfs,σ,r,h=>by simp [jaY] at h
end
section
variable {E:Env}{Γ:Ctx}{σ:S}{w:World}
theorem jgG {P:Program}{c:Nat}(h:w.heap[c]? = some (.deferred (some []))) :
  (Instr.takeDeferred c).run P w=.ok [] { w with heap:=w.heap.setIfInBounds c (.deferred none) }:=by
 simp [Instr.takeDeferred,getObj,setObj,Sem.run,h]
theorem jkG {P:Program}{b:Frame}{ts:Array Value}{todo:List Item}{cs:List Frame}{c:Nat}{ds:List Deferred}{w':World}{u:FrameMode}(hu:u ≠ .run)(h:(Instr.takeDeferred c).run P w=.ok [] w') :
  step P (lone { b.atR ⟨ts,{ target:=.collected c,args := #[] }::ds⟩ todo with mode:=u } cs w)=.next (lone { b.atR ⟨ts,ds⟩ todo with mode:=u } cs w'):=by
 cases u with
 | run=>exact absurd rfl hu
 | returning=>exact step_lone_go (by simp [stepG,unwind,Frame.atR,Sem.runT_eq,h,GStep.bare_after])
 | panicking ch=>exact step_lone_go (by simp [stepG,unwind,Frame.atR,Sem.runT_eq,h,GStep.bare_after])
theorem ji0 {Γ:Ctx}{σ:S}{w:World}{a c:Nat}(hw:WRel Γ σ w)(hb:Γ.blk a=some c)(ho:σ.heap[a]? = some (.defd true)) :
  ∃ w',Moved Γ Γ (σ.set a (.defd false)) w w'∧∀ P,(Instr.takeDeferred c).run P w=.ok [] w':=by
 obtain ⟨ob,g1,g2,g3,g4⟩:=hw.at hb ho
 have hob:ob=.deferred (some []):=by
  cases ob with
  | deferred cl=>cases cl with
   | none=>exact g2.elim
   | some l=>cases l with
    | nil=>rfl
    | cons=>exact g2.elim
  | _=>exact g2.elim
 subst hob
 have hlt:=(Kq.1 g1).1
 have m1:=hw.upd (o:=.defd false) (Upd.putObj (ob:=.deferred none) hlt) hb ho rfl trivial
 exact ⟨_,m1,fun P=>jgG g1⟩
theorem jeF {P:Program}{b:Frame}{ts:Array Value}:∀ (l:List DE) (ds:List Deferred) (σ:S) (h:List AObj) (w:World),jbS σ.heap l=some h→WRel Γ σ w→DRel Γ l ds →
  ∃ w',Moved Γ Γ ⟨h,σ.toks⟩ w w'∧∀ todo cs,Steps P (lone { b.atR ⟨ts,ds⟩ todo with mode:=.returning } cs w) (lone { b.atR ⟨ts,[]⟩ todo with mode:=.returning } cs w')
 | [],[],σ,h,w,ht,hw,hd=>by
  simp [jbS] at ht; subst ht
  exact ⟨w,Moved.refl hw,fun _ cs=>Steps.refl _ _⟩
 | [],_::_,σ,h,w,ht,hw,hd=>hd.elim
 | .mark _::_,[],σ,h,w,ht,hw,hd=>hd.elim
 | .call _ _::_,_,σ,h,w,ht,hw,hd=>by simp [jbS] at ht
 | .mark a::l,d::ds,σ,h,w,ht,hw,⟨⟨c,hb,hdd⟩,hd⟩=>by
  subst hdd
  simp only [jbS] at ht
  split at ht
  ·rename_i ho
   obtain ⟨w1,m1,hst⟩:=ji0 hw hb ho
   obtain ⟨w',m2,hs⟩:=jeF (P:=P) (b:=b) (ts:=ts) l ds (σ.set a (.defd false)) h _ ht m1.rel hd
   exact ⟨w',m1.trans m2,fun todo cs=>.head (jkG (by simp) (hst P)) (hs todo cs)⟩
  ·simp at ht
theorem PRel.ne {Γ:Ctx}{pv:Option V}{u:FrameMode}(h:PRel Γ pv u):u ≠ .run:=by
 cases pv with
 | none=>rw [h]; simp
 | some v=>obtain ⟨y,_,rfl⟩:=h; simp
theorem jdF {rec:Task→Option Res}(hrec:∀ t r,rec t=some r→jcA E t r){b:Frame}{ts:Array Value}:∀ (l:List DE) (ds:List Deferred) (pv:Option V) (σ:S) (r:Option V × S) (Γ:Ctx) (w:World) (u:FrameMode),
  jcC rec pv l σ=some r→WRel Γ σ w→GOK E Γ→DRel Γ l ds→PRel Γ pv u →
  ∃ Γ' w' u',Moved Γ Γ' r.2 w w'∧PRel Γ' r.1 u'∧∀ todo cs,Steps E.P (lone { b.atR ⟨ts,ds⟩ todo with mode:=u } cs w) (lone { b.atR ⟨ts,[]⟩ todo with mode:=u' } cs w')
 | [],[],pv,σ,r,Γ,w,u,h,hw,hg,hd,hp=>by
  simp [jcC] at h; subst h
  exact ⟨Γ,w,u,Moved.refl hw,hp,fun _ cs=>Steps.refl _ _⟩
 | [],_::_,pv,σ,r,Γ,w,u,h,hw,hg,hd,hp=>hd.elim
 | .mark _::_,[],pv,σ,r,Γ,w,u,h,hw,hg,hd,hp=>hd.elim
 | .call _ _::_,[],pv,σ,r,Γ,w,u,h,hw,hg,hd,hp=>hd.elim
 | .mark a::l,d::ds,pv,σ,r,Γ,w,u,h,hw,hg,⟨⟨c,hb,hdd⟩,hd⟩,hp=>by
  subst hdd
  simp only [jcC] at h
  split at h
  ·rename_i ho
   obtain ⟨w1,m1,hst⟩:=ji0 hw hb ho
   obtain ⟨Γ',w',u',m2,hp',hs⟩:=jdF hrec (b:=b) (ts:=ts) l ds pv _ r Γ _ u h m1.rel hg hd hp
   exact ⟨Γ',w',u',m1.trans m2,hp',fun todo cs=>.head (jkG hp.ne (hst E.P)) (hs todo cs)⟩
  ·simp at h
 | .call f as::l,d::ds,pv,σ,r,Γ,w,u,h,hw,hg,⟨⟨xs,ys,hdd,hx⟩,hd⟩,hp=>by
  subst hdd
  simp only [jcC] at h
  split at h
  ·rename_i got σ1 hr
   obtain ⟨Γ1,w1,m1,hcf,hst⟩:=hrec _ _ hr got rfl Γ w _ u hw hg hx hp
   have hp1:PRel Γ1 (if got then none else pv) (if got then .returning else u):=by
    cases got with
    | true=>rfl
    | false=>exact hp.mono m1.le
   obtain ⟨Γ',w',u',m2,hp',hs⟩:=jdF hrec (b:=b) (ts:=ts) l ds _ _ r Γ1 w1 _ h m1.rel (hg.mono m1.le) (hd.mono m1.le) hp1
   refine ⟨Γ',w',u',m1.trans m2,hp',fun todo cs => ?_⟩
   have h1:=step_defer (P:=E.P) (fr:={ b.atR ⟨ts,{ target:=.fn (.func f) ys,args:=xs }::ds⟩ todo with mode:=u }) (cs:=cs) (w:=w) (fv:=.func f) (cap:=ys) (f:=f) (args:=xs++ys) hp.ne rfl rfl hcf
   have h2:=hst { b.atR ⟨ts,ds⟩ todo with mode:=u } cs rfl
   exact .head h1 (Steps.trans h2 (hs todo cs))
  ·simp at h
def _root_.Go.ResultVar.at:ResultVar→Nat
 | .tmp t=>t
 | .cell a _=>a
theorem jgH {E:Env}(hw:WRel Γ σ w){tmps:List V}{ts:Array Value}{ts':List ResultVar}(hx:∀ rv∈ts',VRel Γ (tmps.getD rv.at (.tup [])) (ts.getD rv.at undef)):∀ (l:List ResultVar) (vs:List V),(∀ rv∈l,rv∈ts')→resV E tmps σ.heap l=some vs →
  ∃ ys:List Value,(l.mapM (fun | .tmp t=>pure (ts.getD t undef) | .cell a t=>do loadVar t (← asAddr (ts.getD a undef))):Sem (List Value)).run E.P w=.ok ys w∧LRel Γ vs ys.toArray
 | [],vs,_,h=>by simp [resV] at h; subst h; exact ⟨[],by simp,LRel.nil Γ⟩
 | .tmp t::r,vs,hin,h=>by
  simp only [resV,Kl] at h
  obtain ⟨us,hu,rfl⟩:=h
  obtain ⟨ys,h1,h2⟩:=jgH hw hx r us (fun rv h=>hin rv (by simp [h])) hu
  exact ⟨ts.getD t undef::ys,by simp only [J6,Sem.run_bind,Sem.run_pure,Result.andThen_ok,h1],by simpa using LRel.cons (show VRel Γ (tmps.getD t (.tup [])) (ts.getD t undef) from hx (.tmp t) (hin _ (by simp))) h2⟩
 | .cell a t::r,vs,hin,h=>by
  simp only [resV,Ki,Kl] at h
  obtain ⟨v,hv,us,hu,rfl⟩:=h
  obtain ⟨ys,h1,h2⟩:=jgH hw hx r us (fun rv h=>hin rv (by simp [h])) hu
  obtain ⟨y,hy,hr⟩:=jkk hw (show VRel Γ (tmps.getD a (.tup [])) (ts.getD a undef) from hx (.cell a t) (hin _ (by simp))) hv
  have hc:(do loadVar t (← asAddr (ts.getD a undef)):Sem Value).run E.P w=.ok y w:=by
   generalize ts.getD a undef=x at hy
   cases x <;> simp [Instr.loadAt,Instr.sureAddr] at hy
   rename_i ad
   cases ad <;> simp at hy
   simpa [asAddr] using hy
  refine ⟨y::ys,?_,by simpa using LRel.cons hr h2⟩
  simp only [Sem.run_bind] at hc
  simp only [J6,Sem.run_bind,Sem.run_pure]
  rw [hc]; simp only [Result.andThen_ok,h1]
theorem jeG {E:Env}(hw:WRel Γ σ w){tmps:List V}{ts:Array Value}{fn:Func}(hx:∀ rv∈fn.results.toList,VRel Γ (tmps.getD rv.at (.tup [])) (ts.getD rv.at undef)){vs:List V}(h:resV E tmps σ.heap fn.results.toList=some vs) :
  ∃ y,(results fn ts).run E.P w=.ok y w∧VRel Γ (jau vs) y:=by
 obtain ⟨ys,h1,h2⟩:=jgH hw hx _ vs (fun _ h=>h) h
 have hrun:(fn.results.mapM (fun | .tmp t=>pure (ts.getD t undef) | .cell a t=>do loadVar t (← asAddr (ts.getD a undef))):Sem (Array Value)).run E.P w=.ok ys.toArray w:=by
  rw [Array.mapM_eq_mapM_toList,Sem.run_map]
  have:∀ s:Sem (List Value),s.run E.P w=.ok ys w→(s.run E.P w).andThen (fun a w'=>.ok a.toArray w')=.ok ys.toArray w:=by intro s hs; rw [hs]; rfl
  exact this _ h1
 have hl:=h2.len
 simp only [List.size_toArray] at hl
 match vs,ys,hl,h2,hrun with
 | [v],[y],_,h2,hrun =>
  refine ⟨y,?_,h2.rel 0 (by simp) (by simp)⟩
  simp only [results,Sem.run_bind]
  erw [hrun]; rfl
 | [],[],_,h2,hrun =>
  refine ⟨.tuple #[],?_,VRel.mkTup h2⟩
  simp only [results,Sem.run_bind]
  erw [hrun]; rfl
 | v::u::vs,y::z::ys,_,h2,hrun =>
  refine ⟨.tuple (y::z::ys).toArray,?_,VRel.mkTup h2⟩
  simp only [results,Sem.run_bind]
  erw [hrun]
  simp
theorem PreL.res {E:Env}{Γ:Ctx}{f:FuncId}{fn:Func}(hf:E.P.funcs[f]? = some fn){tmps:List V}{ts:Array Value}(h:PreL E f Γ tmps ts):∀ rv∈fn.results.toList,VRel Γ (tmps.getD rv.at (.tup [])) (ts.getD rv.at undef):=by
 obtain ⟨h1,h2,h3⟩:=h
 rcases h3 with h3 | h3
 ·exact fun rv _=>LRel.getD ⟨h3,h2⟩ _
 ·have e:jpS E f=fn.results.toList:=by simp only [jpS,hf]
  rw [e] at h3
  have key:∀ l:List ResultVar,jlo tmps.length l=true→∀ rv∈l,rv.at<tmps.length:=by
   intro l
   induction l with
   | nil=>intro _ rv hrv; simp at hrv
   | cons x l ih =>
    intro hl rv hrv
    have hx:x.at<tmps.length∧jlo tmps.length l=true:=by
     cases x <;> simpa [jlo,ResultVar.at] using hl
    rcases Jf.1 hrv with rfl | hrv
    ·exact hx.1
    ·exact ih hx.2 rv hrv
  intro rv hrv
  have hlt:=key _ h3 rv hrv
  have hlt2:rv.at<ts.size:=by omega
  have:=h2 rv.at hlt hlt2
  simpa [List.getD,hlt,Array.getD,hlt2] using this
theorem LRel.res {Γ:Ctx}{tmps:List V}{ts:Array Value}(h:LRel Γ tmps ts)(l:List ResultVar):∀ rv∈l,VRel Γ (tmps.getD rv.at (.tup [])) (ts.getD rv.at undef):=fun _ _=>h.getD _
theorem jg1.res {E:Env}{Γ:Ctx}{f:FuncId}{fn:Func}(hf:E.P.funcs[f]? = some fn){ex:Ex}{tmps:List V}{ts:Array Value}(h:jg1 E f Γ ex tmps ts):∀ rv∈fn.results.toList,VRel Γ (tmps.getD rv.at (.tup [])) (ts.getD rv.at undef):=by
 cases ex with
 | pan _=>exact PreL.res hf h
 | _=>exact LRel.res h _
theorem jmz:∀ (ps:List Tmp) (args:List V) (xs:List Value) (tmps:List V) (ts:Array Value),LRel Γ args xs.toArray→LRel Γ tmps ts →
  LRel Γ ((ps.zip args).foldl (fun ts (x:Tmp × V)=>ts.set x.1 x.2) tmps) ((ps.zip xs).foldl (fun ts (x:Tmp × Value)=>ts.setIfInBounds x.1 x.2) ts)
 | [],args,xs,tmps,ts,h,ht=>by simpa using ht
 | p::ps,[],[],tmps,ts,h,ht=>by simpa using ht
 | p::ps,[],x::xs,tmps,ts,h,ht=>by have:=h.len; simp at this
 | p::ps,v::args,[],tmps,ts,h,ht=>by have:=h.len; simp at this
 | p::ps,v::args,x::xs,tmps,ts,h,ht=>by
  simp only [List.zip_cons_cons,Vt]
  refine jmz ps args xs _ _ ?_ (ht.set p ?_)
  ·exact LRel.mkList (by have:=h.len; simpa using this) (fun i a b=>by have:=h.rel (i+1) (by simp; omega) (by simp; omega); simpa only [Jh,Jt] using this)
  ·have:=h.rel 0 (by simp) (by simp); simpa using this
theorem jgI {rec:Task→Option Res}(hrec:∀ t r,rec t=some r→jcA E t r){fn:Func}{f:FuncId}(hf:E.P.funcs[f]? = some fn){pv:Option V}{tmps:List V}{dfs:List DE}{σ:S}{r:Res}
  (h:finD E rec fn pv tmps dfs σ=some r) {Γ:Ctx} {w:World} {u:FrameMode} {ts:Array Value} {ds:List Deferred} {b:Frame} (hbf:b.fn=f) (hbk:b.kind=.normal) (hw:WRel Γ σ w) (hg:GOK E Γ) (hx:PreL E f Γ tmps ts) (hd:DRel Γ dfs ds) (hp:PRel Γ pv u) :
  ∃ Γ' w' y,Moved Γ Γ' r.st w w'∧(∀ v,r=⟨.ret,[v],[],r.st⟩→VRel Γ' v y)∧(∀ v,r=⟨.pan v,[],[],r.st⟩→VRel Γ' v y) ∧
   ∀ todo cs,∃ fr,Steps E.P (lone { b.atR ⟨ts,ds⟩ todo with mode:=u } cs w) (lone fr cs w')∧fr.fn=f∧(r.ex=.ret→fr.leaving E.P w' (.returned y))∧(∀ v,r.ex=.pan v→fr.leaving E.P w' (.panicked [{ v:=y,recovered:=false }])):=by
 unfold finD at h
 split at h
 ·rename_i σ' hun
  obtain ⟨Γ',w',u',m,hp',hs⟩:=jdF hrec (b:=b) (ts:=ts) dfs ds pv σ _ Γ w u hun hw hg hd hp
  split at h
  ·rename_i vs hvs
   simp only [Kf] at h
   subst h
   obtain ⟨y,hy,hr2⟩:=jeG (E:=E) m.rel ((hx.mono m.le).res hf) hvs
   refine ⟨Γ',w',y,m,fun v hv => ?_,fun v hv=>by simp at hv,fun todo cs => ?_⟩
   ·simp only [Res.mk.injEq,J8,and_true,true_and] at hv
    rw [← hv]; exact hr2
   ·have:u'=.returning:=hp'
    subst this
    exact ⟨_,hs todo cs,hbf,fun _=>⟨rfl,rfl,hbk,fn,by rw [← hf,← hbf]; rfl,hy⟩,fun v hv=>by simp at hv⟩
  ·simp at h
 ·rename_i v0 σ' hun
  obtain ⟨Γ',w',u',m,hp',hs⟩:=jdF hrec (b:=b) (ts:=ts) dfs ds pv σ _ Γ w u hun hw hg hd hp
  simp only [Kf] at h
  subst h
  obtain ⟨y,hy,hu⟩:=hp'
  refine ⟨Γ',w',y,m,fun v hv=>by simp at hv,fun v hv => ?_,fun todo cs => ?_⟩
  ·simp only [Res.mk.injEq,Ex.pan.injEq,and_true] at hv
   rw [← hv]; exact hy
  ·exact ⟨_,hs todo cs,hbf,fun hv=>by simp at hv,fun v hv=>⟨hu,rfl,fn,by rw [← hf,← hbf]; rfl⟩⟩
 ·simp at h
theorem jov (rc:Option (Option V))(pv:Option V):gotR (some pv) rc=gotV rc pv:=by
 cases pv with
 | none=>cases rc with
  | none=>rfl
  | some p=>cases p <;> rfl
 | some v=>cases rc with
  | none=>rfl
  | some p=>cases p <;> rfl
theorem jc5 (hE:E.Ok){rec:Task→Option Res}(hrec:∀ t r,rec t=some r→jcA E t r)(fn:FuncId):∀ (c:Code) (pv:Option V) (tmps:List V) (σ:S) (g:Bool) (r:Res),
  jbH E rec fn c pv tmps σ=some (g,r)→∀ Γ w (a:Act) (b:Frame) (u:FrameMode),WRel Γ σ w→GOK E Γ→LRel Γ tmps a.tmps→a.defers=[]→b.fn=fn→b.kind=.deferred→b.roundOf=none→PRel Γ pv u →
  ∃ Γ' w' a' y,Moved Γ Γ' r.st w w'∧jg1 E fn Γ' r.ex r.vals a'.tmps∧DRel Γ' r.dfs a'.defers∧XRel Γ' r.ex y∧∀ k (c0:Frame) cs,c0.mode=u→ArrA E.P (lone (b.atR a (.code c::k)) (c0::cs) w) b k (jfS g (c0::cs)) r.ex a' w' y
 | .seq x z,pv,tmps,σ,g,r,h=>by
  simp only [jbH] at h
  intro Γ w a b u hw hg hx hd hf hk hro hp
  split at h
  ·rename_i g1 t1 d1 σ1 hx1
   split at h
   ·rename_i r1 hx2
    simp only [Kf,Km] at h
    obtain ⟨rfl,rfl⟩:=h
    obtain ⟨Γ1,w1,a1,y1,m1,l1,e1,x1,s1⟩:=jc5 hE hrec fn x _ _ _ _ _ hx1 Γ w a b u hw hg hx hd hf hk hro hp
    obtain ⟨Γ2,w2,a2,y2,m2,l2,e2,x2,s2⟩:=ja9 hE hrec fn none z _ _ _ _ hx2 Γ1 w1 a1 b m1.rel (hg.mono m1.le) l1 e1 hf hro
    exact ⟨Γ2,w2,a2,y2,m1.trans m2,l2,e2,x2,fun k c0 cs hc=>.of_steps (.head stepR_seq (s1 (.code z::k) c0 cs hc)) (s2 k _)⟩
   ·simp at h
  ·rename_i hne
   obtain ⟨Γ1,w1,a1,y1,m1,l1,e1,x1,s1⟩:=jc5 hE hrec fn x _ _ _ _ _ h Γ w a b u hw hg hx hd hf hk hro hp
   refine ⟨Γ1,w1,a1,y1,m1,l1,e1,x1,fun k c0 cs hc => ?_⟩
   have s:=s1 (.code z::k) c0 cs hc
   obtain ⟨ex,vals,dfs',st⟩:=r
   cases ex with
   | normal=>exact absurd h (hne _ _ _ _)
   | exit id=>obtain ⟨k1,g1,g2⟩:=s; exact ⟨k1,g1.trans jhY,.head stepR_seq g2⟩
   | ret=>obtain ⟨k1,g1⟩:=s; exact ⟨k1,.head stepR_seq g1⟩
   | pan _=>obtain ⟨k1,g1⟩:=s; exact ⟨k1,.head stepR_seq g1⟩
 | .block id c,pv,tmps,σ,g,r,h=>by
  simp only [jbH] at h
  intro Γ w a b u hw hg hx hd hf hk hro hp
  split at h
  ·rename_i g0 i t1 d1 σ1 hx1
   simp at h
   obtain ⟨rfl,rfl⟩:=h
   obtain ⟨Γ1,w1,a1,y1,m1,l1,e1,x1,s1⟩:=jc5 hE hrec fn c _ _ _ _ _ hx1 Γ w a b u hw hg hx hd hf hk hro hp
   refine ⟨Γ1,w1,a1,undef,m1,LRel.vals l1,e1,?_,fun k c0 cs hc => ?_⟩
   ·by_cases hid:i=id
    ·subst hid; simp only [Ke]; trivial
    ·simp only [Kg hid]; trivial
   obtain ⟨k1,g1,g2⟩:=s1 (.inBlock id::k) c0 cs hc
   by_cases hid:i=id
   ·subst hid
    simp only [Ke]
    have:exitTo i k1=some k:=by rw [g1]; simp [exitTo]
    exact (Steps.head stepR_block g2).trans (.one (stepR_exit this))
   ·simp only [Kg hid]
    refine ⟨k1,?_,.head stepR_block g2⟩
    rw [g1]
    have:(id == i)=false:=by simp; exact fun e=>hid e.symm
    simp [exitTo,this]
  ·rename_i hne
   obtain ⟨Γ1,w1,a1,y1,m1,l1,e1,x1,s1⟩:=jc5 hE hrec fn c _ _ _ _ _ h Γ w a b u hw hg hx hd hf hk hro hp
   refine ⟨Γ1,w1,a1,y1,m1,l1,e1,x1,fun k c0 cs hc => ?_⟩
   have s:=s1 (.inBlock id::k) c0 cs hc
   obtain ⟨ex,vals,dfs',st⟩:=r
   cases ex with
   | normal=>exact (Steps.head stepR_block s).trans (.one stepR_inBlock)
   | exit i=>exact absurd h (hne _ _ _ _ _)
   | ret=>obtain ⟨k1,g1⟩:=s; exact ⟨k1,.head stepR_block g1⟩
   | pan _=>obtain ⟨k1,g1⟩:=s; exact ⟨k1,.head stepR_block g1⟩
 | .scope c,pv,tmps,σ,g,r,h=>by
  simp only [jbH] at h
  intro Γ w a b u hw hg hx hd hf hk hro hp
  obtain ⟨Γ1,w1,a1,y1,m1,l1,e1,x1,s1⟩:=jc5 hE hrec fn c _ _ _ _ _ h Γ w a b u hw hg hx hd hf hk hro hp
  refine ⟨Γ1,w1,a1,y1,m1,l1,e1,x1,fun k c0 cs hc => ?_⟩
  have s:=s1 (.inScope c::k) c0 cs hc
  obtain ⟨ex,vals,dfs',st⟩:=r
  cases ex with
  | normal=>exact .head jci (Steps.trans s (.one jga))
  | exit i=>obtain ⟨k1,g1,g2⟩:=s; exact ⟨k1,g1.trans rfl,.head jci g2⟩
  | ret=>obtain ⟨k1,g1⟩:=s; exact ⟨k1,.head jci g1⟩
  | pan _=>obtain ⟨k1,g1⟩:=s; exact ⟨k1,.head jci g1⟩
 | .region id ops d,pv,tmps,σ,g,r,h=>by
  cases d with
  | true=>simp [jbH] at h
  | false =>
   simp only [jbH] at h
   intro Γ w a b u hw hg hx hd hf hk hro hp
   split at h
   ·rename_i rc t1 d1 σ1 hX
    simp only [Kf,Km] at h
    obtain ⟨rfl,rfl⟩:=h
    have hrc:RcOK Γ (some pv) u:=by
     cases pv with
     | none=>intro c r hm; have:u=.returning:=hp; subst this; simp [recoverD,hm]
     | some v=>exact hp
    obtain ⟨Γ',w',a',y,m,l,e,x,s⟩:=jcF hE hrec _ hX b hw hg hx (by rw [hd]; trivial) hro hrc
    refine ⟨Γ',w',a',undef,m,l,e,trivial,fun k c0 cs hc => ?_⟩
    have:=s k (c0::cs) ⟨hk,hro,c0,cs,rfl,hc⟩
    rw [jov] at this
    exact Steps.head stepR_region this
   ·simp at h
 | .skip,pv,tmps,σ,g,r,h=>by simp [jbH] at h
 | .label _,pv,tmps,σ,g,r,h=>by simp [jbH] at h
 | .exit _,pv,tmps,σ,g,r,h=>by simp [jbH] at h
 | .ret,pv,tmps,σ,g,r,h=>by simp [jbH] at h
 | .goto _,pv,tmps,σ,g,r,h=>by simp [jbH] at h
 | .refuse _,pv,tmps,σ,g,r,h=>by simp [jbH] at h
 | .cond _ _ _,pv,tmps,σ,g,r,h=>by simp [jbH] at h
 | .loop _,pv,tmps,σ,g,r,h=>by simp [jbH] at h
 | .rangeFunc _ _ _ _,pv,tmps,σ,g,r,h=>by simp [jbH] at h
theorem jlR (hE:E.Ok){rec:Task→Option Res}(hrec:∀ t r,rec t=some r→jcA E t r)(t:Task)(r:Res)(h:jdC E rec t=some r):jcA E t r:=by
  cases t with
  | call f args σ =>
    simp only [jdC] at h
    split at h
    · rename_i fn hf
      split at h
      · rename_i body hb
        split at h
        · simp at h
        · rename_i hname
          have hcf:∀ xs w,(callFunc f xs).run E.P w=.ok (.enter f xs) w:=by
            intro xs w
            simp [callFunc,hf,hb,hname]
          let b:Frame:={ (default:Frame) with fn:=f,kind:=.normal,roundOf:=none }
          have hent:∀ xs,Frame.enter E.P f xs .normal=b.atR ⟨xs++Array.replicate (fn.ntmps - xs.size) undef,[]⟩ [.code body]:=by
            intro xs
            simp [Frame.enter,Frame.atR,hf,hb,b]
          have hx0:∀ {Γ:Ctx} {xs:Array Value},LRel Γ args xs→LRel Γ (args++List.replicate (fn.ntmps - args.length) (.tup [])) (xs++Array.replicate (fn.ntmps - xs.size) undef):=by
            intro Γ xs hx
            have hsz:xs.size=args.length:=hx.len.symm
            rw [hsz]; exact hx.append (LRel.replicate _ (jbU Γ))
          have fin:∀ {ex:Ex} {tmps:List V} {dfs:List DE} {σ1:S} {pv:Option V},jaY E rec f none body (args++List.replicate (fn.ntmps - args.length) (.tup [])) [] σ=some ⟨ex,tmps,dfs,σ1⟩ →
              (match ex with | .pan v=>pv=some v | .exit _=>False | _=>pv=none)→finD E rec fn pv tmps dfs σ1=some r→jcA E (.call f args σ) r:=by
            intro ex tmps dfs σ1 pv hex hpv hfin
            have key:∀ Γ w xs,WRel Γ σ w→GOK E Γ→LRel Γ args xs→∃ Γ' w' y,Moved Γ Γ' r.st w w'∧(∀ v,r=⟨.ret,[v],[],r.st⟩→VRel Γ' v y)∧(∀ v,r=⟨.pan v,[],[],r.st⟩→VRel Γ' v y) ∧
                ∀ cs,∃ fr,Steps E.P (lone (Frame.enter E.P f xs .normal) cs w) (lone fr cs w')∧fr.fn=f∧(r.ex=.ret→fr.leaving E.P w' (.returned y))∧(∀ v,r.ex=.pan v→fr.leaving E.P w' (.panicked [{ v:=y,recovered:=false }])):=by
              intro Γ w xs hw hg hx
              obtain ⟨Γ1,w1,a1,y1,m1,l1,e1,x1,s1⟩:=ja9 hE hrec f none body _ _ _ _ hex Γ w ⟨xs++Array.replicate (fn.ntmps - xs.size) undef,[]⟩ b hw hg (hx0 hx) trivial rfl rfl
              obtain ⟨ts,ds⟩:=a1
              cases ex with
              | exit id=>exact hpv.elim
              | normal =>
                simp only at hpv; subst hpv
                obtain ⟨Γ2,w2,y,m2,p1,p2,p3⟩:=jgI hrec hf hfin (b:=b) rfl rfl m1.rel (hg.mono m1.le) (LRel.pre l1) e1 (u:=.returning) rfl
                refine ⟨Γ2,w2,y,m1.trans m2,p1,p2,fun cs => ?_⟩
                obtain ⟨fr,q1,q2⟩:=p3 [] cs
                rw [hent]
                exact ⟨fr,Steps.trans (s1 [] cs) (.head (stepR_end rfl) q1),q2⟩
              | ret =>
                simp only at hpv; subst hpv
                obtain ⟨Γ2,w2,y,m2,p1,p2,p3⟩:=jgI hrec hf hfin (b:=b) rfl rfl m1.rel (hg.mono m1.le) (LRel.pre l1) e1 (u:=.returning) rfl
                refine ⟨Γ2,w2,y,m1.trans m2,p1,p2,fun cs => ?_⟩
                obtain ⟨k1,s⟩:=s1 [] cs
                obtain ⟨fr,q1,q2⟩:=p3 _ cs
                rw [hent]
                exact ⟨fr,Steps.trans s (.head (stepR_ret rfl) q1),q2⟩
              | pan v =>
                simp only at hpv; subst hpv
                obtain ⟨Γ2,w2,y,m2,p1,p2,p3⟩:=jgI hrec hf hfin (b:=b) rfl rfl m1.rel (hg.mono m1.le) l1 e1 (u:=.panicking [{ v:=y1,recovered:=false }]) ⟨y1,x1,rfl⟩
                refine ⟨Γ2,w2,y,m1.trans m2,p1,p2,fun cs => ?_⟩
                obtain ⟨k1,s⟩:=s1 [] cs
                obtain ⟨fr,q1,q2⟩:=p3 k1 cs
                rw [hent]
                exact ⟨fr,Steps.trans s q1,q2⟩
            refine ⟨fun v hr Γ w xs hw hg hx => ?_,fun v hr Γ w xs hw hg hx => ?_⟩
            · obtain ⟨Γ',w',y,m,p1,p2,p3⟩:=key Γ w xs hw hg hx
              refine ⟨Γ',w',y,m,p1 v hr,hcf xs w,fun cs => ?_⟩
              obtain ⟨fr,q1,q2,q3,q4⟩:=p3 cs
              exact ⟨fr,q1,q2,q3 (by rw [hr])⟩
            · obtain ⟨Γ',w',y,m,p1,p2,p3⟩:=key Γ w xs hw hg hx
              refine ⟨Γ',w',y,m,p2 v hr,hcf xs w,fun cs => ?_⟩
              obtain ⟨fr,q1,q2,q3,q4⟩:=p3 cs
              exact ⟨fr,q1,q2,q4 v (by rw [hr])⟩
          split at h
          · simp at h
          · rename_i v tmps dfs σ1 hex
            exact fin hex rfl h
          · rename_i ex tmps dfs σ1 hne1 hne2 hex
            split at h
            · rename_i hh htk
              split at h
              · rename_i vs hvs
                simp only [Kf] at h
                subst h
                refine ⟨fun v hr Γ w xs hw hg hx => ?_,fun v hr=>by simp at hr⟩
                obtain ⟨Γ1,w1,a1,y1,m1,l1,e1,x1,s1⟩:=ja9 hE hrec f none body _ _ _ _ hex Γ w ⟨xs++Array.replicate (fn.ntmps - xs.size) undef,[]⟩ b hw hg (hx0 hx) trivial rfl rfl
                obtain ⟨ts,ds⟩:=a1
                simp only [Res.mk.injEq,J8,and_true,true_and] at hr
                obtain ⟨w2,m2,hs2⟩:=jeF (P:=E.P) (b:=b) (ts:=ts) dfs ds σ1 hh w1 htk m1.rel e1
                obtain ⟨y,hy,hr2⟩:=jeG (E:=E) m2.rel (jg1.res hf l1) hvs
                refine ⟨Γ1,w2,y,m1.trans m2,by rw [← hr]; exact hr2,hcf xs w,fun cs => ?_⟩
                rw [hent]
                have s:=s1 [] cs
                cases ex with
                | exit id=>exact (hne1 _ rfl).elim
                | pan id=>exact (hne2 _ rfl).elim
                | normal=>exact ⟨_,Steps.trans s (.head (stepR_end rfl) (hs2 [] cs)),rfl,rfl,rfl,rfl,fn,hf,hy⟩
                | ret =>
                  obtain ⟨k1,s⟩:=s
                  exact ⟨_,Steps.trans s (.head (stepR_ret rfl) (hs2 _ cs)),rfl,rfl,rfl,rfl,fn,hf,hy⟩
              · simp at h
            · refine fin hex ?_ h
              cases ex with
              | exit id=>exact (hne1 _ rfl).elim
              | pan id=>exact (hne2 _ rfl).elim
              | normal=>rfl
              | ret=>rfl
          · simp at h
      · simp at h
    · simp at h
  | round l args σ =>
    simp only [jdC] at h
    split at h
    · rename_i fn tmps ps asg body dfr hl
      split at h
      · simp at h
      · rename_i hsz
        split at h
        · rename_i tmps1 σ1 hasg
          split at h
          · rename_i fn1 tm1 ps1 as1 bo1 df1 hl1
            split at h
            · rename_i ex tmps2 σ2 hbody
              split at h
              · rename_i st2 pe2 fn2 tm2 ps2 as2 bo2 df2 hl2
                intro v hr Γ w xs hw hg hx
                obtain ⟨lc,ob,g0,g1,g2,g3,g4⟩:=(hw.live l _ hl).resolve_left (fun q=>by cases q.1)
                cases ob <;> simp only [ORel] at g2
                rename_i rc
                obtain ⟨q1,q2,q3,q4,q5,q6,q7,q8⟩:=g2
                have hyd:(Instr.yield lc xs).run E.P w=.ok (.round lc fn ((ps.zip xs).foldl (fun tmps (t,a)=>tmps.setIfInBounds t a) rc.tmps) asg body) w:=by
                  have hne:¬ (xs.size ≠ ps.size):=by have:=hx.len; omega
                  simp only [Instr.yield,Instr.getLoop,Sem.run_bind,run_getObj_loop g1,Result.andThen_ok,Sem.run_pure,q3,q5,q6,q7]
                  rw [Kg hne]; rfl
                have hx0:LRel Γ ((ps.toList.zip args).foldl (fun ts (t,a)=>ts.set t a) tmps) ((ps.zip xs).foldl (fun tmps (t,a)=>tmps.setIfInBounds t a) rc.tmps):=by
                  have:=jmz ps.toList args xs.toList tmps rc.tmps (by simpa using hx) q4
                  rw [← Array.foldl_toList,Array.toList_zip]
                  exact this
                let b:Frame:={ (default:Frame) with fn:=fn,kind:=.normal,roundOf:=some lc }
                have hent:Frame.round lc fn ((ps.zip xs).foldl (fun tmps (t,a)=>tmps.setIfInBounds t a) rc.tmps) asg body .normal=b.atR ⟨(ps.zip xs).foldl (fun tmps (t,a)=>tmps.setIfInBounds t a) rc.tmps,[]⟩ [.code asg,.beginRound,.code body]:=by
                  simp [Frame.round,Frame.atR,b]
                obtain ⟨Γ1,w1,a1,y1,m1,l1,e1,x1,s1⟩:=ja9 hE hrec fn (some l) asg _ _ _ _ hasg Γ w ⟨_,[]⟩ b hw hg hx0 trivial rfl ⟨lc,rfl,g0⟩
                obtain ⟨ts1,ds1⟩:=a1
                have hb1:=m1.le.blk _ _ g0
                obtain ⟨ob1,p1,p2,p3,p4⟩:=m1.rel.at hb1 hl1
                cases ob1 <;> simp only [ORel] at p2
                rename_i rc1
                obtain ⟨r1,r2,r3,r4,r5,r6,r7,r8⟩:=p2
                have hlt1:=(Kq.1 p1).1
                have mb:=m1.rel.upd (o:=.loop .busy none fn1 tm1 ps1 as1 bo1 df1) (Upd.putObj (ob:=.loop { rc1 with state:=.busy }) hlt1) hb1 hl1 rfl ⟨rfl,r2,r3,r4,r5,r6,r7,r8⟩
                have hbeg:(Instr.beginRound lc).run E.P w1=.ok () { w1 with heap:=w1.heap.setIfInBounds lc (.loop { rc1 with state:=.busy }) }:=by
                  simp only [Instr.beginRound,Instr.getLoop,Sem.run_bind,run_getObj_loop p1,Result.andThen_ok,Sem.run_pure,run_setObj_loop _ p1,r1]
                  rfl
                obtain ⟨Γ2,w2,a2,y2,m2,l2,e2,x2,s2⟩:=ja9 hE hrec fn (some l) body _ _ _ _ hbody Γ1 _ ⟨ts1,ds1⟩ b mb.rel (hg.mono m1.le) l1 e1 rfl ⟨lc,rfl,hb1⟩
                have hb2:=m2.le.blk _ _ hb1
                obtain ⟨ob2,t1,t2,t3,t4⟩:=m2.rel.at hb2 hl2
                cases ob2 <;> simp only [ORel] at t2
                rename_i rc2
                obtain ⟨u1,u2,u3,u4,u5,u6,u7,u8⟩:=t2
                have hlt2:=(Kq.1 t1).1
                have hendR:∀ jump,(Instr.endRound lc jump).run E.P w2=.ok (.bool jump.isNone) { w2 with heap:=w2.heap.setIfInBounds lc (.loop { rc2 with state:=if jump.isNone then .ready else .done,pending:=jump }) }:=by
                  intro jump
                  simp only [Instr.endRound,Instr.getLoop,Sem.run_bind,run_getObj_loop t1,Result.andThen_ok,Sem.run_pure,run_setObj_loop _ t1]
                  rfl
                have mE:∀ jump:Option Code,Moved Γ2 Γ2 (σ2.set l (.loop (if jump.isNone then .ready else .done) jump fn2 tm2 ps2 as2 bo2 df2)) w2 { w2 with heap:=w2.heap.setIfInBounds lc (.loop { rc2 with state:=if jump.isNone then .ready else .done,pending:=jump }) } :=
                  fun jump=>m2.rel.upd (o:=.loop (if jump.isNone then .ready else .done) jump fn2 tm2 ps2 as2 bo2 df2) (Upd.putObj (ob:=.loop { rc2 with state:=if jump.isNone then .ready else .done,pending:=jump }) hlt2) hb2 hl2 rfl ⟨rfl,rfl,u3,u4,u5,u6,u7,u8⟩
                have mall:=(m1.trans mb).trans m2
                have hst:∀ (c:Frame) cs,Steps E.P (lone (Frame.round lc fn ((ps.zip xs).foldl (fun tmps (t,a)=>tmps.setIfInBounds t a) rc.tmps) asg body .normal) (c::cs) w) (lone (b.atR ⟨ts1,ds1⟩ [.code body]) (c::cs) { w1 with heap:=w1.heap.setIfInBounds lc (.loop { rc1 with state:=.busy }) }):=by
                  intro c cs
                  rw [hent]
                  exact (s1 [.beginRound,.code body] (c::cs)).trans (.one (stepR_beginRound rfl hbeg))
                cases ex with
                | normal =>
                  simp only [Kf] at h; subst h
                  simp only [Res.mk.injEq,J8,and_true,true_and] at hr; subst hr
                  exact ⟨Γ2,_,.bool true,lc,fn,_,asg,body,mall.trans (mE none),.bool true,g0,hyd,fun c cs=>(hst c cs).trans ((s2 [] (c::cs)).trans (.one (stepR_round_end rfl rfl (hendR none))))⟩
                | ret =>
                  simp only [Kf] at h; subst h
                  simp only [Res.mk.injEq,J8,and_true,true_and] at hr; subst hr
                  refine ⟨Γ2,_,.bool false,lc,fn,_,asg,body,mall.trans (mE (some .ret)),.bool false,g0,hyd,fun c cs => ?_⟩
                  obtain ⟨k1,s⟩:=s2 [] (c::cs)
                  exact (hst c cs).trans (s.trans (.one (stepR_round_ret rfl rfl (hendR (some .ret)))))
                | exit id =>
                  simp only [Kf] at h; subst h
                  simp only [Res.mk.injEq,J8,and_true,true_and] at hr; subst hr
                  refine ⟨Γ2,_,.bool false,lc,fn,_,asg,body,mall.trans (mE (some (.exit id))),.bool false,g0,hyd,fun c cs => ?_⟩
                  obtain ⟨k1,hk,s⟩:=s2 [] (c::cs)
                  exact (hst c cs).trans (s.trans (.one (stepR_round_exit rfl rfl (by rw [hk]; rfl) (hendR (some (.exit id))))))
                | pan v=>simp at h
              · simp at h
            · simp at h
          · simp at h
        · simp at h
    · simp at h
  | loop fn rnd c tmps dfs σ =>
    simp only [jdC] at h
    intro Γ w a b hw hg hx hd hf hr
    split at h
    · rename_i tmps1 dfs1 σ1 hc
      obtain ⟨Γ1,w1,a1,y1,m1,l1,e1,x1,s1⟩:=ja9 hE hrec fn rnd c _ _ _ _ hc Γ w a b hw hg hx hd hf hr
      obtain ⟨Γ2,w2,a2,y2,m2,l2,e2,x2,s2⟩:=hrec _ _ h Γ1 w1 a1 b m1.rel (hg.mono m1.le) l1 e1 hf (hr.mono m1.le)
      refine ⟨Γ2,w2,a2,y2,m1.trans m2,l2,e2,x2,fun k cs => ?_⟩
      have sa:Steps E.P (lone (b.atR a (.code c::.inLoop c::k)) cs w) (lone (b.atR a1 (.code c::.inLoop c::k)) cs w1):=Steps.trans (s1 (.inLoop c::k) cs) (.one stepR_inLoop)
      have s:=s2 k cs
      obtain ⟨ex,vals,dfs',st⟩:=r
      cases ex with
      | normal=>exact s.elim
      | exit i=>obtain ⟨k1,g1,g2⟩:=s; exact ⟨k1,g1,sa.trans g2⟩
      | ret=>obtain ⟨k1,g1⟩:=s; exact ⟨k1,sa.trans g1⟩
      | pan _=>obtain ⟨k1,g1⟩:=s; exact ⟨k1,sa.trans g1⟩
    · rename_i hne
      obtain ⟨Γ1,w1,a1,y1,m1,l1,e1,x1,s1⟩:=ja9 hE hrec fn rnd c _ _ _ _ h Γ w a b hw hg hx hd hf hr
      refine ⟨Γ1,w1,a1,y1,m1,l1,e1,x1,fun k cs => ?_⟩
      have s:=s1 (.inLoop c::k) cs
      obtain ⟨ex,vals,dfs',st⟩:=r
      cases ex with
      | normal=>exact absurd h (hne _ _ _)
      | exit i=>obtain ⟨k1,g1,g2⟩:=s; exact ⟨k1,g1.trans jjM,g2⟩
      | ret=>exact s
      | pan _=>exact s
  | dcall f args pv σ =>
    simp only [jdC] at h
    split at h
    · rename_i fn hf
      split at h
      · rename_i body hb
        split at h
        · simp at h
        · rename_i hname
          split at h
          · simp at h
          · simp at h
          · rename_i g ex tmps dfs σ1 hne1 hne2 hex
            split at h
            · rename_i hh htk
              split at h
              · rename_i vs hvs
                simp only [Kf] at h
                subst h
                intro g' hr Γ w xs u hw hg hx hp
                simp only [Res.mk.injEq,J8,V.bool.injEq,and_true,true_and] at hr
                subst hr
                have hsz:xs.size=args.length:=hx.len.symm
                have hx0:LRel Γ (args++List.replicate (fn.ntmps - args.length) (.tup [])) (xs++Array.replicate (fn.ntmps - xs.size) undef):=by
                  rw [hsz]; exact hx.append (LRel.replicate _ (jbU Γ))
                let b:Frame:={ (default:Frame) with fn:=f,kind:=.deferred,roundOf:=none }
                obtain ⟨Γ1,w1,a1,y1,m1,l1,e1,x1,s1⟩:=jc5 hE hrec f body _ _ _ _ _ hex Γ w ⟨xs++Array.replicate (fn.ntmps - xs.size) undef,[]⟩ b u hw hg hx0 rfl rfl rfl rfl hp
                obtain ⟨ts,ds⟩:=a1
                have hent:Frame.enter E.P f xs .deferred=b.atR ⟨xs++Array.replicate (fn.ntmps - xs.size) undef,[]⟩ [.code body]:=by
                  simp [Frame.enter,Frame.atR,hf,hb,b]
                have hcf:(callFunc f xs).run E.P w=.ok (.enter f xs) w:=by
                  simp [callFunc,hf,hb,hname]
                obtain ⟨w2,m2,hs2⟩:=jeF (P:=E.P) (b:=b) (ts:=ts) dfs ds σ1 hh w1 htk m1.rel e1
                obtain ⟨y,hy,hr2⟩:=jeG (E:=E) m2.rel (jg1.res hf l1) hvs
                refine ⟨Γ1,w2,m1.trans m2,hcf,fun c cs hc => ?_⟩
                rw [hent]
                have hfin:∃ c',jfS g (c::cs)=c'::cs∧({ c' with mode:=settle c'.mode }:Frame)={ c with mode:=if g then .returning else u }:=by
                  cases g with
                  | false =>
                    refine ⟨c,rfl,?_⟩
                    rw [hc]
                    cases pv with
                    | none => have:u=.returning:=hp
                              subst this; rfl
                    | some v=>obtain ⟨y,_,rfl⟩:=hp; rfl
                  | true =>
                    refine ⟨{ c with mode:=jrf c.mode },rfl,?_⟩
                    rw [hc]
                    cases pv with
                    | none => have:u=.returning:=hp
                              subst this; rfl
                    | some v=>obtain ⟨y,_,rfl⟩:=hp; rfl
                obtain ⟨c',hc1,hc2⟩:=hfin
                have s:=s1 [] c cs hc
                rw [hc1] at s
                rw [← hc2]
                cases ex with
                | exit id=>exact (hne1 _ rfl).elim
                | pan id=>exact (hne2 _ rfl).elim
                | normal =>
                  have hlv:Frame.going E.P { b.atR ⟨ts,[]⟩ [] with mode:=.returning } w2 (.returned y):=⟨rfl,rfl,fn,hf,hy⟩
                  exact Steps.trans s (.head (stepR_end rfl) (Steps.trans (hs2 [] (c'::cs)) (.one (step_going_returned rfl hlv))))
                | ret =>
                  obtain ⟨k1,s⟩:=s
                  have hlv:Frame.going E.P { b.atR ⟨ts,[]⟩ (.code .ret::k1) with mode:=.returning } w2 (.returned y):=⟨rfl,rfl,fn,hf,hy⟩
                  exact Steps.trans s (.head (stepR_ret rfl) (Steps.trans (hs2 _ (c'::cs)) (.one (step_going_returned rfl hlv))))
              · simp at h
            · simp at h
          · simp at h
      · simp at h
    · simp at h
theorem jhZ (hE:E.Ok):∀ (n:Nat) (t:Task) (r:Res),run E n t=some r→jcA E t r
 | 0,t,r,h=>by simp [run] at h
 | n+1,t,r,h=>jlR hE (jhZ hE n) t r h
end
def Ans (rec':Task→Option Res)(L:List (Task × Res)):Prop:=∀ p∈L,rec' p.1=some p.2
theorem Ans.left {f:Task→Option Res}{A B:List (Task × Res)}(h:Ans f (A++B)):Ans f A:=fun p hp=>h p (by simp [hp])
theorem Ans.right {f:Task→Option Res}{A B:List (Task × Res)}(h:Ans f (A++B)):Ans f B:=fun p hp=>h p (by simp [hp])
theorem Ans.app {f:Task→Option Res}{A B:List (Task × Res)}(h:Ans f A)(k:Ans f B):Ans f (A++B):=fun p hp=>by
 rcases Jv.1 hp with h1 | h1
 ·exact h p h1
 ·exact k p h1
theorem Ans.nil {f:Task→Option Res}:Ans f []:=fun p hp=>by simp at hp
theorem Ans.one {f:Task→Option Res}{t:Task}{r:Res}(h:f t=some r):Ans f [(t,r)]:=fun p hp=>by simp at hp; subst hp; exact h
theorem Ans.of_one {f:Task→Option Res}{t:Task}{r:Res}(h:Ans f [(t,r)]):f t=some r:=h (t,r) (by simp)
def Uses {α:Type}(rec:Task→Option Res)(F:(Task→Option Res)→Option α)(r:α):Prop :=
 ∃ L,Ans rec L∧∀ rec',Ans rec' L→F rec'=some r
theorem Uses.const {α:Type}{rec:Task→Option Res}{F:(Task→Option Res)→Option α}{r:α}(h:∀ f,F f=some r):Uses rec F r:=⟨[],Ans.nil,fun f _=>h f⟩
theorem Uses.rec {rec:Task→Option Res}{t:Task}{r:Res}(h:rec t=some r):Uses rec (fun f=>f t) r:=⟨[(t,r)],Ans.one h,fun _ k=>k.of_one⟩
theorem Uses.and {α β γ:Type}{rec:Task→Option Res}{F:(Task→Option Res)→Option α}{G:(Task→Option Res)→Option β}{H:(Task→Option Res)→Option γ}{a:α}{b:β}{c:γ}
  (hF:Uses rec F a) (hG:Uses rec G b) (h:∀ f,F f=some a→G f=some b→H f=some c):Uses rec H c:=by
 obtain ⟨L,h1,h2⟩:=hF
 obtain ⟨M,h3,h4⟩:=hG
 exact ⟨L++M,h1.app h3,fun f hf=>h f (h2 f hf.left) (h4 f hf.right)⟩
theorem Uses.map {α β:Type}{rec:Task→Option Res}{F:(Task→Option Res)→Option α}{H:(Task→Option Res)→Option β}{a:α}{c:β}(hF:Uses rec F a)(h:∀ f,F f=some a→H f=some c):Uses rec H c:=by
 obtain ⟨L,h1,h2⟩:=hF
 exact ⟨L,h1,fun f hf=>h f (h2 f hf)⟩
section
variable {E:Env}{rec:Task→Option Res}
theorem jh0 {f:FuncId}{args:List V}{σ:S}{r:V × S}(h:jah E rec f args σ=some r):Uses rec (fun g=>jah E g f args σ) r:=by
 unfold jah at h ⊢
 cases hh:E.hook f with
 | some g=>simp only [hh] at h ⊢; exact Uses.const fun _=>h
 | none =>
  simp only [hh] at h ⊢
  by_cases hp:E.pure f=true
  ·simp only [hp,Ke] at h ⊢
   by_cases hc:(wargs args).all V.closed=true
   ·simp only [hc,Ke] at h ⊢
    cases hr:rec (.call f (wargs args) S.empty) with
    | none=>rw [hr] at h; simp at h
    | some r0=>rw [hr] at h; exact (Uses.rec hr).map fun g hg=>by rw [hg]; exact h
   ·simp [hc] at h
  ·simp only [hp,Kj,Kc] at h ⊢
   by_cases hz:E.frz f=true
   ·simp only [hz,Ke] at h ⊢
    cases hf:jgw args σ with
    | none=>rw [hf] at h; simp at h
    | some p =>
     obtain ⟨args',σ1⟩:=p
     simp only [hf] at h ⊢
     cases hr:rec (.call f args' S.empty) with
     | none=>rw [hr] at h; simp at h
     | some r0=>rw [hr] at h; exact (Uses.rec hr).map fun g hg=>by rw [hg]; exact h
   ·simp only [hz,Kj,Kc] at h ⊢
    cases hs:E.hookS f with
    | some g=>simp only [hs] at h ⊢; exact Uses.const fun _=>h
    | none =>
     simp only [hs] at h ⊢
     cases hr:rec (.call f args σ) with
     | none=>rw [hr] at h; simp at h
     | some r0=>rw [hr] at h; exact (Uses.rec hr).map fun g hg=>by rw [hg]; exact h
theorem jnw {v:V}{args:List V}{σ:S}{r:V × S}(h:jgx E rec v args σ=some r):Uses rec (fun g=>jgx E g v args σ) r:=by
 unfold jgx at h ⊢
 split at h
 ·exact jh0 h
 ·rename_i l
  cases hr:rec (.round l args σ) with
  | none=>rw [hr] at h; simp at h
  | some r0=>rw [hr] at h; exact (Uses.rec hr).map fun g hg=>by rw [hg]; exact h
 ·simp at h
theorem jeH {mutb:Bool}{tmps:List V}{σ:S}{op:Op}{r:V × S}(h:opV E rec mutb tmps σ op=some r):Uses rec (fun g=>opV E g mutb tmps σ op) r:=by
 unfold opV at h ⊢
 cases hp:ja3 E (jaU E tmps) op with
 | some v=>rw [hp] at h; exact Uses.const fun _=>h
 | none =>
  rw [hp] at h
  cases hr:ja8 E (jaU E tmps) σ op with
  | some v=>rw [hr] at h; exact Uses.const fun _=>h
  | none =>
   rw [hr] at h
   simp only at h
   split at h
   ·simp only [Ki] at h
    obtain ⟨gv,hgv,as,has,h⟩:=h
    exact (jnw h).map fun g hg=>by simp only [hgv,has,Ko,hg]
   ·simp only [Ki] at h
    obtain ⟨xv,hxv,p,hm,as,has,h⟩:=h
    exact (jh0 h).map fun g hg=>by simp only [hxv,hm,has,Ko,hg]
   ·exact Uses.const fun _=>h
theorem jfq {mutb:Bool}{ops:Array Oper}{masks:List Nat}{N:Nat}{al:List Nat}:∀ {l:List Oper} {j r0:Nat} {tmps:List V} {σ:S} {r:List (List V × V) × List S × List V × S},jgy E rec mutb ops masks N al l j r0 tmps σ=some r
  → Uses rec (fun g=>jgy E g mutb ops masks N al l j r0 tmps σ) r
 | [],j,r0,tmps,σ,r,h=>by simp only [jgy] at h ⊢; exact Uses.const fun _=>h
 | o::l,j,r0,tmps,σ,r,h=>by
  simp only [jgy] at h ⊢
  by_cases hw:Region.wanted o (jaq ops tmps)=true
  ·simp only [hw,Ke] at h ⊢
   by_cases ha:jaA o.op=true
   ·simp only [ha,Ke] at h ⊢
    cases hd:jgy E rec mutb ops masks N al l (j+1) (r0+1) (putT tmps o.dst (.ptr (N+r0) 0)) σ with
    | none=>rw [hd] at h; simp at h
    | some rd =>
     obtain ⟨a,b,c,d⟩:=rd
     simp only [hd] at h
     exact (jfq hd).map fun g h1=>by simp only [h1,h]
   ·simp only [ha,Kc,Kj] at h ⊢
    by_cases hp:jeO N al (masks.getD j 0) (jaU E tmps) o.op=true
    ·simp only [hp,Ke] at h ⊢
     cases hop:opV E rec mutb tmps σ o.op with
     | none=>rw [hop] at h; simp at h
     | some p =>
      obtain ⟨v,σ1⟩:=p
      rw [hop] at h
      simp only at h
      cases hd:jgy E rec mutb ops masks N al l (j+1) r0 (putT tmps o.dst v) σ1 with
      | none=>rw [hd] at h; simp at h
      | some rd =>
       obtain ⟨a,b,c,d⟩:=rd
       simp only [hd] at h
       exact (jeH hop).and (jfq hd) fun g h1 h2=>by simp only [h1,h2,h]
    ·rw [Kg hp] at h; simp at h
  ·simp only [hw,Kc,Kj] at h ⊢
   cases hd:jgy E rec mutb ops masks N al l (j+1) (if jaA o.op then r0+1 else r0) (putT tmps o.dst (.tup [])) σ with
   | none=>rw [hd] at h; simp at h
   | some rd =>
    obtain ⟨a,b,c,d⟩:=rd
    simp only [hd] at h
    exact (jfq hd).map fun g h1=>by simp only [h1,h]
theorem jfr {mutb:Bool}{ops:Array Oper}{N:Nat}:∀ {l:List Oper} {r0:Nat} {tmps:List V} {σ:S} {r:List (List V × V) × List V × S},jfF E rec mutb ops N l r0 tmps σ=some r
  → Uses rec (fun g=>jfF E g mutb ops N l r0 tmps σ) r
 | [],r0,tmps,σ,r,h=>by simp only [jfF] at h ⊢; exact Uses.const fun _=>h
 | o::l,r0,tmps,σ,r,h=>by
  simp only [jfF] at h ⊢
  by_cases hw:Region.wanted o (jaq ops tmps)=true
  ·simp only [hw,Ke] at h ⊢
   by_cases ha:jaA o.op=true
   ·simp only [ha,Ke] at h ⊢
    cases hd:jfF E rec mutb ops N l (r0+1) (putT tmps o.dst (.ptr (N+r0) 0)) σ with
    | none=>rw [hd] at h; simp at h
    | some rd =>
     obtain ⟨a,b,c⟩:=rd
     simp only [hd] at h
     exact (jfr hd).map fun g h1=>by simp only [h1,h]
   ·simp only [ha,Kc,Kj] at h ⊢
    cases hop:opV E rec mutb tmps σ o.op with
    | none=>rw [hop] at h; simp at h
    | some p =>
     obtain ⟨v,σ1⟩:=p
     rw [hop] at h
     simp only at h
     cases hd:jfF E rec mutb ops N l r0 (putT tmps o.dst v) σ1 with
     | none=>rw [hd] at h; simp at h
     | some rd =>
      obtain ⟨a,b,c⟩:=rd
      simp only [hd] at h
      exact (jeH hop).and (jfr hd) fun g h1 h2=>by simp only [h1,h2,h]
  ·simp only [hw,Kc,Kj] at h ⊢
   cases hd:jfF E rec mutb ops N l (if jaA o.op then r0+1 else r0) (putT tmps o.dst (.tup [])) σ with
   | none=>rw [hd] at h; simp at h
   | some rd =>
    obtain ⟨a,b,c⟩:=rd
    simp only [hd] at h
    exact (jfr hd).map fun g h1=>by simp only [h1,h]
theorem jlS {G:Nat→(Task→Option Res)→Prop}:∀ n,(∀ k,k<n→∃ L,Ans rec L∧∀ f,Ans f L→G k f)→∃ L,Ans rec L∧∀ f,Ans f L→∀ k,k<n→G k f
 | 0,_=>⟨[],Ans.nil,fun f _ k hk=>by omega⟩
 | n+1,h=>by
  obtain ⟨L,h1,h2⟩:=jlS n fun k hk=>h k (by omega)
  obtain ⟨M,h3,h4⟩:=h n (by omega)
  refine ⟨L++M,h1.app h3,fun f hf k hk => ?_⟩
  by_cases hkn:k=n
  ·rw [hkn]; exact h4 f hf.right
  ·exact h2 f hf.left k (by omega)
theorem jow {mutb:Bool}{ops:Array Oper}{masks:List Nat}{k:Nat}{σ σf:S}{tr:List (List V × V)}{St:Nat→S}(h:jmx E rec mutb ops masks k σ σf tr St):∃ L,Ans rec L∧∀ f,Ans f L→jmx E f mutb ops masks k σ σf tr St:=by
 obtain ⟨h1,h2,h3⟩:=h
 have key:∃ L,Ans rec L∧∀ f,Ans f L→∀ c,c<2 ^ ops.size→∀ i,i<ops.size→∀ o t v,ops[i]? = some o→tr[i]? = some (t,v)→jcP masks i c →
   if Region.wanted o (jaq ops t)=true then
    (jaA o.op=true→∃ n ty z,o.op=.alloc ty∧v=.ptr n 0∧(St c).heap[n]? = some .resv∧jbr E ty=some z∧St (c ||| 2 ^ i)=(St c).set n (.cells z.cells ty)) ∧
    (jaA o.op=false→opV E f mutb t (St c) o.op=some (v,St (c ||| 2 ^ i)))
   else St (c ||| 2 ^ i)=St c:=by
  refine jlS _ fun c hc=>jlS _ fun i hi => ?_
  cases ho:ops[i]? with
  | none=>exact ⟨[],Ans.nil,fun f _ o t v h=>by simp at h⟩
  | some o =>
   cases ht:tr[i]? with
   | none=>exact ⟨[],Ans.nil,fun f _ o t v _ h=>by simp at h⟩
   | some p =>
    obtain ⟨t,v⟩:=p
    by_cases hal:jcP masks i c
    case neg=>exact ⟨[],Ans.nil,fun f _ o t v _ _ h=>absurd h hal⟩
    have h4:=h3 i o t v ho ht c hc hal
    by_cases hw:Region.wanted o (jaq ops t)=true
    ·rw [Kh hw] at h4
     by_cases ha:jaA o.op=true
     ·refine ⟨[],Ans.nil,fun f _ o' t' v' e1 e2 _ => ?_⟩
      simp only [Kf,Km] at e1 e2
      obtain ⟨rfl,rfl⟩:=e2
      subst e1
      rw [Kh hw]
      exact ⟨h4.1,fun h=>by rw [ha] at h; cases h⟩
     ·obtain ⟨L,l1,l2⟩:=jeH (h4.2 (by simpa using ha))
      refine ⟨L,l1,fun f hf o' t' v' e1 e2 _ => ?_⟩
      simp only [Kf,Km] at e1 e2
      obtain ⟨rfl,rfl⟩:=e2
      subst e1
      rw [Kh hw]
      exact ⟨h4.1,fun _=>l2 f hf⟩
    ·rw [Kg hw] at h4
     refine ⟨[],Ans.nil,fun f _ o' t' v' e1 e2 _ => ?_⟩
     simp only [Kf,Km] at e1 e2
     obtain ⟨rfl,rfl⟩:=e2
     subst e1
     rw [Kg hw]; exact h4
 obtain ⟨L,l1,l2⟩:=key
 exact ⟨L,l1,fun f hf=>⟨h1,h2,fun i o t v ho ht c hc hal=>l2 f hf c hc i (Kq.1 ho).1 o t v ho ht hal⟩⟩
theorem jlT {mutb:Bool}{ops:Array Oper}{tmps:List V}{σ:S}{r:List V × S}(h:jhM E rec mutb ops tmps σ=some r):Uses rec (fun g=>jhM E g mutb ops tmps σ) r:=by
 unfold jhM at h ⊢
 by_cases hf:jpR ops (jai [] ops.toList)=true
 ·simp only [hf,Ke] at h ⊢
  cases hp:preL E ops.toList with
  | none=>rw [hp] at h; simp at h
  | some L =>
   rw [hp] at h
   simp only at h ⊢
   cases hc:jfF E rec mutb ops σ.heap.length ops.toList 0 tmps ⟨σ.heap++L,σ.toks⟩ with
   | none=>rw [hc] at h; simp at h
   | some rc =>
    obtain ⟨tr,tf,σf⟩:=rc
    rw [hc] at h
    simp only at h
    split at h
    ·rename_i hex
     obtain ⟨St,hSt⟩:=hex
     obtain ⟨A,a1,a2⟩:=jfr hc
     obtain ⟨B,b1,b2⟩:=jow hSt
     refine ⟨A++B,a1.app b1,fun g hg => ?_⟩
     have e1:=a2 g hg.left
     simp only at e1
     simp only [e1]
     rw [Kh ⟨St,b2 g hg.right⟩]; exact h
    ·simp at h
 ·simp [hf] at h
theorem jjN {mutb:Bool}{ops:Array Oper}{tmps:List V}{σ:S}{r:List V × S}(h:jdB E rec mutb ops tmps σ=some r):Uses rec (fun g=>jdB E g mutb ops tmps σ) r:=by
 unfold jdB at h ⊢
 by_cases hf:jjA E ops (jai [] ops.toList)=true
 ·simp only [hf,Ke] at h ⊢
  cases hp:preL E ops.toList with
  | none=>rw [hp] at h; simp at h
  | some L =>
   rw [hp] at h
   simp only at h ⊢
   cases hc:jgy E rec mutb ops (jai [] ops.toList) σ.heap.length (jcO 0 ops.toList) ops.toList 0 0 tmps ⟨σ.heap++L,σ.toks⟩ with
   | none=>rw [hc] at h; simp at h
   | some rc=>rw [hc] at h; exact (jfq hc).map fun g h1=>by rw [h1]; exact h
 ·simp only [hf,Kj,Kc] at h ⊢
  exact jlT h
theorem jgb {mutb:Bool}{ops:Array Oper}:∀ {l:List Oper} {tmps:List V} {σ:S} {r:List (List V × V) × List S × List V × S},dRun E rec mutb ops l tmps σ=some r→Uses rec (fun g=>dRun E g mutb ops l tmps σ) r
 | [],tmps,σ,r,h=>by simp only [dRun] at h ⊢; exact Uses.const fun _=>h
 | o::l,tmps,σ,r,h=>by
  simp only [dRun] at h ⊢
  by_cases hw:Region.wanted o (jaq ops tmps)=true
  ·simp only [hw,Ke] at h ⊢
   cases hop:opV E rec mutb tmps σ o.op with
   | none=>rw [hop] at h; simp at h
   | some p =>
    obtain ⟨v,σ1⟩:=p
    simp only [hop] at h
    cases hd:dRun E rec mutb ops l (putT tmps o.dst v) σ1 with
    | none=>rw [hd] at h; simp at h
    | some q =>
     obtain ⟨a,b,c,d⟩:=q
     simp only [hd] at h
     exact (jeH hop).and (jgb hd) fun g h1 h2=>by simp only [h1,h2,h]
  ·simp only [hw,Kj,Kc] at h ⊢
   cases hd:dRun E rec mutb ops l (putT tmps o.dst (.tup [])) σ with
   | none=>rw [hd] at h; simp at h
   | some q =>
    obtain ⟨a,b,c,d⟩:=q
    simp only [hd] at h
    exact (jgb hd).map fun g h1=>by simp only [h1,h]
theorem jnx {f:FuncId}{args:List V}{σ:S}{r:V × S}(h:jiC E rec f args σ=some r):Uses rec (fun g=>jiC E g f args σ) r:=by
 unfold jiC at h ⊢
 cases hh:E.hook f with
 | some g=>simp [hh] at h
 | none =>
  simp only [hh] at h ⊢
  by_cases hp:E.pure f=true
  ·simp [hp] at h
  ·simp only [hp,Kj,Kc] at h ⊢
   by_cases hz:E.frz f=true
   ·simp [hz] at h
   ·simp only [hz,Kj,Kc] at h ⊢
    by_cases hs:(E.hookS f).isSome=true
    ·simp [hs] at h
    ·simp only [hs,Kj,Kc] at h ⊢
     cases hr:rec (.call f args σ) with
     | none=>rw [hr] at h; simp at h
     | some r0=>rw [hr] at h; exact (Uses.rec hr).map fun g hg=>by rw [hg]; exact h
theorem jmA {tmps:List V}{σ:S}{op:Op}{r:V × S}(h:opP E rec tmps σ op=some r):Uses rec (fun g=>opP E g tmps σ op) r:=by
 unfold opP at h ⊢
 split at h
 ·exact Uses.const fun _=>h
 ·split at h
  ·rename_i f first captured as hg has
   exact jnx h
  ·simp at h
 ·simp at h
theorem je9 {mutb:Bool}{tmps:List V}{σ:S}{op:Op}{r:V × S}(h:opP E rec tmps σ op=some r):opV E rec mutb tmps σ op=none:=by
 unfold opP at h
 split at h
 ·rfl
 ·rename_i g args ats
  split at h
  ·rename_i f first captured as hg has
   unfold jiC at h
   split at h
   ·simp at h
   ·rename_i hk
    split at h
    ·simp at h
    ·rename_i hp
     split at h
     ·simp at h
     ·rename_i hz
      split at h
      ·simp at h
      ·rename_i hs
       have hs:E.hookS f=none:=by simpa using hs
       split at h
       ·rename_i v0 σ0 hr
        unfold opV
        simp only [ja3,ja8,hg,has,Ko,jgx,jah,hk,hp,hz,hs,hr,Kj,Kc]
       ·simp at h
  ·simp at h
 ·simp at h
theorem jcM {rnd:Option Nat}{mutb:Bool}{ops:Array Oper}:∀ {is:List Nat} {rc:Option (Option V)} {tmps:List V} {dfs:List DE} {σ:S} {r:XR},jdh E rec rnd mutb ops is rc tmps dfs σ=some r→Uses rec (fun g=>jdh E g rnd mutb ops is rc tmps dfs σ) r
 | [],rc,tmps,dfs,σ,r,h=>by simp only [jdh] at h ⊢; exact Uses.const fun _=>h
 | i::is,rc,tmps,dfs,σ,r,h=>by
  simp only [jdh] at h ⊢
  cases ho:ops[i]? with
  | none=>rw [ho] at h; simp at h
  | some o =>
   simp only [ho] at h ⊢
   by_cases hw:Region.wanted o (jaq ops tmps)=true
   ·simp only [hw,Ke] at h ⊢
    cases hop:opV E rec mutb tmps σ o.op with
    | some p =>
     obtain ⟨v,σ1⟩:=p
     rw [hop] at h
     exact (jeH hop).and (jcM h) fun g h1 h2=>by simp only [h1,h2]
    | none =>
     simp only [hop] at h
     cases hopp:opP E rec tmps σ o.op with
     | some p =>
      simp only [hopp] at h
      exact (jmA hopp).map fun g h1=>by simp only [je9 h1,h1]; exact h
     | none =>
      simp only [hopp] at h
      have hno:∀ g,opV E g mutb tmps σ o.op=none∧opP E g tmps σ o.op=none∨∃ c,o.op=.call c∧jf2 o.op=false∧opD E tmps o.op=none:=by
       intro g
       cases hoo:o.op
       case call c =>
        by_cases hc:jf2 (.call c)=true
        ·left
         obtain ⟨callee,args,ats⟩:=c
         cases callee <;> simp [jf2] at hc
         rename_i bi
         cases bi <;> simp at hc
         exact ⟨rfl,rfl⟩
        ·exact .inr ⟨c,rfl,by simpa using hc,rfl⟩
       case panic x =>
        left
        refine ⟨rfl,?_⟩
        rw [hoo] at hopp
        exact hopp
       all_goals first | (left; exact ⟨rfl,rfl⟩) | skip
       all_goals (left; refine ⟨?_,rfl⟩; rw [hoo] at hop; exact hop)
      cases hd:opD E tmps o.op with
      | some d =>
       cases rnd with
       | none =>
        simp only [hd] at h
        refine (jcM h).map fun g h1 => ?_
        rcases hno g with ⟨e1,e2⟩ | ⟨c,_,_,e3⟩
        ·simp only [e1,e2]; exact h1
        ·rw [hd] at e3; simp at e3
       | some l =>
        simp only [hd] at h
        cases hrv:jf2 o.op with
        | false=>rw [hrv] at h; simp at h
        | true =>
         cases rc with
         | none=>rw [hrv] at h; simp at h
         | some pv =>
          simp only [hrv] at h
          refine (jcM h).map fun g h1 => ?_
          rcases hno g with ⟨e1,e2⟩ | ⟨c,_,e3,_⟩
          ·simp only [e1,e2]; exact h1
          ·rw [hrv] at e3; simp at e3
      | none =>
       simp only [hd] at h
       cases hrv:jf2 o.op with
       | false=>rw [hrv] at h; simp at h
       | true =>
        cases rc with
        | none=>rw [hrv] at h; simp at h
        | some pv =>
         simp only [hrv] at h
         refine (jcM h).map fun g h1 => ?_
         rcases hno g with ⟨e1,e2⟩ | ⟨c,_,e3,_⟩
         ·simp only [e1,e2]; exact h1
         ·rw [hrv] at e3; simp at e3
   ·simp only [hw,Kj,Kc] at h ⊢
    exact jcM h
theorem jgJ {mutb:Bool}{ops:Array Oper}:∀ {l:List Oper} {tmps:List V} {σ:S} {r:List (List V × V) × List S × List V × S × V × S},jfM E rec mutb ops l tmps σ=some r→Uses rec (fun g=>if dRun E g mutb ops l tmps σ=none then jfM E g mutb ops l tmps σ else none) r
 | [],tmps,σ,r,h=>by simp [jfM] at h
 | o::l,tmps,σ,r,h=>by
  simp only [jfM] at h
  by_cases hw:Region.wanted o (jaq ops tmps)=true
  ·simp only [hw,Ke] at h
   cases hop:opV E rec mutb tmps σ o.op with
   | none =>
    simp only [hop] at h
    cases hopp:opP E rec tmps σ o.op with
    | none=>simp only [hopp] at h; simp at h
    | some p =>
     simp only [hopp] at h
     exact (jmA hopp).map fun g h1=>by simp only [dRun,jfM,hw,Ke,je9 h1,h1,h]
   | some p =>
    obtain ⟨v,σ1⟩:=p
    simp only [hop] at h
    cases hd:jfM E rec mutb ops l (putT tmps o.dst v) σ1 with
    | none=>rw [hd] at h; simp at h
    | some q =>
     obtain ⟨a,b,c,d,e,f⟩:=q
     simp only [hd] at h
     refine (jeH hop).and (jgJ hd) fun g h1 h2 => ?_
     split at h2
     ·rename_i h3
      simp only [dRun,jfM,hw,Ke,h1,h2,h3,h]
     ·simp at h2
  ·simp only [hw,Kj,Kc] at h
   cases hd:jfM E rec mutb ops l (putT tmps o.dst (.tup [])) σ with
   | none=>rw [hd] at h; simp at h
   | some q =>
    obtain ⟨a,b,c,d,e,f⟩:=q
    simp only [hd] at h
    refine (jgJ hd).map fun g h2 => ?_
    split at h2
    ·rename_i h3
     simp only [dRun,jfM,hw,Kj,Kc,h2,h3,h]
     rfl
    ·simp at h2
theorem jox {fn:FuncId}{mutb:Bool}{ops:Array Oper}{tmps:List V}{σ:S}{r:V × List V × S}(h:dPan E rec fn mutb ops tmps σ=some r):Uses rec (fun g=>if dRun E g mutb ops ops.toList tmps σ=none then dPan E g fn mutb ops tmps σ else none) r:=by
 unfold dPan at h
 cases hd:jfM E rec mutb ops ops.toList tmps σ with
 | none=>rw [hd] at h; simp at h
 | some q =>
  rw [hd] at h
  refine (jgJ hd).map fun g h2 => ?_
  split at h2
  ·rename_i h3
   rw [Kh h3]
   unfold dPan
   rw [h2]; exact h
  ·simp at h2
theorem ja0 {fn:FuncId}{rnd:Option Nat}:∀ (c:Code) {tmps:List V} {dfs:List DE} {σ:S} {r:Res},jaY E rec fn rnd c tmps dfs σ=some r→Uses rec (fun g=>jaY E g fn rnd c tmps dfs σ) r
 | .skip,tmps,dfs,σ,r,h=>by simp only [jaY] at h ⊢; exact Uses.const fun _=>h
 | .label _,tmps,dfs,σ,r,h=>by simp only [jaY] at h ⊢; exact Uses.const fun _=>h
 | .exit _,tmps,dfs,σ,r,h=>by simp only [jaY] at h ⊢; exact Uses.const fun _=>h
 | .ret,tmps,dfs,σ,r,h=>by simp only [jaY] at h ⊢; exact Uses.const fun _=>h
 | .scope c,tmps,dfs,σ,r,h=>by simp only [jaY] at h ⊢; exact ja0 c h
 | .goto _,tmps,dfs,σ,r,h=>by simp [jaY] at h
 | .refuse _,tmps,dfs,σ,r,h=>by simp [jaY] at h
 | .seq a b,tmps,dfs,σ,r,h=>by
  simp only [jaY] at h ⊢
  cases ha:jaY E rec fn rnd a tmps dfs σ with
  | none=>rw [ha] at h; simp at h
  | some ra =>
   obtain ⟨ex,vals,d,st⟩:=ra
   cases ex with
   | normal =>
    simp only [ha] at h
    exact (ja0 a ha).and (ja0 b h) fun g h1 h2=>by simp only [h1,h2]
   | exit i=>simp only [ha] at h; exact (ja0 a ha).map fun g h1=>by simp only [h1]; exact h
   | ret=>simp only [ha] at h; exact (ja0 a ha).map fun g h1=>by simp only [h1]; exact h
   | pan _=>simp only [ha] at h; exact (ja0 a ha).map fun g h1=>by simp only [h1]; exact h
 | .cond c a b,tmps,dfs,σ,r,h=>by
  simp only [jaY] at h ⊢
  split at h
  ·rename_i hc; exact (ja0 a h).map fun g hg=>by simp only [hg]
  ·rename_i hc; exact (ja0 b h).map fun g hg=>by simp only [hg]
  ·simp at h
 | .block id c,tmps,dfs,σ,r,h=>by
  simp only [jaY] at h ⊢
  cases hc:jaY E rec fn rnd c tmps dfs σ with
  | none=>rw [hc] at h; simp at h
  | some rc =>
   rw [hc] at h
   exact (ja0 c hc).map fun g h1=>by rw [h1]; exact h
 | .loop c,tmps,dfs,σ,r,h=>by simp only [jaY] at h ⊢; exact Uses.rec h
 | .region id ops d,tmps,dfs,σ,r,h=>by
  cases d with
  | false =>
   simp only [jaY] at h ⊢
   cases hc:jdh E rec rnd (E.mutb fn id) ops (List.range ops.size) none tmps dfs σ with
   | none=>rw [hc] at h; simp [XR.res] at h
   | some rc=>rw [hc] at h; exact (jcM hc).map fun g h1=>by rw [h1]; exact h
  | true =>
   simp only [jaY] at h ⊢
   by_cases hp:jcg E ops (jai [] ops.toList)=true
   ·simp only [hp,Ke] at h ⊢
    cases hc:dRun E rec (E.mutb fn id) ops ops.toList tmps σ with
    | none =>
     rw [hc] at h
     simp only [Kl] at h
     obtain ⟨p,hpan,h⟩:=h
     refine (jox hpan).map fun g h1 => ?_
     split at h1
     ·rename_i h3
      rw [h3]
      simp only [h1,Qh,h]
     ·simp at h1
    | some rc=>rw [hc] at h; exact (jgb hc).map fun g h1=>by rw [h1]; exact h
   ·simp only [hp,Kc,Kj] at h ⊢
    cases hc:jdB E rec (E.mutb fn id) ops tmps σ with
    | none=>rw [hc] at h; simp at h
    | some rc=>rw [hc] at h; exact (jjN hc).map fun g h1=>by rw [h1]; exact h
 | .rangeFunc f ps asg body,tmps,dfs,σ,r,h=>by
  simp only [jaY] at h ⊢
  split at h
  ·rename_i g hg
   cases g with
   | func fid first captured =>
    simp only at h
    cases hc:rec (.call fid (first++[V.yld (σ.heap.length+1)]++captured) ⟨σ.heap++[.defd true,.loop .ready none fn tmps ps asg body σ.heap.length],σ.toks⟩) with
    | none=>rw [hc] at h; simp at h
    | some rc=>rw [hc] at h; exact (Uses.rec hc).map fun g h1=>by simp only [h1]; exact h
   | _=>simp at h
  ·simp at h
theorem jea:∀ {l:List DE} {pv:Option V} {σ:S} {r:Option V × S},jcC rec pv l σ=some r→Uses rec (fun g=>jcC g pv l σ) r
 | [],pv,σ,r,h=>by simp only [jcC] at h ⊢; exact Uses.const fun _=>h
 | .mark b::l,pv,σ,r,h=>by
  simp only [jcC] at h ⊢
  split at h
  ·rename_i ho
   exact jea h
  ·simp at h
 | .call f as::l,pv,σ,r,h=>by
  simp only [jcC] at h ⊢
  cases hr:rec (.dcall f as pv σ) with
  | none=>simp only [hr] at h; simp at h
  | some r0 =>
   simp only [hr] at h
   split at h
   ·rename_i got σ1 heq
    cases heq
    exact (Uses.rec hr).and (jea h) fun g h1 h2=>by simp only [h1,h2]
   ·simp at h
theorem jh1 {fn:Func}{pv:Option V}{tmps:List V}{dfs:List DE}{σ:S}{r:Res}(h:finD E rec fn pv tmps dfs σ=some r):Uses rec (fun g=>finD E g fn pv tmps dfs σ) r:=by
 unfold finD at h ⊢
 cases hu:jcC rec pv dfs σ with
 | none=>rw [hu] at h; simp at h
 | some p=>rw [hu] at h; exact (jea hu).map fun g h1=>by rw [h1]; exact h
theorem jc6 {fn:FuncId}:∀ (c:Code) {pv:Option V} {tmps:List V} {σ:S} {r:Bool × Res},jbH E rec fn c pv tmps σ=some r→Uses rec (fun g=>jbH E g fn c pv tmps σ) r
 | .seq a b,pv,tmps,σ,r,h=>by
  simp only [jbH] at h ⊢
  cases ha:jbH E rec fn a pv tmps σ with
  | none=>rw [ha] at h; simp at h
  | some ra =>
   obtain ⟨g0,ex,vals,d,st⟩:=ra
   cases ex with
   | normal =>
    simp only [ha] at h
    cases hb:jaY E rec fn none b vals d st with
    | none=>rw [hb] at h; simp at h
    | some rb =>
     simp only [hb] at h
     exact (jc6 a ha).and (ja0 b hb) fun g h1 h2=>by simp only [h1,h2]; exact h
   | exit i=>simp only [ha] at h; exact (jc6 a ha).map fun g h1=>by simp only [h1]; exact h
   | ret=>simp only [ha] at h; exact (jc6 a ha).map fun g h1=>by simp only [h1]; exact h
   | pan _=>simp only [ha] at h; exact (jc6 a ha).map fun g h1=>by simp only [h1]; exact h
 | .block id c,pv,tmps,σ,r,h=>by
  simp only [jbH] at h ⊢
  cases hc:jbH E rec fn c pv tmps σ with
  | none=>rw [hc] at h; simp at h
  | some rc =>
   rw [hc] at h
   exact (jc6 c hc).map fun g h1=>by rw [h1]; exact h
 | .scope c,pv,tmps,σ,r,h=>by simp only [jbH] at h ⊢; exact jc6 c h
 | .region id ops d,pv,tmps,σ,r,h=>by
  cases d with
  | true=>simp [jbH] at h
  | false =>
   simp only [jbH] at h ⊢
   cases hc:jdh E rec none (E.mutb fn id) ops (List.range ops.size) (some pv) tmps [] σ with
   | none=>rw [hc] at h; simp at h
   | some rc=>rw [hc] at h; exact (jcM hc).map fun g h1=>by rw [h1]; exact h
 | .skip,pv,tmps,σ,r,h=>by simp [jbH] at h
 | .label _,pv,tmps,σ,r,h=>by simp [jbH] at h
 | .exit _,pv,tmps,σ,r,h=>by simp [jbH] at h
 | .ret,pv,tmps,σ,r,h=>by simp [jbH] at h
 | .goto _,pv,tmps,σ,r,h=>by simp [jbH] at h
 | .refuse _,pv,tmps,σ,r,h=>by simp [jbH] at h
 | .cond _ _ _,pv,tmps,σ,r,h=>by simp [jbH] at h
 | .loop _,pv,tmps,σ,r,h=>by simp [jbH] at h
 | .rangeFunc _ _ _ _,pv,tmps,σ,r,h=>by simp [jbH] at h
theorem ji1 {t:Task}{r:Res}(h:jdC E rec t=some r):Uses rec (fun g=>jdC E g t) r:=by
 cases t with
 | call f args σ =>
  simp only [jdC] at h ⊢
  cases hf:E.P.funcs[f]? with
  | none=>simp only [hf] at h; simp at h
  | some fn =>
   simp only [hf] at h ⊢
   cases hb:fn.body with
   | none=>simp only [hb] at h; simp at h
   | some body =>
    simp only [hb] at h ⊢
    by_cases hn:fn.name = "runtime.NumGoroutine"
    ·simp [hn] at h
    ·simp only [hn,Kc] at h ⊢
     cases hc:jaY E rec f none body (args++List.replicate (fn.ntmps - args.length) (.tup [])) [] σ with
     | none=>rw [hc] at h; simp at h
     | some rc =>
      obtain ⟨ex,tmps,dfs,σ'⟩:=rc
      cases ex with
      | exit i=>simp [hc] at h
      | pan v=>simp only [hc] at h; exact (ja0 body hc).and (jh1 h) fun g h1 h2=>by simp only [h1,h2]
      | normal =>
       simp only [hc] at h
       cases hd:jbS σ'.heap dfs with
       | some hp=>simp only [hd] at h; exact (ja0 body hc).map fun g h1=>by simp only [h1,hd]; exact h
       | none=>simp only [hd] at h; exact (ja0 body hc).and (jh1 h) fun g h1 h2=>by simp only [h1,hd,h2]
      | ret =>
       simp only [hc] at h
       cases hd:jbS σ'.heap dfs with
       | some hp=>simp only [hd] at h; exact (ja0 body hc).map fun g h1=>by simp only [h1,hd]; exact h
       | none=>simp only [hd] at h; exact (ja0 body hc).and (jh1 h) fun g h1 h2=>by simp only [h1,hd,h2]
 | round l args σ =>
  simp only [jdC] at h ⊢
  split at h
  ·rename_i fn tmps ps asg body d hl
   by_cases hn:args.length ≠ ps.size
   ·simp [hn] at h
   ·simp only [hn,Kc] at h
    cases hc:jaY E rec fn (some l) asg ((ps.toList.zip args).foldl (fun ts (x:Tmp × V)=>ts.set x.1 x.2) tmps) [] σ with
    | none=>simp only [hc] at h; simp at h
    | some rc =>
     simp only [hc] at h
     split at h
     ·rename_i tmps1 σ1 heq
      cases heq
      split at h
      ·rename_i fn1 tm1 ps1 as1 bo1 df1 hl1
       cases hd:jaY E rec fn (some l) body tmps1 [] (σ1.set l (.loop .busy none fn1 tm1 ps1 as1 bo1 df1)) with
       | none=>simp only [hd] at h; simp at h
       | some rd =>
        simp only [hd] at h
        exact (ja0 asg hc).and (ja0 body hd) fun g h1 h2=>by simp only [hn,Kc,h1,hl1,h2]; exact h
      ·simp at h
     ·simp at h
  ·simp at h
 | loop fn rnd c tmps dfs σ =>
  simp only [jdC] at h ⊢
  cases hc:jaY E rec fn rnd c tmps dfs σ with
  | none=>rw [hc] at h; simp at h
  | some rc =>
   obtain ⟨ex,vals,d,st⟩:=rc
   cases ex with
   | normal =>
    simp only [hc] at h
    exact (ja0 c hc).and (Uses.rec h) fun g h1 h2=>by simp only [h1,h2]
   | exit i=>simp only [hc] at h; exact (ja0 c hc).map fun g h1=>by simp only [h1]; exact h
   | ret=>simp only [hc] at h; exact (ja0 c hc).map fun g h1=>by simp only [h1]; exact h
   | pan _=>simp only [hc] at h; exact (ja0 c hc).map fun g h1=>by simp only [h1]; exact h
 | dcall f args pv σ =>
  simp only [jdC] at h ⊢
  cases hf:E.P.funcs[f]? with
  | none=>simp only [hf] at h; simp at h
  | some fn =>
   simp only [hf] at h ⊢
   cases hb:fn.body with
   | none=>simp only [hb] at h; simp at h
   | some body =>
    simp only [hb] at h ⊢
    by_cases hn:fn.name = "runtime.NumGoroutine"
    ·simp [hn] at h
    ·simp only [hn,Kc] at h ⊢
     cases hc:jbH E rec f body pv (args++List.replicate (fn.ntmps - args.length) (.tup [])) σ with
     | none=>rw [hc] at h; simp at h
     | some rc=>rw [hc] at h; exact (jc6 body hc).map fun g h1=>by rw [h1]; exact h
end
theorem jkH (E:Env):∀ (n:Nat) (t:Task) (r:Res),run E n t=some r→run E (n+1) t=some r
 | 0,t,r,h=>by simp [run] at h
 | n+1,t,r,h=>by
  obtain ⟨L,h1,h2⟩:=ji1 (E:=E) (rec:=run E n) (t:=t) h
  exact h2 (run E (n+1)) fun p hp=>jkH E n _ _ (h1 p hp)
theorem jhn (E:Env){n m:Nat}(h:n≤m){t:Task}{r:Res}(hr:run E n t=some r):run E m t=some r:=by
  induction m with
  | zero => have:n=0:=by omega
            subst this; exact hr
  | succ m ih =>
    rcases K1 n (m+1) with h1 | h1
    · exact jkH E m t r (ih (by omega))
    · have:n=m+1:=by omega
      subst this; exact hr
open Classical in
noncomputable def ev (E:Env)(t:Task):Option Res:=if h:∃ r n,run E n t=some r then some h.choose else none
theorem jr3 {E:Env}{n:Nat}{t:Task}{r:Res}(h:run E n t=some r):ev E t=some r:=by
 have hex:∃ r n,run E n t=some r:=⟨r,n,h⟩
 unfold ev
 rw [dif_pos hex]
 obtain ⟨m,hm⟩:=hex.choose_spec
 have h1:=jhn E (Nat.le_max_left n m) h
 have h2:=jhn E (Nat.le_max_right n m) hm
 rw [h1] at h2
 exact h2.symm
theorem joy {E:Env}{t:Task}{r:Res}(h:ev E t=some r):∃ n,run E n t=some r:=by
 unfold ev at h
 split at h
 ·rename_i hex
  simp at h
  obtain ⟨n,hn⟩:=hex.choose_spec
  exact ⟨n,by rw [hn,h]⟩
 ·simp at h
theorem jdS {E:Env}{t:Task}{r:Res}(h:jdC E (ev E) t=some r):ev E t=some r:=by
 obtain ⟨L,h1,h2⟩:=ji1 h
 have key:∀ L:List (Task × Res),Ans (ev E) L→∃ n,Ans (run E n) L:=by
  intro L
  induction L with
  | nil=>intro _; exact ⟨0,Ans.nil⟩
  | cons p L ih =>
   intro hL
   obtain ⟨n,hn⟩:=ih (fun q hq=>hL q (by simp [hq]))
   obtain ⟨m,hm⟩:=joy (hL p (by simp))
   refine ⟨max n m,fun q hq => ?_⟩
   rcases Jf.1 hq with rfl | hq
   ·exact jhn E (Nat.le_max_right n m) hm
   ·exact jhn E (Nat.le_max_left n m) (hn q hq)
 obtain ⟨n,hn⟩:=key L h1
 exact jr3 (n:=n+1) (h2 (run E n) hn)
theorem jmB {E:Env}(hE:E.Ok){t:Task}{r:Res}(h:ev E t=some r):jcA E t r:=by
 obtain ⟨n,hn⟩:=joy h
 exact jhZ hE n t r hn
def Ctx.top (W:World):Ctx:={ base:=W.heap.size,blk:=fun _=>none,pin:=fun b i=>W.cell? ⟨b,i,none⟩,tok:=fun _ _=>none,siz:=fun _=>none }
theorem WRel.top (W:World):WRel (Ctx.top W) S.empty W :=
  ⟨Ku _,fun _ _ _ h=>h,fun a o ho=>by simp [S.empty] at ho,fun a c hc=>by simp [Ctx.top] at hc,fun a a' c hc=>by simp [Ctx.top] at hc,
   fun k e he=>by simp [S.empty] at he,fun k e x hx=>by simp [Ctx.top] at hx,fun k k' e e' b p q he=>by simp [S.empty] at he,fun c n hc=>by simp [Ctx.top] at hc⟩
def Found (E:Env)(f:FuncId)(vs:List V):Prop:=∃ n σ',run E n (.call f vs S.empty)=some ⟨.ret,[.bool true],[],σ'⟩
theorem calls_of_found {E:Env}(hE:E.Ok){f:FuncId}{vs:List V}(h:Found E f vs){xs:Array Value}{W:World}(hx:LRel (Ctx.top W) vs xs)(hg:GOK E (Ctx.top W)) :
  Calls E.P f xs W fun e w'=>e=.returned (.bool true)∧Below W.heap.size W w':=by
 obtain ⟨n,σ',hr⟩:=h
 obtain ⟨Γ',w',y,m,hy,_,hs⟩:=(jhZ hE n _ _ hr).1 (.bool true) rfl (Ctx.top W) W xs (WRel.top W) hg hx
 obtain rfl:=hy.bool_inv
 intro cs
 obtain ⟨fr,h1,h2,h3⟩:=hs cs
 exact ⟨.returned (.bool true),w',fr,⟨rfl,m.below⟩,h1,h2,h3⟩
set_option linter.unusedVariables false
structure CRel (Γ:Ctx) (vs:List V) (cs:List Value):Prop where
 len:vs.length=cs.length
 rel:∀ i (h:i<vs.length) (h2:i<cs.length),VRel Γ vs[i] cs[i]
theorem CRel.nil (Γ:Ctx):CRel Γ [] []:=⟨rfl,fun i h=>by simp at h⟩
theorem CRel.one {Γ:Ctx}{v:V}{x:Value}(h:VRel Γ v x):CRel Γ [v] [x]:=⟨rfl,fun i h1 h2=>by
 have:i=0:=by simp at h1; omega
 subst this; exact h⟩
theorem CRel.append {Γ:Ctx}{a b:List V}{x y:List Value}(h:CRel Γ a x)(k:CRel Γ b y):CRel Γ (a++b) (x++y):=by
 refine ⟨by simp [h.len,k.len],fun i h1 h2 => ?_⟩
 have hl:=h.len
 rw [Xa,Xa]
 by_cases hi:i<a.length
 ·rw [dif_pos hi,dif_pos (by omega)]; exact h.rel i _ _
 ·rw [dif_neg hi,dif_neg (by omega)]
  have:=k.rel (i - a.length) (by simp at h1; omega) (by simp at h2; omega)
  simpa [hl] using this
theorem CRel.get {Γ:Ctx}{v:V}{x:Value}(h:CRel Γ [v] [x]):VRel Γ v x:=h.rel 0 (by simp) (by simp)
def catE {α:Type}(f:α→Option (List V))(s:Nat):List α→Option (List V)
 | []=>some []
 | d::ds=>(f d).bind fun vs=>if vs.length=s then (catE f s ds).map fun r=>vs++r else none
def catF {α:Type}(f:TypeId→α→Option (List V))(s:TypeId→Nat):Nat→List Field→List α→Option (List V)
 | _,[],[]=>some []
 | pos,fd::fs,d::ds=>if fd.offset=pos then (f fd.type d).bind fun vs=>if vs.length=s fd.type then (catF f s (pos+vs.length) fs ds).map fun r=>vs++r else none else none
 | _,_,_=>none
def DV {H:Type}(P:Program):Nat→TypeId→DataW H→Option (List V)
 | 0,_,_=>none
 | k+1,t,d =>
  match P.underlying t,d with
  | some .bool,.lit (.bool b)=>some [.bool b]
  | some (.int k),.lit (.int k' n)=>if k=k' then some [.int k n] else none
  | some .string,.lit (.string s)=>some [.str s]
  | some (.interface _),.iface _ _=>some [.any]
  | some (.pointer _),.nil=>some [.nilptr]
  | some (.pointer e),.ptr d=>(DV P k e d).bind fun vs=>if vs.length=P.cellsOf e then some [.rptr vs] else none
  | some (.slice _),.nil=>some [.nilsl]
  | some (.slice e),.slice els _=>(catE (DV P k e) (P.cellsOf e) els).map fun vs=>[.row vs els.length .unk]
  | some (.struct fs),.agg ds=>(catF (DV P k) P.cellsOf 0 fs.toList ds).bind fun vs=>if vs.length=P.cellsOf t then some vs else none
  | some (.array n e),.agg ds=>if ds.length=n then (catE (DV P k e) (P.cellsOf e) ds).bind fun vs=>if vs.length=P.cellsOf t then some vs else none else none
  | _,_=>none
section
variable {H:Type}{P:Program}{w:World}{enc:TypeId × Value→H}{sp:Nat→Bool}{held:Bool}
theorem jgc {α β:Type}{f:α→Option β}:∀ {l:List α} {r:List β},l.mapM f=some r→r.length=l.length∧∀ i (h:i<l.length) (h2:i<r.length),f l[i]=some r[i]
 | [],r,h=>by simp at h; subst h; exact ⟨rfl,fun i h=>by simp at h⟩
 | a::l,r,h=>by
  rw [J6] at h
  cases ha:f a with
  | none=>rw [ha] at h; simp at h
  | some b =>
   rw [ha] at h
   cases hl:l.mapM f with
   | none=>rw [hl] at h; simp at h
   | some r' =>
    rw [hl] at h
    simp at h
    subst h
    obtain ⟨h1,h2⟩:=jgc hl
    refine ⟨by simp [h1],fun i h3 h4 => ?_⟩
    cases i with
    | zero=>exact ha
    | succ i=>exact h2 i (by simpa using h3) (by simpa using h4)
theorem jfs {a:Addr}{n:Nat}{cs:List Value}(h:w.cells? 0 a n=some cs):cs.length=n∧∀ i (hi:i<cs.length),a.spot=none∧(Ctx.top w).pin a.block (a.off+i)=some cs[i]:=by
 unfold World.cells? at h
 rw [Kh (Jc _)] at h
 obtain ⟨h1,h2⟩:=jgc h
 refine ⟨by simpa using h1,fun i hi => ?_⟩
 have hc:=h2 i (by rw [h1] at hi; simpa using hi) hi
 simp only [Vk] at hc
 have hs:a.spot=none:=by
  have h0:=h2 0 (by rw [h1] at hi; simp at hi ⊢; omega) (by omega)
  simp only [Vk] at h0
  have:=World.cell?_spot h0
  simpa [Addr.add] using this
 refine ⟨hs,?_⟩
 rw [jaQ hs] at hc
 exact hc
theorem jmC {α:Type}{f:α→Option (List V)}{s:Nat}:∀ {ds:List α} {vs:List V},catE f s ds=some vs→∃ vss:List (List V),vss.length=ds.length∧vs=vss.flatten∧∀ i (h:i<ds.length) (h2:i<vss.length),f ds[i]=some vss[i]∧vss[i].length=s
 | [],vs,h=>by simp [catE] at h; subst h; exact ⟨[],rfl,rfl,fun i h=>by simp at h⟩
 | d::ds,vs,h=>by
  simp only [catE,Ki] at h
  obtain ⟨v,hv,h⟩:=h
  split at h
  ·rename_i hl
   simp only [Kl] at h
   obtain ⟨r,hr,rfl⟩:=h
   obtain ⟨vss,h1,rfl,h3⟩:=jmC hr
   refine ⟨v::vss,by simp [h1],by simp,fun i h4 h5 => ?_⟩
   cases i with
   | zero=>exact ⟨hv,hl⟩
   | succ i=>exact h3 i (by simpa using h4) (by simpa using h5)
  ·simp at h
theorem jeI {s:Nat}:∀ {vss:List (List V)} (hs:∀ x∈vss,x.length=s) (i:Nat) (hi:i<vss.flatten.length),0<s∧i / s<vss.length∧∃ (h1:i / s<vss.length) (h2:i % s<vss[i / s].length),vss.flatten[i]=vss[i / s][i % s]
 | [],hs,i,hi=>by simp at hi
 | x::vss,hs,i,hi=>by
  have hx:=hs x (by simp)
  simp only [X5,Kk] at hi
  by_cases h:i<x.length
  ·have hpos:0<s:=by omega
   have e1:i / s=0:=Nat.div_eq_of_lt (by omega)
   have e2:i % s=i:=Nat.mod_eq_of_lt (by omega)
   refine ⟨hpos,by rw [e1]; simp,by rw [e1]; simp,?_,?_⟩
   ·simp only [e1,Jm,e2]; exact h
   ·simp only [X5,e1,Jm,e2]
    rw [X1 h]
  ·obtain ⟨hpos,h1,h1',h2,h3⟩:=jeI (vss:=vss) (fun y hy=>hs y (by simp [hy])) (i - x.length) (by omega)
   have e1:i / s=(i - x.length) / s+1:=by
    rw [hx]
    have:i=(i - s)+s:=by omega
    conv=>lhs; rw [this]
    rw [Nat.add_div_right _ hpos]
   have e2:i % s=(i - x.length) % s:=by
    rw [hx]
    have:i=(i - s)+s:=by omega
    conv=>lhs; rw [this]
    rw [Nat.add_mod_right]
   refine ⟨hpos,by simp only [K7]; omega,by simp only [K7]; omega,?_,?_⟩
   ·simp only [e1,Jh,e2]; exact h2
   ·simp only [X5,e1,Jh,e2]
    rw [Xz (by omega)]
    exact h3
theorem jrg {a:Addr}{s n c:Nat}{vss:List (List V)}(hn:vss.length=n)(hc:n≤c)(hs:∀ x∈vss,x.length=s)
  (h:∀ i (hi:i<vss.length),∃ cs,w.cells? 0 (a.add (i * s)) s=some cs∧CRel (Ctx.top w) vss[i] cs):VRel (Ctx.top w) (.row vss.flatten n .unk) (.slice (some a) n c):=by
 have hspot:∀ i,i<vss.flatten.length→a.spot=none:=by
  intro i hi
  obtain ⟨hpos,h0,_,_,_⟩:=jeI hs i hi
  obtain ⟨cs,hcs,hr⟩:=h 0 (Nat.lt_of_le_of_lt (Jc _) h0)
  obtain ⟨hl,hp⟩:=jfs hcs
  have:=(hp 0 (by omega)).1
  simpa [Addr.add] using this
 refine .row _ _ _ _ _ (fun i=>(w.cell? ⟨a.block,a.off+i,none⟩).getD undef) (fun i hi => ?_) (fun i hi => ?_) hc
 ·obtain ⟨hpos,_,h1,h2,h3⟩:=jeI hs i hi
  obtain ⟨cs,hcs,hr⟩:=h (i / s) h1
  obtain ⟨hl,hp⟩:=jfs hcs
  have hlt:i % s<cs.length:=by rw [hl]; exact Vc _ hpos
  have:=(hp (i % s) hlt).2
  rw [jaQ (hspot i hi)] at this
  simp only at this
  have e:a.off+i / s * s+i % s=a.off+i:=by rw [Nat.mul_comm]; have:=Nat.div_add_mod i s; omega
  rw [e] at this
  refine ⟨hspot i hi,?_⟩
  have t2:w.cell? ⟨a.block,a.off+i,none⟩=some cs[i % s]:=this
  simp only [Ctx.top,t2,Kv]
 ·obtain ⟨hpos,_,h1,h2,h3⟩:=jeI hs i hi
  obtain ⟨cs,hcs,hr⟩:=h (i / s) h1
  obtain ⟨hl,hp⟩:=jfs hcs
  have hlt:i % s<cs.length:=by rw [hl]; exact Vc _ hpos
  have:=(hp (i % s) hlt).2
  rw [jaQ (hspot i hi)] at this
  simp only at this
  have e:a.off+i / s * s+i % s=a.off+i:=by rw [Nat.mul_comm]; have:=Nat.div_add_mod i s; omega
  rw [e] at this
  have t2:w.cell? ⟨a.block,a.off+i,none⟩=some cs[i % s]:=this
  simp only [h3,t2,Kv]
  exact hr.rel _ h2 hlt
theorem jmD {f:TypeId→DataW H→Option (List V)}{s:TypeId→Nat}{g:Field→Option (DataW H × List MemPlace)}{cs:List Value}:∀ {fs:List Field} {xs:List (DataW H × List MemPlace)} {pos:Nat} {vs:List V},
  fs.mapM g=some xs→catF f s pos fs (xs.map (·.1))=some vs →
  (∀ fd x us,g fd=some x→f fd.type x.1=some us→CRel (Ctx.top w) us ((cs.drop fd.offset).take (s fd.type)))→vs.length≤cs.length - pos→CRel (Ctx.top w) vs ((cs.drop pos).take vs.length)
 | [],xs,pos,vs,hm,hc,hr,hl=>by
  simp at hm; subst hm
  simp [catF] at hc; subst hc
  simpa using CRel.nil _
 | fd::fs,xs,pos,vs,hm,hc,hr,hl=>by
  rw [J6] at hm
  cases hg:g fd with
  | none=>rw [hg] at hm; simp at hm
  | some x =>
   rw [hg] at hm
   cases hm2:fs.mapM g with
   | none=>rw [hm2] at hm; simp at hm
   | some xs' =>
    rw [hm2] at hm
    simp at hm
    subst hm
    simp only [Qz,catF] at hc
    split at hc
    ·rename_i hoff
     simp only [Ki] at hc
     obtain ⟨us,hus,hc⟩:=hc
     split at hc
     ·rename_i hlen
      simp only [Kl] at hc
      obtain ⟨r,hrr,rfl⟩:=hc
      have h1:=hr fd x us hg hus
      rw [hoff,← hlen] at h1
      rw [Kk] at hl
      have h2:=jmD hm2 hrr hr (by omega)
      have h3:=h1.append h2
      have e:(cs.drop pos).take us.length++(cs.drop (pos+us.length)).take r.length=(cs.drop pos).take (us++r).length:=by
       rw [Kk,List.take_add,List.drop_drop]
      rw [e] at h3
      exact h3
     ·simp at hc
    ·simp at hc
theorem jmE {f:DataW H→Option (List V)}{s:Nat}{g:Nat→Option (DataW H × List MemPlace)}{cs:List Value}:∀ {n pos:Nat} {xs:List (DataW H × List MemPlace)} {vs:List V},
  (List.range' pos n).mapM g=some xs→catE f s (xs.map (·.1))=some vs →
  (∀ i x us,g i=some x→f x.1=some us→CRel (Ctx.top w) us ((cs.drop (i * s)).take s))→CRel (Ctx.top w) vs ((cs.drop (pos * s)).take (n * s))
 | 0,pos,xs,vs,hm,hc,hr=>by
  simp at hm; subst hm
  simp [catE] at hc; subst hc
  simpa using CRel.nil _
 | n+1,pos,xs,vs,hm,hc,hr=>by
  rw [List.range'_succ,J6] at hm
  cases hg:g pos with
  | none=>rw [hg] at hm; simp at hm
  | some x =>
   rw [hg] at hm
   cases hm2:(List.range' (pos+1) n).mapM g with
   | none=>rw [hm2] at hm; simp at hm
   | some xs' =>
    rw [hm2] at hm
    simp at hm
    subst hm
    simp only [Qz,catE,Ki] at hc
    obtain ⟨us,hus,hc⟩:=hc
    split at hc
    ·rename_i hlen
     simp only [Kl] at hc
     obtain ⟨r,hrr,rfl⟩:=hc
     have h1:=hr pos x us hg hus
     have h2:=jmE hm2 hrr hr
     have h3:=h1.append h2
     have e:(cs.drop (pos * s)).take s++(cs.drop ((pos+1) * s)).take (n * s)=(cs.drop (pos * s)).take ((n+1) * s):=by
      rw [Jg n,X4,Xq (n * s),List.take_add,List.drop_drop,Jg,X4]
     rw [e] at h3
     exact h3
    ·simp at hc
theorem jft:∀ (k fuel:Nat) (t:TypeId) (cs:List Value) (d:DataW H) (ps:List MemPlace) (vs:List V),DataW.trod enc P w 0 sp held fuel t cs=some (d,ps)→DV P k t d=some vs→CRel (Ctx.top w) vs cs
 | 0,_,_,_,_,_,_,_,h=>by simp [DV] at h
 | _+1,0,_,_,_,_,_,h,_=>by simp [DataW.trod] at h
 | k+1,fuel+1,t,cs,d,ps,vs,h,hv=>by
  simp only [DataW.trod] at h
  simp only [DV] at hv
  split at h
  ·-- bool
   rename_i b hu
   simp only [Kf,Km] at h
   obtain ⟨rfl,rfl⟩:=h
   simp only [hu,Kf] at hv
   subst hv
   exact CRel.one (.bool b)
  ·-- int
   rename_i kk k' n hu
   split at h
   ·rename_i hk
    obtain ⟨rfl,_⟩:=hk
    simp only [Kf,Km] at h
    obtain ⟨rfl,rfl⟩:=h
    simp only [hu,Ke,Kf] at hv
    subst hv
    exact CRel.one (.int _ _)
   ·simp at h
  ·rename_i hu
   split at h
   ·simp only [Kf,Km] at h
    obtain ⟨rfl,rfl⟩:=h
    simp [hu] at hv
   ·simp at h
  ·-- string
   rename_i s hu
   split at h
   ·simp only [Kf,Km] at h
    obtain ⟨rfl,rfl⟩:=h
    simp only [hu,Kf] at hv
    subst hv
    exact CRel.one (.str s)
   ·simp at h
  ·-- nil pointer
   rename_i hu
   simp only [Kf,Km] at h
   obtain ⟨rfl,rfl⟩:=h
   simp only [hu,Kf] at hv
   subst hv
   exact CRel.one .nilptr
  ·-- pointer
   rename_i e a hu
   simp only [Kl,Ki] at h
   obtain ⟨⟨d',p'⟩,⟨cells,hc,ht⟩,h⟩:=h
   simp only [Km] at h
   obtain ⟨rfl,rfl⟩:=h
   simp only [hu,Ki] at hv
   obtain ⟨us,hus,hv⟩:=hv
   split at hv
   ·rename_i hl
    simp only [Kf] at hv
    subst hv
    have hr:=jft k fuel e cells d' p' us ht hus
    obtain ⟨h1,h2⟩:=jfs hc
    refine CRel.one (.rptr us a (fun i=>cells.getD i undef) (fun i hi => ?_) (fun i hi => ?_))
    ·have hi2:i<cells.length:=by rw [← hr.len]; exact hi
     have:=h2 i hi2
     simp only [List.getD,Kw hi2,Kv]
     exact this
    ·have hi2:i<cells.length:=by rw [← hr.len]; exact hi
     simp only [List.getD,Kw hi2,Kv]
     exact hr.rel i hi hi2
   ·simp at hv
  ·-- nil slice
   rename_i hu
   simp only [Kf,Km] at h
   obtain ⟨rfl,rfl⟩:=h
   simp only [hu,Kf] at hv
   subst hv
   exact CRel.one .nilsl
  ·-- slice
   rename_i e a len cap hu
   split at h
   ·rename_i hb
    simp only [Ki,Kl] at h
    obtain ⟨elems,hel,rest,hrest,h⟩:=h
    simp only [Km] at h
    obtain ⟨rfl,rfl⟩:=h
    simp only [hu,Kl] at hv
    obtain ⟨us,hus,rfl⟩:=hv
    obtain ⟨m1,m2⟩:=jgc hel
    obtain ⟨vss,c1,rfl,c3⟩:=jmC hus
    simp only [Jn] at c1 c3
    simp only [List.length_range] at m1
    have hs:∀ x∈vss,x.length=P.cellsOf e:=by
     intro x hx
     obtain ⟨i,hi,rfl⟩:=Ju.1 hx
     exact (c3 i (by omega) hi).2
    rw [Jn,m1]
    refine CRel.one (jrg (by omega) hb.2.1 hs fun i hi => ?_)
    have h1:=m2 i (by simp; omega) (by omega)
    simp only [Vk,Ki] at h1
    obtain ⟨cells,hc,ht⟩:=h1
    have h3:=(c3 i (by omega) hi).1
    simp only [Vp] at h3
    exact ⟨cells,hc,jft k fuel e cells _ _ _ ht h3⟩
   ·simp at h
  ·-- struct
   rename_i cs _ _ fs hu
   split at h
   ·rename_i hl
    simp only [Kl] at h
    obtain ⟨xs,hxs,h⟩:=h
    simp only [Km] at h
    obtain ⟨rfl,rfl⟩:=h
    simp only [hu,Ki] at hv
    obtain ⟨us,hus,hv⟩:=hv
    split at hv
    ·rename_i hl2
     simp only [Kf] at hv
     subst hv
     have:=jmD (w:=w) (cs:=cs) hxs hus (fun fd x vs' hg hf=>jft k fuel _ _ x.1 x.2 vs' hg hf) (by omega)
     rw [hl2,← hl] at this
     simpa using this
    ·simp at hv
   ·simp at h
  ·-- array
   rename_i cs _ _ n e hu
   split at h
   ·rename_i hl
    simp only [Kl] at h
    obtain ⟨xs,hxs,h⟩:=h
    simp only [Km] at h
    obtain ⟨rfl,rfl⟩:=h
    simp only [hu,Jn] at hv
    split at hv
    ·rename_i hl2
     simp only [Ki] at hv
     obtain ⟨us,hus,hv⟩:=hv
     split at hv
     ·rename_i hl3
      simp only [Kf] at hv
      subst hv
      have hxs':=hxs
      rw [Xh] at hxs'
      have:=jmE (w:=w) (cs:=cs) hxs' hus (fun i x us hg hf=>jft k fuel _ _ x.1 x.2 us hg hf)
      simp only [Nat.zero_mul,Qq] at this
      have h1:=this.len
      rw [Qi] at h1
      rw [Ql (by omega)] at this
      exact this
     ·simp at hv
    ·simp at hv
   ·simp at h
  all_goals first
   | (simp at h; done)
   | (rename_i hu; simp only [hu] at hv; cases d <;> first | (simp at hv; done) | (simp at h; done) | (simp only [Kf] at hv; subst hv; exact CRel.one (.any _ rfl)))
end
theorem jmF {P:Program}{w:World}:∀ {l:List (String × DataW Unit)} {ps:List MemPlace} {n:String} {d:DataW Unit},DataW.LaidVars P w l ps→(n,d)∈l →
  ∃ g t cs fuel p,P.globalNamed n=some g∧(P.globals[g]?).map (·.type)=some t∧w.var? P n=some cs∧DataW.trod (fun _=>()) P w 0 (fun _=>true) false fuel t cs.toList=some (d,p)
 | [],ps,n,d,h,hm=>by simp at hm
 | (m,e)::r,ps,n,d,h,hm=>by
  obtain ⟨g,t,cs,fuel,p,q,h1,h2,h3,h4,h5,h6⟩:=h
  rcases Jf.1 hm with he | hm
  ·cases he; exact ⟨g,t,cs,fuel,p,h1,h2,h3,h4⟩
  ·exact jmF h5 hm
theorem ji2 {P:Program}{w:World}{l:List (String × DataW Unit)}{n:String}{d:DataW Unit}{g:Nat}{t:TypeId}{k:Nat}{vs:List V}(h:laidMetH P l w)(hp:(l.all fun x=>x.2.handleName?.isNone)=true)(hm:(n,d)∈l)
  (hg:P.globalNamed n=some g) (ht:(P.globals[g]?).map (·.type)=some t) (hv:DV P k t d=some vs):VRel (Ctx.top w) (.rptr vs) (.pointer (some ⟨g,0,none⟩)):=by
 rw [MakeChecks.laidMetH_plain _ _ _ hp] at h
 obtain ⟨ps,hl,_⟩:=h
 obtain ⟨g',t',cs,fuel,p,h1,h2,h3,h4⟩:=jmF hl hm
 rw [hg] at h1; cases h1
 rw [ht] at h2; cases h2
 have hr:=jft k fuel t cs.toList d p vs h4 hv
 have hl2:vs.length=cs.size:=by rw [← Qo]; exact hr.len
 refine .rptr vs ⟨g,0,none⟩ (fun i=>cs.getD i undef) (fun i hi=>⟨rfl,?_⟩) (fun i hi => ?_)
 ·have hi2:i<cs.size:=hl2 ▸ hi
  have:=World.var?_cell hg h3 i
  simp only [Qx,Ctx.top,this]
  simp [Array.getD,hi2]
 ·have hi2:i<cs.size:=hl2 ▸ hi
  have:=hr.rel i hi (by simpa using hi2)
  simp only [Array.getD,hi2,dif_pos]
  simpa using this
def TydF (f:TypeId→List V→Prop):List Field→List V→Prop
 | [],vs=>vs=[]
 | fd::fs,vs=>∃ a b,vs=a++b∧f fd.type a∧TydF f fs b
def Tyd (P:Program):Nat→TypeId→List V→Prop
 | 0,_,_=>False
 | k+1,t,vs =>
  match P.underlying t with
  | some .bool=>∃ b,vs=[.bool b]
  | some (.int kk)=>∃ n,vs=[.int kk n]∧kk.min≤n∧n≤kk.max
  | some .string=>∃ s:List UInt8,vs=[.str s]∧s.length≤maxLen
  | some (.slice e)=>vs=[.nilsl]∨∃ vss:List (List V),vs=[.row vss.flatten vss.length .unk]∧vss.length≤maxLen∧(∀ x∈vss,x.length=P.cellsOf e)∧∀ x∈vss,Tyd P k e x
  | some (.struct fs)=>TydF (Tyd P k) fs.toList vs
  | some (.array n e)=>∃ vss:List (List V),vs=vss.flatten∧vss.length=n∧∀ x∈vss,Tyd P k e x
  | _=>False
def jmG (f:TypeId→Bool)(s:TypeId→Nat):Nat→List Field→Bool
 | _,[]=>true
 | pos,fd::fs=>fd.offset == pos && f fd.type && jmG f s (pos+s fd.type) fs
def sumF (s:TypeId→Nat):List Field→Nat
 | []=>0
 | fd::fs=>s fd.type+sumF s fs
def jcR (P:Program):Nat→TypeId→Bool
 | 0,_=>false
 | k+1,t =>
  match P.underlying t with
  | some .bool=>P.cellsOf t == 1
  | some (.int _)=>P.cellsOf t == 1
  | some .string=>P.cellsOf t == 1
  | some (.slice e)=>jcR P k e && P.cellsOf t == 1
  | some (.struct fs)=>jmG (jcR P k) P.cellsOf 0 fs.toList && P.cellsOf t == sumF P.cellsOf fs.toList
  | some (.array n e)=>jcR P k e && P.cellsOf t == n * P.cellsOf e
  | _=>false
section
variable {H:Type}{P:Program}{w:World}{enc:TypeId × Value→H}{sp:Nat→Bool}{held:Bool}
theorem jlU {α:Type}{f:α→Option (List V)}{s:Nat}{Q:List V→Prop}:∀ {ds:List α},(∀ d∈ds,∃ vs,f d=some vs∧vs.length=s∧Q vs) →
  ∃ vss:List (List V),catE f s ds=some vss.flatten∧vss.length=ds.length∧(∀ x∈vss,x.length=s)∧∀ x∈vss,Q x
 | [],h=>⟨[],rfl,rfl,fun x hx=>by simp at hx,fun x hx=>by simp at hx⟩
 | d::ds,h=>by
  obtain ⟨vs,h1,h2,h3⟩:=h d (by simp)
  obtain ⟨vss,g1,g2,g3,g4⟩:=jlU (ds:=ds) (fun d hd=>h d (by simp [hd]))
  refine ⟨vs::vss,by simp [catE,h1,h2,g1],by simp [g2],fun x hx => ?_,fun x hx => ?_⟩
  ·rcases Jf.1 hx with rfl | hx
   ·exact h2
   ·exact g3 x hx
  ·rcases Jf.1 hx with rfl | hx
   ·exact h3
   ·exact g4 x hx
theorem joz {f:TypeId→DataW H→Option (List V)}{s:TypeId→Nat}{Q:TypeId→List V→Prop}{pl:TypeId→Bool}{g:Field→Option (DataW H × List MemPlace)} :
  ∀ {fs:List Field} {xs:List (DataW H × List MemPlace)} {pos:Nat},fs.mapM g=some xs→jmG pl s pos fs=true →
  (∀ fd x,pl fd.type=true→g fd=some x→∃ vs,f fd.type x.1=some vs∧vs.length=s fd.type∧Q fd.type vs) →
  ∃ vs,catF f s pos fs (xs.map (·.1))=some vs∧vs.length=sumF s fs∧TydF Q fs vs
 | [],xs,pos,hm,hp,h=>by
  simp at hm; subst hm
  exact ⟨[],rfl,rfl,rfl⟩
 | fd::fs,xs,pos,hm,hp,h=>by
  rw [J6] at hm
  simp only [jmG,K5,beq_iff_eq] at hp
  obtain ⟨⟨h1,h2⟩,h3⟩:=hp
  cases hg:g fd with
  | none=>rw [hg] at hm; simp at hm
  | some x =>
   rw [hg] at hm
   cases hm2:fs.mapM g with
   | none=>rw [hm2] at hm; simp at hm
   | some xs' =>
    rw [hm2] at hm
    simp at hm
    subst hm
    obtain ⟨vs,a1,a2,a3⟩:=h fd x h2 hg
    rw [← a2] at h3
    obtain ⟨us,b1,b2,b3⟩:=joz hm2 h3 h
    refine ⟨vs++us,?_,by simp [sumF,a2,b2],vs,us,rfl,a3,b3⟩
    simp only [Qz,catF,h1,Ke,a1,Ko,a2,Ke]
    rw [a2] at b1
    rw [b1]
    rfl
theorem jfu:∀ (k fuel:Nat) (t:TypeId) (cs:List Value) (d:DataW H) (ps:List MemPlace),jcR P k t=true→DataW.trod enc P w 0 sp held fuel t cs=some (d,ps) →
  ∃ vs,DV P k t d=some vs∧vs.length=P.cellsOf t∧Tyd P k t vs
 | 0,_,_,_,_,_,h,_=>by simp [jcR] at h
 | _+1,0,_,_,_,_,_,h=>by simp [DataW.trod] at h
 | k+1,fuel+1,t,cs,d,ps,hp,h=>by
  simp only [DataW.trod] at h
  split at h
  ·rename_i b hu
   simp only [Kf,Km] at h
   obtain ⟨rfl,rfl⟩:=h
   simp only [jcR,hu,beq_iff_eq] at hp
   exact ⟨[.bool b],by simp only [DV,hu],hp.symm,by simp only [Tyd,hu]; exact ⟨b,rfl⟩⟩
  ·rename_i kk k' n hu
   split at h
   ·rename_i hk
    obtain ⟨rfl,hwf⟩:=hk
    simp only [Kf,Km] at h
    obtain ⟨rfl,rfl⟩:=h
    simp only [jcR,hu,beq_iff_eq] at hp
    simp only [Lit.wf,K5,Qm] at hwf
    exact ⟨[.int k' n],by simp only [DV,hu,Ke],hp.symm,by simp only [Tyd,hu]; exact ⟨n,rfl,hwf.1,hwf.2⟩⟩
   ·simp at h
  ·rename_i hu
   simp [jcR,hu] at hp
  ·rename_i s hu
   split at h
   ·rename_i hs
    simp only [Kf,Km] at h
    obtain ⟨rfl,rfl⟩:=h
    simp only [jcR,hu,beq_iff_eq] at hp
    exact ⟨[.str s.data.toList],by simp only [DV,hu],hp.symm,by simp only [Tyd,hu]; exact ⟨_,rfl,by rw [Qo]; exact hs⟩⟩
   ·simp at h
  ·rename_i hu
   simp [jcR,hu] at hp
  ·rename_i e a hu
   simp [jcR,hu] at hp
  ·rename_i hu
   simp only [Kf,Km] at h
   obtain ⟨rfl,rfl⟩:=h
   simp only [jcR,hu,K5,beq_iff_eq] at hp
   exact ⟨[.nilsl],by simp only [DV,hu],hp.2.symm,by simp only [Tyd,hu]; exact .inl trivial⟩
  ·rename_i e a len cap hu
   split at h
   ·rename_i hb
    simp only [Ki,Kl] at h
    obtain ⟨elems,hel,rest,hrest,h⟩:=h
    simp only [Km] at h
    obtain ⟨rfl,rfl⟩:=h
    simp only [jcR,hu,K5,beq_iff_eq] at hp
    obtain ⟨m1,m2⟩:=jgc hel
    simp only [List.length_range] at m1
    have key:∀ d∈elems.map (·.1),∃ vs,DV P k e d=some vs∧vs.length=P.cellsOf e∧Tyd P k e vs:=by
     intro d hd
     obtain ⟨x,hx,rfl⟩:=Xr.1 hd
     obtain ⟨i,hi,rfl⟩:=Ju.1 hx
     have h1:=m2 i (by simp; omega) hi
     simp only [Vk,Ki] at h1
     obtain ⟨cells,hc,ht⟩:=h1
     exact jfu k fuel e cells _ _ hp.1 ht
    obtain ⟨vss,c1,c2,c3,c4⟩:=jlU key
    refine ⟨[.row vss.flatten vss.length .unk],?_,hp.2.symm,?_⟩
    ·simp only [DV,hu,c1,Qh,c2]
    ·simp only [Tyd,hu]
     refine .inr ⟨vss,rfl,?_,c3,c4⟩
     rw [c2,Jn,m1]
     omega
   ·simp at h
  ·rename_i cs _ _ fs hu
   split at h
   ·rename_i hl
    simp only [Kl] at h
    obtain ⟨xs,hxs,h⟩:=h
    simp only [Km] at h
    obtain ⟨rfl,rfl⟩:=h
    simp only [jcR,hu,K5,beq_iff_eq] at hp
    obtain ⟨vs,c1,c2,c3⟩:=joz (Q:=Tyd P k) (f:=DV P k) hxs hp.1 (fun fd x hpl hg=>jfu k fuel fd.type _ x.1 x.2 hpl hg)
    refine ⟨vs,?_,by rw [c2,hp.2],by simp only [Tyd,hu]; exact c3⟩
    simp only [DV,hu,c1,Ko]
    rw [Kh (by rw [c2,hp.2])]
   ·simp at h
  ·rename_i cs _ _ n e hu
   split at h
   ·rename_i hl
    simp only [Kl] at h
    obtain ⟨xs,hxs,h⟩:=h
    simp only [Km] at h
    obtain ⟨rfl,rfl⟩:=h
    simp only [jcR,hu,K5,beq_iff_eq] at hp
    obtain ⟨m1,m2⟩:=jgc hxs
    simp only [List.length_range] at m1
    have key:∀ d∈xs.map (·.1),∃ vs,DV P k e d=some vs∧vs.length=P.cellsOf e∧Tyd P k e vs:=by
     intro d hd
     obtain ⟨x,hx,rfl⟩:=Xr.1 hd
     obtain ⟨i,hi,rfl⟩:=Ju.1 hx
     have h1:=m2 i (by simp; omega) hi
     exact jfu k fuel e _ _ _ hp.1 h1
    obtain ⟨vss,c1,c2,c3,c4⟩:=jlU key
    rw [Jn,m1] at c2
    have hlen:vss.flatten.length=n * P.cellsOf e:=by
     rw [List.length_flatten]
     have:vss.map List.length=List.replicate vss.length (P.cellsOf e):=List.eq_replicate_iff.2 ⟨by simp,fun b hb=>by
      obtain ⟨x,hx,rfl⟩:=Xr.1 hb
      exact c3 x hx⟩
     rw [this,List.sum_replicate_nat,c2]
    refine ⟨vss.flatten,?_,by rw [hlen,hp.2],by simp only [Tyd,hu]; exact ⟨vss,rfl,c2,c4⟩⟩
    simp only [DV,hu,Jn,m1,Ke,c1,Ko]
    rw [Kh (by rw [hlen,hp.2])]
   ·simp at h
  all_goals first
   | (simp at h; done)
   | (rename_i hu; simp [jcR,hu] at hp; done)
   | (rename_i hu _; simp [jcR,hu] at hp; done)
theorem joA {k fuel:Nat}{t:TypeId}{x:Value}{d:DataW H}{ps:List MemPlace}(hp:jcR P k t=true)(h:DataW.trod enc P w 0 sp held fuel t x.cells.toList=some (d,ps)) :
  ∃ vs,Tyd P k t vs∧CRel (Ctx.top w) vs x.cells.toList:=by
 obtain ⟨vs,h1,_,h3⟩:=jfu k fuel t _ d ps hp h
 exact ⟨vs,h3,jft k fuel t _ d ps vs h h1⟩
end
theorem joB {P:Program}{k:Nat}{t:TypeId}{vs:List V}{kk:IntKind}(h:Tyd P (k+1) t vs)(hu:P.underlying t=some (.int kk)):∃ n,vs=[.int kk n]∧kk.min≤n∧n≤kk.max:=by
 simp only [Tyd,hu] at h; exact h
theorem joC {P:Program}{k:Nat}{t e:TypeId}{vs:List V}(h:Tyd P (k+1) t vs)(hu:P.underlying t=some (.slice e)) :
  vs=[.nilsl]∨∃ vss:List (List V),vs=[.row vss.flatten vss.length .unk]∧vss.length≤maxLen∧(∀ x∈vss,x.length=P.cellsOf e)∧∀ x∈vss,Tyd P k e x:=by
 simp only [Tyd,hu] at h; exact h
theorem joD {α:Type}{P:Program}{k:Nat}{e:TypeId}{f:α→List V}(hs:∀ x,Tyd P k e x→∃ a,x=f a):∀ {vss:List (List V)},(∀ x∈vss,Tyd P k e x)→∃ as:List α,vss=as.map f
 | [],h=>⟨[],rfl⟩
 | x::vss,h=>by
  obtain ⟨a,rfl⟩:=hs x (h x (by simp))
  obtain ⟨as,rfl⟩:=joD hs (vss:=vss) (fun y hy=>h y (by simp [hy]))
  exact ⟨a::as,rfl⟩
theorem jpZ {Γ:Ctx}{v:V}{x:Value}(h:CRel Γ [v] x.cells.toList)(hx:x.cells = #[x]):VRel Γ v x:=by
 rw [hx] at h
 exact h.get
section
variable {H:Type}{P:Program}{w:World}{enc:TypeId × Value→H}{sp:Nat→Bool}{held:Bool}
theorem arg_cell {k:Nat}{t:TypeId}{x:Value}{d:DataW H}{ps:List MemPlace}(hp:jcR P k t=true)(h:DataW.Trod enc P w 0 sp held t x d ps)(hx:x.cells = #[x]):∃ u,Tyd P k t [u]∧VRel (Ctx.top w) u x:=by
 obtain ⟨fuel,h⟩:=h
 obtain ⟨us,h1,h2⟩:=joA hp h
 have hl:=h2.len
 rw [hx] at hl
 match us,hl with
 | [u],_=>exact ⟨u,h1,jpZ h2 hx⟩
end
end Go.Ab
