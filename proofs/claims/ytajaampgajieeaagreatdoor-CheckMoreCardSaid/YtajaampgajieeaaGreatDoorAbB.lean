/- Proved here: that its other operations, its calls and its drawn regions are sound. Conditions: those of each theorem; no statement of the seat is proved in this text. -/
import Derived.Test.YtajaampgajieeaaGreatDoorAbA
import Derived.Laws.LoneSync
import Derived.AtR
import Derived.Recover
set_option linter.unusedSimpArgs false
namespace Go.Ab
open Go.RowKit (Below)
section
variable {Γ:Ctx}{σ:S}{w:World}
theorem jkl {v:V}{x:Value}{m:Nat}(hx:VRel Γ v x)(h:vLen v=some m){P:Program}:(Builtin.lenOf x).run P w=.ok m w:=by
 cases hx <;> simp only [vLen,Kf,reduceCtorEq] at h <;> subst h <;> simp [Builtin.lenOf]
theorem ja6 (h:WRel Γ σ w){s n:Nat}{v:V}{x:Value}{cs:List V}(hx:VRel Γ v x)(hc:ja5 σ.heap s n v=some cs){P:Program} :
  ∃ ys,(Builtin.firstCells s n x).run P w=.ok ys w∧LRel Γ cs ys:=by
 unfold ja5 at hc
 split at hc
 ·rename_i cells len cap
  split at hc
  ·rename_i hn
   simp at hc; subst hc
   obtain ⟨a,c,rfl,_⟩:=hx.row_inv
   cases hx with
   | row _ _ _ _ _ xs hp hr hcap =>
    have hl:jag σ.heap (n * s) (.rptr cells)=some (cells.take (n * s)):=by simp [jag,hn.2]
    obtain ⟨a',xs',e,h1,h2,_⟩:=jcQ h (.rptr cells a xs hp hr) hl (P:=P)
    cases e
    exact ⟨xs',by simp [Builtin.firstCells,h1],h2⟩
  ·simp at hc
 ·rename_i b off len cap ex
  split at hc
  ·rename_i cs0 t hb
   split at hc
   ·rename_i hn
    simp at hc; subst hc
    cases hx with
    | hsl _ _ _ _ _ c c' hblk hcap =>
     have hl:jag σ.heap (n * s) (.ptr b off)=some ((cs0.drop off).take (n * s)):=by simp [jag,hb,hn.2]
     obtain ⟨a',xs',e,h1,h2,_⟩:=jcQ h (.ptr b off c hblk) hl (P:=P)
     cases e
     exact ⟨xs',by simp [Builtin.firstCells,h1],h2⟩
   ·simp at hc
  ·rename_i cs0 t hb
   split at hc
   ·rename_i hn
    simp at hc; subst hc
    cases hx with
    | hsl _ _ _ _ _ c c' hblk hcap =>
     have hl:jag σ.heap (n * s) (.ptr b off)=some ((cs0.drop off).take (n * s)):=by simp [jag,hb,hn.2]
     obtain ⟨a',xs',e,h1,h2,_⟩:=jcQ h (.ptr b off c hblk) hl (P:=P)
     cases e
     exact ⟨xs',by simp [Builtin.firstCells,h1],h2⟩
   ·simp at hc
  ·simp at hc
 ·split at hc
  ·rename_i hn
   simp at hc; subst hc; subst hn
   cases hx
   exact ⟨#[],by simp [Builtin.firstCells],LRel.nil Γ⟩
  ·simp at hc
 ·rename_i b
  split at hc
  ·rename_i hn
   simp only [Kf] at hc; subst hc
   obtain ⟨x1,rfl,h1⟩:=hx.str_inv
   refine ⟨(x1.extract 0 n).data.map fun b=>Value.int .u8 b.toNat,rfl,?_⟩
   have e:((x1.extract 0 n).data.map fun b=>Value.int .u8 b.toNat)=((b.take n).map fun b=>Value.int .u8 b.toNat).toArray:=by
    apply Array.toList_inj.1
    rw [Array.toList_map,Lib.extract_data,h1]; simp
   rw [e]
   refine LRel.mkList (by simp) (fun i a b => ?_)
   simp only [Vp]
   exact .int _ _
  ·simp at hc
 ·simp at hc
theorem jhj {new:List V}{ys:Array Value}(h:LRel Γ new ys)(ha:new.all V.isCell=true):∀ v∈ys.toList,v.oneCell'=true:=by
 intro v hv
 obtain ⟨i,hi,rfl⟩:=Xb hv
 have h2:i<new.length:=by rw [h.len]; simpa using hi
 have hr:=h.rel i h2 (by simpa using hi)
 have:=hr.isCell
 simp at this ⊢
 rw [this]
 exact Kz.1 ha _ (Jo h2)
theorem jei (h:WRel Γ σ w){new:List V}{p:V}{x:Value}{ys:Array Value}{σ':S}(hp:VRel Γ p x)(hn:LRel Γ new ys)(hc:jbd σ new p=some σ'){P:Program} :
  ∃ a w',x=.pointer (some a)∧(storeCells a ys.toList).run P w=.ok () w'∧Moved Γ Γ σ' w w':=by
 unfold jbd at hc
 split at hc
 ·rename_i b off
  split at hc
  ·rename_i cs t hb
   split at hc
   ·rename_i hcond
    simp at hc; subst hc
    cases hp with
    | ptr _ _ c hblk =>
     obtain ⟨ob,h1,h2,h3,h4⟩:=h.at hblk hb
     cases ob <;> simp only [ORel] at h2
     rename_i xs t' fr
     obtain ⟨rfl,rfl,hl,hr⟩:=h2
     have hlen:=hn.len
     have hrun:=run_storeCells_at (P:=P) c off t ys.toList 0 xs w h1 (by simp; omega) (jhj hn hcond.2)
     simp only [Xp] at hrun
     refine ⟨_,_,rfl,hrun,h.upd (Upd.setRow h1) hblk hb rfl ?_ (fun _ xs' t' f' e=>by rw [h1] at e; cases e; exact ⟨_,_,_,rfl,by simp; omega⟩)⟩
     simp only [ORel,jaa]
     refine ⟨trivial,trivial,by simp; omega,fun i a b => ?_⟩
     simp only [Xa,Kk,Qi,Qo,Jt]
     simp only [Kk,Qi,Ja] at a
     have m1:min off cs.length=off:=by omega
     have m2:min off xs.size=off:=by omega
     by_cases k1:i<off
     ·rw [dif_pos (by omega),dif_pos (by omega),dif_pos (by omega),dif_pos (by omega)]
      simpa using hr i (by omega) (by omega)
     ·by_cases k2:i<off+new.length
      ·rw [dif_pos (by omega),dif_neg (by omega),dif_pos (by omega),dif_neg (by omega)]
       have:=hn.rel (i - off) (by omega) (by omega)
       simpa [m1,m2] using this
      ·rw [dif_neg (by omega),dif_neg (by omega)]
       have:=hr (off+new.length+(i - (off+new.length))) (by omega) (by omega)
       simpa [m1,m2,← hlen,Xx] using this
   ·simp at hc
  ·simp at hc
 ·simp at hc
theorem jjH (h:WRel Γ σ w){new:List V}{b off c n:Nat}{ys:Array Value}{σ':S}(hblk:Γ.blk b=some c){n':Nat}(hz:Γ.siz c=some n')(hnn:n≤n')(hn:LRel Γ new ys)(hc:jhI σ new b off n=some σ'){P:Program} :
  ∃ w',(storeCells ⟨c,off,none⟩ ys.toList).run P w=.ok () w'∧Moved Γ Γ σ' w w':=by
 unfold jhI at hc
 split at hc
 ·rename_i cs t hb
  split at hc
  ·rename_i hcond
   obtain ⟨c1,c2,c3⟩:=hcond
   simp only [Kf] at hc; subst hc
   obtain ⟨ob,h1,h2,h3,h4⟩:=h.at hblk hb
   obtain ⟨zs,zt,zf,hz1,hz2⟩:=h.sizes c n' hz
   cases ob <;> simp only [ORel] at h2
   rename_i xs t' fr
   obtain ⟨rfl,rfl,hl,hr⟩:=h2
   rw [h1] at hz1
   simp only [Kf,Obj.cells.injEq] at hz1
   have hsz:xs.size=n':=by rw [hz1.1]; exact hz2
   have hlen:=hn.len
   have hrun:=run_storeCells_at (P:=P) c off t ys.toList 0 xs w h1 (by simp; omega) (jhj hn c3)
   simp only [Xp] at hrun
   refine ⟨_,hrun,h.upd (Upd.setRow h1) hblk hb rfl ?_ (fun _ xs' t' f' e=>by rw [h1] at e; cases e; exact ⟨_,_,_,rfl,by simp; omega⟩)⟩
   simp only [ORel]
   refine ⟨trivial,trivial,by simp; omega,fun i a b => ?_⟩
   simp only [Xa,Kk,Qi,Qo,Jt]
   simp only [Kk,Qi,Ja] at a
   have m1:min off cs.length=off:=by omega
   have m2:min off xs.size=off:=by omega
   by_cases k1:i<off
   ·rw [dif_pos (by omega),dif_pos (by omega),dif_pos (by omega),dif_pos (by omega)]
    simpa using hr i (by omega) (by omega)
   ·by_cases k2:i<off+new.length
    ·rw [dif_pos (by omega),dif_neg (by omega),dif_pos (by omega),dif_neg (by omega)]
     have:=hn.rel (i - off) (by omega) (by omega)
     simpa [m1,m2] using this
    ·rw [dif_neg (by omega),dif_neg (by omega)]
     have:=hr (off+new.length+(i - (off+new.length))) (by omega) (by omega)
     simpa [m1,m2,← hlen,Xx] using this
  ·simp at hc
 ·simp at hc
theorem jdj {E:Env}{t:TypeId}{z:V}(h:jbr E t=some z):∃ zv,(zeroValue t).run E.P w=.ok zv w∧VRel Γ z zv:=by
 unfold jbr at h
 cases hi:(E.P.info? t).bind (·.zero) with
 | none=>simp [hi] at h
 | some zv =>
  rw [hi] at h
  refine ⟨zv,?_,jf4 h⟩
  cases hj:E.P.info? t with
  | none=>simp [hj] at hi
  | some i=>rw [hj] at hi; simp at hi; simp [zeroValue,typeInfo,hj,hi]
theorem jcz {α:Type}(l:List α):∀ (c i:Nat),i<c * l.length→((List.replicate c l).flatten)[i]? = l[i % l.length]?
 | 0,i,h=>by simp at h
 | c+1,i,h=>by
  rw [List.replicate_succ,X5,Xy]
  split
  ·rw [Nat.mod_eq_of_lt ‹_›]
  ·rename_i hge
   rw [jcz l c (i - l.length) (by rw [Jg,X4] at h; omega)]
   rw [← Nat.mod_eq_sub_mod (by omega)]
theorem jhS {z:V}{zv:Value}(hz:VRel Γ z zv)(c n:Nat)(hn:n=c * z.cells.length) :
  LRel Γ (List.replicate c z.cells).flatten ((Array.range n).map (zv.cells[· % zv.cells.size]!)):=by
 have hl:=hz.cells.len
 have hlen:(List.replicate c z.cells).flatten.length=n:=by simp [hn]
 refine ⟨by simp [hlen],fun i a b => ?_⟩
 have hpos:0<z.cells.length:=by
  rcases Nat.eq_zero_or_pos z.cells.length with h0 | h0
  ·rw [h0] at hn; omega
  ·exact h0
 have hm:i % z.cells.length<z.cells.length:=Vc _ hpos
 have e1:((List.replicate c z.cells).flatten)[i]=z.cells[i % z.cells.length]:=by
  have:=jcz z.cells c i (by omega)
  rw [Kw a,Kw hm] at this
  simpa using this
 have e2:((Array.range n).map (zv.cells[· % zv.cells.size]!))[i]=zv.cells[i % z.cells.length]:=by
  simp only [Array.getElem_map,Array.getElem_range,← hl]
  exact getElem!_pos _ _ _
 rw [e1,e2]
 exact hz.cells.rel _ _ _
end
theorem jkm (n:Nat):∀ (r c:Nat),Builtin.growBy n r c≤max c (n+(n+768) / 4)
 | 0,c=>by simp [Builtin.growBy]; omega
 | r+1,c=>by
  unfold Builtin.growBy
  split
  ·omega
  ·have:=jkm n r (c+(c+768) / 4)
   omega
theorem je0 {n c:Nat}(h:c<n):Builtin.nextslicecap n c≤2 * n+192:=by
 unfold Builtin.nextslicecap
 split
 ·omega
 ·split
  ·omega
  ·have:=jkm n 4 c
   omega
section
variable {Γ:Ctx}{σ:S}{w:World}
theorem jlB {P:Program}{t t2 e:TypeId}{d:TypeDesc}{s len cap m:Nat}{base:Option Addr}{y:Value}{ats:Array TypeId}{ty:TypeId}{ys:Array Value}{w':World}
  (h1:ats[0]? = some t) (hu:P.underlying t=some (.slice e)) (hs:(P.info? e).map (·.size)=some s) (h2:ats[1]? = some t2) (hu2:P.underlying t2=some d) (hd:∀ k,d ≠ .int k)
  (hm:(Builtin.lenOf y).run P w=.ok m w) (hys:(Builtin.firstCells s m y).run P w=.ok ys w) (hfit:len+m≤cap)
  (hst:∀ a,base=some a→(storeCells (a.add (len * s)) ys.toList).run P w=.ok () w') (hnil:base=none→w'=w) :
  (Builtin.append_ ats ty #[.slice base len cap,y]).run P w=.ok (.slice base (len+m) cap) w':=by
 simp only [Builtin.append_,h1,J1,Qw,K9,Sem.run_bind,jab hu,Result.andThen_ok,jaB hs,h2,jab hu2,Sem.run_pure,Kj,Kc,hm,Kh hfit,Ji,Ke,hys]
 cases base with
 | none=>simp [hnil rfl]
 | some a=>simp [hst a rfl]
theorem jkn {P:Program}{t t2 e:TypeId}{d:TypeDesc}{s len cap m by' zn:Nat}{base:Option Addr}{y:Value}{ats:Array TypeId}{ty:TypeId}{old ys:Array Value}{zv:Value}
  (h1:ats[0]? = some t) (hu:P.underlying t=some (.slice e)) (hs:(P.info? e).map (·.size)=some s) (h2:ats[1]? = some t2) (hu2:P.underlying t2=some d) (hd:∀ k,d ≠ .int k)
  (hb:(P.info? e).map (·.bytes)=some by')
  (hm:(Builtin.lenOf y).run P w=.ok m w) (hys:(Builtin.firstCells s m y).run P { w with drawn:=w.drawn+1 }=.ok ys { w with drawn:=w.drawn+1 })
  (hold:(Builtin.firstCells s len (.slice base len cap)).run P { w with drawn:=w.drawn+1 }=.ok old { w with drawn:=w.drawn+1 })
  (hz:∀ w1:World,(zeroValue e).run P w1=.ok zv w1) (hzn:zv.cells.size=zn)
  (hgrow:¬ len+m≤cap) (hl1:len+m≤lim) (hl2:(len+m) * by'≤lim) :
  ∃ cap',len+m≤cap'∧cap'≤maxLen∧∃ rest:Array Value,rest.size=(cap' - (len+m)) * zn ∧
   (Builtin.append_ ats ty #[.slice base len cap,y]).run P w=.ok (.slice (some ⟨w.heap.size,0,none⟩) (len+m) cap')
    { w with drawn:=w.drawn+1,heap:=w.heap.push (.cells (old++ys++rest) e (0,0)) }:=by
 have hinfo:∃ i,P.info? e=some i∧i.bytes=by':=by
  cases hi:P.info? e with
  | none=>simp [hi] at hb
  | some i=>rw [hi] at hb; simp at hb; exact ⟨i,rfl,hb⟩
 obtain ⟨i,hi,hby⟩:=hinfo
 have hti:∀ w1:World,(typeInfo e).run P w1=.ok i w1:=fun w1=>by simp [typeInfo,hi]
 have hn1:¬ ((((len+m:Nat):Int) > IntKind.i64.max)∧(false=true∨i.bytes=0)):=by
  have e:IntKind.i64.max=9223372036854775807:=by decide
  rw [e]; unfold lim at hl1; omega
 have hn2:¬ (Builtin.nextslicecap (len+m) cap * i.bytes > 2 ^ 48):=by
  have hle:=je0 (n:=len+m) (c:=cap) (by omega)
  have hpos:1≤len+m:=by omega
  have hb2:by'≤lim:=by
   have:1 * by'≤(len+m) * by':=Qk _ hpos
   omega
  have h3:Builtin.nextslicecap (len+m) cap * by'≤(2 * (len+m)+192) * by':=Qk _ hle
  have h4:(2 * (len+m)+192) * by'=2 * ((len+m) * by')+192 * by':=by rw [Jg,Nat.mul_assoc]
  rw [hby]
  unfold lim at hl2 hb2
  omega
 let q:Question:=.appendCap (len+m) cap e
 let cap':=q.cut (w.tape w.drawn q)
 have hcap:len+m≤cap':=by show len+m≤(len+m)+_; omega
 have hcap2:cap'≤maxLen:=by
  have hlt:=Vc (w.tape w.drawn q) (show 0<2 ^ 63 - (len+m) by unfold lim at hl1; omega)
  unfold lim at hl1
  simp only [cap',q,Question.cut,maxLen] at hlt ⊢
  omega
 refine ⟨cap',hcap,hcap2,Builtin.zeroCells zv.cells (cap' - (len+m)),by simp [Builtin.zeroCells,hzn],?_⟩
 have hf:q.forced=false:=rfl
 have hch:(choose q).run P w=.ok cap' { w with drawn:=w.drawn+1 }:=by
  rw [run_choose,hf]; rfl
 simp only [Builtin.append_,h1,J1,Qw,K9,Sem.run_bind,jab hu,Result.andThen_ok,jaB hs,h2,jab hu2,Sem.run_pure,Kj,Kc,hm,Kg hgrow,Ji,Ke,hti]
 have hn1':¬ ((((len+m:Nat):Int) > IntKind.i64.max)∧(False∨i.bytes=0)):=by simpa using hn1
 rw [Kg hn1']
 simp only [Sem.run_bind,hti,Result.andThen_ok]
 rw [Kg hn2]
 have hch':(choose (Question.appendCap (len+m) cap e)).run P w=.ok cap' { w with drawn:=w.drawn+1 }:=hch
 simp only [Sem.run_bind,hch',hti,Result.andThen_ok,run_askRoom,hold,hys,hz,newRow,run_newObj,Sem.run_pure]
theorem jko {P:Program}{t t2 e:TypeId}{kk kk2:IntKind}{s by' n:Nat}{ats:Array TypeId}{ty:TypeId}{zv:Value}
  (h1:ats[0]? = some t) (hu:P.underlying t=some (.slice e)) (hs:(P.info? e).map (·.size)=some s) (h2:ats[1]? = some t2) (hu2:P.underlying t2=some (.int kk))
  (hb:(P.info? e).map (·.bytes)=some by') (hz:∀ w1:World,(zeroValue e).run P w1=.ok zv w1) (hzn:zv.cells.size=s) (hs0:0<s) (hn0:0<n) (hl1:n≤lim) (hl2:n * by'≤lim) :
  ∃ cap',n≤cap'∧cap'≤maxLen∧∃ rest:Array Value,rest.size=(cap' - n) * s ∧
   (Builtin.append_ ats ty #[.slice none 0 0,.int kk2 n]).run P w=.ok (.slice (some ⟨w.heap.size,0,none⟩) n cap')
    { w with drawn:=w.drawn+1,heap:=w.heap.push (.cells (Builtin.zeroCells zv.cells n++rest) e (0,0)) }:=by
 have hinfo:∃ i,P.info? e=some i∧i.bytes=by':=by
  cases hi:P.info? e with
  | none=>simp [hi] at hb
  | some i=>rw [hi] at hb; simp at hb; exact ⟨i,rfl,hb⟩
 obtain ⟨i,hi,hby⟩:=hinfo
 have hti:∀ w1:World,(typeInfo e).run P w1=.ok i w1:=fun w1=>by simp [typeInfo,hi]
 have hn2:¬ (Builtin.nextslicecap n 0 * i.bytes > 2 ^ 48):=by
  have hle:=je0 (n:=n) (c:=0) (by omega)
  have hb2:by'≤lim:=by
   have:1 * by'≤n * by':=Qk _ hn0
   omega
  have h3:Builtin.nextslicecap n 0 * by'≤(2 * n+192) * by':=Qk _ hle
  have h4:(2 * n+192) * by'=2 * (n * by')+192 * by':=by rw [Jg,Nat.mul_assoc]
  rw [hby]
  unfold lim at hl2 hb2
  omega
 let q:Question:=.appendCap n 0 e
 let cap':=q.cut (w.tape w.drawn q)
 have hcap:n≤cap':=by show n≤n+_; omega
 have hcap2:cap'≤maxLen:=by
  have hlt:=Vc (w.tape w.drawn q) (show 0<2 ^ 63 - n by unfold lim at hl1; omega)
  unfold lim at hl1
  simp only [cap',q,Question.cut,maxLen] at hlt ⊢
  omega
 refine ⟨cap',hcap,hcap2,Builtin.zeroCells zv.cells (cap' - n),by simp [Builtin.zeroCells,hzn],?_⟩
 have hch:(choose q).run P w=.ok cap' { w with drawn:=w.drawn+1 }:=by
  rw [run_choose,show q.forced=false from rfl]; rfl
 have hch':(choose (Question.appendCap n 0 e)).run P w=.ok cap' { w with drawn:=w.drawn+1 }:=hch
 have hwr:IntKind.i64.wrap (n:Int)=(n:Int):=by rw [IntKind.wrap_i64]; unfold lim at hl1; omega
 have c1:¬ ((n:Int)<0):=by omega
 have c2:¬ ((n:Int) * (i.bytes:Int) > 2 ^ 48):=by
  rw [hby]
  have:(n:Int) * (by':Int)=((n * by':Nat):Int):=by simp
  rw [this]
  unfold lim at hl2
  omega
 have c3:¬ (0+n≤0):=by omega
 have c4:¬ ((((0+n:Nat):Int) > IntKind.i64.max)∧(true=true∨i.bytes=0)):=by
  have e:IntKind.i64.max=9223372036854775807:=by decide
  rw [e]; unfold lim at hl1; omega
 have c5:¬ (n * s=0):=by
  have:=Nat.mul_pos hn0 hs0
  omega
 simp only [Builtin.append_,h1,J1,Qw,K9,Sem.run_bind,jab hu,Result.andThen_ok,jaB hs,h2,jab hu2,Sem.run_pure,Ke,asInt,asIntOf,hwr]
 rw [Kg c1]
 simp only [Sem.run_bind,hti,Result.andThen_ok]
 rw [Kg c2]
 simp only [Sem.run_bind,Sem.run_pure,Result.andThen_ok,Qf]
 rw [Kg c3]
 simp only [Sem.run_bind,hti,Result.andThen_ok]
 have c4':¬ ((((0+n:Nat):Int) > IntKind.i64.max)∧(True∨i.bytes=0)):=by simpa using c4
 rw [Kg c4']
 simp only [Sem.run_bind,hti,Result.andThen_ok,Qx]
 rw [Kg hn2]
 have hch2:(choose (Question.appendCap n 0 e)).run P w=.ok cap' { w with drawn:=w.drawn+1 }:=hch
 simp only [Sem.run_bind,hch2,Result.andThen_ok,hti,run_askRoom,Builtin.firstCells,Sem.run_pure,Qr,Kj,Kc,Kg c5,hz,newRow,run_newObj,Array.empty_append]
end
section
variable {Γ:Ctx}{σ:S}{w:World}
theorem jfo {h:List AObj}{s n:Nat}{v:V}{cs:List V}(hc:ja5 h s n v=some cs):cs.length=n * s:=by
 unfold ja5 at hc
 split at hc
 ·split at hc
  ·simp at hc; subst hc; simp; omega
  ·simp at hc
 ·split at hc
  ·split at hc
   ·simp at hc; subst hc; simp; omega
   ·simp at hc
  ·split at hc
   ·simp at hc; subst hc; simp; omega
   ·simp at hc
  ·simp at hc
 ·split at hc
  ·simp at hc; subst hc; rename_i hn; simp [hn]
  ·simp at hc
 ·split at hc
  ·rename_i hn; simp only [Kf] at hc; subst hc; simp [hn.2,J9 hn.1]
  ·simp at hc
 ·simp at hc
theorem jep {Γ':Ctx}{cells:List V}{len c b:Nat}{cap:RCap}{xs:Array Value}(hl:cells.length≤xs.size)(hr:∀ i (h:i<cells.length) (h2:i<xs.size),VRel Γ cells[i] xs[i])(hle:Γ.le Γ')
  (hp:∀ i,i<cells.length→Γ'.pin b i=xs[i]?) (hc:jcb Γ' cap ⟨b,0,none⟩ len c):VRel Γ' (.row cells len cap) (.slice (some ⟨b,0,none⟩) len c):=by
 refine .row _ _ _ _ _ (fun i=>xs.getD i undef) (fun i hi=>⟨rfl,?_⟩) (fun i hi => ?_) hc
 ·have h2:i<xs.size:=by omega
  rw [Qx,hp i hi]; simp [Array.getD,h2]
 ·have h2:i<xs.size:=by omega
  have e:xs.getD i undef=xs[i]:=by simp [Array.getD,h2]
  rw [e]; exact (hr i hi h2).mono hle
theorem jf6 {a b:List V}{xs ys rest:Array Value}(h1:LRel Γ a xs)(h2:LRel Γ b ys):(a++b).length≤(xs++ys++rest).size ∧
  ∀ i (h:i<(a++b).length) (h2:i<(xs++ys++rest).size),VRel Γ (a++b)[i] (xs++ys++rest)[i]:=by
 have h:=h1.append h2
 have hl:=h.len
 refine ⟨by simp at hl ⊢; omega,fun i hi hi2 => ?_⟩
 rw [Vi (by omega)]
 exact h.rel i hi (by omega)
theorem jf7 (h:WRel Γ σ w){cells:List V}{xs:Array Value}{t:TypeId}{len c s:Nat}(hl:cells.length≤xs.size)(hr:∀ i (h:i<cells.length) (h2:i<xs.size),VRel Γ cells[i] xs[i])
  (hcl:cells.length=len * s) (hc:len≤c) (hsz:xs.size=len * s+(c - len) * s) :
  ∃ Γ',Moved Γ Γ' ⟨σ.heap,σ.toks++[0]⟩ w { w with drawn:=w.drawn+1,heap:=w.heap.push (.cells xs t (0,0)) }∧VRel Γ' (.row cells len (.tok σ.toks.length 0 s)) (.slice (some ⟨w.heap.size,0,none⟩) len c):=by
 have hs:=h.same (w':={ w with drawn:=w.drawn+1 }) rfl
 have m1:=hs.pinRow (n:=cells.length) (xs:=xs) (t:=t)
 have m2:=m1.rel.newTok (b:=w.heap.size) (pos:=len * s) (spare:=c - len) (s:=s) (xs:=xs) (t:=t) (by simp) hsz h.size
  (fun i hi=>by simp only [Ctx.pinRow]; rw [Kh trivial,Kg (by omega)]) (fun a ha=>by have:=h.lt (a:=a) (c:=w.heap.size) ha; omega)
  (fun k e p q he ht=>by have:=h.toklt (p:=q.1) (q:=q.2) he ht; omega)
 refine ⟨_,⟨m1.le.trans m2.le,m2.rel,?_⟩,?_⟩
 ·have hb:Below Γ.base w { w with drawn:=w.drawn+1 }:=⟨rfl,rfl,rfl,Ku _,fun _ _=>rfl⟩
  exact hb.trans (m1.below.trans m2.below)
 ·refine jep (xs:=xs) hl hr (m1.le.trans m2.le) (fun i hi => ?_) ?_
  ·simp only [Ctx.setTok,Ctx.pinRow]; rw [Kh trivial,Kh hi]
  ·refine ⟨w.heap.size,len * s,c - len,by simp [Ctx.setTok],by omega,.inr ⟨?_,Ku _⟩⟩
   simp
theorem je1 (h:WRel Γ σ w){cells:List V}{xs:Array Value}{t:TypeId}{len c s:Nat}(hl:cells.length≤xs.size)(hr:∀ i (h:i<cells.length) (h2:i<xs.size),VRel Γ cells[i] xs[i])
  (hc:len≤c) (hcm:c≤maxLen) (hsz:xs.size=len * s+(c - len) * s) :
  ∃ Γ',Moved Γ Γ' (σ.push (.cells cells t)) w { w with drawn:=w.drawn+1,heap:=w.heap.push (.cells xs t (0,0)) }∧VRel Γ' (.hsl σ.heap.length 0 len len (.grow s)) (.slice (some ⟨w.heap.size,0,none⟩) len c):=by
 have hs:=h.same (w':={ w with drawn:=w.drawn+1 }) rfl
 have m1:=hs.push (o:=.cells cells t) (ob:=.cells xs t (0,0)) ⟨rfl,rfl,hl,hr⟩
 have m2:=m1.rel.setSiz (c:=w.heap.size) (xs:=xs) (t:=t) (f:=(0,0)) (by simp) rfl
 have m3:=m1.trans m2
 refine ⟨_,⟨m3.le,m3.rel,?_⟩,?_⟩
 ·have hb:Below Γ.base w { w with drawn:=w.drawn+1 }:=⟨rfl,rfl,rfl,Ku _,fun _ _=>rfl⟩
  exact hb.trans m3.below
 ·refine .hsl _ _ _ _ _ w.heap.size _ (by simp [Ctx.push,Ctx.setSiz]) ⟨hc,?_⟩
  simp only [HRel,Ctx.setSiz,Ke,Qx]
  rw [hsz,← Jg,Nat.add_sub_cancel' hc]
  exact ⟨⟨_,rfl,Ku _⟩,hcm⟩
theorem jlC {E:Env}(h:WRel Γ σ w){mutb:Bool}{s by' m:Nat}{t t2 e:TypeId}{d:TypeDesc}{ats:Array TypeId}{ty:TypeId}{x y v:V}{xv yv:Value}{new:List V}{σ':S}
  (hx:VRel Γ x xv) (hy:VRel Γ y yv) (h1:ats[0]? = some t) (hu:E.P.underlying t=some (.slice e)) (hs:sz E e=some s) (hb:bys E e=some by') (hz:jjx E e=some s)
  (h2:ats[1]? = some t2) (hu2:E.P.underlying t2=some d) (hd:∀ k,d ≠ .int k) (hm:vLen y=some m) (hn:ja5 σ.heap s m y=some new) (ha:jbJ mutb s by' m e new x σ=some (v,σ')) :
  ∃ Γ' w' r,(Builtin.append_ ats ty #[xv,yv]).run E.P w=.ok r w'∧Moved Γ Γ' σ' w w'∧VRel Γ' v r:=by
 have hmr:=jkl (w:=w) hy hm (P:=E.P)
 obtain ⟨ys,hys,hyr⟩:=ja6 h hy hn (P:=E.P)
 have hsw:=h.same (w':={ w with drawn:=w.drawn+1 }) rfl
 obtain ⟨ys2,hys2,hyr2⟩:=ja6 hsw hy hn (P:=E.P)
 have hnl:=jfo hn
 have hzv:∃ zv,(∀ w1:World,(zeroValue e).run E.P w1=.ok zv w1)∧zv.cells.size=s:=by
  unfold jjx at hz
  simp only [Kl] at hz
  obtain ⟨zv,hi,hsz⟩:=hz
  refine ⟨zv,fun w1 => ?_,hsz⟩
  cases hj:E.P.info? e with
  | none=>simp [hj] at hi
  | some i=>rw [hj] at hi; simp at hi; simp [zeroValue,typeInfo,hj,hi]
 obtain ⟨zv,hz1,hz2⟩:=hzv
 have fits:=fun (len cap:Nat) (base:Option Addr) (w':World)=>jlB (P:=E.P) (w:=w) (w':=w') (len:=len) (cap:=cap) (base:=base) (ty:=ty) h1 hu hs h2 hu2 hd hmr hys
 have grows:=fun (len cap:Nat) (base:Option Addr) (old:Array Value) ho=>jkn (P:=E.P) (w:=w) (len:=len) (cap:=cap) (base:=base) (old:=old) (ty:=ty) h1 hu hs h2 hu2 hd hb hmr hys2 ho hz1 hz2
 have hys0:m=0→ys.toList=[]:=by
  intro hm0
  have:=hyr.len
  rw [hnl,hm0] at this
  simp at this
  apply Qt
  simpa using this.symm
 unfold jbJ at ha
 split at ha
 ·-- nil
  cases hx
  split at ha
  ·rename_i hm0
   simp at ha; obtain ⟨rfl,rfl⟩:=ha
   have:=fits 0 0 none w (by omega) (fun a e=>by cases e) (fun _=>rfl)
   rw [hm0] at this
   exact ⟨Γ,w,_,this,Moved.refl h,.nilsl⟩
  ·rename_i hm0
   split at ha
   ·rename_i hl
    obtain ⟨cap',hc1,hcm1,rest,hr1,hrun⟩:=grows 0 0 none #[] (by simp [Builtin.firstCells]) (by omega) (by omega) (by simpa using hl.1)
    have hf:=jf6 (rest:=rest) (LRel.nil Γ) hyr2
    simp only [Q8] at hf
    have hlen:=hyr2.len
    split at ha
    ·simp at ha; obtain ⟨rfl,rfl⟩:=ha
     obtain ⟨Γ',m1,m2⟩:=je1 h (t:=e) hf.1 hf.2 (len:=m) (c:=cap') (s:=s) (by omega) hcm1 (by simp [hr1,← hlen,hnl])
     exact ⟨Γ',_,_,hrun,m1,by simpa using m2⟩
    ·simp at ha; obtain ⟨rfl,rfl⟩:=ha
     obtain ⟨Γ',m1,m2⟩:=jf7 h (t:=e) hf.1 hf.2 (len:=m) (c:=cap') (s:=s) hnl (by omega) (by simp [hr1,← hlen,hnl])
     exact ⟨Γ',_,_,hrun,m1,by simpa using m2⟩
   ·simp at ha
 ·-- a row
  rename_i cells len cap
  obtain ⟨a,c,rfl,hcap,hlc⟩:=hx.row_inv
  split at ha
  ·rename_i hm0
   simp at ha; obtain ⟨rfl,rfl⟩:=ha
   have:=fits len c (some a) w (by omega) (fun a' _=>by rw [hys0 hm0]; rfl) (fun e=>by cases e)
   rw [hm0] at this
   exact ⟨Γ,w,_,this,Moved.refl h,hx⟩
  ·rename_i hm0
   split at ha
   ·rename_i hl
    obtain ⟨hl1,hl2,hl3,hl4⟩:=hl
    have hvc:ja5 σ.heap s len (.row cells len cap)=some cells:=by
     have:cells.take (len * s)=cells:=by rw [← hl3]; exact Xe
     simp [ja5,hl3,this]
    obtain ⟨old,hold,holdr⟩:=ja6 hsw hx hvc (P:=E.P)
    have hf:=fun rest=>jf6 (rest:=rest) holdr hyr2
    have ho:=holdr.len
    have hy2:=hyr2.len
    have hcl:(cells++new).length=(len+m) * s:=by simp [hl3,hnl,Jg]
    cases cap with
    | full =>
     simp only [jcb] at hcap
     obtain rfl:len=c:=hcap.symm
     obtain ⟨cap',hc1,hcm1,rest,hr1,hrun⟩:=grows len len (some a) old hold (by omega) hl2 hl1
     simp only at ha
     split at ha
     ·simp at ha; obtain ⟨rfl,rfl⟩:=ha
      obtain ⟨Γ',m1,m2⟩:=je1 h (t:=e) (hf rest).1 (hf rest).2 (len:=len+m) (c:=cap') (s:=s) (by omega) hcm1 (by simp [hr1,← ho,← hy2,hl3,hnl,Jg,Xm])
      exact ⟨Γ',_,_,hrun,m1,m2⟩
     ·simp at ha; obtain ⟨rfl,rfl⟩:=ha
      obtain ⟨Γ',m1,m2⟩:=jf7 h (t:=e) (hf rest).1 (hf rest).2 (len:=len+m) (c:=cap') (s:=s) hcl (by omega) (by simp [hr1,← ho,← hy2,hl3,hnl,Jg,Xm])
      exact ⟨Γ',_,_,hrun,m1,m2⟩
    | unk=>simp at ha
    | tok k ev s' =>
     simp only at ha
     split at ha
     ·rename_i hk
      obtain ⟨hk,rfl⟩:=hk
      simp at ha; obtain ⟨rfl,rfl⟩:=ha
      obtain ⟨b,pos,spare,ht,hc2,hc3⟩:=hcap
      obtain ⟨b1,pos1,spare1,s1,t1,xs1,g1,g2,g3,g4,g5,g6⟩:=h.toks k ev hk
      rw [ht] at g1; cases g1
      by_cases hfit:m≤spare
      ·-- the room serves
       have hsp:spare ≠ 0:=by omega
       rcases hc3 with hc3 | ⟨hc3,hc4⟩
       ·exact absurd hc3 hsp
       have hms:m * s'≤spare * s':=Qk _ hfit
       have hyl:ys.toList.length=m * s':=by have:=hyr.len; simp; omega
       have hst:=run_storeCells_at (P:=E.P) b pos t1 ys.toList 0 xs1 w g2 (by omega) (jhj hyr hl4)
       simp only [Xp] at hst
       have m1:=h.growTok hk ht (m:=m) (ys:=ys.toList) hfit hyl g2
       refine ⟨_,_,_,fits len c (some a) _ (by omega) (fun a' ea => ?_) (fun e=>by cases e),m1,?_⟩
       ·cases ea
        rw [hc3,jaQ rfl]
        have:pos - len * s'+len * s'=pos:=by omega
        rw [this]; exact hst
       ·cases hx with
        | row _ _ _ _ _ xs hp hr _ =>
         refine .row _ _ _ _ _ (fun i=>if i<cells.length then xs i else ys.getD (i - cells.length) undef) (fun i hi => ?_) (fun i hi => ?_) ?_
         ·refine ⟨by rw [hc3],?_⟩
          simp only [Kk] at hi
          by_cases hi2:i<cells.length
          ·rw [Kh hi2]
           exact m1.le.pin _ _ _ (hp i hi2).2
          ·rw [Kg hi2,hc3]
           simp only [Ctx.setTok,Ctx.pinAt]
           rw [Kh ⟨trivial,by omega,by omega⟩]
           have e1:pos - len * s'+i - pos=i - cells.length:=by omega
           have e2:i - cells.length<ys.size:=by have:=hyr.len; omega
           rw [e1]; simp [Array.getD,e2]
         ·simp only [Kk] at hi
          by_cases hi2:i<cells.length
          ·rw [Kh hi2,X1 hi2]
           exact (hr i hi2).mono m1.le
          ·rw [Kg hi2,Xz (by omega)]
           have e2:i - cells.length<ys.size:=by have:=hyr.len; omega
           have e3:ys.getD (i - cells.length) undef=ys[i - cells.length]:=by simp [Array.getD,e2]
           rw [e3]
           exact (hyr.rel _ (by omega) e2).mono m1.le
         ·refine ⟨b,pos+m * s',spare - m,by simp [Ctx.setTok],by omega,.inr ⟨?_,?_⟩⟩
          ·rw [hc3,Addr.mk.injEq]
           refine ⟨rfl,?_,rfl⟩
           rw [Jg]; omega
          ·rw [Jg]; omega
      ·-- new room
       obtain ⟨cap',hc1,hcm1,rest,hr1,hrun⟩:=grows len c (some a) old hold (by omega) hl2 hl1
       have m1:=hsw.pinRow (n:=(cells++new).length) (xs:=old++ys2++rest) (t:=e)
       have hszx:(old++ys2++rest).size=(len+m) * s'+(cap' - (len+m)) * s':=by simp [hr1,← ho,← hy2,hl3,hnl,Jg,Xm]
       have m2:=m1.rel.moveTok hk (b:=w.heap.size) (pos:=(len+m) * s') (spare:=cap' - (len+m)) (s:=s') (xs:=old++ys2++rest) (t:=e) (by simp) hszx h.size
        (fun i hi=>by simp only [Ctx.pinRow]; rw [Kh trivial,Kg (by omega)]) (fun a ha=>by have:=h.lt (a:=a) (c:=w.heap.size) ha; omega)
        (fun k' e' p q _ he' ht'=>by have:=h.toklt (p:=q.1) (q:=q.2) he' ht'; omega)
       refine ⟨_,_,_,hrun,⟨m1.le.trans m2.le,m2.rel,?_⟩,?_⟩
       ·have hb:Below Γ.base w { w with drawn:=w.drawn+1 }:=⟨rfl,rfl,rfl,Ku _,fun _ _=>rfl⟩
        exact hb.trans (m1.below.trans m2.below)
       ·refine jep (xs:=old++ys2++rest) (hf rest).1 (hf rest).2 (m1.le.trans m2.le) (fun i hi => ?_) ?_
        ·simp only [Ctx.setTok,Ctx.pinRow]; rw [Kh trivial,Kh hi]
        ·refine ⟨w.heap.size,(len+m) * s',cap' - (len+m),by simp [Ctx.setTok],by omega,.inr ⟨?_,Ku _⟩⟩
         simp
     ·simp at ha
   ·simp at ha
 ·-- memory of the call's own
  rename_i b off len cap ex
  cases hx with
  | hsl _ _ _ _ _ c c' hblk hcc =>
   split at ha
   ·rename_i hfit
    split at ha
    ·rename_i hm0
     simp at ha; obtain ⟨rfl,rfl⟩:=ha
     have:=fits len c' (some ⟨c,off,none⟩) w (by omega) (fun a' _=>by rw [hys0 hm0]; rfl) (fun e=>by cases e)
     rw [hm0] at this
     exact ⟨Γ,w,_,this,Moved.refl h,.hsl _ _ _ _ _ c c' hblk hcc⟩
    ·simp only [Kl] at ha
     obtain ⟨σ2,hst,ha⟩:=ha
     simp at ha; obtain ⟨rfl,rfl⟩:=ha
     obtain ⟨a,w',e1,hrun,m1⟩:=jei h (.ptr b (off+len * s) c hblk) hyr hst (P:=E.P)
     cases e1
     refine ⟨Γ,w',_,fits len c' (some ⟨c,off,none⟩) w' (by omega) (fun a' ea => ?_) (fun e=>by cases e),m1,.hsl _ _ _ _ _ c c' hblk hcc⟩
     cases ea
     rw [jaQ rfl]; exact hrun
   ·rename_i hfit
    split at ha
    ·rename_i hl
     obtain ⟨hex,hl1,hl2⟩:=hl
     subst hex
     obtain rfl:c'=cap:=hcc.2
     simp only [Kl] at ha
     obtain ⟨oldv,hov,ha⟩:=ha
     have hx':VRel Γ (.hsl b off len c' .exact) (.slice (some ⟨c,off,none⟩) len c'):=.hsl _ _ _ _ _ c c' hblk hcc
     obtain ⟨old,hold,holdr⟩:=ja6 hsw hx' hov (P:=E.P)
     have hf:=fun rest=>jf6 (rest:=rest) holdr hyr2
     have ho:=holdr.len
     have hy2:=hyr2.len
     have hol:=jfo hov
     have hcl:(oldv++new).length=(len+m) * s:=by simp [hol,hnl,Jg]
     obtain ⟨cap',hc1,hcm1,rest,hr1,hrun⟩:=grows len c' (some ⟨c,off,none⟩) old hold hfit hl2 hl1
     split at ha
     ·simp at ha; obtain ⟨rfl,rfl⟩:=ha
      obtain ⟨Γ',m1,m2⟩:=je1 h (t:=e) (hf rest).1 (hf rest).2 (len:=len+m) (c:=cap') (s:=s) (by omega) hcm1 (by simp [hr1,← ho,← hy2,hol,hnl,Jg,Xm])
      exact ⟨Γ',_,_,hrun,m1,m2⟩
     ·simp at ha; obtain ⟨rfl,rfl⟩:=ha
      obtain ⟨Γ',m1,m2⟩:=jf7 h (t:=e) (hf rest).1 (hf rest).2 (len:=len+m) (c:=cap') (s:=s) hcl (by omega) (by simp [hr1,← ho,← hy2,hol,hnl,Jg,Xm])
      exact ⟨Γ',_,_,hrun,m1,m2⟩
    ·split at ha
     ·rename_i hl
      obtain ⟨rfl,rfl,hl1,hl2,hall⟩:=hl
      split at ha
      ·rename_i cs t0 hb0
       split at ha
       ·rename_i hcond
        obtain ⟨rfl,hlc⟩:=hcond
        simp only [Kf,Km] at ha
        obtain ⟨rfl,rfl⟩:=ha
        obtain ⟨ob,g1,g2,g3,g4⟩:=h.at hblk hb0
        cases ob <;> simp only [ORel] at g2
        rename_i xs t' fr
        obtain ⟨rfl,rfl,hlx,hrx⟩:=g2
        have hsiz:c' * s≤xs.size:=by
         obtain ⟨n2,hs2,hn2⟩:=hcc.2.1
         obtain ⟨xs2,t2,f2,k1,k2⟩:=h.sizes _ _ hs2
         rw [g1] at k1; cases k1; omega
        have hyl:=hyr.len
        by_cases hfc:len+m≤c'
        ·have hb1:(len+m) * s≤c' * s:=Qk s hfc
         rw [Jg] at hb1
         have hrun:=run_storeCells_at (P:=E.P) c (0+len * s) t0 ys.toList 0 xs w g1 (by simp; omega) (jhj hyr hall)
         simp only [Xp] at hrun
         have hu:=Upd.setRow (ys:=(xs.toList.take (0+len * s)++ys.toList++xs.toList.drop (0+len * s+ys.toList.length)).toArray) g1
         have hsz2:(xs.toList.take (0+len * s)++ys.toList++xs.toList.drop (0+len * s+ys.toList.length)).toArray.size=xs.size:=by simp; omega
         have hor:ORel Γ (.cells (cs.take (len * s)++new) t0) (.cells (xs.toList.take (0+len * s)++ys.toList++xs.toList.drop (0+len * s+ys.toList.length)).toArray t0 (0,0)) := ?_
         have m1:=h.rename (o:=.cells (cs.take (len * s)++new) t0) hu hblk hb0 rfl hor (fun xs' t' f' e=>by rw [g1] at e; cases e; exact ⟨_,_,_,rfl,hsz2⟩)
         ·refine ⟨_,_,_,fits len c' (some ⟨c,0,none⟩) _ hfc (fun a' ea => ?_) (fun e=>by cases e),m1,.hsl _ _ _ _ _ c c' (by simp [Ctx.push]) ⟨hfc,hcc.2⟩⟩
          cases ea
          rw [jaQ rfl]; exact hrun
         ·simp only [ORel]
          refine ⟨trivial,trivial,by simp; omega,fun i a b => ?_⟩
          simp only [Xa,Kk,Qi,Qo,Jt]
          simp only [Kk,Qi] at a
          have e1:min (len * s) cs.length=len * s:=by omega
          have e2:min (0+len * s) xs.size=len * s:=by omega
          by_cases k1:i<len * s
          ·rw [dif_pos (by omega),dif_pos (by omega),dif_pos (by omega)]
           simpa using hrx i (by omega) (by omega)
          ·rw [dif_neg (by omega),dif_pos (by omega),dif_neg (by omega)]
           have:=hyr.rel (i - len * s) (by omega) (by omega)
           have e3:min (len * s) xs.size=len * s:=by omega
           simpa [e1,e2,e3] using this
        ·have hov:ja5 σ.heap s len (.hsl b 0 len cap (.grow s))=some (cs.take (len * s)):=by
          simp [ja5,hb0,hlc]
         have hx':VRel Γ (.hsl b 0 len cap (.grow s)) (.slice (some ⟨c,0,none⟩) len c'):=.hsl _ _ _ _ _ c c' hblk hcc
         obtain ⟨old,hold,holdr⟩:=ja6 hsw hx' hov (P:=E.P)
         have hf:=fun rest=>jf6 (rest:=rest) holdr hyr2
         have ho:=holdr.len
         have hy2:=hyr2.len
         have hol:=jfo hov
         obtain ⟨cap',hc1,hcm1,rest,hr1,hrun⟩:=grows len c' (some ⟨c,0,none⟩) old hold hfc hl2 hl1
         have m0:=h.upd (o:=.dead) (Upd.refl g1) hblk hb0 rfl trivial (fun _ xs' t' f' e=>by rw [g1] at e; cases e; exact ⟨_,_,_,rfl,rfl⟩)
         obtain ⟨Γ',m1,m2⟩:=je1 m0.rel (t:=t0) (hf rest).1 (hf rest).2 (len:=len+m) (c:=cap') (s:=s) (by omega) hcm1 (by simp [hr1,← ho,← hy2,hol,hnl,Jg,Xm])
         have e:(σ.set b .dead).heap.length=σ.heap.length:=by simp [S.set]
         rw [e] at m2
         exact ⟨Γ',_,_,hrun,m0.trans m1,m2⟩
       ·simp at ha
      ·simp at ha
     ·simp at ha
 ·simp at ha
end
section
variable {Γ:Ctx}{σ:S}{w:World}{E:Env}
theorem jdk {d:Nat}{t:TypeId}{v:V}(h:jdf E d t v=true):∃ ud,E.P.underlying t=some ud:=by
 cases d with
 | zero=>simp [jdf] at h
 | succ d =>
  simp only [jdf] at h
  cases hu:E.P.underlying t with
  | none=>rw [hu] at h; simp at h
  | some ud=>exact ⟨ud,rfl⟩
theorem jcL {P:Program}{c:Nat}{xs:Array MapEntry}{clock:Nat}(h:w.heap[c]? = some (.map xs clock)):(getObj c).run P w=.ok (.map xs clock) w:=by
 simp [getObj,Sem.run,h]
theorem jeq {P:Program}{c:Nat}{o:Obj}{xs:Array MapEntry}{clock:Nat}(h:w.heap[c]? = some (.map xs clock)):(setObj c o).run P w=.ok () { w with heap:=w.heap.setIfInBounds c o }:=by
 simp [setObj,Sem.run,h]
theorem jiR (h:WRel Γ σ w){t kt et:TypeId}{b clock:Nat}{kv xv:V}{mv' kv' xv':Value}{es:List (V × V × Nat)}(hu:E.P.underlying t=some (.map kt et))(hm:VRel Γ (.map b) mv')(hk:VRel Γ kv kv')(hx:VRel Γ xv xv')
  (ho:σ.heap[b]? = some (.map es clock)) (hc:jdf E 8 kt kv=true) (hf:jdL E kt kv es 0=some none) :
  ∃ w',(Instr.mapUpdate t mv' kv' xv').run E.P w=.ok () w'∧Moved Γ Γ (σ.set b (.map (es++[(kv,xv,clock)]) (clock+1))) w w':=by
 cases hm with
 | map _ c hb =>
 obtain ⟨ud,hud⟩:=jdk hc
 obtain ⟨ob,g1,g2,g3,g4⟩:=h.at hb ho
 cases ob <;> simp only [ORel] at g2
 rename_i xs clock'
 obtain ⟨rfl,hl,hr⟩:=g2
 have hlt:=(Kq.1 g1).1
 have her:ERel Γ es xs.toList:=⟨by simpa using hl,fun i a b=>by have:=hr i a (by simpa using b); simpa using this⟩
 obtain ⟨r',q1,q2,_⟩:=jdM (w:=w) hud hk her hf
 rw [q2 rfl] at q1
 have hck:=jeo (w:=w) false 8 10000 kt kv kv' (by omega) hk hc
 refine ⟨_,?_,h.upd (Upd.putObj (ob:=.map (xs.push { key:=kv',val:=xv',born:=clock }) (clock+1)) hlt) hb ho rfl ?_⟩
 ·simp only [Instr.mapUpdate,Sem.run_bind,jab hu,Result.andThen_ok,jcL g1,hck,q1,jeq g1]
 ·refine ⟨rfl,by simp [hl],fun i a b => ?_⟩
  simp only [Kk,K7,Qg] at a
  by_cases hi:i<es.length
  ·have:=hr i hi (by omega)
   rw [X1 hi,Array.getElem_push_lt (by omega)]
   exact this
  ·have e:i=es.length:=by omega
   subst e
   rw [Xz (Ku _)]
   have:(xs.push { key:=kv',val:=xv',born:=clock })[es.length]'b={ key:=kv',val:=xv',born:=clock }:=by
    simp [hl]
   rw [this]
   simp only [J5,Jm]
   exact ⟨hk,hx,trivial⟩
theorem jiS (h:WRel Γ σ w){t kt et:TypeId}{b clock j:Nat}{kv xv:V}{mv' kv' xv':Value}{es:List (V × V × Nat)}{e:V × V × Nat}(hu:E.P.underlying t=some (.map kt et))(hm:VRel Γ (.map b) mv')(hk:VRel Γ kv kv')(hx:VRel Γ xv xv')
  (ho:σ.heap[b]? = some (.map es clock)) (hc:jdf E 8 kt kv=true) (hf:jdL E kt kv es 0=some (some j)) (he:es[j]? = some e) (hs:jhF 8 e.1 kv=true) :
  ∃ w',(Instr.mapUpdate t mv' kv' xv').run E.P w=.ok () w'∧Moved Γ Γ (σ.set b (.map (es.set j (kv,xv,e.2.2)) clock)) w w':=by
 cases hm with
 | map _ c hb =>
 obtain ⟨ud,hud⟩:=jdk hc
 obtain ⟨ob,g1,g2,g3,g4⟩:=h.at hb ho
 cases ob <;> simp only [ORel] at g2
 rename_i xs clock'
 obtain ⟨rfl,hl,hr⟩:=g2
 have hlt:=(Kq.1 g1).1
 have her:ERel Γ es xs.toList:=⟨by simpa using hl,fun i a b=>by have:=hr i a (by simpa using b); simpa using this⟩
 obtain ⟨r',q1,_,q2⟩:=jdM (w:=w) hud hk her hf
 obtain ⟨hj,e',x,c1,c2,rfl⟩:=q2 j rfl
 rw [he] at c1; cases c1
 have hj2:j<xs.size:=by omega
 have hxj:xs[j]? = some x:=by simpa using c2
 have hxe:xs[j]=x:=by simpa [hj2] using hxj
 have hrj:=hr j hj hj2
 have hej:es[j]=e:=by simpa [hj] using he
 rw [hej,hxe] at hrj
 have hck:=jeo (w:=w) false 8 10000 kt kv kv' (by omega) hk hc
 have hsb:=jkj 8 10000 e.1 kv x.key kv' (by omega) hrj.1 hk hs
 have hkts:(Instr.keyThatStays (((xs[j]?).map (·.key)).getD kv') kv').run E.P w=.ok kv' w:=by
  simp [Instr.keyThatStays,hxj,hsb]
 refine ⟨_,?_,h.upd (Upd.putObj (ob:=.map (xs.modify j fun e=>{ e with key:=kv',val:=xv' }) clock) hlt) hb ho rfl ?_⟩
 ·simp only [Instr.mapUpdate,Sem.run_bind,jab hu,Result.andThen_ok,jcL g1,hck,q1,hkts,jeq g1]
 ·refine ⟨rfl,by simp [hl],fun i a b => ?_⟩
  rw [Vh] at a
  rw [Vo,Xi]
  by_cases hi:j=i
  ·subst hi
   simp only [Ke,hxe]
   exact ⟨hk,hx,hrj.2.2⟩
  ·simp only [hi,Kc]
   exact hr i a (by omega)
theorem jns (h:WRel Γ σ w){t kt et:TypeId}{b clock:Nat}{kv z:V}{mv' kv':Value}{ok:Bool}{es:List (V × V × Nat)}{r:Option Nat}(hu:E.P.underlying t=some (.map kt et))(hm:VRel Γ (.map b) mv')(hk:VRel Γ kv kv')
  (ho:σ.heap[b]? = some (.map es clock)) (hc:jdf E 8 kt kv=true) (hf:jdL E kt kv es 0=some r) (hz:jbr E et=some z) :
  ∃ y,(Instr.lookup t mv' kv' ok).run E.P w=.ok y w∧VRel Γ (jra ok es z r) y:=by
 cases hm with
 | map _ c hb =>
 obtain ⟨ud,hud⟩:=jdk hc
 obtain ⟨ob,g1,g2,g3,g4⟩:=h.at hb ho
 cases ob <;> simp only [ORel] at g2
 rename_i xs clock'
 obtain ⟨rfl,hl,hr⟩:=g2
 have her:ERel Γ es xs.toList:=⟨by simpa using hl,fun i a b=>by have:=hr i a (by simpa using b); simpa using this⟩
 obtain ⟨r',q1,q2,q3⟩:=jdM (w:=w) hud hk her hf
 have hck:=jeo (w:=w) xs.isEmpty 8 10000 kt kv kv' (by omega) hk hc
 obtain ⟨zv,hzv,hzr⟩:=jdj (Γ:=Γ) (w:=w) hz
 cases r with
 | none =>
  have q2:=q2 rfl
  subst q2
  refine ⟨if ok then .tuple #[zv,.bool false] else zv,?_,?_⟩
  ·simp only [Instr.lookup,Sem.run_bind,jab hu,Result.andThen_ok,jcL g1,Sem.run_pure,hck,q1,hzv]
  ·cases ok
   ·exact hzr
   ·exact VRel.mkTup (by simpa using LRel.cons hzr (LRel.one (.bool false)))
 | some j =>
  obtain ⟨hj,e,x,c1,c2,rfl⟩:=q3 j rfl
  have hj2:j<xs.size:=by omega
  have hxj:xs[j]=x:=by
   have:xs[j]? = some x:=by simpa using c2
   simpa [hj2] using this
  have hej:es[j]=e:=by simpa [hj] using c1
  have hrj:=hr j hj hj2
  rw [hej,hxj] at hrj
  refine ⟨if ok then .tuple #[x.val,.bool true] else x.val,?_,?_⟩
  ·simp only [Instr.lookup,Sem.run_bind,jab hu,Result.andThen_ok,jcL g1,Sem.run_pure,hck,q1]
  ·simp only [jra,c1,Qh,Kv]
   cases ok
   ·exact hrj.2.1
   ·exact VRel.mkTup (by simpa using LRel.cons hrj.2.1 (LRel.one (.bool true)))
theorem jkp (h:WRel Γ σ w){t kt et:TypeId}{b clock:Nat}{kv z:V}{mv' kv':Value}{es:List (V × V × Nat)}(hu:E.P.underlying t=some (.map kt et))(hm:VRel Γ (.map b) mv')(hk:VRel Γ kv kv')
  (ho:σ.heap[b]? = some (.map es clock)) (hc:jdf E 8 kt kv=true) (hf:jdL E kt kv es 0=some none) (hz:jbr E et=some z) :
  ∃ w' y,(Instr.mapEntry t mv' kv').run E.P w=.ok y w'∧VRel Γ (.tup [z,.int .i64 clock]) y∧Moved Γ Γ (σ.set b (.map (es++[(kv,z,clock)]) (clock+1))) w w':=by
 cases hm with
 | map _ c hb =>
 obtain ⟨ud,hud⟩:=jdk hc
 obtain ⟨ob,g1,g2,g3,g4⟩:=h.at hb ho
 cases ob <;> simp only [ORel] at g2
 rename_i xs clock'
 obtain ⟨rfl,hl,hr⟩:=g2
 have hlt:=(Kq.1 g1).1
 have her:ERel Γ es xs.toList:=⟨by simpa using hl,fun i a b=>by have:=hr i a (by simpa using b); simpa using this⟩
 obtain ⟨r',q1,q2,_⟩:=jdM (w:=w) hud hk her hf
 rw [q2 rfl] at q1
 have hck:=jeo (w:=w) false 8 10000 kt kv kv' (by omega) hk hc
 obtain ⟨zv,hzv,hzr⟩:=jdj (Γ:=Γ) (w:=w) hz
 refine ⟨_,.tuple #[zv,goInt clock],?_,VRel.mkTup (by simpa [goInt] using LRel.cons hzr (LRel.one (.int .i64 clock))),h.upd (Upd.putObj (ob:=.map (xs.push { key:=kv',val:=zv,born:=clock }) (clock+1)) hlt) hb ho rfl ?_⟩
 ·simp only [Instr.mapEntry,Sem.run_bind,jab hu,Result.andThen_ok,jcL g1,hck,q1,hzv,jeq g1,Sem.run_pure]
 ·refine ⟨rfl,by simp [hl],fun i a b => ?_⟩
  simp only [Kk,K7,Qg] at a
  by_cases hi:i<es.length
  ·have:=hr i hi (by omega)
   rw [X1 hi,Array.getElem_push_lt (by omega)]
   exact this
  ·have e:i=es.length:=by omega
   subst e
   rw [Xz (Ku _)]
   have:(xs.push { key:=kv',val:=zv,born:=clock })[es.length]'b={ key:=kv',val:=zv,born:=clock }:=by
    simp [hl]
   rw [this]
   simp only [J5,Jm]
   exact ⟨hk,hzr,trivial⟩
theorem jkq (h:WRel Γ σ w){t kt et:TypeId}{b clock j:Nat}{kv:V}{mv' kv':Value}{es:List (V × V × Nat)}{e:V × V × Nat}(hu:E.P.underlying t=some (.map kt et))(hm:VRel Γ (.map b) mv')(hk:VRel Γ kv kv')
  (ho:σ.heap[b]? = some (.map es clock)) (hc:jdf E 8 kt kv=true) (hf:jdL E kt kv es 0=some (some j)) (he:es[j]? = some e) (hs:jhF 8 e.1 kv=true) :
  ∃ w' y,(Instr.mapEntry t mv' kv').run E.P w=.ok y w'∧VRel Γ (.tup [e.2.1,.int .i64 e.2.2]) y∧Moved Γ Γ (σ.set b (.map (es.set j (kv,e.2.1,e.2.2)) clock)) w w':=by
 cases hm with
 | map _ c hb =>
 obtain ⟨ud,hud⟩:=jdk hc
 obtain ⟨ob,g1,g2,g3,g4⟩:=h.at hb ho
 cases ob <;> simp only [ORel] at g2
 rename_i xs clock'
 obtain ⟨rfl,hl,hr⟩:=g2
 have hlt:=(Kq.1 g1).1
 have her:ERel Γ es xs.toList:=⟨by simpa using hl,fun i a b=>by have:=hr i a (by simpa using b); simpa using this⟩
 obtain ⟨r',q1,_,q2⟩:=jdM (w:=w) hud hk her hf
 obtain ⟨hj,e',x,c1,c2,rfl⟩:=q2 j rfl
 rw [he] at c1; cases c1
 have hj2:j<xs.size:=by omega
 have hxj:xs[j]? = some x:=by simpa using c2
 have hxe:xs[j]=x:=by simpa [hj2] using hxj
 have hrj:=hr j hj hj2
 have hej:es[j]=e:=by simpa [hj] using he
 rw [hej,hxe] at hrj
 have hck:=jeo (w:=w) false 8 10000 kt kv kv' (by omega) hk hc
 have hsb:=jkj 8 10000 e.1 kv x.key kv' (by omega) hrj.1 hk hs
 have hkts:(Instr.keyThatStays (((xs[j]?).map (·.key)).getD kv') kv').run E.P w=.ok kv' w:=by
  simp [Instr.keyThatStays,hxj,hsb]
 refine ⟨_,.tuple #[x.val,goInt x.born],?_,?_,h.upd (Upd.putObj (ob:=.map (xs.modify j fun e=>{ e with key:=kv' }) clock) hlt) hb ho rfl ?_⟩
 ·simp only [Instr.mapEntry,Sem.run_bind,jab hu,Result.andThen_ok,jcL g1,hck,q1,hkts,jeq g1,Sem.run_pure]
  simp only [hxj,Qh,Kv]
 ·rw [hrj.2.2]
  exact VRel.mkTup (by simpa [goInt] using LRel.cons hrj.2.1 (LRel.one (.int .i64 x.born)))
 ·refine ⟨rfl,by simp [hl],fun i a b => ?_⟩
  rw [Vh] at a
  rw [Vo,Xi]
  by_cases hi:j=i
  ·subst hi
   simp only [Ke,hxe]
   exact ⟨hk,hrj.2.1,hrj.2.2⟩
  ·simp only [hi,Kc]
   exact hr i a (by omega)
theorem jiE (h:WRel Γ σ w){P:Program}{t:TypeId}{b clock j:Nat}{xv:V}{mv' xv':Value}{kk:IntKind}{n:Int}{es:List (V × V × Nat)}{e:V × V × Nat}(hm:VRel Γ (.map b) mv')(hx:VRel Γ xv xv')
  (ho:σ.heap[b]? = some (.map es clock)) (hf:es.findIdx? (fun e=>(e.2.2:Int) == n)=some j) (he:es[j]? = some e) :
  ∃ w',(Instr.entryStore t mv' (.int kk n) xv').run P w=.ok () w'∧Moved Γ Γ (σ.set b (.map (es.set j (e.1,xv,e.2.2)) clock)) w w':=by
 cases hm with
 | map _ c hb =>
 obtain ⟨ob,g1,g2,g3,g4⟩:=h.at hb ho
 cases ob <;> simp only [ORel] at g2
 rename_i xs clock'
 obtain ⟨rfl,hl,hr⟩:=g2
 have hlt:=(Kq.1 g1).1
 have hj:j<es.length:=(Kr.1 he).1
 have hj2:j<xs.size:=by omega
 have hej:es[j]=e:=by simpa [hj] using he
 have hrj:=hr j hj hj2
 rw [hej] at hrj
 have hidx:xs.findIdx? (fun e=>(e.born:Int) == n)=some j:=by
  rw [Array.findIdx?_eq_some_iff_getElem]
  rw [List.findIdx?_eq_some_iff_getElem] at hf
  obtain ⟨f1,f2,f3⟩:=hf
  refine ⟨hj2,?_,fun i hi => ?_⟩
  ·have:=(hr j hj hj2).2.2
   rw [← this]; exact f2
  ·have:=(hr i (by omega) (by omega)).2.2
   rw [← this]; exact f3 i hi
 refine ⟨_,?_,h.upd (Upd.putObj (ob:=.map (xs.modify j fun e=>{ e with val:=xv' }) clock) hlt) hb ho rfl ?_⟩
 ·simp only [Instr.entryStore,Sem.run_bind,Result.andThen_ok,jcL g1,asInt,asIntOf,Sem.run_pure,hidx,jeq g1]
 ·refine ⟨rfl,by simp [hl],fun i a b => ?_⟩
  rw [Vh] at a
  rw [Vo,Xi]
  by_cases hi:j=i
  ·subst hi
   simp only [Ke]
   exact ⟨hrj.1,hx,hrj.2.2⟩
  ·simp only [hi,Kc]
   exact hr i a (by omega)
end
section
variable {Γ:Ctx}{σ:S}{w:World}
theorem jhT {P:Program}{f:Value→ByteArray→Sem (ForInStep ByteArray)}(hf:∀ n s,f (.int .u8 n) s=pure (ForInStep.yield (s.push (UInt8.ofNat n.toNat)))):∀ (cs:List V) (l:List UInt8) (xs:List Value) (acc:ByteArray),LRel Γ cs xs.toArray→jc4 cs=some l →
  ∃ out:ByteArray,(forIn xs acc f).run P w=.ok out w∧out.data.toList=acc.data.toList++l
 | [],l,xs,acc,hr,h=>by
  have:xs=[]:=by have:=hr.len; simpa using this.symm
  subst this
  simp [jc4] at h; subst h
  exact ⟨acc,by simp,by simp⟩
 | v::cs,l,[],acc,hr,h=>by have:=hr.len; simp at this
 | v::cs,l,x::xs,acc,hr,h=>by
  have h0:=hr.rel 0 (by simp) (by simp)
  simp at h0
  have ht:LRel Γ cs xs.toArray:=LRel.mkList (by have:=hr.len; simpa using this) (fun i a b=>by have:=hr.rel (i+1) (by simp; omega) (by simp; omega); simpa only [Jh,Jt] using this)
  unfold jc4 at h
  split at h
  ·rename_i e; simp at e
  ·rename_i n r e
   simp only [J8] at e
   obtain ⟨rfl,rfl⟩:=e
   simp only [Kl] at h
   obtain ⟨l',hl',rfl⟩:=h
   obtain rfl:=h0.int_inv
   obtain ⟨out,h1,h2⟩:=jhT (P:=P) hf _ l' xs (acc.push (UInt8.ofNat n.toNat)) ht hl'
   refine ⟨out,?_,?_⟩
   ·simp only [Xg,hf,Sem.run_bind,Sem.run_pure,Result.andThen_ok,h1]
   ·rw [h2]; simp
  ·simp at h
theorem jnt {E:Env}(h:WRel Γ σ w){src dst:TypeId}{us ud:TypeDesc}{a v:V}{x:Value}(hr:VRel Γ a x)(hu1:E.P.underlying src=some us)(hu2:E.P.underlying dst=some ud)(ha:jhG E σ.heap us ud a=some v) :
  ∃ y,(convert src dst x).run E.P w=.ok y w∧VRel Γ v y:=by
 unfold jhG at ha
 split at ha
 ·rename_i t b off
  split at ha
  ·rename_i cs e ho
   split at ha
   ·rename_i hc
    simp only [Kf] at ha
    subst ha
    cases hr with
    | ptr _ _ c hb =>
     obtain ⟨ob,g1,g2,g3,g4⟩:=h.at hb ho
     cases ob <;> simp only [ORel] at g2
     rename_i xs t' fr
     obtain ⟨rfl,rfl,hl,hrr⟩:=g2
     have hlt:off<xs.size:=by omega
     have hcell:w.cell? ⟨c,off,none⟩=some xs[off]:=by simp [World.cell?,g1,hlt]
     have hs:(E.P.info? t).map (fun i=>decide (i.size=0))=some false:=by
      have:=hc.2
      simp only [sz,Option.map_map] at this
      exact this
     exact ⟨_,run_convert_to_unsafe hu1 hu2 hs hcell,.ptr b off c hb⟩
   ·simp at ha
  ·simp at ha
 ·rename_i u b off
  split at ha
  ·rename_i cs e ho
   split at ha
   ·rename_i hc
    obtain ⟨rfl,rfl,hc1,hc2⟩:=hc
    simp only [Kf] at ha
    subst ha
    cases hr with
    | ptr _ _ c hb =>
     obtain ⟨ob,g1,g2,g3,g4⟩:=h.at hb ho
     cases ob <;> simp only [ORel] at g2
     rename_i xs t' fr
     obtain ⟨rfl,rfl,hl,hrr⟩:=g2
     refine ⟨_,?_,.ptr b 0 c hb⟩
     have hsh:w.shape? c=some (e,xs.size):=by simp [World.shape?,g1]
     have hn:1≤xs.size / E.P.cellsOf e:=(Nat.le_div_iff_mul_le hc1).2 (by omega)
     have hlies:liesAt E.P E.P.depth e (xs.size / E.P.cellsOf e) 0 e 1=true:=by
      have hd:E.P.depth=(2 * (E.P.types.size+Made.depth)+1)+1:=rfl
      rw [hd]
      simp only [liesAt,Je]
      left
      rw [hd]
      have h0:E.P.cellsOf e ≠ 0:=by omega
      simp [rowAt,h0,hn,sameLayout]
     have hsz:∃ i,E.P.info? e=some i:=by
      unfold Program.cellsOf at hc1
      cases hi:E.P.info? e with
      | none=>rw [hi] at hc1; simp at hc1
      | some i=>exact ⟨i,rfl⟩
     obtain ⟨i,hi⟩:=hsz
     simp [convert,Conv.unsafePointer,Conv.seenAt,viewAt,sizeOf,typeInfo,jab hu1,jab hu2,hi,hsh,variablesAt,hlies,Result.andThen]
   ·simp at ha
  ·simp at ha
 ·simp at ha
theorem jiT:∀ (cs:List V) (s:List UInt8),jjz cs=true→jc4 cs=some s→s.length=cs.length∧∀ (j:Nat) (x:UInt8),s[j]? = some x→cs[j]? = some (V.int .u8 x.toNat)
 | [],s,h,hs=>by simp [jc4] at hs; subst hs; exact ⟨rfl,fun j x hj=>by simp at hj⟩
 | c::r,s,h,hs=>by
  unfold jc4 at hs
  split at hs
  ·simp at *
  ·rename_i n r' heq
   cases heq
   simp only [Kl] at hs
   obtain ⟨s',hs',rfl⟩:=hs
   simp only [jjz,K5,Qm] at h
   obtain ⟨h1,h2⟩:=jiT r s' h.2 hs'
   refine ⟨by simp [h1],fun j x hj => ?_⟩
   cases j with
   | zero =>
    simp only [Qw,Kf] at hj ⊢
    subst hj
    have:((UInt8.ofNat n.toNat).toNat:Int)=n:=by
     rw [UInt8.toNat_ofNat']
     have:n.toNat % 2 ^ 8=n.toNat:=Nat.mod_eq_of_lt (by omega)
     rw [this]; omega
    rw [this]
   | succ j =>
    simp only [K9] at hj ⊢
    exact h2 j x hj
  ·simp at hs
theorem jjI {E:Env}(h:WRel Γ σ w){pt it ty:TypeId}{p v:V}{x:Value}{n:Int}{σ':S}(hr:VRel Γ p x)(ha:jgv E pt p n σ=some (v,σ')) :
  ∃ Γ' w' y,(Builtin.unsafeString_ #[pt,it] ty #[x,.int .i64 n]).run E.P w=.ok y w'∧Moved Γ Γ' σ' w w'∧VRel Γ' v y:=by
 unfold jgv at ha
 split at ha
 ·rename_i hn
  subst hn
  split at ha
  ·simp only [Kf,Km] at ha
   obtain ⟨rfl,rfl⟩:=ha
   cases hr with
   | ptr _ _ c hb=>exact ⟨Γ,w,_,Lib.run_unsafeString_none w pt it ty _,Moved.refl h,VRel.mkStr rfl⟩
  ·simp only [Kf,Km] at ha
   obtain ⟨rfl,rfl⟩:=ha
   cases hr with
   | nilptr=>exact ⟨Γ,w,_,Lib.run_unsafeString_none w pt it ty _,Moved.refl h,VRel.mkStr rfl⟩
  ·simp at ha
 ·rename_i hn
  split at ha
  ·rename_i b off
   split at ha
   ·rename_i cs t e ho hu
    split at ha
    ·rename_i hc
     obtain ⟨rfl,rfl,hc1,hc2,hc3,hc4,hc5⟩:=hc
     simp only [Kl,Km] at ha
     obtain ⟨s,hs,rfl,rfl⟩:=ha
     obtain ⟨hl1,hl2⟩:=jiT _ _ hc5 hs
     cases hr with
     | ptr _ _ c hb =>
      obtain ⟨ob,g1,g2,g3,g4⟩:=h.at hb ho
      cases ob <;> simp only [ORel] at g2
      rename_i xs t' fr
      obtain ⟨rfl,rfl,hl,hrr⟩:=g2
      have hlt:=(Kq.1 g1).1
      have hsl:s.length=n.toNat:=by rw [hl1,Qi]; omega
      have hsn:(s.length:Int)=n:=by omega
      have hcell:∀ j x,s[j]? = some x→w.cell? ((⟨c,0,none⟩:Addr).add j)=some (.int .u8 x.toNat):=by
       intro j x hj
       have hjl:j<s.length:=(Kr.1 hj).1
       have h1:=hl2 j x hj
       have hjc:j<cs.length:=by omega
       have hjx:j<xs.size:=by omega
       rw [Vj (by omega),Kw hjc,Kf] at h1
       have h2:=hrr j hjc hjx
       rw [h1] at h2
       have h3:xs[j]=.int .u8 x.toNat:=by
        generalize xs[j]=z at h2
        cases h2 with
        | int _ _=>rfl
       have e1:((⟨c,0,none⟩:Addr).add j)=⟨c,j,none⟩:=by
        unfold Addr.add
        by_cases h0:j=0
        ·subst h0; simp
        ·simp [h0]
       rw [e1]
       simp [World.cell?,g1,hjx,h3]
      have hsh:w.shape? c=some (t,xs.size):=by simp [World.shape?,g1]
      have hrun:=Lib.run_unsafeString_row (P:=E.P) w pt it ty t hu hc1 c xs.size hsh s (by intro e; subst e; simp at hsl; omega) (by omega) (by unfold lim at hc4; omega) hcell
      rw [hsn] at hrun
      have hfz:w.freeze ⟨c,0,none⟩ s.length={ w with heap:=w.heap.setIfInBounds c (.cells xs t (0,s.length)) }:=by
       have h0:s.length ≠ 0:=by omega
       simp only [World.freeze]
       rw [Kg h0]
       congr 1
       apply X3 (by simp)
       intro i h1 h2
       rw [Xi,Vb (by simpa using h2)]
       by_cases hi:c=i
       ·subst hi
        have:w.heap[c]=.cells xs t (0,0):=by
         have:=Jj hlt
         rw [this] at g1; simpa using g1
        simp [this]
       ·simp [hi]
      have hu':=Upd.putObj (w:=w) (ob:=.cells xs t (0,s.length)) hlt
      have m:=h.freezeF hb ho g1 hu'
      rw [hfz] at hrun
      exact ⟨_,_,_,hrun,m,VRel.mkStr rfl⟩
    ·simp at ha
   ·simp at ha
  ·simp at ha
theorem jlD {E:Env}(h:WRel Γ σ w){ρ:Operand→Option V}{ρ':Operand→Value}(hρ:jkf Γ ρ ρ')(o:Oper){v:V}(ha:ja8 E ρ σ o.op=some v) :
  ∃ y,(execOp ρ' o).run E.P w=.ok (.value y) w∧VRel Γ v y:=by
 obtain ⟨dst,op,type,pos,after,guard⟩:=o
 simp only at ha
 cases op <;> simp only [ja8,Ki,reduceCtorEq] at ha
 case load t x =>
  obtain ⟨p,hp,ha⟩:=ha
  exact jdi rfl (jkk h (hρ _ _ hp) ha)
 case lookup t m k ok =>
  obtain ⟨mv,hm,kv,hk,ha⟩:=ha
  split at ha
  ·rename_i kt et b hu
   split at ha
   ·rename_i es clock ho
    split at ha
    ·rename_i hc
     simp only [Ki,Kl] at ha
     obtain ⟨z,hz,r,hf,rfl⟩:=ha
     exact jdi rfl (jns h hu (hρ _ _ hm) (hρ _ _ hk) ho hc hf hz)
    ·simp at ha
   ·simp at ha
  ·simp at ha
 case convert src dst x =>
  obtain ⟨a,hx,ha⟩:=ha
  refine jdi rfl ?_
  have hr:=hρ _ _ hx
  split at ha
  ·rename_i e hu1 hu2
   have key:∀ base len c cs l,E.P.underlying e=some (.int .u8)→(Builtin.firstCells 1 len (.slice (some base) len c)).run E.P w=.ok cs w→LRel Γ l cs→∀ out,jc4 l=some out →
     ∃ y,(convert src dst (.slice (some base) len c)).run E.P w=.ok y w∧VRel Γ (.str out) y:=by
    intro base len c cs l hu3 h1 h2 out hl
    simp only [Builtin.firstCells,J3] at h1
    have key3:∀ f:Value→ByteArray→Sem (ForInStep ByteArray),(∀ n s,f (.int .u8 n) s=pure (ForInStep.yield (s.push (UInt8.ofNat n.toNat)))) →
      ∃ y,((Sem.run E.P (forIn cs.toList ByteArray.empty f) w).andThen fun a w'=>Sem.run E.P (pure (Value.string a)) w')=.ok y w∧VRel Γ (.str out) y:=by
     intro f hf
     obtain ⟨ob,ho1,ho2⟩:=jhT (P:=E.P) (w:=w) hf l out cs.toList ByteArray.empty (by simpa using h2) hl
     exact ⟨.string ob,by rw [ho1]; rfl,VRel.mkStr (by simpa using ho2)⟩
    simp only [convert,jab hu1,jab hu2,jab hu3,Conv.bytesToString,Sem.run_bind,Result.andThen_ok,h1,← Array.forIn_toList]
    exact key3 _ (fun n s=>rfl)
   split at ha
   ·rename_i cells len cap hu3
    simp only [Ki,Kl] at ha
    obtain ⟨cs,hcs,l,hl,rfl⟩:=ha
    obtain ⟨ys,h1,h2⟩:=ja6 h hr hcs (P:=E.P)
    obtain ⟨ad,c,hx',_⟩:=hr.row_inv
    rw [hx'] at h1 ⊢
    exact key ad len c ys cs hu3 h1 h2 l hl
   ·rename_i b off len cap ex hu3
    simp only [Ki,Kl] at ha
    obtain ⟨cs,hcs,l,hl,rfl⟩:=ha
    obtain ⟨ys,h1,h2⟩:=ja6 h hr hcs (P:=E.P)
    generalize hxe:ρ' x=xv at hr h1 ⊢
    cases hr with
    | hsl _ _ _ _ _ c c' hblk hcc=>exact key ⟨c,off,none⟩ len c' ys cs hu3 h1 h2 l hl
   ·rename_i hu3
    simp at ha; subst ha
    generalize hxe:ρ' x=xv at hr ⊢
    cases hr
    refine ⟨.string ByteArray.empty,?_,VRel.mkStr rfl⟩
    simp only [convert,jab hu1,jab hu2,jab hu3,Conv.bytesToString,Sem.run_bind,Result.andThen_ok,Sem.run_pure]
   ·simp at ha
  ·rename_i us ud hne hu1 hu2
   exact jnt h hr hu1 hu2 ha
  ·simp at ha
theorem jon {E:Env}(h:WRel Γ σ w){mutb:Bool}{s by':Nat}{t t2 e:TypeId}{kk:IntKind}{ats:Array TypeId}{ty:TypeId}{x y v:V}{xv yv:Value}{σ':S}
  (hx:VRel Γ x xv) (hy:VRel Γ y yv) (h1:ats[0]? = some t) (hu:E.P.underlying t=some (.slice e)) (hs:sz E e=some s) (hb:bys E e=some by') (h2:ats[1]? = some t2) (hu2:E.P.underlying t2=some (.int kk))
  (ha:jpQ E mutb s by' e x y σ=some (v,σ')):∃ Γ' w' r,(Builtin.append_ ats ty #[xv,yv]).run E.P w=.ok r w'∧Moved Γ Γ' σ' w w'∧VRel Γ' v r:=by
 unfold jpQ at ha
 split at ha
 ·rename_i k2 n
  cases hx
  obtain rfl:=hy.int_inv
  split at ha
  ·rename_i hn
   subst hn
   simp only [Kf,Km] at ha
   obtain ⟨rfl,rfl⟩:=ha
   have hinfo:∃ i,E.P.info? e=some i:=by
    unfold sz at hs
    cases hi:E.P.info? e with
    | none=>simp [hi] at hs
    | some i=>exact ⟨i,rfl⟩
   obtain ⟨i,hi⟩:=hinfo
   have hti:∀ w1:World,(typeInfo e).run E.P w1=.ok i w1:=fun w1=>by simp [typeInfo,hi]
   refine ⟨Γ,w,.slice none 0 0,?_,Moved.refl h,.nilsl⟩
   have hw0:IntKind.i64.wrap 0=0:=by decide
   simp only [Builtin.append_,h1,J1,Qw,K9,Sem.run_bind,jab hu,Result.andThen_ok,jaB hs,h2,jab hu2,Sem.run_pure,Ke,asInt,asIntOf,hw0]
   rw [Kg (by decide)]
   simp only [Sem.run_bind,hti,Result.andThen_ok]
   rw [Kg (by simp)]
   simp
  ·rename_i hn0
   split at ha
   ·rename_i hc
    obtain ⟨hn,hl1,hl2,hs0⟩:=hc
    simp only [Ki] at ha
    obtain ⟨z,hz,ha⟩:=ha
    split at ha
    ·rename_i hzl
     obtain ⟨zv,_,hzr⟩:=jdj (Γ:=Γ) (w:=w) hz
     have hzv:∀ w1:World,(zeroValue e).run E.P w1=.ok zv w1:=by
      rename_i hz0
      intro w1
      unfold jbr at hz
      cases hi:(E.P.info? e).bind (·.zero) with
      | none=>simp [hi] at hz
      | some zv' =>
       have e2:∀ w2:World,(zeroValue e).run E.P w2=.ok zv' w2:=fun w2=>by
        cases hj:E.P.info? e with
        | none=>simp [hj] at hi
        | some i=>rw [hj] at hi; simp at hi; simp [zeroValue,typeInfo,hj,hi]
       have:=e2 w
       rw [hz0] at this
       cases this
       exact e2 w1
     have hcl:=hzr.cells.len
     obtain ⟨m,hm⟩:∃ m:Nat,n=m:=⟨n.toNat,by omega⟩
     subst hm
     simp only [Qf] at ha
     obtain ⟨cap',hc1,hcm1,rest,hr1,hrun⟩:=jko (w:=w) (ats:=ats) (ty:=ty) (kk2:=k2) (n:=m) h1 hu hs h2 hu2 hb hzv (by omega) hs0 (by omega) (by omega) (by exact_mod_cast hl2)
     have hzz:=jhS (Γ:=Γ) hzr m (m * s) (by rw [hzl])
     have hze:Builtin.zeroCells zv.cells m=(Array.range (m * s)).map (zv.cells[· % zv.cells.size]!):=by
      unfold Builtin.zeroCells
      rw [← hcl,hzl]
     rw [← hze] at hzz
     have hlen:=hzz.len
     have hlen2:(List.replicate m z.cells).flatten.length=m * s:=by simp [hzl]
     have hf1:(List.replicate m z.cells).flatten.length≤(Builtin.zeroCells zv.cells m++rest).size:=by rw [Array.size_append]; omega
     have hf2:∀ i (hi:i<(List.replicate m z.cells).flatten.length) (hi2:i<(Builtin.zeroCells zv.cells m++rest).size),VRel Γ (List.replicate m z.cells).flatten[i] (Builtin.zeroCells zv.cells m++rest)[i]:=by
      intro i hi hi2
      rw [Vi (by omega)]
      exact hzz.rel i hi (by omega)
     split at ha
     ·simp only [Kf,Km] at ha
      obtain ⟨rfl,rfl⟩:=ha
      obtain ⟨Γ',m1,m2⟩:=je1 h (t:=e) hf1 hf2 (len:=m) (c:=cap') (s:=s) hc1 hcm1 (by rw [Array.size_append,hr1,← hlen,hlen2])
      exact ⟨Γ',_,_,hrun,m1,m2⟩
     ·simp only [Kf,Km] at ha
      obtain ⟨rfl,rfl⟩:=ha
      obtain ⟨Γ',m1,m2⟩:=jf7 h (t:=e) hf1 hf2 (len:=m) (c:=cap') (s:=s) hlen2 hc1 (by rw [Array.size_append,hr1,← hlen,hlen2])
      exact ⟨Γ',_,_,hrun,m1,m2⟩
    ·simp at ha
   ·simp at ha
 ·simp at ha
theorem jlE {E:Env}(h:WRel Γ σ w)(e:TypeId)(x:ByteArray):∃ cap w' Γ',(Conv.stringToBytes e x).run E.P w=.ok (.slice (some ⟨w.heap.size,0,none⟩) x.size cap) w'∧Moved Γ Γ' σ w w' ∧
  VRel Γ' (.row (jdg x.data.toList) x.data.toList.length .unk) (.slice (some ⟨w.heap.size,0,none⟩) x.size cap):=by
 let q:Question:=.appendCap x.size 0 e
 let cap:=q.cut (w.tape w.drawn q)
 have hcap:x.size≤cap:=by show x.size≤x.size+_; omega
 have hch:(choose q).run E.P w=.ok cap { w with drawn:=w.drawn+1 }:=by
  rw [run_choose,show q.forced=false from rfl]; rfl
 have hch':(choose (Question.appendCap x.size 0 e)).run E.P w=.ok cap { w with drawn:=w.drawn+1 }:=hch
 let xs:Array Value:=(x.data.map fun b=>Value.int .u8 b.toNat)++Array.replicate (cap - x.size) (.int .u8 0)
 have hs:=h.same (w':={ w with drawn:=w.drawn+1 }) rfl
 have m:=hs.pinRowF (n:=x.size) (xs:=xs) (t:=e) (xs.size,xs.size+1)
 have hb:Below Γ.base w { w with drawn:=w.drawn+1 }:=⟨rfl,rfl,rfl,Ku _,fun _ _=>rfl⟩
 have hlen:x.data.toList.length=x.size:=by rw [Qo]; rfl
 refine ⟨cap,_,_,?_,⟨m.le,m.rel,hb.trans m.below⟩,?_⟩
 ·simp only [Conv.stringToBytes,Sem.run_bind,hch',Result.andThen_ok,newRow,run_newObj,Sem.run_pure,markStringish]
  simp [shape,World.shape?,freeze,World.freeze,Sem.run]
  have hsz:x.size+(cap - x.size)=xs.size:=by simp [xs]
  rw [hsz]
  apply X3 (by simp)
  intro i h1 h2
  rw [Xi,Array.getElem_push,Array.getElem_push]
  by_cases hi:i<w.heap.size
  ·rw [Kg (by omega)]
   simp [hi]
  ·have:i=w.heap.size:=by simp at h2; omega
   subst this
   simp [xs]
 ·refine .row _ _ _ _ _ (fun i=>xs[i]!) (fun i hi => ?_) (fun i hi => ?_) (by simp only [jcb]; omega)
  ·have hi2:i<x.size:=by simpa [jdg,hlen] using hi
   have hi3:i<xs.size:=by simp [xs]; have:x.data.size=x.size:=rfl; omega
   refine ⟨rfl,?_⟩
   simp only [Ctx.pinRow,Qx]
   rw [Kh trivial,Kh hi2]
   simp [hi3]
  ·have hi2:i<x.size:=by simpa [jdg,hlen] using hi
   have hi4:i<x.data.size:=hi2
   have e1:xs[i]! = .int .u8 (x.data[i]).toNat:=by
    have hi5:i<xs.size:=by simp [xs]; have:x.data.size=x.size:=rfl; omega
    rw [show xs[i]! = xs[i] by simp [hi5]]
    simp only [xs]
    rw [Vi (by simpa using hi4)]
    simp
   rw [e1]
   have e2:(jdg x.data.toList)[i]=.int .u8 (x.data[i]).toNat:=by simp [jdg]
   rw [e2]
   exact .int _ _
def jr1 (P:Program)(s:Sem Next)(w:World)(x:Value)(w':World):Prop:=s.run P w=.ok (.value x) w'∨(s.run P w=.ok .skip w'∧x=undef)
theorem jbU (Γ:Ctx):VRel Γ (.tup []) undef:=.tup [] #[] rfl (fun i h=>absurd h (by simp))
theorem jer {E:Env}{t e:TypeId}(h:jf0 E t=some e):E.P.underlying t=some (.slice e):=by
 unfold jf0 at h
 split at h
 ·simp at h; subst h; assumption
 ·simp at h
theorem jd6 (a b:Nat):((Nat.min a b:Nat):Int)=min (a:Int) (b:Int):=by
 show ((min a b:Nat):Int)=_
 omega
theorem je2 {v:V}{x:Value}{m s:Nat}(hx:VRel Γ v x)(h:vLen v=some m){P:Program}:(Builtin.firstCells s 0 x).run P w=.ok #[] w:=by
 cases hx <;> simp only [vLen,reduceCtorEq] at h
 case str x=>simp [Builtin.firstCells]
 case hsl=>simp [Builtin.firstCells,loadCells,loadCellsFrom]
 case row=>simp [Builtin.firstCells,loadCells,loadCellsFrom]
 case nilsl=>simp [Builtin.firstCells]
theorem jkr {E:Env}(h:WRel Γ σ w){ρ:Operand→Option V}{ρ':Operand→Value}(hρ:jkf Γ ρ ρ')(o:Oper){mutb:Bool}{v:V}{σ':S}(ha:jbo E mutb ρ σ o.op=some (v,σ')) :
  ∃ Γ' w' y,jr1 E.P (execOp ρ' o) w y w'∧Moved Γ Γ' σ' w w'∧VRel Γ' v y:=by
 obtain ⟨dst,op,type,pos,after,guard⟩:=o
 simp only at ha
 cases op <;> simp only [jbo,Ki,Kl,reduceCtorEq] at ha
 case alloc t =>
  obtain ⟨z,hz,ha⟩:=ha
  simp only [Km] at ha
  obtain ⟨rfl,rfl⟩:=ha
  obtain ⟨zv,hzv,hzr⟩:=jdj (Γ:=Γ) (w:=w) hz
  have m:=h.push (o:=.cells z.cells t) (ob:=.cells zv.cells t (0,0)) ⟨rfl,rfl,Xc hzr.cells.len,hzr.cells.rel⟩
  refine ⟨_,_,_,.inl ?_,m,.ptr _ _ w.heap.size (by simp [Ctx.push])⟩
  simp only [execOp,Instr.alloc,Sem.run_bind,hzv,Result.andThen_ok,newVar,newRow,run_newObj,Sem.run_pure]
 case convert src dst x =>
  obtain ⟨a,hx,ha⟩:=ha
  have hr:=hρ _ _ hx
  split at ha
  ·rename_i d1 e s hu1 hu2
   split at ha
   ·rename_i hu3
    simp only [Kf,Km] at ha
    obtain ⟨rfl,rfl⟩:=ha
    obtain ⟨x1,hx1,hs⟩:=hr.str_inv
    obtain ⟨cap,w',Γ',hrun,m,hy⟩:=jlE (E:=E) h e x1
    rw [hs] at hy
    refine ⟨Γ',w',_,.inl ?_,m,hy⟩
    have hrun2:(convert src dst (.string x1)).run E.P w=.ok (.slice (some ⟨w.heap.size,0,none⟩) x1.size cap) w':=by
     cases d1 <;> simp [convert,jab hu1,jab hu2,jab hu3,hrun]
    simp only [execOp,hx1,Sem.run_bind,hrun2,Result.andThen_ok,Sem.run_pure]
   ·simp at ha
  ·rename_i e1 e b off len cap ex hu1 hu2
   split at ha
   ·rename_i hsd
    split at ha
    ·rename_i cs t hu3 ho
     split at ha
     ·rename_i hc
      simp only [Kf,Km] at ha
      obtain ⟨rfl,rfl⟩:=ha
      subst hsd
      rw [hu1] at hu2
      cases hu2
      generalize hxe:ρ' x=xv at hr
      cases hr with
      | hsl _ _ _ _ _ c c' hblk hcc =>
       obtain ⟨ob,g1,g2,g3,g4⟩:=h.at hblk ho
       cases ob <;> simp only [ORel] at g2
       rename_i xs t' fr
       obtain ⟨rfl,rfl,hl,hrr⟩:=g2
       have hlt:=(Kq.1 g1).1
       have hu:=Upd.putObj (w:=w) (ob:=.cells xs t (xs.size,xs.size+1)) hlt
       have m:=h.freezeF hblk ho g1 hu
       refine ⟨_,_,.slice (some ⟨c,off,none⟩) len c',.inl ?_,m,?_⟩
       ·have hmark:(markStringish ⟨c,off,none⟩).run E.P w=.ok () { w with heap:=w.heap.setIfInBounds c (.cells xs t (xs.size,xs.size+1)) }:=by
         simp [markStringish,shape,World.shape?,g1,freeze,World.freeze,Sem.run]
         apply X3 (by simp)
         intro i h1 h2
         rw [Xi,Vb (by simpa using h2)]
         by_cases hi:c=i
         ·subst hi
          have:w.heap[c]=.cells xs t (0,0):=by
           have:=Jj hlt
           rw [this] at g1; simpa using g1
          simp [this]
         ·simp [hi]
        simp [execOp,hxe,convert,jab hu1,jab hu3,hmark]
       ·refine .row _ _ _ _ _ (fun i=>xs.getD (off+i) undef) (fun i hi=>⟨rfl,?_⟩) (fun i hi => ?_) (by show len≤c'; omega)
        ·simp only [Qi,Ja] at hi
         simp only [Ctx.freeze,Ke,World.cell?,g1]
         have:off+i<xs.size:=by omega
         simp [Array.getD,this]
        ·simp only [Qi,Ja] at hi
         have h3:off+i<xs.size:=by omega
         have e:xs.getD (off+i) undef=xs[off+i]:=by simp [Array.getD,h3]
         rw [e,List.getElem_take,Xx]
         exact (hrr (off+i) (by omega) h3).mono m.le
     ·simp at ha
    ·simp at ha
   ·simp at ha
  ·simp at ha
 case makeMap t r =>
  cases r with
  | some _=>simp at ha
  | none =>
   simp only at ha
   split at ha
   ·simp only [Kf,Km] at ha
    obtain ⟨rfl,rfl⟩:=ha
    have m:=h.push (o:=.map [] 0) (ob:=.map #[] 0) ⟨rfl,rfl,fun i a=>by simp at a⟩
    refine ⟨_,_,_,.inl ?_,m,.map _ w.heap.size (by simp [Ctx.push])⟩
    simp only [execOp,Instr.makeMap,Option.map_none,Sem.run_bind,run_newObj,Result.andThen_ok,Sem.run_pure]
   ·simp at ha
 case insert t m k x =>
  obtain ⟨mv,hm,kv,hk,xv,hx,ha⟩:=ha
  split at ha
  ·rename_i kt et b hu
   split at ha
   ·rename_i es clock ho
    split at ha
    ·rename_i hc
     split at ha
     ·rename_i hf
      simp only [Kf,Km] at ha
      obtain ⟨rfl,rfl⟩:=ha
      obtain ⟨w',hrun,m⟩:=jiR h hu (hρ _ _ hm) (hρ _ _ hk) (hρ _ _ hx) ho hc hf
      exact ⟨_,w',_,.inr ⟨by simp [execOp,hrun],rfl⟩,m,jbU _⟩
     ·rename_i j hf
      split at ha
      ·rename_i e he
       split at ha
       ·rename_i hs
        simp only [Kf,Km] at ha
        obtain ⟨rfl,rfl⟩:=ha
        obtain ⟨w',hrun,m⟩:=jiS h hu (hρ _ _ hm) (hρ _ _ hk) (hρ _ _ hx) ho hc hf he hs
        exact ⟨_,w',_,.inr ⟨by simp [execOp,hrun],rfl⟩,m,jbU _⟩
       ·simp at ha
      ·simp at ha
     ·simp at ha
    ·simp at ha
   ·simp at ha
  ·simp at ha
 case mapUpdate t m k x =>
  obtain ⟨mv,hm,kv,hk,xv,hx,ha⟩:=ha
  split at ha
  ·rename_i kt et b hu
   split at ha
   ·rename_i es clock ho
    split at ha
    ·rename_i hc
     split at ha
     ·rename_i hf
      simp only [Kf,Km] at ha
      obtain ⟨rfl,rfl⟩:=ha
      obtain ⟨w',hrun,m⟩:=jiR h hu (hρ _ _ hm) (hρ _ _ hk) (hρ _ _ hx) ho hc hf
      exact ⟨_,w',_,.inr ⟨by simp [execOp,hrun],rfl⟩,m,jbU _⟩
     ·rename_i j hf
      split at ha
      ·rename_i e he
       split at ha
       ·rename_i hs
        simp only [Kf,Km] at ha
        obtain ⟨rfl,rfl⟩:=ha
        obtain ⟨w',hrun,m⟩:=jiS h hu (hρ _ _ hm) (hρ _ _ hk) (hρ _ _ hx) ho hc hf he hs
        exact ⟨_,w',_,.inr ⟨by simp [execOp,hrun],rfl⟩,m,jbU _⟩
       ·simp at ha
      ·simp at ha
     ·simp at ha
    ·simp at ha
   ·simp at ha
  ·simp at ha
 case mapEntry t m k =>
  obtain ⟨mv,hm,kv,hk,ha⟩:=ha
  split at ha
  ·rename_i kt et b hu
   split at ha
   ·rename_i es clock ho
    split at ha
    ·rename_i hc
     split at ha
     ·rename_i hf
      simp only [Kl,Km] at ha
      obtain ⟨z,hz,rfl,rfl⟩:=ha
      obtain ⟨w',y,hrun,hy,m⟩:=jkp h hu (hρ _ _ hm) (hρ _ _ hk) ho hc hf hz
      exact ⟨_,w',y,.inl (by simp [execOp,hrun]),m,hy⟩
     ·rename_i j hf
      split at ha
      ·rename_i e he
       split at ha
       ·rename_i hs
        simp only [Kf,Km] at ha
        obtain ⟨rfl,rfl⟩:=ha
        obtain ⟨w',y,hrun,hy,m⟩:=jkq h hu (hρ _ _ hm) (hρ _ _ hk) ho hc hf he hs
        exact ⟨_,w',y,.inl (by simp [execOp,hrun]),m,hy⟩
       ·simp at ha
      ·simp at ha
     ·simp at ha
    ·simp at ha
   ·simp at ha
  ·simp at ha
 case entryStore t m s x =>
  obtain ⟨mv,hm,sv,hs,xv,hx,ha⟩:=ha
  split at ha
  ·rename_i b kk n
   split at ha
   ·rename_i es clock ho
    split at ha
    ·rename_i j hf
     split at ha
     ·rename_i e he
      simp only [Kf,Km] at ha
      obtain ⟨rfl,rfl⟩:=ha
      have hsi:=(hρ _ _ hs).int_inv
      obtain ⟨w',hrun,m⟩:=jiE (P:=E.P) (t:=t) (kk:=kk) h (hρ _ _ hm) (hρ _ _ hx) ho hf he
      exact ⟨_,w',_,.inr ⟨by simp [execOp,hsi,hrun],rfl⟩,m,jbU _⟩
     ·simp at ha
    ·simp at ha
   ·simp at ha
  ·simp at ha
 case box t x =>
  obtain ⟨u,hu,ha⟩:=ha
  simp only [Km] at ha
  obtain ⟨rfl,rfl⟩:=ha
  have hr:=hρ _ _ hu
  have m:=h.push (o:=.cells u.cells t) (ob:=.cells (ρ' x).cells t (0,0)) ⟨rfl,rfl,Xc hr.cells.len,hr.cells.rel⟩
  refine ⟨_,_,_,.inl ?_,m,.ptr _ _ w.heap.size (by simp [Ctx.push])⟩
  simp only [execOp,Instr.box,Sem.run_bind,Result.andThen_ok,newVar,newRow,run_newObj,Sem.run_pure]
 case buildSlice t len parts =>
  obtain ⟨ps,hp,e,he,s,hs,z,hz,ha⟩:=ha
  have hu:=jer he
  split at ha
  ·rename_i hlim
   simp only [Kl] at ha
   obtain ⟨cs,hf,ha⟩:=ha
   have hzz:∃ zc:Array Value,((len * s=0→zc = #[])∧(len * s ≠ 0→∃ zv,(zeroValue e).run E.P w=.ok zv w∧zc=zv.cells))∧LRel Γ (List.replicate len z.cells).flatten ((Array.range (len * s)).map (zc[· % zc.size]!)):=by
    by_cases h0:len * s=0
    ·rw [Kh h0] at hz; simp at hz; subst hz
     refine ⟨#[],⟨fun _=>rfl,fun h=>absurd h0 h⟩,?_⟩
     simp only [V.cells,h0]
     refine ⟨by simp,fun i a b => ?_⟩
     simp at a
    ·rw [Kg h0] at hz
     obtain ⟨zv,hzv,hzr⟩:=jdj (Γ:=Γ) (w:=w) hz
     refine ⟨zv.cells,⟨fun h=>absurd h h0,fun _=>⟨zv,hzv,rfl⟩⟩,?_⟩
     exact jhS hzr len (len * s) (by rw [hlim.2.resolve_right h0])
   obtain ⟨zc,hz1,hz2⟩:=hzz
   obtain ⟨h1,h2⟩:=jgz hρ hp
   obtain ⟨out,hout,hrel⟩:=jmy (Γ:=Γ) (qs:=(parts.map fun (x:Nat × Operand)=>(x.1,ρ' x.2)).toList) (by simpa using h1) (fun i a b=>by have:=h2 i a (by simpa using b); simpa using this) hz2 hf
   have hle:¬ (len * s > 2 ^ 24):=by omega
   have hrun:(Instr.buildSlice t len (parts.map fun (x:Nat × Operand)=>(x.1,ρ' x.2))).run E.P w=.ok (.slice (some ⟨w.heap.size,0,none⟩) len len) { w with heap:=w.heap.push (.cells out e (0,0)) }:=by
    simp only [Instr.buildSlice,Sem.run_bind,jab hu,jaB hs,Result.andThen_ok,Sem.run_ite,Kg hle,Sem.run_pure]
    by_cases h0:len * s=0
    ·rw [Kh h0]
     have:=hz1.1 h0
     subst this
     simp only [hout,Sem.run_bind,newRow,run_newObj,Result.andThen_ok,Sem.run_pure]
    ·rw [Kg h0]
     obtain ⟨zv,hzv,rfl⟩:=hz1.2 h0
     simp only [hzv,hout,Sem.run_bind,newRow,run_newObj,Result.andThen_ok,Sem.run_pure]
   generalize (mutb && !E.rowB)=mb at ha
   cases mb with
   | true =>
    simp at ha; obtain ⟨rfl,rfl⟩:=ha
    have m:=h.push (o:=.cells cs e) (ob:=.cells out e (0,0)) ⟨rfl,rfl,Xc hrel.len,hrel.rel⟩
    refine ⟨_,_,_,.inl ?_,m,.hsl _ _ _ _ _ w.heap.size _ (by simp [Ctx.push]) ⟨Ku _,rfl⟩⟩
    simp only [execOp,Sem.run_bind,hrun,Result.andThen_ok,Sem.run_pure]
   | false =>
    simp at ha; obtain ⟨rfl,rfl⟩:=ha
    have m:=h.pinRow (n:=cs.length) (xs:=out) (t:=e)
    refine ⟨_,_,.slice (some ⟨w.heap.size,0,none⟩) len len,.inl ?_,m,jep (b:=w.heap.size) (xs:=out) (Xc hrel.len) hrel.rel m.le (fun i hi=>by simp only [Ctx.pinRow]; rw [Kh trivial,Kh hi]) rfl⟩
    simp only [execOp,Sem.run_bind,hrun,Result.andThen_ok,Sem.run_pure]
  ·simp at ha
 case makeSlice t l c =>
  obtain ⟨lv,hl,cv,hc,e,he,s,hs,by',hb,ha⟩:=ha
  have hu:=jer he
  split at ha
  ·rename_i l' c'
   split at ha
   ·rename_i hcond
    simp only [Ki] at ha
    obtain ⟨z,hz,ha⟩:=ha
    split at ha
    ·rename_i hzl
     have hl':=(hρ _ _ hl).int_inv
     have hc':=(hρ _ _ hc).int_inv
     have hzz:∃ zc:Array Value,((c'.toNat * s=0→zc = #[])∧(c'.toNat * s ≠ 0→∃ zv,(zeroValue e).run E.P w=.ok zv w∧zc=zv.cells))∧LRel Γ (List.replicate c'.toNat z.cells).flatten ((Array.range (c'.toNat * s)).map (zc[· % zc.size]!)):=by
      by_cases h0:c'.toNat * s=0
      ·rw [Kh h0] at hz; simp at hz; subst hz
       refine ⟨#[],⟨fun _=>rfl,fun h=>absurd h0 h⟩,?_⟩
       simp only [V.cells,h0]
       refine ⟨by simp,fun i a b => ?_⟩
       simp at a
      ·rw [Kg h0] at hz
       obtain ⟨zv,hzv,hzr⟩:=jdj (Γ:=Γ) (w:=w) hz
       refine ⟨zv.cells,⟨fun h=>absurd h h0,fun _=>⟨zv,hzv,rfl⟩⟩,?_⟩
       exact jhS hzr c'.toNat (c'.toNat * s) (by rw [hzl.resolve_right h0])
     obtain ⟨zc,hz1,hz2⟩:=hzz
     have hrun:(execOp ρ' { dst:=dst,op:=.makeSlice t l c,type:=type,pos:=pos,after:=after,guard:=guard }).run E.P w=.ok (.value (.slice (some ⟨w.heap.size,0,none⟩) l'.toNat c'.toNat)) { w with heap:=w.heap.push (.cells ((Array.range (c'.toNat * s)).map (zc[· % zc.size]!)) e (0,0)) }:=by
      have hinfo:∃ i,E.P.info? e=some i∧i.bytes=by':=by
       cases hi:E.P.info? e with
       | none=>simp [bys,hi] at hb
       | some i=>simp [bys,hi] at hb; exact ⟨i,rfl,hb⟩
      obtain ⟨i,hi,hby⟩:=hinfo
      have hti:∀ w1:World,(typeInfo e).run E.P w1=.ok i w1:=fun w1=>by simp [typeInfo,hi]
      have wl:∀ n:Int,0≤n→n≤lim→IntKind.i64.wrap n=n:=fun n h0 h1=>by
       unfold lim at h1
       have e1:n % 18446744073709551616=n:=X6 h0 (by omega)
       simp [IntKind.wrap,IntKind.bits,IntKind.signed,e1]; omega
      obtain ⟨c1,c2,c3,c4⟩:=hcond
      simp only [execOp,Instr.makeSlice,hl',hc',asInt,asIntOf,Sem.run_bind,jab hu,Result.andThen_ok,Sem.run_pure,hti,wl l' c1 (by omega),wl c' (by omega) c3]
      have hb4:(by':Int) * c'≤lim:=by rw [Int.mul_comm]; exact c4
      have hno:(decide (c'<0) || decide ((i.bytes:Int) * c' > 2 ^ 48) || decide (l'<0) || decide (l' > c'))=false:=by
       rw [hby]
       unfold lim at hb4
       simp; omega
      rw [Kg (by rw [hno]; simp)]
      simp only [Sem.run_bind,run_askRoom,Result.andThen_ok,jaB hs]
      by_cases h0:c'.toNat * s=0
      ·rw [Kh h0]
       have:=hz1.1 h0
       subst this
       simp only [Sem.run_bind,newRow,run_newObj,Result.andThen_ok,Sem.run_pure]
      ·rw [Kg h0]
       obtain ⟨zv,hzv,rfl⟩:=hz1.2 h0
       simp only [hzv,Sem.run_bind,newRow,run_newObj,Result.andThen_ok,Sem.run_pure]
     obtain ⟨c1,c2,c3,c4⟩:=hcond
     have hfl:(List.replicate c'.toNat z.cells).flatten.length=c'.toNat * s:=by
      have:=hz2.len
      simpa using this
     have hlc:l'.toNat≤c'.toNat:=by omega
     have hmul:l'.toNat * s≤c'.toNat * s:=Qk _ hlc
     split at ha
     ·simp at ha; obtain ⟨rfl,rfl⟩:=ha
      have m:=h.push (o:=.cells (List.replicate c'.toNat z.cells).flatten e) (ob:=.cells ((Array.range (c'.toNat * s)).map (zc[· % zc.size]!)) e (0,0)) ⟨rfl,rfl,Xc hz2.len,hz2.rel⟩
      exact ⟨_,_,.slice (some ⟨w.heap.size,0,none⟩) l'.toNat c'.toNat,.inl hrun,m,.hsl _ _ _ _ _ w.heap.size _ (by simp [Ctx.push]) ⟨Ku _,rfl⟩⟩
     ·split at ha
      ·rename_i hlc'
       simp at ha; obtain ⟨rfl,rfl⟩:=ha
       subst hlc'
       have m:=h.pinRow (n:=(List.replicate l'.toNat z.cells).flatten.length) (xs:=(Array.range (l'.toNat * s)).map (zc[· % zc.size]!)) (t:=e)
       exact ⟨_,_,.slice (some ⟨w.heap.size,0,none⟩) l'.toNat l'.toNat,.inl hrun,m,jep (b:=w.heap.size) (Xc hz2.len) hz2.rel m.le (fun i hi=>by simp only [Ctx.pinRow]; rw [Kh trivial,Kh hi]) rfl⟩
      ·simp at ha; obtain ⟨rfl,rfl⟩:=ha
       have htl:((List.replicate c'.toNat z.cells).flatten.take (l'.toNat * s)).length=l'.toNat * s:=by
        rw [Qi,hfl]; omega
       have m1:=h.pinRow (n:=l'.toNat * s) (xs:=(Array.range (c'.toNat * s)).map (zc[· % zc.size]!)) (t:=e)
       have m2:=m1.rel.newTok (b:=w.heap.size) (pos:=l'.toNat * s) (spare:=c'.toNat - l'.toNat) (s:=s) (xs:=(Array.range (c'.toNat * s)).map (zc[· % zc.size]!)) (t:=e) (by simp) (by simp; rw [Ve]; omega) h.size
        (fun i hi=>by simp only [Ctx.pinRow]; rw [Kh trivial,Kg (by omega)]) (fun a ha=>by have:=h.lt (a:=a) (c:=w.heap.size) ha; omega)
        (fun k e p q he ht=>by have:=h.toklt (p:=q.1) (q:=q.2) he ht; omega)
       refine ⟨_,_,.slice (some ⟨w.heap.size,0,none⟩) l'.toNat c'.toNat,.inl hrun,m1.trans m2,jep (b:=w.heap.size) (xs:=(Array.range (c'.toNat * s)).map (zc[· % zc.size]!)) (by rw [htl]; simp; omega) (fun i hi hi2 => ?_) (m1.le.trans m2.le) (fun i hi => ?_) ?_⟩
       ·rw [List.getElem_take]
        exact hz2.rel i (by rw [hfl]; omega) hi2
       ·simp only [Ctx.setTok,Ctx.pinRow]; rw [Kh trivial,Kh (by omega)]
       ·refine ⟨w.heap.size,l'.toNat * s,c'.toNat - l'.toNat,by simp [Ctx.setTok],by omega,.inr ⟨?_,Ku _⟩⟩
        simp
    ·simp at ha
   ·simp at ha
  ·simp at ha
 case store t a x =>
  obtain ⟨p,hp,u,hu,s,hs,ha⟩:=ha
  split at ha
  ·rename_i hlen
   simp only [Kl] at ha
   obtain ⟨σ2,hst,ha⟩:=ha
   simp at ha; obtain ⟨rfl,rfl⟩:=ha
   have hru:=hρ _ _ hu
   obtain ⟨ad,w',e1,hrun,m⟩:=jei h (hρ _ _ hp) hru.cells hst (P:=E.P)
   refine ⟨Γ,w',undef,.inr ⟨?_,rfl⟩,m,jbU Γ⟩
   have hn:¬ ((ρ' x).cells.size ≠ s):=by rw [← hru.cells.len,hlen]; simp
   simp only [execOp,Instr.storeAt,e1,Instr.sureAddr,storeVar,Sem.run_bind,Sem.run_pure,Result.andThen_ok,jaB hs,Kg hn,hrun]
  ·simp at ha
 case call c =>
  obtain ⟨callee,args,argTypes⟩:=c
  cases callee <;> simp only [reduceCtorEq] at ha
  rename_i b
  cases b <;> simp only [reduceCtorEq,Ki] at ha
  case append =>
   obtain ⟨vs,hv,ha⟩:=ha
   have hl:=jbp hρ hv
   match vs,ha with
   | [x,y],ha =>
    simp only [Ki] at ha
    obtain ⟨t,ht,e,he,s,hs,by',hb,ha⟩:=ha
    have hsz:(args.map ρ').size=2:=by have:=hl.len; simpa using this.symm
    have he2:args.map ρ' = #[(args.map ρ')[0],(args.map ρ')[1]]:=by
     apply X3 (by simpa using hsz)
     intro i a b
     have:i=0∨i=1:=by simp at b; omega
     rcases this with rfl | rfl <;> rfl
    have h0:=hl.rel 0 (by simp) (by omega)
    have h1:=hl.rel 1 (by simp) (by omega)
    split at ha
    ·rename_i t2 ht2
     split at ha
     ·rename_i kk hu2
      obtain ⟨Γ',w',r,hrun,mv,hr⟩:=jon (ats:=argTypes) (ty:=type) h h0 h1 ht (jer he) hs hb ht2 hu2 ha
      refine ⟨Γ',w',r,.inl ?_,mv,hr⟩
      simp only [execOp,resolve,invoke,builtin,Sem.run_bind,Sem.run_pure,Result.andThen_ok]
      rw [he2,hrun]; rfl
     ·rename_i d hd hu2
      simp only [Ki] at ha
      obtain ⟨m,hm,new,hn,ha⟩:=ha
      split at ha
      ·rename_i hz
       obtain ⟨Γ',w',r,hrun,mv,hr⟩:=jlC (ats:=argTypes) (ty:=type) h h0 h1 ht (jer he) hs hb hz ht2 hu2 (fun k e=>hd k (by rw [e])) hm hn ha
       refine ⟨Γ',w',r,.inl ?_,mv,hr⟩
       simp only [execOp,resolve,invoke,builtin,Sem.run_bind,Sem.run_pure,Result.andThen_ok]
       rw [he2,hrun]; rfl
      ·simp at ha
     ·simp at ha
    ·simp at ha
  case unsafeString =>
   obtain ⟨vs,hv,ha⟩:=ha
   have hl:=jbp hρ hv
   split at ha
   ·rename_i p n
    split at ha
    ·rename_i pt it hat
     have hat2:argTypes = #[pt,it]:=by apply Array.ext'; simpa using hat
     subst hat2
     have hsz:(args.map ρ').size=2:=by have:=hl.len; simpa using this.symm
     have he2:args.map ρ' = #[(args.map ρ')[0],(args.map ρ')[1]]:=by
      apply X3 (by simpa using hsz)
      intro i a b
      have:i=0∨i=1:=by simp at b; omega
      rcases this with rfl | rfl <;> rfl
     have h0:=hl.rel 0 (by simp) (by omega)
     have h1:=hl.rel 1 (by simp) (by omega)
     simp only [Jm,Jh] at h0 h1
     obtain ⟨Γ',w',r,hrun,mv,hr⟩:=jjI (it:=it) (ty:=type) h h0 ha
     refine ⟨Γ',w',r,.inl ?_,mv,hr⟩
     have h1':(args.map ρ')[1]=.int .i64 n:=by
      generalize (args.map ρ')[1]=z at h1
      cases h1 with
      | int _ _=>rfl
     rw [h1'] at he2
     simp only [execOp,resolve,invoke,builtin,Sem.run_bind,Sem.run_pure,Result.andThen_ok]
     rw [he2,hrun]; rfl
    ·simp at ha
   ·simp at ha
  case len =>
   obtain ⟨vs,hv,ha⟩:=ha
   have hl:=jbp hρ hv
   match vs,ha with
   | [v0],ha =>
    simp only [Ki] at ha
    obtain ⟨t,ht,ha⟩:=ha
    have hsz:(args.map ρ').size=1:=by have:=hl.len; simpa using this.symm
    have he:args.map ρ' = #[(args.map ρ')[0]]:=by
     apply X3 (by simpa using hsz)
     intro i a b
     have:i=0:=by simp at b; omega
     subst this; rfl
    have h0:=hl.rel 0 (by simp) (by omega)
    simp only [Jm] at h0
    have fin:∀ r,(Builtin.len_ argTypes type #[(args.map ρ')[0]]).run E.P w=.ok r w→(execOp ρ' { dst:=dst,op:=.call { callee:=.builtin .len,args:=args,argTypes:=argTypes },type:=type,pos:=pos,after:=after,guard:=guard }).run E.P w=.ok (.value r) w:=by
     intro r hrun
     simp only [execOp,resolve,invoke,builtin,Sem.run_bind,Sem.run_pure,Result.andThen_ok]
     rw [he,hrun]; rfl
    generalize hx0:(args.map ρ')[0]=x0 at *
    split at ha
    ·rename_i hu
     simp only [Kf,Km] at ha
     obtain ⟨rfl,rfl⟩:=ha
     cases h0
     exact ⟨Γ,w,_,.inl (fin _ (by simp [Builtin.len_,ht,jab hu,goInt])),Moved.refl h,.int _ _⟩
    ·rename_i b hu
     split at ha
     ·rename_i es clock ho
      simp only [Kf,Km] at ha
      obtain ⟨rfl,rfl⟩:=ha
      cases h0 with
      | map _ c hb =>
       obtain ⟨ob,g1,g2,_⟩:=h.at hb ho
       cases ob <;> simp only [ORel] at g2
       rename_i xs clock'
       refine ⟨Γ,w,.int .i64 xs.size,.inl (fin _ ?_),Moved.refl h,by rw [← g2.2.1]; exact .int _ _⟩
       simp [Builtin.len_,ht,jab hu,goInt,jcL g1]
     ·simp at ha
    ·simp at ha
  case copy =>
   obtain ⟨vs,hv,ha⟩:=ha
   have hl:=jbp hρ hv
   match vs,ha with
   | [x,y],ha =>
    simp only [Ki] at ha
    obtain ⟨t,ht,e,he,s,hs,m,hm,ha⟩:=ha
    have hu:=jer he
    have hsz:(args.map ρ').size=2:=by have:=hl.len; simpa using this.symm
    have he2:args.map ρ' = #[(args.map ρ')[0],(args.map ρ')[1]]:=by
     apply X3 (by simpa using hsz)
     intro i a b
     have:i=0∨i=1:=by simp at b; omega
     rcases this with rfl | rfl <;> rfl
    have h0:=hl.rel 0 (by simp) (by omega)
    have h1:=hl.rel 1 (by simp) (by omega)
    have hmr:=jkl (w:=w) h1 hm (P:=E.P)
    simp only [Jm,Jh] at h0 h1 hmr
    have fin:∀ r w',(Builtin.copy_ argTypes type #[(args.map ρ')[0],(args.map ρ')[1]]).run E.P w=.ok r w'→(execOp ρ' { dst:=dst,op:=.call { callee:=.builtin .copy,args:=args,argTypes:=argTypes },type:=type,pos:=pos,after:=after,guard:=guard }).run E.P w=.ok (.value r) w':=by
     intro r w' hrun
     simp only [execOp,resolve,invoke,builtin,Sem.run_bind,Sem.run_pure,Result.andThen_ok]
     rw [he2,hrun]; rfl
    generalize hx0:(args.map ρ')[0]=x0 at *
    generalize hy0:(args.map ρ')[1]=y0 at *
    cases x <;> simp only [reduceCtorEq,Ki] at ha
    case hsl b off len cap ex =>
     obtain ⟨new,hn,ha⟩:=ha
     obtain ⟨ys,hys,hyr⟩:=ja6 h h1 hn (P:=E.P)
     cases h0 with
     | hsl _ _ _ _ _ c c' hblk hcc =>
      split at ha
      ·rename_i hmin
       simp at ha; obtain ⟨rfl,rfl⟩:=ha
       have hyl:ys.toList=[]:=by
        have:=hyr.len; rw [jfo hn,hmin] at this
        apply Qt; simp at this; simpa using this.symm
       refine ⟨Γ,w,_,.inl (fin _ _ ?_),Moved.refl h,.int _ _⟩
       have hmin':Nat.min m len=0:=hmin
       rw [hmin] at hys
       simp [Builtin.copy_,ht,jab hu,hmr,jaB hs,hmin',hys,hyl,storeCells,goInt]
      ·split at ha
       ·rename_i hex
        simp only [Kl] at ha
        obtain ⟨σ2,hst,ha⟩:=ha
        simp at ha; obtain ⟨rfl,rfl⟩:=ha
        obtain ⟨hcap,hcr⟩:=hcc
        have hsz2:∃ n',Γ.siz c=some n'∧off+cap * s≤n':=by
         cases ex with
         | exact=>simp [HCap.room] at hex
         | least=>simp [HCap.room] at hex
         | grow s'=>simp [HCap.room] at hex; subst hex; obtain ⟨⟨n2,k1,k2⟩,_⟩:=hcr; exact ⟨n2,k1,Jr (Nat.add_le_add_left (Qk _ hcap) _) k2⟩
         | both s'=>simp [HCap.room] at hex; subst hex; obtain ⟨_,n2,k1,k2⟩:=hcr; exact ⟨n2,k1,Jr (Nat.add_le_add_left (Qk _ hcap) _) k2⟩
        obtain ⟨n',hsz3,hle3⟩:=hsz2
        obtain ⟨w',hrun,mv⟩:=jjH h hblk hsz3 hle3 hyr hst (P:=E.P)
        refine ⟨Γ,w',.int .i64 (min m len),.inl (fin _ _ ?_),mv,?_⟩
        ·have hys':(Builtin.firstCells s (Nat.min m len) y0).run E.P w=.ok ys w:=hys
         simp [Builtin.copy_,ht,jab hu,hmr,jaB hs,hys',hrun,goInt]
         exact jd6 m len
        ·have:((min m len:Nat):Int)=min (m:Int) (len:Int):=jd6 m len
         rw [this]; exact .int _ _
       simp only [Kl] at ha
       obtain ⟨σ2,hst,ha⟩:=ha
       simp at ha; obtain ⟨rfl,rfl⟩:=ha
       obtain ⟨ad,w',e1,hrun,mv⟩:=jei h (.ptr b off c hblk) hyr hst (P:=E.P)
       cases e1
       refine ⟨Γ,w',.int .i64 (min m len),.inl (fin _ _ ?_),mv,?_⟩
       ·have hys':(Builtin.firstCells s (Nat.min m len) y0).run E.P w=.ok ys w:=hys
        simp [Builtin.copy_,ht,jab hu,hmr,jaB hs,hys',hrun,goInt]
        exact jd6 m len
       ·have:((min m len:Nat):Int)=min (m:Int) (len:Int):=jd6 m len
        rw [this]; exact .int _ _
    case row cells len cap =>
     split at ha
     ·rename_i hmin
      simp at ha; obtain ⟨rfl,rfl⟩:=ha
      obtain ⟨a,c,rfl,_⟩:=h0.row_inv
      refine ⟨Γ,w,_,.inl (fin _ _ ?_),Moved.refl h,.int _ _⟩
      have hmin':Nat.min m len=0:=hmin
      simp [Builtin.copy_,ht,jab hu,hmr,jaB hs,hmin',je2 h1 hm,storeCells,goInt]
     ·simp at ha
    case nilsl =>
     simp at ha; obtain ⟨rfl,rfl⟩:=ha
     cases h0
     refine ⟨Γ,w,_,.inl (fin _ _ ?_),Moved.refl h,.int _ _⟩
     simp [Builtin.copy_,ht,jab hu,hmr,jaB hs,je2 h1 hm,goInt]
end
theorem jcD:∀ {cs:List V},V.closed.closedL cs=true→∀ i (h:i<cs.length),cs[i].closed=true
 | [],_,i,h=>absurd h (by simp)
 | v::r,hc,i,h=>by
  simp only [V.closed.closedL,K5] at hc
  cases i with
  | zero=>exact hc.1
  | succ i=>exact jcD hc.2 i (by simpa using h)
theorem jej {cs:List V}(hc:cs.all V.closed=true)(i:Nat)(h:i<cs.length):cs[i].closed=true :=
 Kz.1 hc _ (Jo h)
theorem VRel.of_closed {Γ Γ':Ctx}(hp:∀ b i x,Γ.pin b i=some x→Γ'.pin b i=some x){v:V}{x:Value}(h:VRel Γ v x):v.closed=true→VRel Γ' v x:=by
 induction h with
 | bool b=>intro _; exact .bool b
 | int k n=>intro _; exact .int k n
 | str x=>intro _; exact .str x
 | ptr b off c h=>intro hc; simp [V.closed] at hc
 | nilptr=>intro _; exact .nilptr
 | rptr cells a xs hq hr ih =>
  intro hc
  simp only [V.closed] at hc
  exact .rptr cells a xs (fun i h=>⟨(hq i h).1,hp _ _ _ (hq i h).2⟩) (fun i h=>ih i h (jcD hc i h))
 | hsl b off len cap ex c c' h hcc=>intro hc; simp [V.closed] at hc
 | row cells len cap a c xs hq hr hcap ih =>
  intro hc
  simp only [V.closed,K5] at hc
  refine .row cells len cap a c xs (fun i h=>⟨(hq i h).1,hp _ _ _ (hq i h).2⟩) (fun i h=>ih i h (jcD hc.2 i h)) ?_
  cases cap with
  | full=>exact hcap
  | unk=>exact hcap
  | tok k e s=>simp at hc
 | nilsl=>intro _; exact .nilsl
 | func f fs cs xs ys hx hxr hy hyr ih1 ih2 =>
  intro hc
  simp only [V.closed,K5] at hc
  exact .func f fs cs xs ys hx (fun i h h2=>ih1 i h h2 (jcD hc.1 i h)) hy (fun i h h2=>ih2 i h h2 (jcD hc.2 i h))
 | yld l c h=>intro hc; simp [V.closed] at hc
 | any x h=>intro _; exact .any x h
 | nilfn=>intro _; exact .nilfn
 | iface t v x h ih=>intro hc; simp only [V.closed] at hc; exact .iface t v x (ih hc)
 | nilif=>intro _; exact .nilif
 | agg cs xs hl hr ih=>intro hc; simp only [V.closed] at hc; exact .agg cs xs hl (fun i h h2=>ih i h h2 (jcD hc i h))
 | tup cs xs hl hr ih=>intro hc; simp only [V.closed] at hc; exact .tup cs xs hl (fun i h h2=>ih i h h2 (jcD hc i h))
 | nilmap=>intro _; exact .nilmap
 | map b c h=>intro hc; simp [V.closed] at hc
 | meth t v x h ih=>intro hc; simp only [V.closed] at hc; exact .meth t v x (ih hc)
def Ctx.own (Γ:Ctx)(n:Nat):Ctx:={ base:=n,blk:=fun _=>none,pin:=Γ.pin,tok:=fun _ _=>none,siz:=fun _=>none }
theorem WRel.own {Γ:Ctx}{σ:S}{w:World}(h:WRel Γ σ w):WRel (Γ.own w.heap.size) S.empty w :=
  ⟨Ku _,h.pins,fun a o ho=>by simp [S.empty] at ho,fun a c hc=>by simp [Ctx.own] at hc,fun a a' c hc=>by simp [Ctx.own] at hc,
   fun k e he=>by simp [S.empty] at he,fun k e x hx=>by simp [Ctx.own] at hx,fun k k' e e' b p q he=>by simp [S.empty] at he,fun c n hc=>by simp [Ctx.own] at hc⟩
def Ctx.after (Γ:Ctx)(n:Nat)(w':World):Ctx:={ Γ with pin:=fun c i=>if c<n then Γ.pin c i else w'.cell? ⟨c,i,none⟩ }
theorem WRel.after {Γ:Ctx}{σ:S}{w w':World}(h:WRel Γ σ w)(hb:Below w.heap.size w w'):Moved Γ (Γ.after w.heap.size w') σ w w':=by
 have hle:Γ.le (Γ.after w.heap.size w'):=by
  refine ⟨rfl,fun _ _ h=>h,fun b i x hx => ?_,fun _ _ _ h=>h,fun b i x hx => ?_,fun _ _ h=>h⟩
  ·have:=jcJ (h.pins _ _ _ hx)
   simp only [Ctx.after]; rw [Kh this]; exact hx
  ·simp only [Ctx.after] at hx
   split at hx
   ·exact .inl hx
   ·have:=h.size; exact .inr (by omega)
 have hh:∀ k,k<w.heap.size→w'.heap[k]? = w.heap[k]? := hb.block
 have hsz:∀ c n,Γ.siz c=some n→∃ xs t f,w'.heap[c]? = some (.cells xs t f)∧xs.size=n:=by
  intro c n hc
  obtain ⟨xs,t,f,h1,h2⟩:=h.sizes c n hc
  exact ⟨xs,t,f,by rw [hh c (Kq.1 h1).1]; exact h1,h2⟩
 refine ⟨hle,⟨?_,?_,?_,h.dom,h.inj,?_,h.tokdom,h.tokinj,hsz⟩,hb.mono h.size⟩
 ·have:=h.size; have:=hb.size; simp [Ctx.after]; omega
 ·intro b i x hx
  simp only [Ctx.after] at hx
  split at hx
  ·rw [jb0 (hh b ‹_›)]; exact h.pins b i x hx
  ·exact hx
 ·intro a o ho
  rcases h.live a o ho with hrv | ⟨c,ob,h1,h2,h3,h4,h5⟩
  ·exact .inl hrv
  have hlt:=(Kq.1 h2).1
  refine .inr ⟨c,ob,h1,by rw [hh c hlt]; exact h2,h3.mono hle,h4,fun hr i => ?_⟩
  simp only [Ctx.after]; rw [Kh hlt]; exact h5 hr i
 ·intro k e he
  obtain ⟨b,pos,spare,s,t,xs,h1,h2,h3,h4,h5,h6⟩:=h.toks k e he
  have hlt:=(Kq.1 h2).1
  refine ⟨b,pos,spare,s,t,xs,h1,by rw [hh b hlt]; exact h2,h3,h4,fun i hi => ?_,h6⟩
  simp only [Ctx.after]; rw [Kh hlt]; exact h5 i hi
theorem jfP:∀ cs:List V,V.closed.closedL cs=cs.all V.closed
 | []=>rfl
 | v::r=>by simp only [V.closed.closedL,K3,jfP r]
theorem jbG:∀ cs:List V,(V.weak.weakL cs).length=cs.length
 | []=>rfl
 | v::r=>by simp only [V.weak.weakL,K7,jbG r]
theorem jks:∀ cs:List V,V.weak.weakL cs=cs.map V.weak
 | []=>rfl
 | v::r=>by simp only [V.weak.weakL,Qz,jks r]
theorem jdN {cs:List V}{i:Nat}(h:i<(V.weak.weakL cs).length)(h2:i<cs.length):(V.weak.weakL cs)[i]=cs[i].weak:=by
 simp only [jks,Vp]
theorem jcb.weak {Γ:Ctx}{cap:RCap}{a:Addr}{len c:Nat}(h:jcb Γ cap a len c):jcb Γ cap.weak a len c:=by
 cases cap with
 | full=>exact h
 | unk=>exact h
 | tok k e s=>obtain ⟨b,pos,spare,h1,h2,h3⟩:=h; show len≤c; omega
theorem VRel.weak {Γ:Ctx}{v:V}{x:Value}(h:VRel Γ v x):VRel Γ v.weak x:=by
 induction h with
 | bool b=>exact .bool b
 | int k n=>exact .int k n
 | str x=>exact .str x
 | ptr b off c h=>exact .ptr b off c h
 | nilptr=>exact .nilptr
 | rptr cells a xs hp hr ih =>
  exact .rptr _ a xs (fun i h=>hp i (by rw [jbG] at h; exact h)) (fun i h=>by rw [jdN h (by rw [jbG] at h; exact h)]; exact ih i _)
 | hsl b off len cap ex c c' h hc=>exact .hsl b off len cap ex c c' h hc
 | row cells len cap a c xs hp hr hc ih =>
  exact .row _ len _ a c xs (fun i h=>hp i (by rw [jbG] at h; exact h)) (fun i h=>by rw [jdN h (by rw [jbG] at h; exact h)]; exact ih i _) hc.weak
 | nilsl=>exact .nilsl
 | func f fs cs xs ys hx hxr hy hyr ih1 ih2 =>
  exact .func f _ _ xs ys (by rw [jbG]; exact hx) (fun i h h2=>by rw [jdN h (by rw [jbG] at h; exact h)]; exact ih1 i _ h2)
   (by rw [jbG]; exact hy) (fun i h h2=>by rw [jdN h (by rw [jbG] at h; exact h)]; exact ih2 i _ h2)
 | yld l c h=>exact .yld l c h
 | nilfn=>exact .nilfn
 | iface t v x h ih=>exact .iface t _ x ih
 | nilif=>exact .nilif
 | agg cs xs hl hr ih=>exact .agg _ xs (by rw [jbG]; exact hl) (fun i h h2=>by rw [jdN h (by rw [jbG] at h; exact h)]; exact ih i _ h2)
 | tup cs xs hl hr ih=>exact .tup _ xs (by rw [jbG]; exact hl) (fun i h h2=>by rw [jdN h (by rw [jbG] at h; exact h)]; exact ih i _ h2)
 | nilmap=>exact .nilmap
 | map b c h=>exact .map b c h
 | meth t v x h ih=>exact .meth t _ x ih
 | any x h=>exact .any x h
theorem LRel.wargs {Γ:Ctx}{args:List V}{xs:Array Value}(h:LRel Γ args xs):LRel Γ (wargs args) xs:=by
 unfold Go.Ab.wargs
 split
 ·exact h
 ·exact ⟨by rw [Jn]; exact h.len,fun i a b=>by rw [Vp]; exact (h.rel i (by simpa using a) b).weak⟩
theorem ORel.ro {Γ:Ctx}{cs:List V}{t:TypeId}{ob:Obj}(h:ORel Γ (.cells cs t) ob):ORel Γ (.ro (V.weak.weakL cs) t) ob:=by
 cases ob <;> simp only [ORel] at h ⊢
 obtain ⟨h1,h2,h3,h4⟩:=h
 exact ⟨h1,trivial,by rw [jbG]; exact h3,fun i a b=>by rw [jdN a (by rw [jbG] at a; exact a)]; exact (h4 i _ b).weak⟩
theorem WRel.freeze {Γ:Ctx}{σ:S}{w:World}(h:WRel Γ σ w){a c:Nat}(hb:Γ.blk a=some c){cs:List V}{t:TypeId}(ho:σ.heap[a]? = some (.cells cs t)) :
  Moved Γ (Γ.freeze w c) (σ.set a (.ro (V.weak.weakL cs) t)) w w:=by
 obtain ⟨ob,g1,g2,g3,g4⟩:=h.at hb ho
 have g4:=g4 rfl
 have hle:Γ.le (Γ.freeze w c):=by
  refine ⟨rfl,fun _ _ h=>h,fun b i x hx => ?_,fun _ _ _ h=>h,fun b i x hx => ?_,fun _ _ h=>h⟩
  ·have hne:b ≠ c:=by intro e; subst e; rw [g4 i] at hx; simp at hx
   simp only [Ctx.freeze]; rw [Kg hne]; exact hx
  ·simp only [Ctx.freeze] at hx
   split at hx
   ·rename_i e; subst e; exact .inr g3
   ·exact .inl hx
 refine ⟨hle,⟨h.size,?_,?_,?_,h.inj_set ho (by intro e; cases e),?_,h.tokdom,h.tokinj,h.sizes⟩,Below.refl _ _⟩
 ·intro b i x hx
  simp only [Ctx.freeze] at hx
  split at hx
  ·rename_i e; subst e; exact hx
  ·exact h.pins b i x hx
 ·intro a' o' ho'
  simp only [S.set,Q7] at ho'
  split at ho'
  ·rename_i e
   subst e
   split at ho'
   ·simp at ho'; subst ho'
    exact .inr ⟨c,ob,hb,g1,g2.ro.mono hle,g3,fun hr=>by simp [AObj.isRo] at hr⟩
   ·simp at ho'
  ·rename_i hne
   rcases h.live a' o' ho' with hrv | ⟨c',ob',h1,h2,h3,h4,h5⟩
   ·exact .inl hrv
   right
   by_cases hdd:o'=.dead
   ·subst hdd
    exact ⟨c',ob',h1,h2,h3.mono hle,h4,fun hr=>by simp [AObj.isRo] at hr⟩
   have hcc:c' ≠ c:=h.apart hb h1 ho ho' (by intro e; cases e) hdd hne
   exact ⟨c',ob',h1,h2,h3.mono hle,h4,fun hr i=>by simp only [Ctx.freeze]; rw [Kg hcc]; exact h5 hr i⟩
 ·intro a' c' h'; simpa [S.set] using h.dom a' c' h'
 ·intro k e he
  obtain ⟨b,pos,spare,s,t,xs,h1,h2,h3,h4,h5,h6⟩:=h.toks k e he
  have hbc:b ≠ c:=fun e=>h6 a (e ▸ hb)
  exact ⟨b,pos,spare,s,t,xs,h1,h2,h3,h4,fun i hi=>by simp only [Ctx.freeze]; rw [Kg hbc]; exact h5 i hi,h6⟩
theorem jlF {Γ:Ctx}{σ σ':S}{w:World}(h:WRel Γ σ w){v v':V}{x:Value}(hv:VRel Γ v x)(hf:jln v σ=some (v',σ')) :
  ∃ Γ',Moved Γ Γ' σ' w w∧VRel Γ' v' x∧v'.closed=true:=by
 unfold jln at hf
 split at hf
 ·rename_i b off len cap ex
  split at hf
  ·rename_i cs t hb
   split at hf
   ·rename_i hc
    simp only [Kf,Km] at hf
    obtain ⟨rfl,rfl⟩:=hf
    cases hv with
    | hsl _ _ _ _ _ c c' hblk hcc =>
    obtain ⟨ob,g1,g2,g3,g4⟩:=h.at hblk hb
    have g2':=g2.ro
    cases ob <;> simp only [ORel] at g2'
    rename_i xs t' fr
    obtain ⟨rfl,_,hl,hr⟩:=g2'
    have hm:=h.freeze hblk hb
    refine ⟨_,hm,.row _ _ _ ⟨c,off,none⟩ c' (fun i=>xs.getD (off+i) undef) (fun i hi=>⟨rfl,?_⟩) (fun i hi => ?_) (by show len≤c'; omega),?_⟩
    ·simp only [Ja] at hi
     simp only [Ctx.freeze,Ke,World.cell?,g1]
     have:off+i<xs.size:=by omega
     simp [Array.getD,this]
    ·simp only [Ja] at hi
     have h3:off+i<xs.size:=by omega
     have e:xs.getD (off+i) undef=xs[off+i]:=by simp [Array.getD,h3]
     rw [e,Xx]
     exact (hr (off+i) (by omega) h3).mono hm.le
    ·simp only [V.closed,Jz,jfP]
     exact Kz.2 fun y hy=>Kz.1 hc.2 y (List.mem_of_mem_drop hy)
   ·simp at hf
  ·simp at hf
 ·rename_i b off
  split at hf
  ·rename_i cs t hb
   split at hf
   ·rename_i hc
    simp only [Kf,Km] at hf
    obtain ⟨rfl,rfl⟩:=hf
    cases hv with
    | ptr _ _ c hblk =>
    obtain ⟨ob,g1,g2,g3,g4⟩:=h.at hblk hb
    have g2':=g2.ro
    cases ob <;> simp only [ORel] at g2'
    rename_i xs t' fr
    obtain ⟨rfl,_,hl,hr⟩:=g2'
    have hm:=h.freeze hblk hb
    refine ⟨_,hm,.rptr _ ⟨c,off,none⟩ (fun i=>xs.getD (off+i) undef) (fun i hi=>⟨rfl,?_⟩) (fun i hi => ?_),?_⟩
    ·simp only [Ja] at hi
     simp only [Ctx.freeze,Ke,World.cell?,g1]
     have:off+i<xs.size:=by omega
     simp [Array.getD,this]
    ·simp only [Ja] at hi
     have h3:off+i<xs.size:=by omega
     have e:xs.getD (off+i) undef=xs[off+i]:=by simp [Array.getD,h3]
     rw [e,Xx]
     exact (hr (off+i) (by omega) h3).mono hm.le
    ·simp only [V.closed,jfP]
     exact Kz.2 fun y hy=>Kz.1 hc y (List.mem_of_mem_drop hy)
   ·simp at hf
  ·simp at hf
 ·split at hf
  ·simp only [Kf,Km] at hf
   obtain ⟨rfl,rfl⟩:=hf
   exact ⟨Γ,Moved.refl h,hv.weak,‹_›⟩
  ·simp at hf
theorem jhU:∀ (args:List V) {Γ:Ctx} {σ σ':S} {w:World} {args':List V} {xs:List Value},WRel Γ σ w→LRel Γ args xs.toArray→jgw args σ=some (args',σ') →
  ∃ Γ',Moved Γ Γ' σ' w w∧LRel Γ' args' xs.toArray∧args'.all V.closed=true
 | [],Γ,σ,σ',w,args',xs,h,hx,hf=>by
  simp only [jgw,Kf,Km] at hf
  obtain ⟨rfl,rfl⟩:=hf
  exact ⟨Γ,Moved.refl h,hx,rfl⟩
 | v::r,Γ,σ,σ',w,args',xs,h,hx,hf=>by
  simp only [jgw] at hf
  split at hf
  ·rename_i v' σ1 hv
   simp only [Kl] at hf
   obtain ⟨⟨r',σ2⟩,hr,he⟩:=hf
   simp only [Km] at he
   obtain ⟨rfl,rfl⟩:=he
   cases xs with
   | nil=>have:=hx.len; simp at this
   | cons y ys =>
    have h0:VRel Γ v y:=by have:=hx.rel 0 (by simp) (by simp); simpa using this
    have hrest:LRel Γ r ys.toArray:=LRel.mkList (by have:=hx.len; simpa using this) (fun i a b=>by have:=hx.rel (i+1) (by simp; omega) (by simp; omega); simpa using this)
    obtain ⟨Γ1,m1,hv1,hc1⟩:=jlF h h0 hv
    obtain ⟨Γ2,m2,hr2,hc2⟩:=jhU r m1.rel (hrest.mono m1.le) hr
    refine ⟨Γ2,m1.trans m2,?_,by simp only [K3,hc1,hc2,K6]⟩
    have:=LRel.cons (hv1.mono m2.le) hr2
    simpa using this
  ·simp at hf
theorem jdl {f:V→Option V}:∀ {cs out:List V},cs.mapM f=some out→out.length=cs.length∧∀ i (h:i<cs.length) (h2:i<out.length),f cs[i]=some out[i]
 | [],out,h=>by simp at h; subst h; simp
 | v::cs,out,h=>by
  simp only [J6,Option.bind_eq_bind,Ki,Option.pure_def,Kf] at h
  obtain ⟨u,hu,us,hus,rfl⟩:=h
  obtain ⟨h1,h2⟩:=jdl hus
  refine ⟨by simp [h1],fun i a b => ?_⟩
  cases i with
  | zero=>exact hu
  | succ i=>exact h2 i (by simpa using a) (by simpa using b)
theorem jjJ {Γ Γ':Ctx}{σ':S}{w w':World}(hpin:∀ b i x,Γ.pin b i=some x→b<w.heap.size)(hm:Moved (Γ.own w.heap.size) Γ' σ' w w') :
  ∀ (d:Nat) {v v':V} {x:Value},VRel Γ' v x→ja2 σ'.heap d v=some v'→VRel (Γ.after w.heap.size w') v' x:=by
 have hp:∀ b i x,Γ'.pin b i=some x→(Γ.after w.heap.size w').pin b i=some x:=by
  intro b i x hx
  simp only [Ctx.after]
  rcases hm.le.newpin b i x hx with h1 | h1
  ·have:=hpin b i x h1
   rw [Kh this]; exact h1
  ·have h1':w.heap.size≤b:=h1
   rw [Kg (by omega)]; exact hm.rel.pins b i x hx
 intro d
 induction d with
 | zero=>intro v v' x h hs; simp [ja2] at hs
 | succ d ih =>
  intro v v' x h hs
  cases h with
  | row cells len cap a c xs hq hr hcap =>
   simp only [ja2,Kl] at hs
   obtain ⟨cs,hcs,rfl⟩:=hs
   obtain ⟨h1,h2⟩:=jdl hcs
   have hlc:len≤c:=by
    obtain ⟨_,_,e,_,h3⟩:=(VRel.row cells len cap a c xs hq hr hcap:VRel Γ' _ _).row_inv
    cases e; exact h3
   exact .row _ _ _ a c xs (fun i hi=>⟨(hq i (by omega)).1,hp _ _ _ (hq i (by omega)).2⟩) (fun i hi=>ih (hr i (by omega)) (h2 i (by omega) hi)) hlc
  | hsl b off len cap ex c c' hblk hcc =>
   simp only [ja2] at hs
   split at hs
   ·rename_i cs t hb
    split at hs
    ·rename_i hlen
     simp only [Kl] at hs
     obtain ⟨cs',hcs,rfl⟩:=hs
     obtain ⟨h1,h2⟩:=jdl hcs
     obtain ⟨ob,g1,g2,g3,g4⟩:=hm.rel.at hblk hb
     cases ob <;> simp only [ORel] at g2
     rename_i xs t' fr
     obtain ⟨rfl,rfl,hl,hr⟩:=g2
     have hbase:w.heap.size≤c:=by rw [hm.le.base] at g3; exact g3
     simp only [Ja] at h1
     refine .row _ _ _ ⟨c,off,none⟩ c' (fun i=>xs.getD (off+i) undef) (fun i hi=>⟨rfl,?_⟩) (fun i hi => ?_) ?_
     ·simp only [Ctx.after]
      rw [Kg (by omega),World.cell?,g1]
      have:off+i<xs.size:=by omega
      simp [Array.getD,this]
     ·have h3:off+i<xs.size:=by omega
      have e:xs.getD (off+i) undef=xs[off+i]:=by simp [Array.getD,h3]
      rw [e]
      refine ih (hr (off+i) (by omega) h3) ?_
      have:=h2 i (by simp; omega) hi
      simpa using this
     ·simp only [jcb]; omega
    ·simp at hs
   ·simp at hs
  | tup cs xs hl hr =>
   simp only [ja2,Kl] at hs
   obtain ⟨cs',hcs,rfl⟩:=hs
   obtain ⟨h1,h2⟩:=jdl hcs
   exact .tup _ _ (by omega) (fun i hi hi2=>ih (hr i (by omega) hi2) (h2 i (by omega) hi))
  | agg cs xs hl hr =>
   simp only [ja2,Kl] at hs
   obtain ⟨cs',hcs,rfl⟩:=hs
   obtain ⟨h1,h2⟩:=jdl hcs
   exact .agg _ _ (by omega) (fun i hi hi2=>ih (hr i (by omega) hi2) (h2 i (by omega) hi))
  | iface t u x h =>
   simp only [ja2,Kl] at hs
   obtain ⟨u',hu,rfl⟩:=hs
   exact .iface _ _ _ (ih h hu)
  | bool b=>simp [ja2,V.closed] at hs; subst hs; exact .bool _
  | int k n=>simp [ja2,V.closed] at hs; subst hs; exact .int _ _
  | str x=>simp [ja2,V.closed] at hs; subst hs; exact .str _
  | ptr b off c h=>simp [ja2,V.closed] at hs; subst hs; exact .any _ rfl
  | any x h=>simp [ja2,V.closed] at hs; subst hs; exact .any x h
  | nilptr=>simp [ja2,V.closed] at hs; subst hs; exact .nilptr
  | rptr cells a xs hq hr =>
   have h0:VRel Γ' (.rptr cells) (.pointer (some a)):=.rptr cells a xs hq hr
   simp only [ja2,Kf] at hs
   split at hs
   ·subst hs; exact h0.of_closed hp ‹_›
   ·subst hs; exact .any _ rfl
  | nilsl=>simp [ja2,V.closed] at hs; subst hs; exact .nilsl
  | func f fs cs xs ys a b c e =>
   have h0:VRel Γ' (.func f fs cs) _:=.func f fs cs xs ys a b c e
   simp only [ja2,Kf] at hs
   split at hs
   ·subst hs; exact h0.of_closed hp ‹_›
   ·subst hs; exact .any _ rfl
  | yld l c h=>simp [ja2,V.closed] at hs; subst hs; exact .any _ rfl
  | nilfn=>simp [ja2,V.closed] at hs; subst hs; exact .nilfn
  | nilif=>simp [ja2,V.closed] at hs; subst hs; exact .nilif
  | nilmap=>simp [ja2,V.closed] at hs; subst hs; exact .nilmap
  | map b c h=>simp [ja2,V.closed] at hs; subst hs; exact .any _ rfl
  | meth n v x a =>
   have h0:VRel Γ' (.meth n v) _:=.meth n v x a
   simp only [ja2,Kf] at hs
   split at hs
   ·subst hs; exact h0.of_closed hp ‹_›
   ·subst hs; exact .any _ rfl
def DRel (Γ:Ctx):List DE→List Deferred→Prop
 | [],[]=>True
 | .mark a::r,d::s=>(∃ c,Γ.blk a=some c∧d={ target:=.collected c,args := #[] })∧DRel Γ r s
 | .call f as::r,d::s=>(∃ xs ys,d={ target:=.fn (.func f) ys,args:=xs }∧LRel Γ as (xs++ys))∧DRel Γ r s
 | _,_=>False
theorem DRel.mono {Γ Γ':Ctx}(hle:Γ.le Γ'):∀ {l:List DE} {d:List Deferred},DRel Γ l d→DRel Γ' l d
 | [],[],_=>trivial
 | [],_::_,h=>h.elim
 | .mark _::_,[],h=>h.elim
 | .call _ _::_,[],h=>h.elim
 | .mark _::_,_::_,⟨⟨c,h1,h2⟩,h3⟩=>⟨⟨c,hle.blk _ _ h1,h2⟩,h3.mono hle⟩
 | .call _ _::_,_::_,⟨⟨xs,ys,h1,h2⟩,h3⟩=>⟨⟨xs,ys,h1,h2.mono hle⟩,h3.mono hle⟩
def PRel (Γ:Ctx)(pv:Option V)(u:FrameMode):Prop :=
 match pv with
 | none=>u=.returning
 | some v=>∃ y,VRel Γ v y∧u=.panicking [{ v:=y,recovered:=false }]
theorem PRel.mono {Γ Γ':Ctx}(hle:Γ.le Γ'){pv:Option V}{u:FrameMode}(h:PRel Γ pv u):PRel Γ' pv u:=by
 cases pv with
 | none=>exact h
 | some v=>obtain ⟨y,h1,h2⟩:=h; exact ⟨y,h1.mono hle,h2⟩
def RRel (Γ:Ctx)(rnd:Option Nat)(ro:Option Nat):Prop :=
 match rnd with
 | none=>ro=none
 | some l=>∃ c,ro=some c∧Γ.blk l=some c
theorem RRel.mono {Γ Γ':Ctx}(hle:Γ.le Γ'){a b:Option Nat}(h:RRel Γ a b):RRel Γ' a b:=by
 cases a with
 | none=>exact h
 | some l=>obtain ⟨c,h1,h2⟩:=h; exact ⟨c,h1,hle.blk _ _ h2⟩
def GOK (E:Env)(Γ:Ctx):Prop:=∀ g v,E.gl g=some v→VRel Γ v (.pointer (some ⟨g,0,none⟩))
theorem GOK.mono {E:Env}{Γ Γ':Ctx}(hle:Γ.le Γ')(h:GOK E Γ):GOK E Γ':=fun g v hv=>(h g v hv).mono hle
def jkt (P:Program)(f:FuncId)(xs:Array Value)(w:World)(y:Value)(w':World):Prop :=
 (callFunc f xs).run P w=.ok (.value y) w' ∨
 ((callFunc f xs).run P w=.ok (.enter f xs) w∧∀ cs,∃ fr,Steps P (lone (Frame.enter P f xs .normal) cs w) (lone fr cs w')∧fr.leaving P w' (.returned y))
structure Env.Ok (E:Env):Prop where
 mixed:E.P.follows .mixedOrders=true
 glc:∀ g v,E.gl g=some v→v.closed=true
 hook:∀ f g,E.hook f=some g→∀ args v,g args=some v→∀ Γ σ w xs,WRel Γ σ w→GOK E Γ→LRel Γ args xs→∃ Γ' w' y,Moved Γ Γ' σ w w'∧VRel Γ' v y∧jkt E.P f xs w y w'
 hookS:∀ f g,E.hookS f=some g→∀ args σ v σ',g args σ=some (v,σ')→∀ Γ w xs,WRel Γ σ w→GOK E Γ→LRel Γ args xs→∃ Γ' w' y,Moved Γ Γ' σ' w w'∧VRel Γ' v y∧jkt E.P f xs w y w':=by intro f g h; cases h
theorem GOK.own {E:Env}(hE:E.Ok){Γ:Ctx}{n:Nat}(h:GOK E Γ):GOK E (Γ.own n) :=
 fun g v hv=>VRel.of_closed (Γ:=Γ) (Γ':=Γ.own n) (fun _ _ _ h=>h) (h g v hv) (hE.glc g v hv)
def XRel (Γ:Ctx)(ex:Ex)(y:Value):Prop :=
 match ex with
 | .pan v=>VRel Γ v y
 | _=>True
def ArrL (P:Program)(m:Machine)(b:Frame)(k:List Item)(cs:List Frame)(ex:Ex)(a:Act)(w:World)(y:Value):Prop :=
 match ex with
 | .normal=>False
 | .exit id=>∃ k1,exitTo id k1=exitTo id k∧Steps P m (lone (b.atR a (.code (.exit id)::k1)) cs w)
 | .ret=>∃ k1,Steps P m (lone (b.atR a (.code .ret::k1)) cs w)
 | .pan _=>∃ k1,Steps P m (lone { b.atR a k1 with mode:=.panicking [{ v:=y,recovered:=false }] } cs w)
def PreL (E:Env)(fn:FuncId)(Γ:Ctx)(vs:List V)(xs:Array Value):Prop :=
 vs.length≤xs.size∧(∀ i (h:i<vs.length) (h2:i<xs.size),VRel Γ vs[i] xs[i])∧(vs.length=xs.size∨jlo vs.length (jpS E fn)=true)
theorem LRel.pre {E:Env}{fn:FuncId}{Γ:Ctx}{vs:List V}{xs:Array Value}(h:LRel Γ vs xs):PreL E fn Γ vs xs:=⟨Xc h.len,h.rel,.inl h.len⟩
theorem PreL.mono {E:Env}{fn:FuncId}{Γ Γ':Ctx}(hle:Γ.le Γ'){vs:List V}{xs:Array Value}(h:PreL E fn Γ vs xs):PreL E fn Γ' vs xs:=⟨h.1,fun i a b=>(h.2.1 i a b).mono hle,h.2.2⟩
def jg1 (E:Env)(fn:FuncId)(Γ:Ctx)(ex:Ex)(vs:List V)(xs:Array Value):Prop :=
 match ex with
 | .pan _=>PreL E fn Γ vs xs
 | _=>LRel Γ vs xs
theorem LRel.vals {E:Env}{fn:FuncId}{Γ:Ctx}{ex:Ex}{vs:List V}{xs:Array Value}(h:LRel Γ vs xs):jg1 E fn Γ ex vs xs:=by
 cases ex with
 | pan _=>exact h.pre
 | _=>exact h
def jcA (E:Env)(t:Task)(r:Res):Prop :=
 match t with
 | .call f args σ=>(∀ v,r=⟨.ret,[v],[],r.st⟩→∀ Γ w xs,WRel Γ σ w→GOK E Γ→LRel Γ args xs→∃ Γ' w' y,Moved Γ Γ' r.st w w'∧VRel Γ' v y ∧
   (callFunc f xs).run E.P w=.ok (.enter f xs) w∧∀ cs,∃ fr,Steps E.P (lone (Frame.enter E.P f xs .normal) cs w) (lone fr cs w')∧fr.fn=f∧fr.leaving E.P w' (.returned y)) ∧
   (∀ v,r=⟨.pan v,[],[],r.st⟩→∀ Γ w xs,WRel Γ σ w→GOK E Γ→LRel Γ args xs→∃ Γ' w' y,Moved Γ Γ' r.st w w'∧VRel Γ' v y ∧
   (callFunc f xs).run E.P w=.ok (.enter f xs) w∧∀ cs,∃ fr,Steps E.P (lone (Frame.enter E.P f xs .normal) cs w) (lone fr cs w')∧fr.fn=f∧fr.leaving E.P w' (.panicked [{ v:=y,recovered:=false }]))
 | .dcall f args pv σ=>∀ g,r=⟨.ret,[.bool g],[],r.st⟩→∀ Γ w xs u,WRel Γ σ w→GOK E Γ→LRel Γ args xs→PRel Γ pv u→∃ Γ' w',Moved Γ Γ' r.st w w' ∧
   (callFunc f xs).run E.P w=.ok (.enter f xs) w∧∀ (c:Frame) cs,c.mode=u→Steps E.P (lone (Frame.enter E.P f xs .deferred) (c::cs) w) (lone { c with mode:=if g then .returning else u } cs w')
 | .round l args σ=>∀ v,r=⟨.ret,[v],[],r.st⟩→∀ Γ w xs,WRel Γ σ w→GOK E Γ→LRel Γ args xs→∃ Γ' w' y lc f tmps asg body,Moved Γ Γ' r.st w w'∧VRel Γ' v y∧Γ.blk l=some lc ∧
   (Instr.yield lc xs).run E.P w=.ok (.round lc f tmps asg body) w∧∀ c cs,Steps E.P (lone (Frame.round lc f tmps asg body .normal) (c::cs) w) (lone (c.finish y) cs w')
 | .loop fn rnd c tmps dfs σ=>∀ Γ w (a:Act) (b:Frame),WRel Γ σ w→GOK E Γ→LRel Γ tmps a.tmps→DRel Γ dfs a.defers→b.fn=fn→RRel Γ rnd b.roundOf→∃ Γ' w' a' y,Moved Γ Γ' r.st w w'∧jg1 E fn Γ' r.ex r.vals a'.tmps∧DRel Γ' r.dfs a'.defers∧XRel Γ' r.ex y ∧
   ∀ k cs,ArrL E.P (lone (b.atR a (.code c::.inLoop c::k)) cs w) b k cs r.ex a' w' y
section
variable {E:Env}{Γ:Ctx}{σ:S}{w:World}
theorem jes (hg:GOK E Γ){tmps:List V}{a:Act}(h:LRel Γ tmps a.tmps):jkf Γ (jaU E tmps) a.eval:=by
 intro x v hx
 cases x <;> simp only [jaU] at hx
 case tmp t=>simp at hx; subst hx; exact h.getD t
 case const c=>exact jf4 hx
 case global g=>exact hg g v hx
 case func f=>simp at hx; subst hx; exact .func f [] [] #[] #[] rfl (fun i h=>absurd h (by simp)) rfl (fun i h=>absurd h (by simp))
theorem je3 (hE:E.Ok){rec:Task→Option Res}(hrec:∀ t r,rec t=some r→jcA E t r){f:FuncId}{args:List V}{v:V}{σ':S}(h:jah E rec f args σ=some (v,σ'))
  (hw:WRel Γ σ w) (hg:GOK E Γ) {xs:Array Value} (hx:LRel Γ args xs):∃ Γ' w' y,Moved Γ Γ' σ' w w'∧VRel Γ' v y∧jkt E.P f xs w y w':=by
 unfold jah at h
 split at h
 ·rename_i g hh
  simp only [Kl,Km] at h
  obtain ⟨v',hv,rfl,rfl⟩:=h
  exact hE.hook f g hh args v' hv Γ σ w xs hw hg hx
 ·split at h
  ·split at h
   ·rename_i hcl
    split at h
    ·rename_i v0 σ0 hr
     simp only [Kl,Km] at h
     obtain ⟨v',hs,rfl,rfl⟩:=h
     have hx':LRel (Γ.own w.heap.size) (wargs args) xs:=⟨hx.wargs.len,fun i a b=>VRel.of_closed (Γ:=Γ) (Γ':=Γ.own w.heap.size) (fun _ _ _ h=>h) (hx.wargs.rel i a b) (jej hcl i a)⟩
     obtain ⟨Γ',w',y,m,hy,h1,h2⟩:=(hrec _ _ hr).1 v0 rfl (Γ.own w.heap.size) w xs hw.own (hg.own hE) hx'
     have hpin:∀ b i x,Γ.pin b i=some x→b<w.heap.size:=fun b i x hp=>jcJ (hw.pins b i x hp)
     exact ⟨_,w',y,hw.after m.below,jjJ hpin m _ hy hs,.inr ⟨h1,fun cs=>let ⟨fr,a,_,b⟩:=h2 cs; ⟨fr,a,b⟩⟩⟩
    ·simp at h
   ·simp at h
  ·split at h
   ·split at h
    ·rename_i args' σ1 hfz
     split at h
     ·rename_i v0 σ0 hr
      simp only [Kl,Km] at h
      obtain ⟨v',hs,rfl,rfl⟩:=h
      obtain ⟨Γ1,m1,hx1,hcl⟩:=jhU args (xs:=xs.toList) hw (by simpa using hx) hfz
      simp only [Vv] at hx1
      have hw1:=m1.rel
      have hx':LRel (Γ1.own w.heap.size) args' xs:=⟨hx1.len,fun i a b=>VRel.of_closed (Γ:=Γ1) (Γ':=Γ1.own w.heap.size) (fun _ _ _ h=>h) (hx1.rel i a b) (jej hcl i a)⟩
      obtain ⟨Γ',w',y,m,hy,h1,h2⟩:=(hrec _ _ hr).1 v0 rfl (Γ1.own w.heap.size) w xs hw1.own ((hg.mono m1.le).own hE) hx'
      have hpin:∀ b i x,Γ1.pin b i=some x→b<w.heap.size:=fun b i x hp=>jcJ (hw1.pins b i x hp)
      exact ⟨_,w',y,m1.trans (hw1.after m.below),jjJ hpin m _ hy hs,.inr ⟨h1,fun cs=>let ⟨fr,a,_,b⟩:=h2 cs; ⟨fr,a,b⟩⟩⟩
     ·simp at h
    ·simp at h
   ·split at h
    ·rename_i g hgs
     exact hE.hookS f g hgs args σ v σ' h Γ w xs hw hg hx
    ·split at h
     ·rename_i v0 σ0 hr
      simp only [Kf,Km] at h
      obtain ⟨rfl,rfl⟩:=h
      obtain ⟨Γ',w',y,m,hy,h1,h2⟩:=(hrec _ _ hr).1 v0 rfl Γ w xs hw hg hx
      exact ⟨Γ',w',y,m,hy,.inr ⟨h1,fun cs=>let ⟨fr,a,_,b⟩:=h2 cs; ⟨fr,a,b⟩⟩⟩
     ·simp at h
theorem jcE {P:Program}{b:Frame}{a:Act}{k:List Item}{cs:List Frame}{w w':World}{ops:Array Oper}{i:Nat}{rest:List Nat}{o:Oper}{y:Value}
  (ho:ops[i]? = some o) (hw:Region.wanted o (yielded ops a.tmps)=true) (hd:∀ c,o.op ≠ .defer c) (h:jr1 P (execOp a.eval o) w y w') :
  step P (lone (b.atR a (.inRegion ops (i::rest)::k)) cs w)=.next (lone (b.atR (a.put o.dst y) (.inRegion ops rest::k)) cs w'):=by
 have hg:=stepGR_op (P:=P) (b:=b) (a:=a) (k:=k) (cs:=cs) (w:=w) (rest:=rest) ho hw
 rw [Oper.semAt_eq _ _ _ hd] at hg
 have hfin:∀ v,(b.atR a (.inRegion ops (i::rest)::k)).finish v=b.atR (a.put o.dst v) (.inRegion ops rest::k):=by
  intro v; rw [Frame.finish_atR,ho]; rfl
 rcases h with h | ⟨h,rfl⟩
 ·refine step_lone_go ?_
  rw [hg,← hfin]; simp [stepG.apply,h]
 ·refine step_lone_go ?_
  rw [hg,← hfin]; simp [stepG.apply,h]
theorem jfQ {P:Program}{b:Frame}{a:Act}{k:List Item}{cs:List Frame}{w w1:World}{ops:Array Oper}{i:Nat}{rest:List Nat}{o:Oper}{f:FuncId}{xs:Array Value}
  (ho:ops[i]? = some o) (hw:Region.wanted o (yielded ops a.tmps)=true) (hd:∀ c,o.op ≠ .defer c) (h:(execOp a.eval o).run P w=.ok (.enter f xs) w1) :
  step P (lone (b.atR a (.inRegion ops (i::rest)::k)) cs w)=.next (lone (Frame.enter P f xs .normal) (b.atR a (.inRegion ops (i::rest)::k)::cs) w1):=by
 have hg:=stepGR_op (P:=P) (b:=b) (a:=a) (k:=k) (cs:=cs) (w:=w) (rest:=rest) ho hw
 rw [Oper.semAt_eq _ _ _ hd] at hg
 refine step_lone_go ?_
 rw [hg]; simp [stepG.apply,h,Frame.atR]
theorem jlG {P:Program}{b:Frame}{a:Act}{k:List Item}{cs:List Frame}{w w1:World}{ops:Array Oper}{i:Nat}{rest:List Nat}{o:Oper}{l f:Nat}{tmps:Array Value}{asg body:Code}
  (ho:ops[i]? = some o) (hw:Region.wanted o (yielded ops a.tmps)=true) (hd:∀ c,o.op ≠ .defer c) (h:(execOp a.eval o).run P w=.ok (.round l f tmps asg body) w1) :
  step P (lone (b.atR a (.inRegion ops (i::rest)::k)) cs w)=.next (lone (Frame.round l f tmps asg body .normal) (b.atR a (.inRegion ops (i::rest)::k)::cs) w1):=by
 have hg:=stepGR_op (P:=P) (b:=b) (a:=a) (k:=k) (cs:=cs) (w:=w) (rest:=rest) ho hw
 rw [Oper.semAt_eq _ _ _ hd] at hg
 refine step_lone_go ?_
 rw [hg]; simp [stepG.apply,h]
theorem jlH {P:Program}:(program).run P w=.ok P w:=rfl
theorem joo {v:V}{x:Value}{name:String}{f:FuncId}{r:V}(hx:VRel Γ v x)(h:jhH E v name=some (f,r)) :
  ∃ t x',x=.iface t x'∧(∀ n,(method (n+Made.depth) t x' name).run E.P w=.ok (f,x') w)∧VRel Γ r x':=by
 unfold jhH at h
 cases v <;> simp only [reduceCtorEq] at h
 rename_i t u
 cases hx with
 | iface _ _ x' hx' =>
  simp only [Ki] at h
  obtain ⟨m,⟨i,hi,hf⟩,h⟩:=h
  split at h
  ·rename_i hp
   have hp2:m.path.toList=[]:=by simpa using hp
   have hti:(typeInfo t).run E.P w=.ok i w:=by simp [typeInfo,hi]
   refine ⟨t,x',rfl,?_,?_⟩
   ·intro n
    have hd:∃ k,n+Made.depth=k+1:=⟨n+Made.depth - 1,by unfold Made.depth; omega⟩
    obtain ⟨k,hk⟩:=hd
    rw [hk]
    split at h
    ·rename_i g e hm hu
     simp only [Kf,Km] at h
     obtain ⟨rfl,rfl⟩:=h
     simp [method,hti,hf,hp2,follow,hm,receiverAt,jab hu,Place.get]
    ·simp at h
    ·rename_i g d hd hm hu
     simp only [Kf,Km] at h
     obtain ⟨rfl,rfl⟩:=h
     simp only [method,Sem.run_bind,hti,Result.andThen_ok,hf,hp2,follow,Sem.run_pure,hm,receiverAt,jab hu]
     cases d <;> first | exact absurd hu (hd _) | simp [Place.get]
    ·simp at h
   ·split at h
    ·simp only [Kf,Km] at h
     obtain ⟨rfl,rfl⟩:=h
     exact hx'
    ·simp at h
    ·simp only [Kf,Km] at h
     obtain ⟨rfl,rfl⟩:=h
     exact hx'
    ·simp at h
  ·simp at h
theorem je4 (hE:E.Ok){rec:Task→Option Res}(hrec:∀ t r,rec t=some r→jcA E t r){mutb:Bool}{tmps:List V}{o:Oper}{v:V}{σ':S}(h:opV E rec mutb tmps σ o.op=some (v,σ'))
  (hw:WRel Γ σ w) (hg:GOK E Γ) {a:Act} (hx:LRel Γ tmps a.tmps) {b:Frame} {ops:Array Oper} {i:Nat} {rest:List Nat} (ho:ops[i]? = some o) (hwant:Region.wanted o (yielded ops a.tmps)=true) :
  ∃ Γ' w' y,Moved Γ Γ' σ' w w'∧VRel Γ' v y∧∀ k cs,Steps E.P (lone (b.atR a (.inRegion ops (i::rest)::k)) cs w) (lone (b.atR (a.put o.dst y) (.inRegion ops rest::k)) cs w'):=by
 have hρ:=jes hg hx
 unfold opV at h
 split at h
 ·rename_i v0 hp
  simp only [Kf,Km] at h
  obtain ⟨rfl,rfl⟩:=h
  obtain ⟨y,hy,hr⟩:=jlA (w:=w) hρ o hp
  refine ⟨Γ,w,y,Moved.refl hw,hr,fun k cs=>.one (jcE ho hwant ?_ (.inl hy))⟩
  intro c hc; simp [hc,ja3] at hp
 ·split at h
  ·rename_i v0 hp
   simp only [Kf,Km] at h
   obtain ⟨rfl,rfl⟩:=h
   obtain ⟨y,hy,hr⟩:=jlD hw hρ o hp
   refine ⟨Γ,w,y,Moved.refl hw,hr,fun k cs=>.one (jcE ho hwant ?_ (.inl hy))⟩
   intro c hc; simp [hc,ja8] at hp
  ·split at h
   ·rename_i g args ats hop
    simp only [Ki] at h
    obtain ⟨gv,hgv,as,has,h⟩:=h
    have hd:∀ c,o.op ≠ .defer c:=by intro c hc; rw [hop] at hc; cases hc
    have hrg:=hρ _ _ hgv
    have hra:=jbp hρ has
    unfold jgx at h
    split at h
    ·rename_i f first captured
     generalize hge:a.eval g=gval at hrg
     cases hrg with
     | func _ _ _ xs ys h1 h2 h3 h4 =>
      have hargs:LRel Γ (first++as++captured) (xs++args.map a.eval++ys):=(LRel.append (LRel.append ⟨h1,h2⟩ hra) ⟨h3,h4⟩)
      obtain ⟨Γ',w',y,m,hy,hc⟩:=je3 hE hrec h hw hg hargs
      have hexec:(execOp a.eval o).run E.P w=(callFunc f (xs++args.map a.eval++ys)).run E.P w:=by
       obtain ⟨dst,op,type,pos,after,guard⟩:=o
       simp only at hop
       subst hop
       simp only [execOp,resolve,hge,Deferred.ofValue,Sem.run_bind,Sem.run_pure,Result.andThen_ok,invoke]
      refine ⟨Γ',w',y,m,hy,fun k cs => ?_⟩
      rcases hc with hc | ⟨hc1,hc2⟩
      ·exact .one (jcE ho hwant hd (.inl (by rw [hexec,hc])))
      ·obtain ⟨fr,hs,hl⟩:=hc2 (b.atR a (.inRegion ops (i::rest)::k)::cs)
       refine .head (jfQ ho hwant hd (by rw [hexec,hc1])) (hs.trans (.one ?_))
       rw [step_leave_returned hl,Frame.finish_atR,ho]; rfl
    ·rename_i l
     generalize hge:a.eval g=gval at hrg
     cases hrg with
     | yld _ lc hb =>
      split at h
      ·rename_i v0 σ0 hr
       simp only [Kf,Km] at h
       obtain ⟨rfl,rfl⟩:=h
       obtain ⟨Γ',w',y,lc',f,ts,asg,body,m,hy,hb',hyd,hst⟩:=hrec _ _ hr v0 rfl Γ w _ hw hg hra
       rw [hb] at hb'; cases hb'
       have hexec:(execOp a.eval o).run E.P w=.ok (.round lc f ts asg body) w:=by
        obtain ⟨dst,op,type,pos,after,guard⟩:=o
        simp only at hop
        subst hop
        simp only [execOp,resolve,hge,Deferred.ofValue,Sem.run_bind,Sem.run_pure,Result.andThen_ok,invoke,Array.empty_append,hyd]
       refine ⟨Γ',w',y,m,hy,fun k cs=>.head (jlG ho hwant hd hexec) ?_⟩
       have:=hst (b.atR a (.inRegion ops (i::rest)::k)) cs
       rw [Frame.finish_atR,ho] at this
       exact this
      ·simp at h
    ·simp at h
   ·rename_i x name args ats hop
    simp only [Ki] at h
    obtain ⟨xv,hxv,⟨f,rv⟩,hm,as,has,h⟩:=h
    have hd:∀ c,o.op ≠ .defer c:=by intro c hc; rw [hop] at hc; cases hc
    have hrx:=hρ _ _ hxv
    have hra:=jbp hρ has
    obtain ⟨t',x',he,hmeth,hrr⟩:=joo (w:=w) hrx hm
    obtain ⟨Γ',w',y,m,hy,hc⟩:=je3 hE hrec h hw hg (LRel.cons hrr hra)
    have hexec:(execOp a.eval o).run E.P w=(callFunc f (#[x']++args.map a.eval)).run E.P w:=by
     obtain ⟨dst,op,type,pos,after,guard⟩:=o
     simp only at hop
     subst hop
     have e1:(#[Value.iface t' x']++args.map a.eval).extract 1=args.map a.eval:=by
      apply Array.ext'
      simp [Ql]
     have e2:(#[Value.iface t' x']++args.map a.eval)[0]? = some (.iface t' x'):=by
      rw [Array.getElem?_append_left (by simp)]; rfl
     simp only [execOp,resolve,Sem.run_bind,Sem.run_pure,Result.andThen_ok,invoke,he,e2]
     simp only [callMethod,Sem.run_bind,jlH,Result.andThen_ok,hmeth,e1]
    refine ⟨Γ',w',y,m,hy,fun k cs => ?_⟩
    rcases hc with hc | ⟨hc1,hc2⟩
    ·exact .one (jcE ho hwant hd (.inl (by rw [hexec,hc])))
    ·obtain ⟨fr,hs,hl⟩:=hc2 (b.atR a (.inRegion ops (i::rest)::k)::cs)
     refine .head (jfQ ho hwant hd (by rw [hexec,hc1])) (hs.trans (.one ?_))
     rw [step_leave_returned hl,Frame.finish_atR,ho]; rfl
   ·rename_i op hop
    have hd:∀ c,o.op ≠ .defer c:=by intro c hc; rw [hc] at h; simp [jbo] at h
    obtain ⟨Γ',w',y,hgv,m,hr⟩:=jkr hw hρ o h
    exact ⟨Γ',w',y,m,hr,fun k cs=>.one (jcE ho hwant hd hgv)⟩
end
section
variable {E:Env}
theorem jlI {Γ:Ctx}{tmps:List V}{xs:Array Value}(h:LRel Γ tmps xs)(ops:Array Oper)(j:Nat):jaq ops tmps j=yielded ops xs j:=by
 unfold jaq yielded
 cases hd:(ops[j]?).bind (·.dst) with
 | none=>rfl
 | some d =>
  simp only [Ko]
  by_cases hi:d<tmps.length
  ·have h2:d<xs.size:=h.len ▸ hi
   have hr:=h.rel d hi h2
   rw [Kw hi,Jj h2]
   generalize tmps[d]=v at hr
   generalize xs[d]=x at hr
   cases hr with
   | any x0 h0=>cases x <;> first | rfl | (simp [jlp] at h0)
   | _=>rfl
  ·have h2:¬ d<xs.size:=h.len ▸ hi
   have e1:tmps[d]? = none:=K8 (Nat.le_of_not_lt hi)
   have e2:xs[d]? = none:=Vm (Nat.le_of_not_lt h2)
   rw [e1,e2]
theorem jcr {Γ:Ctx}{tmps:List V}{xs:Array Value}(h:LRel Γ tmps xs)(ops:Array Oper)(o:Oper):Region.wanted o (jaq ops tmps)=Region.wanted o (yielded ops xs):=by
 have:jaq ops tmps=yielded ops xs:=funext fun j=>jlI h ops j
 rw [this]
theorem jdO {Γ:Ctx}{tmps:List V}{a:Act}(h:LRel Γ tmps a.tmps)(dst:Option Tmp){v:V}{y:Value}(hv:VRel Γ v y):LRel Γ (putT tmps dst v) (a.put dst y).tmps:=by
 cases dst with
 | none=>exact h
 | some d=>exact h.set d hv
theorem jbV (a:Act)(dst:Option Tmp)(y:Value):(a.put dst y).defers=a.defers:=by cases dst <;> rfl
theorem V.beq_eq:∀ (a b:V),a.beq b=true→a=b
 | .bool a,b,h=>by cases b <;> simp [V.beq] at h; subst h; rfl
 | .int k n,b,h=>by cases b <;> simp [V.beq] at h; obtain ⟨rfl,rfl⟩:=h; rfl
 | .str s,b,h=>by cases b <;> simp [V.beq] at h; subst h; rfl
 | .ptr x y,b,h=>by cases b <;> simp [V.beq] at h; obtain ⟨rfl,rfl⟩:=h; rfl
 | .nilptr,b,h=>by cases b <;> simp [V.beq] at h; rfl
 | .rptr a,b,h=>by cases b <;> simp [V.beq] at h; rw [beqL_eq a _ h]
 | .hsl _ _ _ _ _,b,h=>by cases b <;> simp [V.beq] at h; obtain ⟨⟨⟨⟨rfl,rfl⟩,rfl⟩,rfl⟩,rfl⟩:=h; rfl
 | .row a n c,b,h=>by cases b <;> simp [V.beq] at h; obtain ⟨⟨rfl,rfl⟩,h⟩:=h; rw [beqL_eq a _ h]
 | .nilsl,b,h=>by cases b <;> simp [V.beq] at h; rfl
 | .func f a c,b,h=>by cases b <;> simp [V.beq] at h; obtain ⟨⟨rfl,h1⟩,h2⟩:=h; rw [beqL_eq a _ h1,beqL_eq c _ h2]
 | .yld l,b,h=>by cases b <;> simp [V.beq] at h; subst h; rfl
 | .nilfn,b,h=>by cases b <;> simp [V.beq] at h; rfl
 | .iface t v,b,h=>by cases b <;> simp [V.beq] at h; obtain ⟨rfl,h1⟩:=h; rw [V.beq_eq v _ h1]
 | .nilif,b,h=>by cases b <;> simp [V.beq] at h; rfl
 | .agg a,b,h=>by cases b <;> simp [V.beq] at h; rw [beqL_eq a _ h]
 | .tup a,b,h=>by cases b <;> simp [V.beq] at h; rw [beqL_eq a _ h]
 | .nilmap,b,h=>by cases b <;> simp [V.beq] at h; rfl
 | .map _,b,h=>by cases b <;> simp [V.beq] at h; subst h; rfl
 | .any,b,h=>by cases b <;> simp [V.beq] at h; rfl
 | .meth t v,b,h=>by cases b <;> simp [V.beq] at h; obtain ⟨rfl,h1⟩:=h; rw [V.beq_eq v _ h1]
 where beqL_eq:∀ (a b:List V),V.beq.beqL a b=true→a=b
 | [],b,h=>by cases b <;> simp [V.beq.beqL] at h; rfl
 | x::r,b,h=>by
  cases b <;> simp [V.beq.beqL] at h
  rw [V.beq_eq x _ h.1,beqL_eq r _ h.2]
theorem jgC {acc:List Nat}{o:Oper}{i:Nat}(h:(jhJ acc o).testBit i=true):∃ e∈o.after,Region.binds .any e=true∧(e.on=i∨(acc.getD e.on 0).testBit i=true):=by
 have key:∀ (l:List Edge) (s:Nat),(l.foldl (fun s e=>if Region.binds .any e then s ||| (2 ^ e.on ||| acc.getD e.on 0) else s) s).testBit i=true →
   s.testBit i=true∨∃ e∈l,Region.binds .any e=true∧(e.on=i∨(acc.getD e.on 0).testBit i=true):=by
  intro l
  induction l with
  | nil=>intro s hs; exact .inl hs
  | cons e l ih =>
   intro s hs
   simp only [Vt] at hs
   rcases ih _ hs with h1 | ⟨e',he',h1⟩
   ·split at h1
    ·rename_i hb
     rw [Nat.testBit_or,Nat.testBit_or,Je,Je] at h1
     rcases h1 with h1 | h1 | h1
     ·exact .inl h1
     ·refine .inr ⟨e,by simp,hb,.inl ?_⟩
      rw [Nat.testBit_two_pow] at h1
      simpa using h1
     ·exact .inr ⟨e,by simp,hb,.inr h1⟩
    ·exact .inl h1
   ·exact .inr ⟨e',by simp [he'],h1⟩
 rcases key o.after.toList 0 h with h1 | ⟨e,he,h1⟩
 ·simp at h1
 ·exact ⟨e,by simpa using he,h1⟩
theorem jdD:∀ (ops:List Oper) (acc:List Nat),(jai acc ops).length=acc.length+ops.length
 | [],acc=>by simp [jai]
 | o::r,acc=>by simp [jai,jdD r]; omega
theorem jek:∀ (ops:List Oper) (acc:List Nat) (i:Nat),i<acc.length→(jai acc ops)[i]? = acc[i]?
 | [],acc,i,h=>rfl
 | o::r,acc,i,h=>by
  simp only [jai]
  rw [jek r _ i (by simp; omega),Kn h]
theorem jd7:∀ (ops:List Oper) (acc:List Nat) (j:Nat) (o:Oper),ops[j]? = some o→∃ m,(jai acc ops)[acc.length+j]? = some m∧m=jhJ ((jai acc ops).take (acc.length+j)) o
 | [],acc,j,o,h=>by simp at h
 | x::r,acc,0,o,h=>by
  simp at h; subst h
  simp only [jai]
  refine ⟨jhJ acc x,?_,?_⟩
  ·rw [jek r _ _ (by simp)]; simp
  ·have:(jai (acc++[jhJ acc x]) r).take (acc.length+0)=acc:=by
    apply Xw
    intro i
    rw [Q9]
    split
    ·rw [jek r _ i (by simp; omega),Kn (by omega)]
    ·rw [K8 (by omega)]
   rw [this]
 | x::r,acc,j+1,o,h=>by
  simp only [jai]
  have:=jd7 r (acc++[jhJ acc x]) j o (by simpa using h)
  have e:(acc++[jhJ acc x]).length+j=acc.length+(j+1):=by simp; omega
  rw [e] at this
  exact this
theorem jdm {ops:Array Oper}{D:Nat→Prop}(hD:∀ j o,D j→ops[j]? = some o→∀ e∈o.after,Region.binds .any e=true→D e.on) :
  ∀ (j i:Nat),D j→((jai [] ops.toList).getD j 0).testBit i=true→D i:=by
 intro j
 induction j using Nat.strongRecOn with
 | _ j ih =>
  intro i hj hb
  cases ho:ops[j]? with
  | none =>
   have hl:=jdD ops.toList []
   have:(jai [] ops.toList)[j]? = none:=K8 (by
    have:=Xd.1 ho
    simp at hl; omega)
   rw [List.getD,this] at hb
   simp at hb
  | some o =>
   obtain ⟨m,h1,h2⟩:=jd7 ops.toList [] j o (by simpa using ho)
   simp only [Qg,Qx] at h1 h2
   rw [List.getD,h1] at hb
   simp only [Kv] at hb
   rw [h2] at hb
   obtain ⟨e,he,hbind,hc⟩:=jgC hb
   have hDe:=hD j o hj ho e he hbind
   rcases hc with rfl | hc
   ·exact hDe
   ·by_cases hlt:e.on<j
    ·refine ih e.on hlt i hDe ?_
     have:((jai [] ops.toList).take j)[e.on]? = (jai [] ops.toList)[e.on]? := by rw [Q9,Kh hlt]
     rw [List.getD,this] at hc
     rw [List.getD]; exact hc
    ·have:((jai [] ops.toList).take j)[e.on]? = none:=by rw [Q9,Kg hlt]
     rw [List.getD,this] at hc
     simp at hc
end
section
variable {E:Env}
def cntL (listed:Array Bool):Nat→Nat
 | 0=>0
 | n+1=>cntL listed n+if listed.getD n false then 1 else 0
theorem jop (l:Array Bool):∀ n,cntL l n≤n
 | 0=>Ku _
 | n+1=>by simp only [cntL]; have:=jop l n; split <;> omega
theorem jhk (l:Array Bool){i:Nat}(hi:i<l.size)(h:l.getD i false=false):∀ n,cntL (l.setIfInBounds i true) n=cntL l n+if i<n then 1 else 0
 | 0=>by simp [cntL]
 | n+1=>by
  simp only [cntL]
  have ih:=jhk l hi h n
  rw [ih]
  by_cases hn:i=n
  ·subst hn
   have:(l.setIfInBounds i true).getD i false=true:=by simp [hi]
   simp [this,h]
  ·rw [getD_set_ne false hn]
   by_cases h2:i<n
   ·have h3:i<n+1:=by omega
    rw [Kh h2,Kh h3]; omega
   ·have h3:¬ i<n+1:=by omega
    rw [Kg h2,Kg h3]; omega
theorem jhl (l:Array Bool):∀ n,cntL l n=n→∀ i,i<n→l.getD i false=true
 | 0,_,i,hi=>by omega
 | n+1,h,i,hi=>by
  simp only [cntL] at h
  have:=jop l n
  have h2:l.getD n false=true:=by
   cases hb:l.getD n false with
   | true=>rfl
   | false=>rw [hb] at h; simp at h; omega
  have h3:cntL l n=n:=by rw [h2] at h; simp at h; omega
  rcases K1 i n with h4 | h4
  ·exact jhl l n h3 i h4
  ·have:i=n:=by omega
   subst this; exact h2
theorem je5 (ops:Array Oper)(j:Nat)(o:Oper)(h:ops[j]? = some o):jaH E ops (j+1)=jaH E ops j+if scOp E o.op then 1 else 0:=by
 unfold jaH
 rw [Vl,Jd,h]
 simp [List.countP_append,Vd]
theorem jku (ops:Array Oper){i j:Nat}(h:i≤j):jaH E ops i≤jaH E ops j:=by
  induction j with
  | zero => have:i=0:=by omega
            subst this; exact Ku _
  | succ j ih =>
    rcases K1 i (j+1) with h1 | h1
    · have:=ih (by omega)
      cases ho:ops[j]? with
      | some o=>rw [je5 ops j o ho]; omega
      | none =>
        have e:ops.toList.take (j+1)=ops.toList.take j:=by
          have:=Xd.1 ho
          rw [Ql (by simp; omega),Ql (by simpa using this)]
        unfold jaH at *; rw [e]; exact this
    · have:i=j+1:=by omega
      subst this; exact Ku _
theorem jet (ops:Array Oper){i j:Nat}{o:Oper}(hi:ops[i]? = some o)(hs:scOp E o.op=true)(h:i<j):jaH E ops i<jaH E ops j:=by
 have h1:=je5 (E:=E) ops i o hi
 rw [hs] at h1
 have:=jku (E:=E) ops (show i+1≤j from h)
 simp at h1; omega
theorem jdH (ops:Array Oper)(m:Nat):∀ j,m<jaH E ops j→∃ i o,i<j∧ops[i]? = some o∧scOp E o.op=true∧jaH E ops i=m
 | 0,h=>by simp [jaH] at h
 | j+1,h=>by
  rcases K1 m (jaH E ops j) with h1 | h1
  ·obtain ⟨i,o,a,b,c,d⟩:=jdH ops m j h1
   exact ⟨i,o,by omega,b,c,d⟩
  ·cases ho:ops[j]? with
   | some o =>
    rw [je5 ops j o ho] at h
    by_cases hs:scOp E o.op=true
    ·rw [hs] at h; simp at h
     exact ⟨j,o,by omega,ho,hs,by omega⟩
    ·simp [hs] at h; omega
   | none =>
    have e:ops.toList.take (j+1)=ops.toList.take j:=by
     have:=Xd.1 ho
     rw [Ql (by simp; omega),Ql (by simpa using this)]
    unfold jaH at *; rw [e] at h; omega
theorem jkv {rec:Task→Option Res}{f:FuncId}{args:List V}{v:V}{σ σ':S}(hp:(E.pure f || (E.hook f).isSome)=true)(h:jah E rec f args σ=some (v,σ')) :
  σ'=σ∧∀ σ2,jah E rec f args σ2=some (v,σ2):=by
 unfold jah at h ⊢
 cases hh:E.hook f with
 | some g =>
  simp only [hh,Kl,Km] at h ⊢
  obtain ⟨u,h1,rfl,rfl⟩:=h
  exact ⟨rfl,fun σ2=>by simp [h1]⟩
 | none =>
  have hpu:E.pure f=true:=by simpa [hh] using hp
  simp only [hh,hpu,Ke] at h ⊢
  split at h
  ·rename_i hcl
   simp only [hcl,Ke]
   cases hr:rec (.call f (wargs args) S.empty) with
   | none=>rw [hr] at h; simp at h
   | some r =>
    rw [hr] at h
    split at h
    ·simp only [Kl,Km] at h
     obtain ⟨u,h1,rfl,rfl⟩:=h
     rename_i heq
     cases heq
     exact ⟨rfl,fun σ2=>by simp [h1]⟩
    ·simp at h
  ·simp at h
theorem joq {rec:Task→Option Res}{mutb:Bool}{tmps:List V}{f:FuncId}{args:Array Operand}{ats:Array TypeId}{σ:S} :
  opV E rec mutb tmps σ (.call { callee:=.value (.func f),args:=args,argTypes:=ats })=(jbn (jaU E tmps) args.toList).bind fun as=>jah E rec f as σ:=by
 simp [opV,ja3,ja8,jaU,jgx]
theorem jdn {rec:Task→Option Res}{mutb:Bool}{tmps:List V}{op:Op}{u:V}(h:ja3 E (jaU E tmps) op=some u)(σ:S):opV E rec mutb tmps σ op=some (u,σ):=by
 simp [opV,h]
theorem jhV {rec:Task→Option Res}{mutb:Bool}{tmps:List V}{op:Op}{u:V}(h0:ja3 E (jaU E tmps) op=none){σ:S}(h:ja8 E (jaU E tmps) σ op=some u):opV E rec mutb tmps σ op=some (u,σ):=by
 simp [opV,h0,h]
theorem jjK {op:Op}(h:jbc E op=true):(∃ f args ats,op=.call { callee:=.value (.func f),args:=args,argTypes:=ats }∧(E.pure f || (E.hook f).isSome)=true)∨(E.rowB=true∧∃ t len parts,op=.buildSlice t len parts)∨(∃ src dst x,op=.convert src dst x∧jhK E src dst=true):=by
 cases op <;> simp only [jbc,Kj] at h
 case buildSlice t len parts=>exact .inr (.inl ⟨h,t,len,parts,rfl⟩)
 case convert src dst x=>exact .inr (.inr ⟨src,dst,x,rfl,h⟩)
 rename_i c
 left
 obtain ⟨callee,args,ats⟩:=c
 cases callee with
 | invoke r n=>simp at h
 | builtin b=>simp at h
 | value g=>cases g <;> first | exact ⟨_,_,_,rfl,h⟩ | (simp at h; done)
def strO (E:Env)(dst:TypeId)(s:List UInt8):Option V :=
 match E.P.underlying dst with
 | some (.slice e)=>(match E.P.underlying e with
  | some (.int .u8)=>some (.row (jdg s) s.length .unk)
  | _=>none)
 | _=>none
theorem jlJ {rec:Task→Option Res}{mutb:Bool}{tmps:List V}{src dst:TypeId}{x:Operand}{σ:S}(h:jhK E src dst=true) :
  opV E rec mutb tmps σ (.convert src dst x)=(jaU E tmps x).bind fun v=>match v with
   | .str s=>(strO E dst s).map fun v=>(v,σ)
   | _=>none:=by
 unfold jhK at h
 split at h
 ·rename_i e hs hd
  simp only [opV,ja3,ja8,jbo,hs,hd,strO]
  cases jaU E tmps x with
  | none=>rfl
  | some v =>
   cases v with
   | str s =>
    simp only [Ko,jhG]
    cases E.P.underlying e with
    | none=>rfl
    | some ue =>
     cases ue with
     | int k=>cases k <;> rfl
     | _=>rfl
   | _=>rfl
 ·simp at h
theorem jd8 {rec:Task→Option Res}{mutb:Bool}{tmps:List V}{op:Op}{v:V}{σ σ':S}(hp:jbc E op=true)(h:opV E rec mutb tmps σ op=some (v,σ'))(σ2:S):opV E rec mutb tmps σ2 op=some (v,σ2):=by
 rcases jjK hp with ⟨f,args,ats,rfl,hf⟩ | ⟨hb,t,len,parts,rfl⟩ | ⟨src,dst,x,rfl,hc⟩
 ·rw [joq] at h ⊢
  simp only [Ki] at h ⊢
  obtain ⟨as,has,h⟩:=h
  exact ⟨as,has,(jkv hf h).2 σ2⟩
 ·simp only [opV,ja3,ja8,jbo,hb,Qr,Bool.and_false,Kj,Kc,Ki] at h ⊢
  obtain ⟨ps,hp,e,he,s,hs,z,hz,h⟩:=h
  refine ⟨ps,hp,e,he,s,hs,z,hz,?_⟩
  split at h
  ·rename_i hc
   rw [Kh hc]
   simp only [Kl,Km] at h ⊢
   obtain ⟨cs,hf,h1,h2⟩:=h
   exact ⟨cs,hf,h1,trivial⟩
  ·simp at h
 ·rw [jlJ hc] at h ⊢
  simp only [Ki] at h ⊢
  obtain ⟨v0,h1,h2⟩:=h
  refine ⟨v0,h1,?_⟩
  cases v0 <;> simp only [Kl,reduceCtorEq] at h2 ⊢
  obtain ⟨u,h3,h4⟩:=h2
  simp only [Km] at h4 ⊢
  exact ⟨u,h3,h4.1,trivial⟩
theorem jgD {args:Array Operand}{ats:Array TypeId}{mutb:Bool}{ρ:Operand→Option V}{σ:S}{r:V × S}(hs:scOp E (.call ⟨.builtin .len,args,ats⟩)=false)
  (h:jbo E mutb ρ σ (.call ⟨.builtin .len,args,ats⟩)=some r):False:=by
 simp only [scOp] at hs
 simp only [jbo,Ki] at h
 obtain ⟨vs,-,h⟩:=h
 split at h
 ·simp only [Ki] at h
  obtain ⟨t,ht,h⟩:=h
  rw [ht] at hs
  simp only at hs
  split at h
  ·rename_i hu; rw [hu] at hs; simp at hs
  ·rename_i hu; rw [hu] at hs; simp at hs
  ·simp at h
 ·simp at h
theorem jeE {src dst:TypeId}{x:Operand}{mutb:Bool}{ρ:Operand→Option V}{σ:S}{r:V × S}(hs:scOp E (.convert src dst x)=false)(hp:jbc E (.convert src dst x)=false)(h:jbo E mutb ρ σ (.convert src dst x)=some r):False:=by
 simp only [jbc] at hp
 simp only [scOp,hp,Ji,Qj] at hs
 simp only [jbo,Ki] at h
 obtain ⟨v,-,h⟩:=h
 split at h
 ·rename_i hu; rw [hu] at hs; simp at hs
 ·rename_i hu; rw [hu] at hs; simp at hs
 ·simp at h
theorem jkw {rec:Task→Option Res}{mutb:Bool}{tmps:List V}{op:Op}{v:V}{σ σ':S}(hs:scOp E op=false)(h:opV E rec mutb tmps σ op=some (v,σ')):σ'=σ:=by
 by_cases hp:jbc E op=true
 ·have:=jd8 hp h σ
  rw [h] at this; simp at this; exact this
 ·unfold opV at h
  split at h
  ·simp at h; exact h.2.symm
  ·split at h
   ·simp at h; exact h.2.symm
   ·exfalso
    cases op
    case call =>
     rename Call=>c
     obtain ⟨callee,args,ats⟩:=c
     cases callee with
     | invoke r n=>simp [scOp] at hs
     | value g=>cases g <;> simp_all [jbc,scOp]
     | builtin b=>cases b <;> first | (simp [scOp] at hs; done) | (simp [jbo] at h; done) | exact jgD hs h
    all_goals first | (simp [scOp] at hs; done) | (simp [jbo] at h; done) | exact jeE hs (by simpa using hp) h | (simp_all [scOp,jbc]; done)
end
section
variable {E:Env}
def TT (tr:List (List V × V))(tf:List V)(j:Nat):List V:=match tr[j]? with | some (t,_)=>t | none=>tf
def SS (σ:S)(ss:List S)(m:Nat):S:=((σ::ss)[m]?).getD S.empty
def cntO (E:Env)(l:List Oper)(j:Nat):Nat:=(l.take j).countP fun o=>scOp E o.op
theorem jdo (o:Oper)(l:List Oper)(j:Nat):cntO E (o::l) (j+1)=(if scOp E o.op then 1 else 0)+cntO E l j:=by
 unfold cntO
 rw [Q6,Vd]; omega
theorem jeu {rec:Task→Option Res}{mutb:Bool}{ops:Array Oper}:∀ (l:List Oper) {tmps tf:List V} {σ σf:S} {tr:List (List V × V)} {ss:List S},
  dRun E rec mutb ops l tmps σ=some (tr,ss,tf,σf) →
  tr.length=l.length∧ss.length=cntO E l l.length∧TT tr tf 0=tmps∧TT tr tf l.length=tf∧SS σ ss (cntO E l l.length)=σf ∧
  ∀ j o,l[j]? = some o→∃ t v,tr[j]? = some (t,v)∧TT tr tf (j+1)=putT t o.dst v ∧
   ∃ σ1,(if Region.wanted o (jaq ops t) then opV E rec mutb t (SS σ ss (cntO E l j)) o.op else some (.tup [],SS σ ss (cntO E l j)))=some (v,σ1) ∧
    (scOp E o.op=true→SS σ ss (cntO E l j+1)=σ1∧cntO E l j<ss.length)
 | [],tmps,tf,σ,σf,tr,ss,h=>by
  simp [dRun] at h
  obtain ⟨rfl,rfl,rfl,rfl⟩:=h
  exact ⟨rfl,by simp [cntO],rfl,rfl,rfl,fun j o h=>by simp at h⟩
 | o::l,tmps,tf,σ,σf,tr,ss,h=>by
  simp only [dRun] at h
  split at h
  ·rename_i v σ1 hop
   split at h
   ·rename_i tr' ss' tf' σf' hrun
    simp only [Kf,Km] at h
    obtain ⟨rfl,rfl,rfl,rfl⟩:=h
    obtain ⟨h1,h2,h3,h4,h5,h6⟩:=jeu l hrun
    have hc0:cntO E (o::l) 0=0:=by simp [cntO]
    by_cases hs:scOp E o.op=true
    ·have hS:∀ m,SS σ (σ1::ss') (m+1)=SS σ1 ss' m:=by
      intro m
      simp only [SS,K9]
     simp only [hs,Ke]
     refine ⟨by simp [h1],by simp [jdo,hs,h2]; omega,rfl,by simpa [TT] using h4,?_,?_⟩
     ·simp only [K7,jdo,hs,Ke]; rw [Xq,hS]; exact h5
     ·intro j o' ho'
      cases j with
      | zero =>
       simp at ho'; subst ho'
       refine ⟨tmps,v,rfl,by simpa [TT] using h3,σ1,?_,fun _=>⟨?_,by simp [hc0]⟩⟩
       ·rw [hc0]; exact hop
       ·rw [hc0,hS]; rfl
      | succ j =>
       obtain ⟨t,v',a1,a2,σ2,a3,a4⟩:=h6 j o' (by simpa using ho')
       refine ⟨t,v',by simpa using a1,by simpa [TT] using a2,σ2,?_,fun hsc => ?_⟩
       ·rw [jdo,hs,Kh rfl,Xq,hS]; exact a3
       ·rw [jdo,hs,Kh rfl,Xq 1,hS]
        have:=a4 hsc
        exact ⟨this.1,by simp; omega⟩
    ·simp only [hs,Kc,Kj]
     have hσ:σ1=σ:=by
      split at hop
      ·exact jkw (by simpa using hs) hop
      ·simp at hop; exact hop.2.symm
     subst hσ
     refine ⟨by simp [h1],by simp [jdo,hs,h2],rfl,by simpa [TT] using h4,?_,?_⟩
     ·simp only [K7,jdo,hs,Kj,Kc,Qx]; exact h5
     ·intro j o' ho'
      cases j with
      | zero =>
       simp at ho'; subst ho'
       refine ⟨tmps,v,rfl,by simpa [TT] using h3,σ1,?_,fun h=>absurd h hs⟩
       rw [hc0]; exact hop
      | succ j =>
       obtain ⟨t,v',a1,a2,σ2,a3,a4⟩:=h6 j o' (by simpa using ho')
       refine ⟨t,v',by simpa using a1,by simpa [TT] using a2,σ2,?_,fun hsc => ?_⟩
       ·rw [jdo,Kg hs,Qx]; exact a3
       ·rw [jdo,Kg hs,Qx]; exact a4 hsc
   ·simp at h
  ·simp at h
theorem jdP {τ t:List V}{ops:Array Oper}{o:Oper}(h:∀ x∈o.looksAt ops,τ[x]? = t[x]?):∀ x∈o.op.operands,jaU E τ x=jaU E t x:=by
 intro x hx
 cases x with
 | tmp y =>
  have:y∈o.looksAt ops:=by
   unfold Oper.looksAt
   refine List.mem_append_left _ (List.mem_filterMap.2 ⟨.tmp y,by simpa using hx,rfl⟩)
  simp only [jaU,List.getD,h y this]
 | _=>rfl
theorem jd9 {τ t:List V}{ops:Array Oper}{o:Oper}(h:∀ x∈o.looksAt ops,τ[x]? = t[x]?):Region.wanted o (jaq ops τ)=Region.wanted o (jaq ops t):=by
 unfold Region.wanted
 cases hg:o.guard with
 | none=>rfl
 | some gw =>
  obtain ⟨j,want⟩:=gw
  have:jaq ops τ j=jaq ops t j:=by
   unfold jaq
   cases hd:(ops[j]?).bind (·.dst) with
   | none=>rfl
   | some d =>
    have hd2:d∈o.looksAt ops:=by
     unfold Oper.looksAt
     refine List.mem_append_right _ ?_
     simp [hg,hd]
    simp only [Ko,h d hd2]
  simp only [this]
theorem jgE {ρ ρ':Operand→Option V}{x:Option Operand}(h:∀ y,x=some y→ρ y=ρ' y):optO ρ x=optO ρ' x:=by
 cases x with
 | none=>rfl
 | some y=>simp only [optO,h y rfl]
theorem jch {ρ ρ':Operand→Option V}:∀ {l:List Operand},(∀ y∈l,ρ y=ρ' y)→jbn ρ l=jbn ρ' l
 | [],_=>rfl
 | x::r,h=>by simp only [jbn,h x (by simp),jch (l:=r) (fun y hy=>h y (by simp [hy]))]
theorem je6 {ρ ρ':Operand→Option V}:∀ {l:List (Nat × Operand)},(∀ y∈l,ρ y.2=ρ' y.2)→jcI ρ l=jcI ρ' l
 | [],_=>rfl
 | (i,x)::r,h=>by simp only [jcI,h (i,x) (by simp),je6 (l:=r) (fun y hy=>h y (by simp [hy]))]
theorem jlK {ρ ρ':Operand→Option V}(op:Op)(h:∀ x∈op.operands,ρ x=ρ' x):ja3 E ρ op=ja3 E ρ' op:=by
 cases op <;> simp only [Op.operands,Call.operands] at h <;> simp only [ja3]
 case move x=>exact h x (by simp)
 case assign x=>exact h x (by simp)
 case pick c a b=>rw [h c (by simp),h a (by simp),h b (by simp)]
 case build t parts=>rw [je6 (fun y hy=>h y.2 (by simp; exact ⟨y.1,by simpa using hy⟩))]
 case binOp op t x y yt=>rw [h x (by simp),h y (by simp)]
 case unOp op t x=>rw [h x (by simp)]
 case convert a b x=>rw [h x (by simp)]
 case typeAssert x a b c=>rw [h x (by simp)]
 case makeInterface t x=>rw [h x (by simp)]
 case makeFunc fn first captured =>
  cases fn <;> simp only
  ·rw [jch (fun y hy=>h y (by simp; left; simpa using hy)),jch (l:=captured.toList) (fun y hy=>h y (by simp; right; simpa using hy))]
  ·split
   ·rename_i x e _
    rw [h x (by simp; left; have:=congrArg (x ∈ ·) e; simpa using this)]
   ·rfl
 case slice t x lo hi mx =>
  rw [h x (by simp),jgE (x:=lo) (fun y hy=>h y (by simp [hy])),jgE (x:=hi) (fun y hy=>h y (by simp [hy])),jgE (x:=mx) (fun y hy=>h y (by simp [hy]))]
 case nilCheck x=>rw [h x (by simp)]
 case fieldAddr t x f=>rw [h x (by simp)]
 case field t x f=>rw [h x (by simp)]
 case indexAddr t x i=>rw [h x (by simp),h i (by simp)]
 case index t x i=>rw [h x (by simp),h i (by simp)]
 case extract x i=>rw [h x (by simp)]
 case call c =>
  have hl:jbn ρ c.args.toList=jbn ρ' c.args.toList:=jch (fun y hy=>h y (by simp; right; simpa using hy))
  rw [hl]
theorem jlL {ρ ρ':Operand→Option V}{σ:S}(op:Op)(h:∀ x∈op.operands,ρ x=ρ' x):ja8 E ρ σ op=ja8 E ρ' σ op:=by
 cases op <;> simp only [Op.operands] at h <;> simp only [ja8]
 case load t x=>rw [h x (by simp)]
 case convert a b x=>rw [h x (by simp)]
 case lookup t m k ok=>rw [h m (by simp),h k (by simp)]
theorem jkx {ρ ρ':Operand→Option V}{σ:S}{mutb:Bool}(op:Op)(h:∀ x∈op.operands,ρ x=ρ' x):jbo E mutb ρ σ op=jbo E mutb ρ' σ op:=by
 cases op <;> simp only [Op.operands,Call.operands] at h <;> simp only [jbo]
 case convert a b x=>rw [h x (by simp)]
 case box t x=>rw [h x (by simp)]
 case buildSlice t len parts=>rw [je6 (fun y hy=>h y.2 (by simp; exact ⟨y.1,by simpa using hy⟩))]
 case makeSlice t l c=>rw [h l (by simp),h c (by simp)]
 case store t a x=>rw [h a (by simp),h x (by simp)]
 case makeMap t r=>cases r <;> rfl
 case insert t m k x=>rw [h m (by simp),h k (by simp),h x (by simp)]
 case mapUpdate t m k x=>rw [h m (by simp),h k (by simp),h x (by simp)]
 case mapEntry t m k=>rw [h m (by simp),h k (by simp)]
 case entryStore t m k x=>rw [h m (by simp),h k (by simp),h x (by simp)]
 case call c =>
  have hl:jbn ρ c.args.toList=jbn ρ' c.args.toList:=jch (fun y hy=>h y (by simp; right; simpa using hy))
  rw [hl]
theorem jf8 {rec:Task→Option Res}{mutb:Bool}{τ t:List V}{σ:S}(op:Op)(h:∀ x∈op.operands,jaU E τ x=jaU E t x):opV E rec mutb τ σ op=opV E rec mutb t σ op:=by
 have hs:=jkx (E:=E) (σ:=σ) (mutb:=mutb) op h
 unfold opV
 rw [jlK op h,jlL op h]
 cases op
 case call =>
  rename Call=>c
  obtain ⟨callee,args,ats⟩:=c
  cases callee with
  | invoke r n =>
   have h1:jaU E τ r=jaU E t r:=h r (by simp [Op.operands,Call.operands])
   have h2:jbn (jaU E τ) args.toList=jbn (jaU E t) args.toList:=jch (fun y hy=>h y (by simp [Op.operands,Call.operands]; right; simpa using hy))
   simp only [h1,h2]
  | builtin b=>simp only [hs]
  | value g =>
   have h1:jaU E τ g=jaU E t g:=h g (by simp [Op.operands,Call.operands])
   have h2:jbn (jaU E τ) args.toList=jbn (jaU E t) args.toList:=jch (fun y hy=>h y (by simp [Op.operands,Call.operands]; right; simpa using hy))
   simp only [h1,h2]
 all_goals simp only [hs]
end
section
variable {E:Env}
theorem jfp (t:List V)(d:Option Tmp)(v:V):(putT t d v).length=t.length:=by cases d <;> simp [putT]
theorem jbW {t:List V}{d:Option Tmp}{v:V}{x:Tmp}(h:d ≠ some x):(putT t d v)[x]? = t[x]? := by
 cases d with
 | none=>rfl
 | some y =>
  simp only [putT]
  rw [K0 (fun e=>h (by rw [e]))]
theorem jpV (hE:E.Ok) {rec:Task→Option Res} (hrec:∀ t r,rec t=some r→jcA E t r) {mutb:Bool} {ops:Array Oper} {tmps tf:List V} {σ σf:S} {tr:List (List V × V)} {ss:List S}
    (hp:jcg E ops (jai [] ops.toList)=true) (hdr:dRun E rec mutb ops ops.toList tmps σ=some (tr,ss,tf,σf)) (hck:jeN E ops (jai [] ops.toList) tr (σ::ss)=true) (b:Frame) :
    ∀ (fuel t:Nat) (listed:Array Bool) (m:Nat) (τ:List V) (Γ:Ctx) (w:World) (a:Act),listed.size=ops.size→cntL listed ops.size+fuel=ops.size →
      (∀ j o,listed.getD j false=true→ops[j]? = some o→∀ e∈o.after,Region.binds .any e=true→listed.getD e.on false=true) →
      (∀ i o,ops[i]? = some o→scOp E o.op=true→listed.getD i false=true→jaH E ops i<m) →
      (∀ i o,ops[i]? = some o→scOp E o.op=true→listed.getD i false=false→m≤jaH E ops i) →
      m≤jaH E ops ops.size→τ.length=tmps.length →
      (∀ x j,j≤ops.size→(∀ i o,ops[i]? = some o→o.dst=some x→(listed.getD i false=true↔i<j))→τ[x]? = (TT tr tf j)[x]?) →
      WRel Γ (SS σ ss m) w→GOK E Γ→LRel Γ τ a.tmps →
      ∃ Γ' w' a',Moved Γ Γ' σf w w'∧LRel Γ' tf a'.tmps∧a'.defers=a.defers ∧
        ∀ k cs,Steps E.P (lone (b.atR a (.inRegion ops (Region.linearise.go .any ops fuel t listed [])::k)) cs w) (lone (b.atR a' k) cs w'):=by
  obtain ⟨hl1,hl2,hT0,hTn,hSf,hspec⟩:=jeu ops.toList hdr
  have hcnt:∀ j,cntO E ops.toList j=jaH E ops j:=fun _=>rfl
  simp only [hcnt,Qo] at hl1 hl2 hTn hSf hspec
  -- the lengths
  have hTlen:∀ j,j≤ops.size→(TT tr tf j).length=tmps.length:=by
    intro j
    induction j with
    | zero=>intro _; rw [hT0]
    | succ j ih =>
      intro hj
      have hlt:j<ops.size:=by omega
      obtain ⟨t,v,h1,h2,_⟩:=hspec j ops[j] (by simp [hlt])
      rw [h2,jfp]
      have:=ih (by omega)
      simpa [TT,h1] using this
  have hTsame:∀ x i j,i≤j→j≤ops.size→(∀ i' o',i≤i'→i'<j→ops[i']? = some o'→o'.dst ≠ some x)→(TT tr tf j)[x]? = (TT tr tf i)[x]? := by
    intro x i j hij
    induction j with
    | zero => intro _ _; have:i=0:=by omega
              subst this; rfl
    | succ j ih =>
      intro hj hno
      rcases K1 j i with h1 | h1
      · have:i=j+1:=by omega
        subst this; rfl
      · have hlt:j<ops.size:=by omega
        obtain ⟨t,v,h2,h3,_⟩:=hspec j ops[j] (by simp [hlt])
        rw [h3,jbW (hno j ops[j] h1 (by omega) (by simp [hlt]))]
        have:=ih h1 (by omega) (fun i' o' a b c=>hno i' o' a (by omega) c)
        rw [← this]; simp [TT,h2]
  -- what the static look says
  have hpair:∀ i j oi oj,i<j→ops[i]? = some oi→ops[j]? = some oj→((jai [] ops.toList).getD j 0).testBit i=true∨(oi.apart ops oj=true∧¬ (scOp E oi.op=true∧scOp E oj.op=true)):=by
    intro i j oi oj hij hi hj
    have hjl:=(Kq.1 hj).1
    have h1:=Kz.1 hp j (Jb.2 hjl)
    rw [hj] at h1
    simp only [K5] at h1
    have h2:=Kz.1 h1.2 i (Jb.2 hij)
    rw [hi] at h2
    simp only [jof,Je,K5,J7,Vs] at h2
    rcases h2 with h2 | ⟨h2,h3⟩
    · exact .inl h2
    · exact .inr ⟨h2,fun ⟨a,b⟩=>by rcases h3 with h3 | h3 <;> simp_all⟩
  have hacyc:∀ j oj e,ops[j]? = some oj→e∈oj.after→Region.binds .any e=true→e.on<j:=by
    intro j oj e hj he hb
    have hjl:=(Kq.1 hj).1
    have h1:=Kz.1 hp j (Jb.2 hjl)
    rw [hj] at h1
    simp only [K5] at h1
    have:=Kz.1 h1.1 e (by simpa using he)
    simpa [hb] using this
  intro fuel
  -- the end: all have run
  have hend:∀ (t:Nat) (listed:Array Bool) (m:Nat) (τ:List V) (Γ:Ctx) (w:World) (a:Act),
      (∀ i o,ops[i]? = some o→scOp E o.op=true→listed.getD i false=true→jaH E ops i<m)→m≤jaH E ops ops.size→τ.length=tmps.length →
      (∀ x j,j≤ops.size→(∀ i o,ops[i]? = some o→o.dst=some x→(listed.getD i false=true↔i<j))→τ[x]? = (TT tr tf j)[x]?) →
      (∀ i,i<ops.size→listed.getD i false=true)→WRel Γ (SS σ ss m) w→LRel Γ τ a.tmps →
      ∃ Γ' w' a',Moved Γ Γ' σf w w'∧LRel Γ' tf a'.tmps∧a'.defers=a.defers ∧
        ∀ k cs,Steps E.P (lone (b.atR a (.inRegion ops []::k)) cs w) (lone (b.atR a' k) cs w'):=by
    intro t listed m τ Γ w a i1 hm hτ hinv hall hw hx
    have hmn:m=jaH E ops ops.size:=by
      rcases K1 m (jaH E ops ops.size) with h1 | h1
      · obtain ⟨i,o,a1,a2,a3,a4⟩:=jdH ops m _ h1
        have:=i1 i o a2 a3 (hall i a1)
        omega
      · omega
    have hτf:τ=tf:=by
      apply Xw
      intro x
      rw [hinv x ops.size (Ku _) (fun i o hi _=>⟨fun _=>(Kq.1 hi).1,fun h=>hall i h⟩),hTn]
    subst hτf
    rw [hmn,hSf] at hw
    exact ⟨Γ,w,a,Moved.refl hw,hx,rfl,fun k cs=>.one stepR_region_end⟩
  induction fuel with
  | zero =>
    intro t listed m τ Γ w a hsz hfu hshut i1 i2 hm hτ hinv hw hg hx
    simp only [Region.linearise.go,Vr]
    exact hend t listed m τ Γ w a i1 hm hτ hinv (jhl listed ops.size (by omega)) hw hx
  | succ fuel ih =>
    intro t listed m τ Γ w a hsz hfu hshut i1 i2 hm hτ hinv hw hg hx
    have hgo:Region.linearise.go .any ops (fuel+1) t listed []=(match (Region.ready .any ops listed)[t % (Region.ready .any ops listed).length]? with
      | some i=>Region.linearise.go .any ops fuel (t / (Region.ready .any ops listed).length) (listed.setIfInBounds i true) [i]
      | none=>[].reverse):=rfl
    rw [hgo]
    cases hi:(Region.ready .any ops listed)[t % (Region.ready .any ops listed).length]? with
    | none =>
      have hnil:Region.ready .any ops listed=[]:=by
        cases hr:Region.ready .any ops listed with
        | nil=>rfl
        | cons x xs =>
          rw [hr] at hi
          have hlt:t % (x::xs).length<(x::xs).length:=Vc _ (by simp)
          simp at hi
          simp at hlt
          omega
      simp only [Vr]
      refine hend t listed m τ Γ w a i1 hm hτ hinv ?_ hw hx
      intro i
      induction i using Nat.strongRecOn with
      | _ i ihi =>
        intro hin
        cases hb:listed.getD i false with
        | true=>rfl
        | false =>
          exfalso
          have:i∈Region.ready .any ops listed:=by
            rw [mem_ready]
            refine ⟨?_,ops[i],by simp [hin],fun e he hbd => ?_⟩
            · have:i<listed.size:=by omega
              simpa [this] using hb
            · have:=hacyc i ops[i] e (by simp [hin]) he hbd
              exact ihi e.on this (by omega)
          rw [hnil] at this; simp at this
    | some i =>
      simp only
      rw [linearise_go_acc,Vn,X8]
      have hmem:=X0 hi
      rw [mem_ready] at hmem
      obtain ⟨hun,o,ho,hedges⟩:=hmem
      have hin:i<ops.size:=(Kq.1 ho).1
      have hil:i<listed.size:=by omega
      have hun':listed.getD i false=false:=by simpa [hil] using hun
      -- D with i is shut as well
      have hshut':∀ j oj,(listed.getD j false=true∨j=i)→ops[j]? = some oj→∀ e∈oj.after,Region.binds .any e=true→(listed.getD e.on false=true∨e.on=i):=by
        intro j oj hj hoj e he hb
        rcases hj with hj | rfl
        · exact .inl (hshut j oj hj hoj e he hb)
        · rw [ho] at hoj; cases hoj
          exact .inl (hedges e he hb)
      have hbefore:∀ i',((jai [] ops.toList).getD i 0).testBit i'=true→i' ≠ i→listed.getD i' false=true:=by
        intro i' hb hne
        have:=jdm (D:=fun j=>listed.getD j false=true∨j=i) hshut' i i' (.inr rfl) hb
        exact this.resolve_right hne
      have hafter:∀ i',((jai [] ops.toList).getD i' 0).testBit i=true→listed.getD i' false=true→False:=by
        intro i' hb hl
        have:=jdm (D:=fun j=>listed.getD j false=true) hshut i' i hl hb
        rw [hun'] at this; simp at this
      obtain ⟨ti,v,htr,hTi1,σ1,hop,hscs⟩:=hspec i o (by simpa using ho)
      have hTi:TT tr tf i=ti:=by simp [TT,htr]
      -- the temporaries that it looks at
      have hlook:∀ x∈o.looksAt ops,τ[x]? = ti[x]? := by
        intro x hxl
        rw [← hTi]
        refine hinv x i (by omega) (fun i' o' ho' hd'=>⟨fun hl => ?_,fun hlt => ?_⟩)
        · rcases Xl i' i with h1 | h1 | h1
          · exact h1
          · subst h1; rw [hun'] at hl; simp at hl
          · exfalso
            rcases hpair i i' o o' h1 ho ho' with h2 | ⟨h2,_⟩
            · exact hafter i' h2 hl
            · exact (Oper.apart_spec h2).2.2 x hd' hxl
        · rcases hpair i' i o' o hlt ho' ho with h2 | ⟨h2,_⟩
          · exact hbefore i' h2 (by omega)
          · exact absurd hxl ((Oper.apart_spec h2).1 x hd')
      have hwt:Region.wanted o (jaq ops τ)=Region.wanted o (jaq ops ti):=jd9 hlook
      have hev:=jdP (E:=E) hlook
      -- the state in which it runs
      have hm':scOp E o.op=true→m=jaH E ops i:=by
        intro hs
        have h1:=i2 i o ho hs hun'
        rcases K1 m (jaH E ops i) with h2 | h2
        · exfalso
          obtain ⟨i',o',a1,a2,a3,a4⟩:=jdH ops m _ h2
          rcases hpair i' i o' o a1 a2 ho with h3 | ⟨_,h3⟩
          · have:=i1 i' o' a2 a3 (hbefore i' h3 (by omega)); omega
          · exact h3 ⟨a3,hs⟩
        · omega
      -- the new book
      have hsz2:(listed.setIfInBounds i true).size=ops.size:=by simpa using hsz
      have hfu2:cntL (listed.setIfInBounds i true) ops.size+fuel=ops.size:=by
        rw [jhk listed hil hun',Kh hin]; omega
      have hset:∀ j,(listed.setIfInBounds i true).getD j false=true↔(listed.getD j false=true∨j=i):=by
        intro j
        by_cases hji:i=j
        · subst hji; simp [hil]
        · rw [getD_set_ne false hji]
          constructor
          · exact .inl
          · rintro (h | h)
            · exact h
            · exact absurd h.symm hji
      have hshut2:∀ j oj,(listed.setIfInBounds i true).getD j false=true→ops[j]? = some oj→∀ e∈oj.after,Region.binds .any e=true→(listed.setIfInBounds i true).getD e.on false=true:=by
        intro j oj hj hoj e he hb
        rw [hset] at hj ⊢
        exact hshut' j oj hj hoj e he hb
      have i1':∀ i' o',ops[i']? = some o'→scOp E o'.op=true→(listed.setIfInBounds i true).getD i' false=true→jaH E ops i'<(if scOp E o.op then m+1 else m):=by
        intro i' o' ho' hs' hl'
        rcases (hset i').1 hl' with h1 | h1
        · have:=i1 i' o' ho' hs' h1
          split <;> omega
        · subst h1
          rw [ho] at ho'; cases ho'
          rw [Kh hs',hm' hs']; omega
      have i2':∀ i' o',ops[i']? = some o'→scOp E o'.op=true→(listed.setIfInBounds i true).getD i' false=false→(if scOp E o.op then m+1 else m)≤jaH E ops i':=by
        intro i' o' ho' hs' hl'
        have hnot:¬ (listed.getD i' false=true∨i'=i):=by
          intro hc; rw [(hset i').2 hc] at hl'; simp at hl'
        have hl2':listed.getD i' false=false:=by
          cases hb:listed.getD i' false with
          | true=>exact absurd (.inl hb) hnot
          | false=>rfl
        have hne:i' ≠ i:=fun e=>hnot (.inr e)
        have h1:=i2 i' o' ho' hs' hl2'
        by_cases hs:scOp E o.op=true
        · rw [Kh hs]
          have h2:=hm' hs
          rcases K1 i' i with h3 | h3
          · exfalso
            rcases hpair i' i o' o h3 ho' ho with h4 | ⟨_,h4⟩
            · have:=hbefore i' h4 hne; rw [hl2'] at this; simp at this
            · exact h4 ⟨hs',hs⟩
          · have:=jet (E:=E) ops ho hs (show i<i' by omega); omega
        · rw [Kg hs]; exact h1
      have hm2:(if scOp E o.op then m+1 else m)≤jaH E ops ops.size:=by
        by_cases hs:scOp E o.op=true
        · rw [Kh hs,hm' hs]
          have:=jet (E:=E) ops ho hs hin; omega
        · rw [Kg hs]; exact hm
      have hτ2:(putT τ o.dst v).length=tmps.length:=by rw [jfp]; exact hτ
      have hinv2:∀ x j,j≤ops.size→(∀ i' o',ops[i']? = some o'→o'.dst=some x→((listed.setIfInBounds i true).getD i' false=true↔i'<j))→(putT τ o.dst v)[x]? = (TT tr tf j)[x]? := by
        intro x j hj hwr
        by_cases hd:o.dst=some x
        · have hij:i<j:=(hwr i o ho hd).1 ((hset i).2 (.inr rfl))
          have hno:∀ i' o',i+1≤i'→i'<j→ops[i']? = some o'→o'.dst ≠ some x:=by
            intro i' o' h1 h2 ho' hd'
            have hl:=(hset i').1 ((hwr i' o' ho' hd').2 h2)
            have hl2:listed.getD i' false=true:=hl.resolve_right (by omega)
            rcases hpair i i' o o' (by omega) ho ho' with h3 | ⟨h3,_⟩
            · exact hafter i' h3 hl2
            · exact (Oper.apart_spec h3).2.1 x hd hd'
          rw [hTsame x (i+1) j hij hj hno,hTi1,hd]
          simp only [putT]
          have hlen:τ.length=ti.length:=by rw [hτ,← hTi,hTlen i (by omega)]
          rw [Q7,Q7,hlen]
          simp
        · rw [jbW hd]
          refine hinv x j hj (fun i' o' ho' hd' => ?_)
          have hne:i' ≠ i:=by
            intro e; subst e; rw [ho] at ho'; cases ho'; exact hd hd'
          rw [← hwr i' o' ho' hd',hset]
          constructor
          · exact .inl
          · rintro (h | h)
            · exact h
            · exact absurd h hne
      by_cases hwant:Region.wanted o (jaq ops ti)=true
      · -- it runs
        rw [Kh hwant] at hop
        have hrun:opV E rec mutb τ (SS σ ss m) o.op=some (v,SS σ ss (if scOp E o.op then m+1 else m)):=by
          rw [jf8 o.op hev]
          by_cases hs:scOp E o.op=true
          · rw [Kh hs,hm' hs,(hscs hs).1]; exact hop
          · rw [Kg hs]
            have hs':scOp E o.op=false:=by simpa using hs
            by_cases hpc:jbc E o.op=true
            · exact jd8 hpc hop _
            · cases hap:ja3 E (jaU E ti) o.op with
              | some u =>
                have:=jdn (rec:=rec) (mutb:=mutb) hap (SS σ ss (jaH E ops i))
                rw [this] at hop; simp at hop
                rw [← hop.1]; exact jdn hap _
              | none =>
                have h1:=Kz.1 hck i (Jb.2 hin)
                rw [ho,htr] at h1
                simp only [hs',hpc,hwant,hap,Js,Qr,Xo,J0] at h1
                have hml:m<(σ::ss).length:=by simp; omega
                have h2:=Kz.1 h1 m (Jb.2 hml)
                have hal:jeW E ops (jai [] ops.toList) i m=true:=by
                  refine Kz.2 (fun i' hi' => ?_)
                  have hi2:=Jb.1 hi'
                  have ho':ops[i']? = some ops[i']:=by simp [hi2]
                  rw [ho']
                  simp only [Je,J7,K5,Qm]
                  by_cases hs2:scOp E ops[i'].op=true
                  · refine .inr ⟨?_,?_⟩
                    · cases hb:((jai [] ops.toList).getD i 0).testBit i' with
                      | false=>exact .inl rfl
                      | true =>
                        have hne:i' ≠ i:=by
                          intro e; subst e
                          rw [ho] at ho'; cases ho'; exact hs hs2
                        exact .inr (i1 i' _ ho' hs2 (hbefore i' hb hne))
                    · cases hb:((jai [] ops.toList).getD i' 0).testBit i with
                      | false=>exact .inl rfl
                      | true =>
                        refine .inr (i2 i' _ ho' hs2 ?_)
                        cases hl:listed.getD i' false with
                        | false=>rfl
                        | true=>exact (hafter i' hb hl).elim
                  · exact .inl (by simpa using hs2)
                rw [hal] at h2
                simp only [Qr,Js] at h2
                have hss:(σ::ss)[m]? = some (SS σ ss m):=by
                  simp only [SS]; rw [Kw hml]; rfl
                rw [hss] at h2
                simp only at h2
                cases har:ja8 E (jaU E ti) (SS σ ss m) o.op with
                | none=>rw [har] at h2; simp at h2
                | some u =>
                  rw [har] at h2
                  have:=V.beq_eq u v h2
                  subst this
                  exact jhV hap har
        have hwant2:Region.wanted o (yielded ops a.tmps)=true:=by rw [← jcr hx,hwt]; exact hwant
        obtain ⟨Γ1,w1,y,m1,hy,hs1⟩:=je4 hE hrec hrun hw hg hx (b:=b) (rest:=Region.linearise.go .any ops fuel (t / (Region.ready .any ops listed).length) (listed.setIfInBounds i true) []) ho hwant2
        obtain ⟨Γ',w',a',m2,hx',hd,hs2⟩:=ih _ _ _ _ Γ1 w1 (a.put o.dst y) hsz2 hfu2 hshut2 i1' i2' hm2 hτ2 hinv2 m1.rel (hg.mono m1.le) (jdO (hx.mono m1.le) o.dst hy)
        exact ⟨Γ',w',a',m1.trans m2,hx',hd.trans (jbV _ _ _),fun k cs=>(hs1 k cs).trans (hs2 k cs)⟩
      · -- it is passed over
        rw [Kg hwant] at hop
        simp only [Kf,Km] at hop
        obtain ⟨rfl,hσ⟩:=hop
        have hSS:SS σ ss (if scOp E o.op then m+1 else m)=SS σ ss m:=by
          by_cases hs:scOp E o.op=true
          · rw [Kh hs,hm' hs,(hscs hs).1,hσ]
          · rw [Kg hs]
        have hwant2:¬ Region.wanted o (yielded ops a.tmps)=true:=by rw [← jcr hx,hwt]; exact hwant
        obtain ⟨Γ',w',a',m2,hx',hd,hs2⟩:=ih (t / (Region.ready .any ops listed).length) _ _ _ Γ w (a.put o.dst undef) hsz2 hfu2 hshut2 i1' i2' hm2 hτ2 hinv2 (by rw [hSS]; exact hw) hg (jdO hx o.dst (jbU Γ))
        refine ⟨Γ',w',a',m2,hx',hd.trans (jbV _ _ _),fun k cs=>.head (stepR_op_skip (by simp [ho]; simpa using hwant2)) ?_⟩
        rw [ho]; exact hs2 k cs
theorem jlM (hE:E.Ok){rec:Task→Option Res}(hrec:∀ t r,rec t=some r→jcA E t r)(hmix:E.P.follows .mixedOrders=true){mutb:Bool}{id:Nat}{ops:Array Oper}{tmps tf:List V}{σ σf:S}{tr:List (List V × V)}{ss:List S}
  (hp:jcg E ops (jai [] ops.toList)=true) (hdr:dRun E rec mutb ops ops.toList tmps σ=some (tr,ss,tf,σf)) (hck:jeN E ops (jai [] ops.toList) tr (σ::ss)=true) (b:Frame)
  {Γ:Ctx} {w:World} {a:Act} (hw:WRel Γ σ w) (hg:GOK E Γ) (hx:LRel Γ tmps a.tmps) :
  ∃ Γ' w' a',Moved Γ Γ' σf w w'∧LRel Γ' tf a'.tmps∧a'.defers=a.defers ∧
    ∀ k cs,Steps E.P (lone (b.atR a (.code (.region id ops true)::k)) cs w) (lone (b.atR a' k) cs w'):=by
 have hw1:=hw.same (w':={ w with drawn:=w.drawn+1 }) rfl
 have hb1:Below Γ.base w { w with drawn:=w.drawn+1 }:=⟨rfl,rfl,rfl,Ku _,fun _ _=>rfl⟩
 have hspec:=jeu ops.toList hdr
 have h0:∀ j,(Array.replicate ops.size false).getD j false=false:=by
  intro j; by_cases h:j<ops.size <;> simp [h]
 have hc0:∀ n,cntL (Array.replicate ops.size false) n=0:=by
  intro n; induction n with
  | zero=>rfl
  | succ n ih=>simp only [cntL,ih,h0]; rfl
 obtain ⟨Γ',w',a',m,l,d,s⟩:=jpV hE hrec hp hdr hck b ops.size (w.tape w.drawn (.order b.fn id)) (Array.replicate ops.size false) 0 tmps Γ _ a (by simp) (by rw [hc0]; omega)
  (fun j o hj=>by rw [h0] at hj; simp at hj) (fun i o _ _ hl=>by rw [h0] at hl; simp at hl) (fun i o _ _ _=>Jc _) (Jc _) rfl
  (fun x j hj hwr=>by
   rw [← hspec.2.2.1]
   -- no writer of x stands ahead of j
   have hno:∀ i o,i<j→ops[i]? = some o→o.dst ≠ some x:=by
    intro i o hij ho hd
    have:=(hwr i o ho hd).2 hij
    rw [h0] at this; simp at this
   clear hwr
   induction j with
   | zero=>rfl
   | succ j ih =>
    have hlt:j<ops.size:=by omega
    obtain ⟨t,v,h2,h3,_⟩:=hspec.2.2.2.2.2 j ops[j] (by simp [hlt])
    rw [h3,jbW (hno j ops[j] (by omega) (by simp [hlt])),ih (by omega) (fun i o a b=>hno i o (by omega) b)]
    simp [TT,h2]) hw1 hg hx
 refine ⟨Γ',w',a',⟨m.le,m.rel,hb1.trans m.below⟩,l,d,fun k cs=>.head stepR_region_draw ?_⟩
 have hsch:Region.schedule (E.P.follows .mixedOrders) ops (w.tape w.drawn (.order b.fn id))=Region.linearise.go .any ops ops.size (w.tape w.drawn (.order b.fn id)) (Array.replicate ops.size false) []:=by
  simp only [Region.schedule,hmix,X9,Ke,Region.linearise]
 rw [hsch]
 exact s k cs
end
section
variable {E:Env}
theorem jky {ops:Array Oper}{tmps tf:List V}{tr:List (List V × V)}
    (hT0:TT tr tf 0=tmps) (hTn:TT tr tf ops.size=tf)
    (hspec:∀ j o,ops[j]? = some o→∃ t v,tr[j]? = some (t,v)∧TT tr tf (j+1)=putT t o.dst v∧(¬ Region.wanted o (jaq ops t)=true→v=.tup []))
    (hpair:∀ i j oi oj,i<j→ops[i]? = some oi→ops[j]? = some oj→((jai [] ops.toList).getD j 0).testBit i=true∨oi.apart ops oj=true)
    (hacyc:∀ j oj e,ops[j]? = some oj→e∈oj.after→Region.binds .any e=true→e.on<j)
    (Inv:(Nat→Prop)→Ctx→World→Prop)
    (hstep:∀ (D:Nat→Prop) i o t v,ops[i]? = some o→tr[i]? = some (t,v)→¬ D i →
      (∀ i',((jai [] ops.toList).getD i 0).testBit i'=true→i' ≠ i→D i')→(∀ i',((jai [] ops.toList).getD i' 0).testBit i=true→¬ D i') →
      ∀ Γ w,Inv D Γ w→GOK E Γ →
        (Region.wanted o (jaq ops t)=true→∀ (τ:List V) (a:Act) (b:Frame) (rest:List Nat),LRel Γ τ a.tmps→(∀ x∈o.looksAt ops,τ[x]? = t[x]?)→Region.wanted o (yielded ops a.tmps)=true →
          ∃ Γ' w' y,Γ.le Γ'∧Below Γ.base w w'∧Inv (fun j=>D j∨j=i) Γ' w'∧VRel Γ' v y ∧
            ∀ k cs,Steps E.P (lone (b.atR a (.inRegion ops (i::rest)::k)) cs w) (lone (b.atR (a.put o.dst y) (.inRegion ops rest::k)) cs w')) ∧
        (¬ Region.wanted o (jaq ops t)=true→Inv (fun j=>D j∨j=i) Γ w)) (b:Frame) :
    ∀ (fuel t:Nat) (listed:Array Bool) (τ:List V) (Γ:Ctx) (w:World) (a:Act),listed.size=ops.size→cntL listed ops.size+fuel=ops.size →
      (∀ j o,listed.getD j false=true→ops[j]? = some o→∀ e∈o.after,Region.binds .any e=true→listed.getD e.on false=true) →
      τ.length=tmps.length →
      (∀ x j,j≤ops.size→(∀ i o,ops[i]? = some o→o.dst=some x→(listed.getD i false=true↔i<j))→τ[x]? = (TT tr tf j)[x]?) →
      Inv (fun j=>listed.getD j false=true) Γ w→GOK E Γ→LRel Γ τ a.tmps →
      ∃ Γ' w' a',Γ.le Γ'∧Below Γ.base w w'∧Inv (fun j=>j<ops.size) Γ' w'∧LRel Γ' tf a'.tmps∧a'.defers=a.defers ∧
        ∀ k cs,Steps E.P (lone (b.atR a (.inRegion ops (Region.linearise.go .any ops fuel t listed [])::k)) cs w) (lone (b.atR a' k) cs w'):=by
  have hTlen:∀ j,j≤ops.size→(TT tr tf j).length=tmps.length:=by
    intro j
    induction j with
    | zero=>intro _; rw [hT0]
    | succ j ih =>
      intro hj
      have hlt:j<ops.size:=by omega
      obtain ⟨t,v,h1,h2,_⟩:=hspec j ops[j] (by simp [hlt])
      rw [h2,jfp]
      have:=ih (by omega)
      simpa [TT,h1] using this
  have hTsame:∀ x i j,i≤j→j≤ops.size→(∀ i' o',i≤i'→i'<j→ops[i']? = some o'→o'.dst ≠ some x)→(TT tr tf j)[x]? = (TT tr tf i)[x]? := by
    intro x i j hij
    induction j with
    | zero => intro _ _; have:i=0:=by omega
              subst this; rfl
    | succ j ih =>
      intro hj hno
      rcases K1 j i with h1 | h1
      · have:i=j+1:=by omega
        subst this; rfl
      · have hlt:j<ops.size:=by omega
        obtain ⟨t,v,h2,h3,_⟩:=hspec j ops[j] (by simp [hlt])
        rw [h3,jbW (hno j ops[j] h1 (by omega) (by simp [hlt]))]
        have:=ih h1 (by omega) (fun i' o' a b c=>hno i' o' a (by omega) c)
        rw [← this]; simp [TT,h2]
  intro fuel
  have hend:∀ (listed:Array Bool) (τ:List V) (Γ:Ctx) (w:World) (a:Act),listed.size=ops.size→τ.length=tmps.length →
      (∀ x j,j≤ops.size→(∀ i o,ops[i]? = some o→o.dst=some x→(listed.getD i false=true↔i<j))→τ[x]? = (TT tr tf j)[x]?) →
      (∀ i,i<ops.size→listed.getD i false=true)→Inv (fun j=>listed.getD j false=true) Γ w→LRel Γ τ a.tmps →
      ∃ Γ' w' a',Γ.le Γ'∧Below Γ.base w w'∧Inv (fun j=>j<ops.size) Γ' w'∧LRel Γ' tf a'.tmps∧a'.defers=a.defers ∧
        ∀ k cs,Steps E.P (lone (b.atR a (.inRegion ops []::k)) cs w) (lone (b.atR a' k) cs w'):=by
    intro listed τ Γ w a hsz hτ hinv hall hw hx
    have hτf:τ=tf:=by
      apply Xw
      intro x
      rw [hinv x ops.size (Ku _) (fun i o hi _=>⟨fun _=>(Kq.1 hi).1,fun h=>hall i h⟩),hTn]
    subst hτf
    have hD:(fun j=>listed.getD j false=true)=fun j=>j<ops.size:=by
      funext j
      apply propext
      constructor
      · intro h
        rcases K1 j ops.size with h1 | h1
        · exact h1
        · have:listed.getD j false=false:=by simp [Array.getD,show ¬ j<listed.size by omega]
          rw [this] at h; cases h
      · exact hall j
    rw [hD] at hw
    exact ⟨Γ,w,a,Ctx.le.refl _,Below.refl _ _,hw,hx,rfl,fun k cs=>.one stepR_region_end⟩
  induction fuel with
  | zero =>
    intro t listed τ Γ w a hsz hfu hshut hτ hinv hw hg hx
    simp only [Region.linearise.go,Vr]
    exact hend listed τ Γ w a hsz hτ hinv (jhl listed ops.size (by omega)) hw hx
  | succ fuel ih =>
    intro t listed τ Γ w a hsz hfu hshut hτ hinv hw hg hx
    have hgo:Region.linearise.go .any ops (fuel+1) t listed []=(match (Region.ready .any ops listed)[t % (Region.ready .any ops listed).length]? with
      | some i=>Region.linearise.go .any ops fuel (t / (Region.ready .any ops listed).length) (listed.setIfInBounds i true) [i]
      | none=>[].reverse):=rfl
    rw [hgo]
    cases hi:(Region.ready .any ops listed)[t % (Region.ready .any ops listed).length]? with
    | none =>
      have hnil:Region.ready .any ops listed=[]:=by
        cases hl:Region.ready .any ops listed with
        | nil=>rfl
        | cons x l =>
          have hlt:=List.getElem?_eq_none_iff.1 hi
          have:=Vc t (show 0<(Region.ready .any ops listed).length by rw [hl]; simp)
          omega
      simp only [Vr]
      refine hend listed τ Γ w a hsz hτ hinv ?_ hw hx
      intro i
      induction i using Nat.strongRecOn with
      | _ i ihi =>
        intro hin
        cases hb:listed.getD i false with
        | true=>rfl
        | false =>
          exfalso
          have:i∈Region.ready .any ops listed:=by
            rw [mem_ready]
            refine ⟨?_,ops[i],by simp [hin],fun e he hbd => ?_⟩
            · have:i<listed.size:=by omega
              simpa [this] using hb
            · have:=hacyc i ops[i] e (by simp [hin]) he hbd
              exact ihi e.on this (by omega)
          rw [hnil] at this; simp at this
    | some i =>
      simp only
      rw [linearise_go_acc,Vn,X8]
      have hmem:=X0 hi
      rw [mem_ready] at hmem
      obtain ⟨hun,o,ho,hedges⟩:=hmem
      have hin:i<ops.size:=(Kq.1 ho).1
      have hil:i<listed.size:=by omega
      have hun':listed.getD i false=false:=by simpa [hil] using hun
      have hshut':∀ j oj,(listed.getD j false=true∨j=i)→ops[j]? = some oj→∀ e∈oj.after,Region.binds .any e=true→(listed.getD e.on false=true∨e.on=i):=by
        intro j oj hj hoj e he hb
        rcases hj with hj | rfl
        · exact .inl (hshut j oj hj hoj e he hb)
        · rw [ho] at hoj; cases hoj
          exact .inl (hedges e he hb)
      have hbefore:∀ i',((jai [] ops.toList).getD i 0).testBit i'=true→i' ≠ i→listed.getD i' false=true:=by
        intro i' hb hne
        have:=jdm (D:=fun j=>listed.getD j false=true∨j=i) hshut' i i' (.inr rfl) hb
        exact this.resolve_right hne
      have hafter:∀ i',((jai [] ops.toList).getD i' 0).testBit i=true→listed.getD i' false=true→False:=by
        intro i' hb hl
        have:=jdm (D:=fun j=>listed.getD j false=true) hshut i' i hl hb
        rw [hun'] at this; simp at this
      obtain ⟨ti,v,htr,hTi1,hskipv⟩:=hspec i o ho
      have hTi:TT tr tf i=ti:=by simp [TT,htr]
      have hlook:∀ x∈o.looksAt ops,τ[x]? = ti[x]? := by
        intro x hxl
        rw [← hTi]
        refine hinv x i (by omega) (fun i' o' ho' hd'=>⟨fun hl => ?_,fun hlt => ?_⟩)
        · rcases Xl i' i with h1 | h1 | h1
          · exact h1
          · subst h1; rw [hun'] at hl; simp at hl
          · exfalso
            rcases hpair i i' o o' h1 ho ho' with h2 | h2
            · exact hafter i' h2 hl
            · exact (Oper.apart_spec h2).2.2 x hd' hxl
        · rcases hpair i' i o' o hlt ho' ho with h2 | h2
          · exact hbefore i' h2 (by omega)
          · exact absurd hxl ((Oper.apart_spec h2).1 x hd')
      have hwt:Region.wanted o (jaq ops τ)=Region.wanted o (jaq ops ti):=jd9 hlook
      have hsz2:(listed.setIfInBounds i true).size=ops.size:=by simpa using hsz
      have hfu2:cntL (listed.setIfInBounds i true) ops.size+fuel=ops.size:=by
        rw [jhk listed hil hun',Kh hin]; omega
      have hset:∀ j,(listed.setIfInBounds i true).getD j false=true↔(listed.getD j false=true∨j=i):=by
        intro j
        by_cases hji:i=j
        · subst hji; simp [hil]
        · rw [getD_set_ne false hji]
          constructor
          · exact .inl
          · rintro (h | h)
            · exact h
            · exact absurd h.symm hji
      have hD2:(fun j=>(listed.setIfInBounds i true).getD j false=true)=fun j=>(listed.getD j false=true∨j=i):=funext fun j=>propext (hset j)
      have hshut2:∀ j oj,(listed.setIfInBounds i true).getD j false=true→ops[j]? = some oj→∀ e∈oj.after,Region.binds .any e=true→(listed.setIfInBounds i true).getD e.on false=true:=by
        intro j oj hj hoj e he hb
        rw [hset] at hj ⊢
        exact hshut' j oj hj hoj e he hb
      have hτ2:(putT τ o.dst v).length=tmps.length:=by rw [jfp]; exact hτ
      have hinv2:∀ x j,j≤ops.size→(∀ i' o',ops[i']? = some o'→o'.dst=some x→((listed.setIfInBounds i true).getD i' false=true↔i'<j))→(putT τ o.dst v)[x]? = (TT tr tf j)[x]? := by
        intro x j hj hwr
        by_cases hd:o.dst=some x
        · have hij:i<j:=(hwr i o ho hd).1 ((hset i).2 (.inr rfl))
          have hno:∀ i' o',i+1≤i'→i'<j→ops[i']? = some o'→o'.dst ≠ some x:=by
            intro i' o' h1 h2 ho' hd'
            have hl:=(hset i').1 ((hwr i' o' ho' hd').2 h2)
            have hl2:listed.getD i' false=true:=hl.resolve_right (by omega)
            rcases hpair i i' o o' (by omega) ho ho' with h3 | h3
            · exact hafter i' h3 hl2
            · exact (Oper.apart_spec h3).2.1 x hd hd'
          rw [hTsame x (i+1) j hij hj hno,hTi1,hd]
          simp only [putT]
          have hlen:τ.length=ti.length:=by rw [hτ,← hTi,hTlen i (by omega)]
          rw [Q7,Q7,hlen]
          simp
        · rw [jbW hd]
          refine hinv x j hj (fun i' o' ho' hd' => ?_)
          have hne:i' ≠ i:=by
            intro e; subst e; rw [ho] at ho'; cases ho'; exact hd hd'
          rw [← hwr i' o' ho' hd',hset]
          constructor
          · exact .inl
          · rintro (h | h)
            · exact h
            · exact absurd h hne
      have hS:=hstep (fun j=>listed.getD j false=true) i o ti v ho htr (by simp only [hun']; exact Bool.false_ne_true) hbefore (fun i' hb hl=>hafter i' hb hl) Γ w hw hg
      by_cases hwant:Region.wanted o (jaq ops ti)=true
      · have hwant2:Region.wanted o (yielded ops a.tmps)=true:=by rw [← jcr hx,hwt]; exact hwant
        obtain ⟨Γ1,w1,y,hle1,hb1,hI1,hy,hs1⟩:=hS.1 hwant τ a b (Region.linearise.go .any ops fuel (t / (Region.ready .any ops listed).length) (listed.setIfInBounds i true) []) hx hlook hwant2
        rw [← hD2] at hI1
        obtain ⟨Γ',w',a',hle2,hb2,hI2,hx',hd,hs2⟩:=ih _ _ _ Γ1 w1 (a.put o.dst y) hsz2 hfu2 hshut2 hτ2 hinv2 hI1 (hg.mono hle1) (jdO (hx.mono hle1) o.dst hy)
        exact ⟨Γ',w',a',hle1.trans hle2,hb1.trans (hle1.base ▸ hb2),hI2,hx',hd.trans (jbV _ _ _),fun k cs=>(hs1 k cs).trans (hs2 k cs)⟩
      · have hwant2:¬ Region.wanted o (yielded ops a.tmps)=true:=by rw [← jcr hx,hwt]; exact hwant
        have hv:=hskipv hwant
        subst hv
        have hI1:=hS.2 hwant
        rw [← hD2] at hI1
        obtain ⟨Γ',w',a',hle2,hb2,hI2,hx',hd,hs2⟩:=ih (t / (Region.ready .any ops listed).length) _ _ Γ w (a.put o.dst undef) hsz2 hfu2 hshut2 hτ2 hinv2 hI1 hg (jdO hx o.dst (jbU Γ))
        refine ⟨Γ',w',a',hle2,hb2,hI2,hx',hd.trans (jbV _ _ _),fun k cs=>.head (stepR_op_skip (by simp [ho]; simpa using hwant2)) ?_⟩
        rw [ho]; exact hs2 k cs
end
section
variable {E:Env}{N:Nat}{al:List Nat}{D:Nat→Prop}
def Hid (N:Nat)(al:List Nat)(D:Nat→Prop)(b:Nat):Prop:=∃ i,N≤b∧al[b - N]? = some i∧¬ D i
open Classical in
noncomputable def jdE (N:Nat)(al:List Nat)(D:Nat→Prop)(σ:S):S:=⟨σ.heap.mapIdx fun b o=>if Hid N al D b then .resv else o,σ.toks⟩
open Classical in
theorem jdQ (σ:S)(b:Nat):(jdE N al D σ).heap[b]? = (σ.heap[b]?).map fun o=>if Hid N al D b then .resv else o:=by simp [jdE,List.getElem?_mapIdx]
theorem jf9 {σ:S}{b:Nat}(h:¬ Hid N al D b):(jdE N al D σ).heap[b]? = σ.heap[b]? := by
 rw [jdQ]; simp [h]
theorem jhW (σ:S):(jdE N al D σ).heap.length=σ.heap.length:=by simp [jdE]
theorem jtr {mask b off:Nat}(h:jog N al mask (some (.ptr b off))=true)(hD:∀ i,mask.testBit i=true→D i):¬ Hid N al D b:=by
 rintro ⟨i,h1,h2,h3⟩
 simp only [jog,Je,Qm,h2] at h
 rcases h with h | h
 ·omega
 ·exact h3 (hD i h)
theorem S.ext' {σ σ':S}(h1:∀ b:Nat,σ.heap[b]? = σ'.heap[b]?)(h2:σ.toks=σ'.toks):σ=σ':=by
 obtain ⟨a,b⟩:=σ
 obtain ⟨c,d⟩:=σ'
 simp only at h1 h2
 have:a=c:=Xw h1
 rw [this,h2]
theorem jpW {σ:S}{b:Nat}(o:AObj)(h:¬ Hid N al D b):(jdE N al D σ).set b o=jdE N al D (σ.set b o):=by
 refine S.ext' (fun x => ?_) rfl
 rw [jdQ]
 simp only [S.set,Q7,jhW]
 by_cases e:b=x
 ·subst e
  simp only [Ke]
  by_cases hl:b<σ.heap.length
  ·simp [hl,h]
  ·simp [hl]
 ·simp only [e,Kc]
  rw [jdQ]
theorem jnu {σ σ':S}{new:List V}{p:V}(h:jbd σ new p=some σ')(hp:∀ b off,p=.ptr b off→¬ Hid N al D b):jbd (jdE N al D σ) new p=some (jdE N al D σ'):=by
 cases p <;> simp only [jbd,reduceCtorEq] at h ⊢
 rename_i b off
 have hb:=hp b off rfl
 rw [jf9 hb]
 split at h
 ·rename_i cs t hcs
  split at h
  ·rename_i hc
   simp only [Kf] at h
   subst h
   rw [Kh hc,jpW _ hb]
  ·simp at h
 ·simp at h
theorem jnv {σ:S}{n:Nat}{p:V}(hp:∀ b off,p=.ptr b off→¬ Hid N al D b):jag (jdE N al D σ).heap n p=jag σ.heap n p:=by
 cases p <;> simp only [jag]
 rename_i b off
 rw [jf9 (hp b off rfl)]
theorem jhX {mask:Nat}{x:Option V}{p:V}(h:jog N al mask x=true)(hx:x=some p)(hD:∀ i,mask.testBit i=true→D i):∀ b off,p=.ptr b off→¬ Hid N al D b:=by
 rintro b off rfl
 subst hx
 exact jtr h hD
theorem jor {σ:S}{op:Op}{ρ:Operand→Option V}{v:V}{mask:Nat}(h:ja8 E ρ σ op=some v)(hl:jmv op=true)(hp:jeO N al mask ρ op=true)(hD:∀ i,mask.testBit i=true→D i) :
  ja8 E ρ (jdE N al D σ) op=some v:=by
 cases op <;> simp only [jmv,Kj] at hl
 rename_i t x
 simp only [ja8,jeO,Ki] at h hp ⊢
 obtain ⟨p,hx,h⟩:=h
 refine ⟨p,hx,?_⟩
 have hu:=jhX hp hx hD
 rw [← h]
 simp only [jaS,jnv hu]
theorem jpX {rec:Task→Option Res}{mutb:Bool}{τ:List V}{σ σ':S}{op:Op}{v:V}{mask:Nat}(h:opV E rec mutb τ σ op=some (v,σ'))(hs:jaT op=true)(hp:jeO N al mask (jaU E τ) op=true)
  (hD:∀ i,mask.testBit i=true→D i):opV E rec mutb τ (jdE N al D σ) op=some (v,jdE N al D σ'):=by
 cases op <;> simp only [jaT,Kj] at hs
 rename_i t x y
 simp only [opV,ja3,ja8,jbo,jeO,Ki] at h hp ⊢
 obtain ⟨p,hx,u,hy,s,hs,h⟩:=h
 refine ⟨p,hx,u,hy,s,hs,?_⟩
 split at h
 ·rename_i hc
  rw [Kh hc]
  simp only [Kl,Km] at h ⊢
  obtain ⟨σ1,h1,h2,rfl⟩:=h
  exact ⟨_,jnu h1 (jhX hp hx hD),h2,rfl⟩
 ·simp at h
theorem jpY {rec:Task→Option Res}{mutb:Bool}{tmps:List V}{op:Op}{v:V}{σ σ':S}(hs:scOp E op=false)(hp:jbc E op=false)(h:opV E rec mutb tmps σ op=some (v,σ')) :
  (∃ u,ja3 E (jaU E tmps) op=some u)∨jhL op=true:=by
 unfold opV at h
 split at h
 ·rename_i u hu; exact .inl ⟨u,hu⟩
 ·split at h
  ·rename_i hr
   right
   cases op <;> first | rfl | (simp [ja8] at hr; done)
  ·exfalso
   cases op
   case call =>
    rename Call=>c
    obtain ⟨callee,args,ats⟩:=c
    cases callee with
    | invoke r n=>simp [scOp] at hs
    | value g=>cases g <;> simp_all [jbc,scOp]
    | builtin b=>cases b <;> first | (simp [scOp] at hs; done) | (simp [jbo] at h; done) | exact jgD hs h
   all_goals first | (simp [scOp] at hs; done) | (simp [jbo] at h; done) | exact jeE hs hp h | (simp_all [scOp,jbc]; done)
theorem je7 (ops:Array Oper)(j:Nat)(o:Oper)(h:ops[j]? = some o):jbe ops (j+1)=jbe ops j+if jaT o.op then 1 else 0:=by
 unfold jbe
 rw [Vl,Jd,h]
 simp [List.countP_append,Vd]
theorem jg2 (ops:Array Oper)(j:Nat)(h:ops[j]? = none):jbe ops (j+1)=jbe ops j:=by
 have h1:=Xd.1 h
 unfold jbe
 rw [Ql (by simp; omega),Ql (by simpa using h1)]
theorem jkz (ops:Array Oper){i j:Nat}(h:i≤j):jbe ops i≤jbe ops j:=by
  induction j with
  | zero => have:i=0:=by omega
            subst this; exact Ku _
  | succ j ih =>
    rcases K1 i (j+1) with h1 | h1
    · have:=ih (by omega)
      cases ho:ops[j]? with
      | some o=>rw [je7 ops j o ho]; omega
      | none=>rw [jg2 ops j ho]; exact this
    · have:i=j+1:=by omega
      subst this; exact Ku _
theorem jiU (ops:Array Oper){i j:Nat}{o:Oper}(hi:ops[i]? = some o)(hs:jaT o.op=true)(h:i<j):jbe ops i<jbe ops j:=by
 have h1:=je7 ops i o hi
 rw [hs] at h1
 have:=jkz ops (show i+1≤j from h)
 simp at h1; omega
theorem jgF (ops:Array Oper)(m:Nat):∀ j,m<jbe ops j→∃ i o,i<j∧ops[i]? = some o∧jaT o.op=true∧jbe ops i=m
 | 0,h=>by simp [jbe] at h
 | j+1,h=>by
  rcases K1 m (jbe ops j) with h1 | h1
  ·obtain ⟨i,o,a,b,c,d⟩:=jgF ops m j h1
   exact ⟨i,o,by omega,b,c,d⟩
  ·cases ho:ops[j]? with
   | some o =>
    rw [je7 ops j o ho] at h
    by_cases hs:jaT o.op=true
    ·rw [hs] at h; simp at h
     exact ⟨j,o,by omega,ho,hs,by omega⟩
    ·simp [hs] at h; omega
   | none=>rw [jg2 ops j ho] at h; omega
def cntS (l:List Oper)(j:Nat):Nat:=(l.take j).countP fun o=>jaT o.op
def cntA (l:List Oper)(j:Nat):Nat:=(l.take j).countP fun o=>jaA o.op
theorem jdp (o:Oper)(l:List Oper)(j:Nat):cntS (o::l) (j+1)=(if jaT o.op then 1 else 0)+cntS l j:=by
 unfold cntS; rw [Q6,Vd]; omega
theorem jev (o:Oper)(l:List Oper)(j:Nat):cntA (o::l) (j+1)=(if jaA o.op then 1 else 0)+cntA l j:=by
 unfold cntA; rw [Q6,Vd]; omega
theorem jiV:∀ (l:List Oper) (i0 j:Nat) (o:Oper),l[j]? = some o→jaA o.op=true→(jcO i0 l)[cntA l j]? = some (i0+j)
 | [],i0,j,o,h,_=>by simp at h
 | x::l,i0,0,o,h,ha=>by
  simp at h; subst h
  simp [jcO,ha,cntA]
 | x::l,i0,j+1,o,h,ha=>by
  have ih:=jiV l (i0+1) j o (by simpa using h) ha
  rw [jev,jcO]
  by_cases hx:jaA x.op=true
  ·rw [Kh hx,Kh hx,Xq 1,K9,ih]; congr 1; omega
  ·rw [Kg hx,Kg hx,Qx,ih]; congr 1; omega
theorem jfR:∀ (l:List Oper) (i0 q x:Nat),(jcO i0 l)[q]? = some x→∃ j o,x=i0+j∧l[j]? = some o∧jaA o.op=true∧q=cntA l j
 | [],i0,q,x,h=>by simp [jcO] at h
 | y::l,i0,q,x,h=>by
  rw [jcO] at h
  by_cases hy:jaA y.op=true
  ·rw [Kh hy] at h
   cases q with
   | zero=>simp at h; exact ⟨0,y,by omega,rfl,hy,by simp [cntA]⟩
   | succ q =>
    obtain ⟨j,o,h1,h2,h3,h4⟩:=jfR l (i0+1) q x (by simpa using h)
    exact ⟨j+1,o,by omega,by simpa using h2,h3,by rw [jev,Kh hy]; omega⟩
  ·rw [Kg hy] at h
   obtain ⟨j,o,h1,h2,h3,h4⟩:=jfR l (i0+1) q x h
   exact ⟨j+1,o,by omega,by simpa using h2,h3,by rw [jev,Kg hy]; omega⟩
theorem jlN:∀ (l:List Oper) (L:List AObj),preL E l=some L→∀ j o t,l[j]? = some o→o.op=.alloc t→∃ z,jbr E t=some z∧L[cntA l j]? = some (.cells z.cells t)
 | [],L,h,j,o,t,hj,ht=>by simp at hj
 | x::l,L,h,j,o,t,hj,ht=>by
  rw [preL] at h
  by_cases hx:jaA x.op=true
  ·cases hop:x.op <;> simp only [hop,jaA,Kj] at hx
   rename_i tx
   simp only [hop,Ki,Kl] at h
   obtain ⟨z,hz,L',hL,rfl⟩:=h
   cases j with
   | zero =>
    simp at hj; subst hj
    rw [hop] at ht; cases ht
    exact ⟨z,hz,by simp [cntA]⟩
   | succ j =>
    obtain ⟨z',h1,h2⟩:=jlN l L' hL j o t (by simpa using hj) ht
    refine ⟨z',h1,?_⟩
    rw [jev,hop]
    simp only [jaA,Ke,Xq 1,K9]; exact h2
  ·have h':preL E l=some L:=by
    cases hop:x.op <;> simp only [hop] at h <;> first | exact h | (rw [hop] at hx; simp [jaA] at hx)
   cases j with
   | zero=>simp at hj; subst hj; rw [ht] at hx; simp [jaA] at hx
   | succ j =>
    obtain ⟨z',h1,h2⟩:=jlN l L h' j o t (by simpa using hj) ht
    exact ⟨z',h1,by rw [jev,Kg hx,Qx]; exact h2⟩
theorem jjL:∀ (l:List Oper) (L:List AObj) (i0:Nat),preL E l=some L→L.length=(jcO i0 l).length
 | [],L,i0,h=>by simp [preL] at h; subst h; rfl
 | x::l,L,i0,h=>by
  rw [preL] at h
  by_cases hx:jaA x.op=true
  ·cases hop:x.op <;> simp only [hop,jaA,Kj] at hx
   simp only [hop,Ki,Kl] at h
   obtain ⟨z,hz,L',hL,rfl⟩:=h
   rw [jcO,hop]
   simp only [jaA,Ke,K7,jjL l L' (i0+1) hL]
  ·have h':preL E l=some L:=by
    cases hop:x.op <;> simp only [hop] at h <;> first | exact h | (rw [hop] at hx; simp [jaA] at hx)
   rw [jcO,Kg hx]
   exact jjL l L (i0+1) h'
theorem jiW {rec:Task→Option Res}{mutb:Bool}{ops:Array Oper}{masks:List Nat}:∀ (l:List Oper) (j0 r0:Nat) {tmps tf:List V} {σ σf:S} {tr:List (List V × V)} {ss:List S},
    (∀ o∈l,scOp E o.op=true→jaA o.op=true∨jaT o.op=true)→jgy E rec mutb ops masks N al l j0 r0 tmps σ=some (tr,ss,tf,σf) →
    tr.length=l.length∧ss.length=cntS l l.length∧TT tr tf 0=tmps∧TT tr tf l.length=tf∧SS σ ss (cntS l l.length)=σf ∧
    ∀ j o,l[j]? = some o→∃ t v,tr[j]? = some (t,v)∧TT tr tf (j+1)=putT t o.dst v ∧
      ∃ σ1,(if Region.wanted o (jaq ops t) then
          (if jaA o.op then some (.ptr (N+(r0+cntA l j)) 0,SS σ ss (cntS l j))
           else if jeO N al (masks.getD (j0+j) 0) (jaU E t) o.op then opV E rec mutb t (SS σ ss (cntS l j)) o.op else none) else some (.tup [],SS σ ss (cntS l j)))=some (v,σ1) ∧
        (jaT o.op=true→SS σ ss (cntS l j+1)=σ1∧cntS l j<ss.length)
  | [],j0,r0,tmps,tf,σ,σf,tr,ss,hsc,h=>by
    simp [jgy] at h
    obtain ⟨rfl,rfl,rfl,rfl⟩:=h
    exact ⟨rfl,by simp [cntS],rfl,rfl,rfl,fun j o h=>by simp at h⟩
  | o::l,j0,r0,tmps,tf,σ,σf,tr,ss,hsc,h=>by
    simp only [jgy] at h
    split at h
    · rename_i v σ1 hop
      split at h
      · rename_i tr' ss' tf' σf' hrun
        simp only [Kf,Km] at h
        obtain ⟨rfl,rfl,rfl,rfl⟩:=h
        obtain ⟨h1,h2,h3,h4,h5,h6⟩:=jiW l (j0+1) _ (fun x hx=>hsc x (by simp [hx])) hrun
        have hc0:cntS (o::l) 0=0:=by simp [cntS]
        have ha0:cntA (o::l) 0=0:=by simp [cntA]
        have hrk:∀ j,(if jaA o.op=true then r0+1 else r0)+cntA l j=r0+cntA (o::l) (j+1):=by
          intro j; rw [jev]; split <;> omega
        have hjk:∀ j,j0+1+j=j0+(j+1):=by intro j; omega
        by_cases hs:jaT o.op=true
        · have hS:∀ m,SS σ (σ1::ss') (m+1)=SS σ1 ss' m:=by
            intro m
            simp only [SS,K9]
          simp only [hs,Ke]
          refine ⟨by simp [h1],by simp [jdp,hs,h2]; omega,rfl,by simpa [TT] using h4,?_,?_⟩
          · simp only [K7,jdp,hs,Ke]; rw [Xq,hS]; exact h5
          · intro j o' ho'
            cases j with
            | zero =>
              simp at ho'; subst ho'
              refine ⟨tmps,v,rfl,by simpa [TT] using h3,σ1,?_,fun _=>⟨?_,by simp [hc0]⟩⟩
              · rw [hc0,ha0]; exact hop
              · rw [hc0,hS]; rfl
            | succ j =>
              obtain ⟨t,v',a1,a2,σ2,a3,a4⟩:=h6 j o' (by simpa using ho')
              refine ⟨t,v',by simpa using a1,by simpa [TT] using a2,σ2,?_,fun hsc => ?_⟩
              · rw [hrk,hjk] at a3
                rw [jdp,hs,Kh rfl,Xq 1 (cntS l j),hS]; exact a3
              · rw [jdp,hs,Kh rfl,Xq 1,hS]
                have:=a4 hsc
                exact ⟨this.1,by simp; omega⟩
        · simp only [hs,Kc,Kj]
          have hσ:σ1=σ:=by
            split at hop
            · split at hop
              · simp at hop; exact hop.2.symm
              · rename_i hna
                split at hop
                · refine jkw ?_ hop
                  cases hsc':scOp E o.op with
                  | false=>rfl
                  | true =>
                    rcases hsc o (by simp) hsc' with h | h
                    · exact absurd h hna
                    · exact absurd h hs
                · simp at hop
            · simp at hop; exact hop.2.symm
          subst hσ
          refine ⟨by simp [h1],by simp [jdp,hs,h2],rfl,by simpa [TT] using h4,?_,?_⟩
          · simp only [K7,jdp,hs,Kj,Kc,Qx]; exact h5
          · intro j o' ho'
            cases j with
            | zero =>
              simp at ho'; subst ho'
              refine ⟨tmps,v,rfl,by simpa [TT] using h3,σ1,?_,fun h=>absurd h hs⟩
              rw [hc0,ha0]; exact hop
            | succ j =>
              obtain ⟨t,v',a1,a2,σ2,a3,a4⟩:=h6 j o' (by simpa using ho')
              refine ⟨t,v',by simpa using a1,by simpa [TT] using a2,σ2,?_,fun hsc => ?_⟩
              · rw [hrk,hjk] at a3
                rw [jdp,Kg hs,Qx]; exact a3
              · rw [jdp,Kg hs,Qx]; exact a4 hsc
      · simp at h
    · simp at h
theorem WRel.revive {Γ:Ctx}{σ:S}{w:World}(h:WRel Γ σ w){n:Nat}{o:AObj}{ob:Obj}(hn:σ.heap[n]? = some .resv)(ho:ORel Γ o ob) :
  Moved Γ (Γ.push n w.heap.size) (σ.set n o) w { w with heap:=w.heap.push ob }:=by
 have hlt:=(Kr.1 hn).1
 have hbn:Γ.blk n=none:=by
  rcases h.live n _ hn with ⟨_,h1⟩ | ⟨c,ob',_,_,h3,_⟩
  ·exact h1
  ·exact absurd h3 (by cases ob' <;> exact id)
 have hle:Γ.le (Γ.push n w.heap.size):=by
  refine ⟨rfl,fun b c hb => ?_,fun _ _ _ h=>h,fun _ _ _ h=>h,fun _ _ _ h=>.inl h,fun _ _ h=>h⟩
  simp only [Ctx.push]; rw [Kg (by rintro rfl; rw [hbn] at hb; cases hb)]; exact hb
 refine ⟨hle,⟨?_,?_,?_,?_,?_,?_,h.tokdom,h.tokinj,h.sizes_push ob⟩,jgB _ _ _ h.size⟩
 ·have:=h.size; simp [Ctx.push]; omega
 ·intro b i x hx
  have hx':=h.pins b i x hx
  have:=jcJ hx'
  rw [jb0 (w:=w) (by exact jbu w ob b this)]; exact hx'
 ·intro a o' ho'
  simp only [S.set,Q7] at ho'
  split at ho'
  ·rename_i e
   subst e
   cases ho'
   exact .inr ⟨w.heap.size,ob,by simp [Ctx.push],by simp,ho.mono hle,h.size,fun _ i=>h.fresh i⟩
  ·rename_i hne
   rcases h.live a o' ho' with ⟨hrv,hnn⟩ | ⟨c,ob',h1,h2,h3,h4⟩
   ·exact .inl ⟨hrv,by simp only [Ctx.push]; rw [Kg (fun e=>hne e.symm)]; exact hnn⟩
   refine .inr ⟨c,ob',hle.blk _ _ h1,?_,h3.mono hle,h4⟩
   rw [← h2]; exact jbu w ob c (Kq.1 h2).1
 ·intro a c hb
  simp only [Ctx.push] at hb
  simp only [S.set,Vh]
  split at hb
  ·omega
  ·exact h.dom a c hb
 ·intro a a' c h1 h2 d1 d2
  simp only [Ctx.push] at h1 h2
  split at h1 <;> split at h2
  ·omega
  ·simp at h1; subst h1; have:=h.lt h2; omega
  ·simp at h2; subst h2; have:=h.lt h1; omega
  ·rename_i n1 n2
   have key:∀ x,x ≠ n→(∀ p:AObj,(σ.set n o).heap[x]? = some p→p ≠ .dead)→∀ p:AObj,σ.heap[x]? = some p→p ≠ .dead:=by
    intro x hxn hq p hp
    refine hq p ?_
    simp only [S.set,Q7]; rw [Kg (fun e=>hxn e.symm)]; exact hp
   exact h.inj a a' c h1 h2 (key a n1 d1) (key a' n2 d2)
 ·intro k e he
  obtain ⟨b,pos,spare,s,t,xs,h1,h2,h3,h4,h5,h6⟩:=h.toks k e he
  have hlt:=(Kq.1 h2).1
  refine ⟨b,pos,spare,s,t,xs,h1,?_,h3,h4,h5,fun a ha => ?_⟩
  ·rw [← h2]; exact jbu w ob b hlt
  ·simp only [Ctx.push] at ha
   split at ha
   ·simp at ha; omega
   ·exact h6 a ha
theorem WRel.reheap {Γ:Ctx}{σ σ':S}{w:World}(h:WRel Γ σ w)(ht:σ'.toks=σ.toks)(hl:σ.heap.length≤σ'.heap.length)(hb:∀ b,b<σ.heap.length→σ'.heap[b]? = σ.heap[b]?)
  (hr:∀ b o,σ.heap.length≤b→σ'.heap[b]? = some o→o=.resv):WRel Γ σ' w:=by
 refine ⟨h.size,h.pins,fun a o ho => ?_,fun a c hc => ?_,fun a a' c h1 h2 d1 d2 => ?_,?_,?_,?_,h.sizes⟩
 ·rcases K1 a σ.heap.length with h1 | h1
  ·rw [hb a h1] at ho; exact h.live a o ho
  ·refine .inl ⟨hr a o h1 ho,?_⟩
   cases hc:Γ.blk a with
   | none=>rfl
   | some c=>have:=h.dom a c hc; omega
 ·have:=h.dom a c hc; omega
 ·exact h.inj a a' c h1 h2 (fun o ho=>d1 o (by rw [hb a (h.dom a c h1)]; exact ho)) (fun o ho=>d2 o (by rw [hb a' (h.dom a' c h2)]; exact ho))
 ·rw [ht]; exact h.toks
 ·rw [ht]; exact h.tokdom
 ·rw [ht]; exact h.tokinj
end
section
variable {E:Env}
theorem jiX {rec:Task→Option Res}{mutb:Bool}{ops:Array Oper}{N:Nat}:∀ (l:List Oper) (r0:Nat) {tmps tf:List V} {σ σf:S} {tr:List (List V × V)},jfF E rec mutb ops N l r0 tmps σ=some (tr,tf,σf) →
  tr.length=l.length∧TT tr tf 0=tmps∧TT tr tf l.length=tf∧∀ j o,l[j]? = some o→∃ t v,tr[j]? = some (t,v)∧TT tr tf (j+1)=putT t o.dst v∧(¬ Region.wanted o (jaq ops t)=true→v=.tup [])
 | [],r0,tmps,tf,σ,σf,tr,h=>by
  simp [jfF] at h
  obtain ⟨rfl,rfl,rfl⟩:=h
  exact ⟨rfl,rfl,rfl,fun j o h=>by simp at h⟩
 | o::l,r0,tmps,tf,σ,σf,tr,h=>by
  simp only [jfF] at h
  split at h
  ·rename_i v σ1 hop
   split at h
   ·rename_i tr' tf' σf' hrun
    simp only [Kf,Km] at h
    obtain ⟨rfl,rfl,rfl⟩:=h
    obtain ⟨h1,h2,h3,h4⟩:=jiX l _ hrun
    refine ⟨by simp [h1],rfl,by simpa [TT] using h3,fun j o' ho' => ?_⟩
    cases j with
    | zero =>
     simp at ho'; subst ho'
     refine ⟨tmps,v,rfl,by simpa [TT] using h2,fun hnw => ?_⟩
     rw [Kg hnw] at hop
     simp only [Kf,Km] at hop
     exact hop.1.symm
    | succ j =>
     obtain ⟨t,v',a1,a2,a3⟩:=h4 j o' (by simpa using ho')
     exact ⟨t,v',by simpa using a1,by simpa [TT] using a2,a3⟩
   ·simp at h
  ·simp at h
theorem jre {ops:Array Oper}(hac:∀ j oj e,ops[j]? = some oj→e∈oj.after→Region.binds .any e=true→e.on<j){i i':Nat}(hb:((jai [] ops.toList).getD i 0).testBit i'=true):i'<i:=by
 cases ho:ops[i]? with
 | none =>
  exfalso
  have hsz:=Xd.1 ho
  have:(jai [] ops.toList).getD i 0=0:=by
   rw [List.getD,K8]
   ·rfl
   ·have:=jdD ops.toList []
    simp at this; omega
  rw [this] at hb; simp at hb
 | some o =>
  obtain ⟨mm,g1,g2⟩:=jd7 ops.toList [] i o (by simpa using ho)
  simp only [Qg,Qx] at g1 g2
  rw [List.getD,g1] at hb
  simp only [Kv] at hb
  rw [g2] at hb
  obtain ⟨e,he,hbind,hc⟩:=jgC hb
  have hlt:=hac i o e ho he hbind
  rcases hc with hc | hc
  ·omega
  ·have e1:((jai [] ops.toList).take i)[e.on]? = (jai [] ops.toList)[e.on]? := by rw [Q9,Kh hlt]
   have:=jdm (ops:=ops) (D:=fun x=>x≤e.on) (fun j oj hj hoj e' he' hb'=>by have:=hac j oj e' hoj he' hb'; omega) e.on i' (Ku _) (by
    rw [List.getD,e1] at hc
    rw [List.getD]; exact hc)
   omega
theorem jkA (hE:E.Ok){rec:Task→Option Res}(hrec:∀ t r,rec t=some r→jcA E t r)(hmix:E.P.follows .mixedOrders=true){mutb:Bool}{id:Nat}{ops:Array Oper}{tmps tf:List V}{σ σf:S}
    (h:jhM E rec mutb ops tmps σ=some (tf,σf)) (b:Frame) {Γ:Ctx} {w:World} {a:Act} (hw:WRel Γ σ w) (hg:GOK E Γ) (hx:LRel Γ tmps a.tmps) :
    ∃ Γ' w' a',Moved Γ Γ' σf w w'∧LRel Γ' tf a'.tmps∧a'.defers=a.defers ∧
        ∀ k cs,Steps E.P (lone (b.atR a (.code (.region id ops true)::k)) cs w) (lone (b.atR a' k) cs w'):=by
  unfold jhM at h
  split at h
  case isFalse=>simp at h
  rename_i hst
  split at h
  case h_2=>simp at h
  rename_i L hL
  split at h
  case h_2=>simp at h
  rename_i tr tf' σf' hdr
  split at h
  case isFalse=>simp at h
  rename_i hex
  simp only [Kf,Km] at h
  obtain ⟨rfl,rfl⟩:=h
  obtain ⟨St,hS0,hSf,hSt⟩:=hex
  generalize hmk:jai [] ops.toList=masks at *
  have hs:∀ (j:Nat) (oj:Oper),ops[j]? = some oj→(∀ e∈oj.after,Region.binds .any e=true→e.on<j)∧(jaA oj.op=true→oj.guard=none) ∧
      ∀ i oi,i<j→ops[i]? = some oi→(masks.getD j 0).testBit i=true∨oi.apart ops oj=true:=by
    intro j oj hj
    have hjl:=(Kq.1 hj).1
    have h1:=Kz.1 hst j (Jb.2 hjl)
    rw [hj] at h1
    simp only [K5,Je,J7] at h1
    obtain ⟨⟨h2,h3⟩,h6⟩:=h1
    refine ⟨fun e he hb => ?_,fun ha => ?_,fun i oi hij hi => ?_⟩
    · have:=Kz.1 h2 e (by simpa using he)
      simpa [hb] using this
    · rcases h3 with h3 | h3
      · rw [ha] at h3; cases h3
      · simpa using h3
    · have h7:=Kz.1 h6 i (Jb.2 hij)
      rw [hi] at h7
      simpa using h7
  obtain ⟨hl1,hT0,hTn,hspec⟩:=jiX ops.toList 0 hdr
  simp only [Qo] at hl1 hTn
  have hspec':∀ j o,ops[j]? = some o→∃ t v,tr[j]? = some (t,v)∧TT tr tf' (j+1)=putT t o.dst v∧(¬ Region.wanted o (jaq ops t)=true→v=.tup []):=fun j o ho=>hspec j o (by simpa using ho)
  let Inv:(Nat→Prop)→Ctx→World→Prop:=fun D Γ w=>∃ c,c<2 ^ ops.size∧(∀ i,i<ops.size→(c.testBit i=true↔D i))∧WRel Γ (St c) w
  have hw1:=hw.same (w':={ w with drawn:=w.drawn+1 }) rfl
  have hb1:Below Γ.base w { w with drawn:=w.drawn+1 }:=⟨rfl,rfl,rfl,Ku _,fun _ _=>rfl⟩
  have h0:∀ j,(Array.replicate ops.size false).getD j false=false:=by
    intro j; by_cases h:j<ops.size <;> simp [h]
  have hc0:∀ n,cntL (Array.replicate ops.size false) n=0:=by
    intro n; induction n with
    | zero=>rfl
    | succ n ih=>simp only [cntL,ih,h0]; rfl
  have hmain:∃ Γ' w' a',Γ.le Γ'∧Below Γ.base { w with drawn:=w.drawn+1 } w'∧Inv (fun j=>j<ops.size) Γ' w'∧LRel Γ' tf' a'.tmps∧a'.defers=a.defers ∧
      ∀ k cs,Steps E.P (lone (b.atR a (.inRegion ops (Region.linearise.go .any ops ops.size (w.tape w.drawn (.order b.fn id)) (Array.replicate ops.size false) [])::k)) cs { w with drawn:=w.drawn+1 }) (lone (b.atR a' k) cs w'):=by
   refine jky (E:=E) (ops:=ops) (tmps:=tmps) (tf:=tf') (tr:=tr) hT0 hTn hspec'
    (fun i j oi oj hij hi hj=>by rw [hmk]; exact (hs j oj hj).2.2 i oi hij hi)
    (fun j oj e hj he hb=>(hs j oj hj).1 e he hb) Inv ?_ b ops.size (w.tape w.drawn (.order b.fn id)) (Array.replicate ops.size false) tmps Γ _ a (by simp) (by rw [hc0]; omega)
    (fun j o hj=>by rw [h0] at hj; simp at hj) rfl
    (fun x j hj hwr=>by
      rw [← hT0]
      have hno:∀ i o,i<j→ops[i]? = some o→o.dst ≠ some x:=by
        intro i o hij ho hd
        have:=(hwr i o ho hd).2 hij
        rw [h0] at this; simp at this
      clear hwr
      induction j with
      | zero=>rfl
      | succ j ih =>
        have hlt:j<ops.size:=by omega
        obtain ⟨t,v,h2,h3,_⟩:=hspec' j ops[j] (by simp [hlt])
        rw [h3,jbW (hno j ops[j] (by omega) (by simp [hlt])),ih (by omega) (fun i o a b=>hno i o (by omega) b)]
        simp [TT,h2]) ?_ hg hx
   · -- one operation
     intro D i o t v ho htr hnD hbefore hafter Γ w hI hg
     rw [hmk] at hbefore hafter
     obtain ⟨c,hc,hbits,hwc⟩:=hI
     have hin:i<ops.size:=(Kq.1 ho).1
     have hlow:∀ j,c.testBit j=true→j<ops.size:=fun j hj=>Xf fun hge=>by
       have:c.testBit j=false:=Nat.testBit_lt_two_pow (Nat.lt_of_lt_of_le hc (Nat.pow_le_pow_right (by decide) (by omega)))
       rw [this] at hj; cases hj
     have hmlt:∀ j i',(masks.getD j 0).testBit i'=true→j<ops.size:=fun j i' hj=>Xf fun hge=>by
       have:masks.getD j 0=0:=by
         rw [List.getD,K8]
         · rfl
         · rw [← hmk]
           have:=jdD ops.toList []
           simp at this; omega
       rw [this] at hj; simp at hj
     have hmi:∀ i',(masks.getD i 0).testBit i'=true→i'<i:=fun i' hb=>jre (ops:=ops) (fun j oj e hj he hb'=>(hs j oj hj).1 e he hb') (by rw [hmk]; exact hb)
     have hal:jcP masks i c:=by
       refine ⟨?_,fun i' hb hne => ?_,fun i' hb => ?_⟩
       · cases hb:c.testBit i with
         | false=>rfl
         | true=>exact absurd ((hbits i hin).1 hb) hnD
       · have hlt:=hmi i' hb
         exact (hbits i' (by omega)).2 (hbefore i' hb hne)
       · cases hb':c.testBit i' with
         | false=>rfl
         | true=>exact absurd ((hbits i' (hmlt i' i hb)).1 hb') (hafter i' hb)
     have hc2:c ||| 2 ^ i<2 ^ ops.size:=Nat.or_lt_two_pow hc (Nat.pow_lt_pow_right (by decide) hin)
     have hbits2:∀ j,j<ops.size→((c ||| 2 ^ i).testBit j=true↔D j∨j=i):=fun j hj=>by
       rw [Nat.testBit_or,Nat.testBit_two_pow,Je,hbits j hj]
       simp only [Qm]
       constructor
       · rintro (h | h)
         · exact .inl h
         · exact .inr h.symm
       · rintro (h | h)
         · exact .inl h
         · exact .inr h.symm
     have hstep:=hSt i o t v ho htr c hc hal
     by_cases hwt:Region.wanted o (jaq ops t)=true
     · rw [Kh hwt] at hstep
       refine ⟨fun _ τ a b rest hx hlook hwant2 => ?_,fun hnw=>absurd hwt hnw⟩
       by_cases hal':jaA o.op=true
       · obtain ⟨n,ty,z,hty,rfl,hres,hz,hSc⟩:=hstep.1 hal'
         obtain ⟨zv,hzv,hzr⟩:=jdj (Γ:=Γ) (w:=w) hz
         have mv:=hwc.revive (o:=.cells z.cells ty) (ob:=.cells zv.cells ty (0,0)) hres ⟨rfl,rfl,Xc hzr.cells.len,hzr.cells.rel⟩
         rw [← hSc] at mv
         have hgn:=(hs i o ho).2.1 hal'
         refine ⟨_,_,.pointer (some ⟨w.heap.size,0,none⟩),mv.le,mv.below,⟨c ||| 2 ^ i,hc2,hbits2,mv.rel⟩,.ptr _ _ w.heap.size (by simp [Ctx.push]),fun k cs=>.one (jcE ho hwant2 (by intro c hc; rw [hty] at hc; cases hc) (.inl ?_))⟩
         obtain ⟨dst,op,type,pos,after,guard⟩:=o
         simp only at hty
         subst hty
         simp only [execOp,Instr.alloc,Sem.run_bind,hzv,Result.andThen_ok,newVar,newRow,run_newObj,Sem.run_pure]
       · have hop:=hstep.2 (by simpa using hal')
         have hrun:opV E rec mutb τ (St c) o.op=some (v,St (c ||| 2 ^ i)):=by
           rw [jf8 o.op (jdP (E:=E) hlook)]; exact hop
         obtain ⟨Γ1,w1,y,m1,hy,hs1⟩:=je4 hE hrec hrun hwc hg hx (b:=b) (rest:=rest) ho hwant2
         exact ⟨Γ1,w1,y,m1.le,m1.below,⟨c ||| 2 ^ i,hc2,hbits2,m1.rel⟩,hy,hs1⟩
     · rw [Kg hwt] at hstep
       refine ⟨fun h=>absurd h hwt,fun _=>⟨c ||| 2 ^ i,hc2,hbits2,by rw [hstep]; exact hwc⟩⟩
   · -- the start
     refine ⟨0,Nat.two_pow_pos _,fun i _=>by simp [h0],?_⟩
     rw [hS0]
     refine hw1.reheap rfl (by simp) (fun x hx=>by simp [Kn hx]) (fun x o hx ho => ?_)
     simp only [Jp hx] at ho
     exact (List.mem_replicate.1 (X0 ho)).2
  obtain ⟨Γ',w',a',hle,hbel,⟨c,hc,hbits,hw'⟩,hx',hd,hs'⟩:=hmain
  have hall:=hSf c (fun i hi=>(hbits i hi).2 hi) hc
  rw [hall] at hw'
  refine ⟨Γ',w',a',⟨hle,hw',hb1.trans hbel⟩,hx',hd,fun k cs=>.head stepR_region_draw ?_⟩
  have hsch:Region.schedule (E.P.follows .mixedOrders) ops (w.tape w.drawn (.order b.fn id))=Region.linearise.go .any ops ops.size (w.tape w.drawn (.order b.fn id)) (Array.replicate ops.size false) []:=by
    simp only [Region.schedule,hmix,X9,Ke,Region.linearise]
  rw [hsch]
  exact hs' k cs
end
section
variable {E:Env}
theorem jiY {N:Nat}{al:List Nat}{D D':Nat→Prop}{σ:S}{x:Nat}(h:Hid N al D x↔Hid N al D' x):(jdE N al D σ).heap[x]? = (jdE N al D' σ).heap[x]? := by
 rw [jdQ,jdQ]
 by_cases h1:Hid N al D x
 ·have h2:=h.1 h1
  simp [h1,h2]
 ·have h2:¬ Hid N al D' x:=fun q=>h1 (h.2 q)
  simp [h1,h2]
theorem jlO {op:Op}(h:jaA op=true):∃ t,op=.alloc t:=by cases op <;> simp [jaA] at h; exact ⟨_,rfl⟩
theorem jhm {op:Op}(h:jaT op=true):scOp E op=true:=by cases op <;> simp [jaT] at h; rfl
theorem jdR {op:Op}(h:jaA op=true):jaT op=false:=by cases op <;> simp [jaA] at h; rfl
theorem jiF (hE:E.Ok){rec:Task→Option Res}(hrec:∀ t r,rec t=some r→jcA E t r)(hmix:E.P.follows .mixedOrders=true){mutb:Bool}{id:Nat}{ops:Array Oper}{tmps tf:List V}{σ σf:S}
    (h:jdB E rec mutb ops tmps σ=some (tf,σf)) (b:Frame) {Γ:Ctx} {w:World} {a:Act} (hw:WRel Γ σ w) (hg:GOK E Γ) (hx:LRel Γ tmps a.tmps) :
    ∃ Γ' w' a',Moved Γ Γ' σf w w'∧LRel Γ' tf a'.tmps∧a'.defers=a.defers ∧
        ∀ k cs,Steps E.P (lone (b.atR a (.code (.region id ops true)::k)) cs w) (lone (b.atR a' k) cs w'):=by
  unfold jdB at h
  split at h
  case isFalse=>exact jkA hE hrec hmix h b hw hg hx
  rename_i hfl
  split at h
  case h_2=>simp at h
  rename_i L hL
  split at h
  case h_2=>simp at h
  rename_i tr ss tf' σf' hdr
  split at h
  case isFalse=>simp at h
  rename_i hck
  simp only [Kf,Km] at h
  obtain ⟨rfl,rfl⟩:=h
  generalize hmk:jai [] ops.toList=masks at *
  generalize hal:jcO 0 ops.toList=al at *
  generalize hN:σ.heap.length=N at *
  generalize hσ0:(⟨σ.heap++L,σ.toks⟩:S)=σ0 at *
  -- what the static look says
  have hst:∀ (j:Nat) (oj:Oper),ops[j]? = some oj→(∀ e∈oj.after,Region.binds .any e=true→e.on<j)∧(jaA oj.op=true→oj.guard=none)∧(scOp E oj.op=true→jaA oj.op=true∨jaT oj.op=true)∧(jhL oj.op=true→jmv oj.op=true) ∧
      ∀ i oi,i<j→ops[i]? = some oi→(masks.getD j 0).testBit i=true∨(oi.apart ops oj=true∧(scOp E oi.op=true→scOp E oj.op=true→jaA oi.op=true∧jaA oj.op=true)):=by
    intro j oj hj
    have hjl:=(Kq.1 hj).1
    have h1:=Kz.1 hfl j (Jb.2 hjl)
    rw [hj] at h1
    simp only [K5,Je,J7] at h1
    obtain ⟨⟨h2,h3,h4,h5⟩,h6⟩:=h1
    refine ⟨fun e he hb => ?_,fun ha => ?_,fun hs => ?_,fun hr => ?_,fun i oi hij hi => ?_⟩
    · have:=Kz.1 h2 e (by simpa using he)
      simpa [hb] using this
    · rcases h3 with h3 | h3
      · rw [ha] at h3; cases h3
      · simpa using h3
    · rcases h4 with (h4 | h4) | h4
      · rw [hs] at h4; cases h4
      · exact .inl h4
      · exact .inr h4
    · rcases h5 with h5 | h5
      · rw [hr] at h5; cases h5
      · exact h5
    · have h7:=Kz.1 h6 i (Jb.2 hij)
      rw [hi] at h7
      simp only [Je,K5,J7,Vs] at h7
      rcases h7 with h7 | ⟨h7,h8⟩
      · exact .inl h7
      · refine .inr ⟨h7,fun a1 a2 => ?_⟩
        rcases h8 with (h8 | h8) | h8
        · rw [a1] at h8; cases h8
        · rw [a2] at h8; cases h8
        · exact h8
  have hscl:∀ o∈ops.toList,scOp E o.op=true→jaA o.op=true∨jaT o.op=true:=by
    intro o ho
    obtain ⟨j,hj,rfl⟩:=Ju.1 ho
    exact (hst j _ (by simp at hj; simp [hj])).2.2.1
  obtain ⟨hl1,hl2,hT0,hTn,hSf,hspec⟩:=jiW ops.toList 0 0 hscl hdr
  have hcnt:∀ j,cntS ops.toList j=jbe ops j:=fun _=>rfl
  simp only [hcnt,Qo,Qx] at hl1 hl2 hTn hSf hspec
  have hLl:L.length=al.length:=by rw [← hal]; exact jjL _ _ 0 hL
  have hh0:σ0.heap=σ.heap++L:=by rw [← hσ0]
  have ht0:σ0.toks=σ.toks:=by rw [← hσ0]
  -- the rank of an allocation
  have hrank:∀ i o,ops[i]? = some o→jaA o.op=true→al[cntA ops.toList i]? = some i:=by
    intro i o ho ha
    have:=jiV ops.toList 0 i o (by simpa using ho) ha
    rw [hal] at this; simpa using this
  have hrinv:∀ q x,al[q]? = some x→∃ o,ops[x]? = some o∧jaA o.op=true∧q=cntA ops.toList x:=by
    intro q x hq
    rw [← hal] at hq
    obtain ⟨j,o,h1,h2,h3,h4⟩:=jfR ops.toList 0 q x hq
    have:x=j:=by omega
    subst this
    exact ⟨o,by simpa using h2,h3,h4⟩
  let Inv:(Nat→Prop)→Ctx→World→Prop:=fun D Γ w=>∃ m,(∀ i o,ops[i]? = some o→jaT o.op=true→D i→jbe ops i<m)∧(∀ i o,ops[i]? = some o→jaT o.op=true→¬ D i→m≤jbe ops i) ∧
    m≤jbe ops ops.size∧(∀ r i,al[r]? = some i→¬ D i→(SS σ0 ss m).heap[N+r]? = σ0.heap[N+r]?)∧WRel Γ (jdE N al D (SS σ0 ss m)) w
  have hw1:=hw.same (w':={ w with drawn:=w.drawn+1 }) rfl
  have hb1:Below Γ.base w { w with drawn:=w.drawn+1 }:=⟨rfl,rfl,rfl,Ku _,fun _ _=>rfl⟩
  have h0:∀ j,(Array.replicate ops.size false).getD j false=false:=by
    intro j; by_cases h:j<ops.size <;> simp [h]
  have hc0:∀ n,cntL (Array.replicate ops.size false) n=0:=by
    intro n; induction n with
    | zero=>rfl
    | succ n ih=>simp only [cntL,ih,h0]; rfl
  have hmain:∃ Γ' w' a',Γ.le Γ'∧Below Γ.base { w with drawn:=w.drawn+1 } w'∧Inv (fun j=>j<ops.size) Γ' w'∧LRel Γ' tf' a'.tmps∧a'.defers=a.defers ∧
      ∀ k cs,Steps E.P (lone (b.atR a (.inRegion ops (Region.linearise.go .any ops ops.size (w.tape w.drawn (.order b.fn id)) (Array.replicate ops.size false) [])::k)) cs { w with drawn:=w.drawn+1 }) (lone (b.atR a' k) cs w'):=by
   refine jky (E:=E) (ops:=ops) (tmps:=tmps) (tf:=tf') (tr:=tr) hT0 hTn
    (fun j o ho=>by
      obtain ⟨t,v,h1,h2,σ1,h3,h4⟩:=hspec j o (by simpa using ho)
      refine ⟨t,v,h1,h2,fun hnw => ?_⟩
      rw [Kg hnw] at h3
      simp only [Kf,Km] at h3
      exact h3.1.symm)
    (fun i j oi oj hij hi hj=>by
      rw [hmk]
      rcases (hst j oj hj).2.2.2.2 i oi hij hi with h | h
      · exact .inl h
      · exact .inr h.1)
    (fun j oj e hj he hb=>(hst j oj hj).1 e he hb) Inv ?_ b ops.size (w.tape w.drawn (.order b.fn id)) (Array.replicate ops.size false) tmps Γ _ a (by simp) (by rw [hc0]; omega)
    (fun j o hj=>by rw [h0] at hj; simp at hj) rfl
    (fun x j hj hwr=>by
      rw [← hT0]
      have hno:∀ i o,i<j→ops[i]? = some o→o.dst ≠ some x:=by
        intro i o hij ho hd
        have:=(hwr i o ho hd).2 hij
        rw [h0] at this; simp at this
      clear hwr
      induction j with
      | zero=>rfl
      | succ j ih =>
        have hlt:j<ops.size:=by omega
        obtain ⟨t,v,h2,h3,_⟩:=hspec j ops[j] (by simp [hlt])
        rw [h3,jbW (hno j ops[j] (by omega) (by simp [hlt])),ih (by omega) (fun i o a b=>hno i o (by omega) b)]
        simp [TT,h2]) ?_ hg hx
   · -- one operation
     intro D i o t v ho htr hnD hbefore hafter Γ w hI hg
     rw [hmk] at hbefore hafter
     obtain ⟨m,i1,i2,hm,hpri,hwD⟩:=hI
     have hin:i<ops.size:=(Kq.1 ho).1
     obtain ⟨t',v',htr',hTi1,σ1,hop,hscs⟩:=hspec i o (by simpa using ho)
     rw [htr] at htr'
     simp only [Kf,Km] at htr'
     obtain ⟨rfl,rfl⟩:=htr'
     obtain ⟨_,hgd,hsk,hrl,hpr⟩:=hst i o ho
     -- the states in which a store runs
     have hm':jaT o.op=true→m=jbe ops i:=by
       intro hs
       have h1:=i2 i o ho hs hnD
       rcases K1 m (jbe ops i) with h2 | h2
       · exfalso
         obtain ⟨i',o',a1,a2,a3,a4⟩:=jgF ops m _ h2
         rcases hpr i' o' a1 a2 with h3 | ⟨_,h3⟩
         · have:=i1 i' o' a2 a3 (hbefore i' h3 (by omega)); omega
         · have:=h3 (jhm a3) (jhm hs)
           rw [jdR this.1] at a3; cases a3
       · omega
     have i1':∀ i' o',ops[i']? = some o'→jaT o'.op=true→(D i'∨i'=i)→jbe ops i'<(if jaT o.op then m+1 else m):=by
       intro i' o' ho' hs' hl'
       rcases hl' with h1 | h1
       · have:=i1 i' o' ho' hs' h1
         split <;> omega
       · subst h1
         rw [ho] at ho'; cases ho'
         rw [Kh hs',hm' hs']; omega
     have i2':∀ i' o',ops[i']? = some o'→jaT o'.op=true→¬ (D i'∨i'=i)→(if jaT o.op then m+1 else m)≤jbe ops i':=by
       intro i' o' ho' hs' hnot
       have h1:=i2 i' o' ho' hs' (fun q=>hnot (.inl q))
       have hne:i' ≠ i:=fun e=>hnot (.inr e)
       by_cases hs:jaT o.op=true
       · rw [Kh hs]
         have h2:=hm' hs
         rcases K1 i' i with h3 | h3
         · exfalso
           rcases hpr i' o' h3 ho' with h4 | ⟨_,h4⟩
           · exact hnot (.inl (hbefore i' h4 hne))
           · have:=h4 (jhm hs') (jhm hs)
             rw [jdR this.1] at hs'; cases hs'
         · have:=jiU ops ho hs (show i<i' by omega); omega
       · rw [Kg hs]; exact h1
     have hm2:(if jaT o.op then m+1 else m)≤jbe ops ops.size:=by
       by_cases hs:jaT o.op=true
       · rw [Kh hs,hm' hs]
         have:=jiU ops ho hs hin; omega
       · rw [Kg hs]; exact hm
     have hDm:∀ i',(masks.getD i 0).testBit i'=true→D i':=by
       intro i' hb
       by_cases hne:i'=i
       · subst hne
         exfalso
         obtain ⟨mm,g1,g2⟩:=jd7 ops.toList [] i' o (by simpa using ho)
         simp only [Qg,Qx] at g1 g2
         rw [← hmk,List.getD,g1] at hb
         simp only [Kv] at hb
         rw [g2] at hb
         obtain ⟨e,he,hbind,hc⟩:=jgC hb
         have hlt:=(hst i' o ho).1 e he hbind
         rcases hc with hc | hc
         · omega
         · have e1:((jai [] ops.toList).take i')[e.on]? = (jai [] ops.toList)[e.on]? := by rw [Q9,Kh hlt]
           have:=jdm (ops:=ops) (D:=fun x=>x≤e.on) (fun j oj hj hoj e' he' hb'=>by have:=(hst j oj hoj).1 e' he' hb'; omega) e.on i' (Ku _) (by
             rw [List.getD,e1] at hc
             rw [List.getD]; exact hc)
           omega
       · exact hbefore i' hb hne
     by_cases hal':jaA o.op=true
     · -- an allocation
       have hgn:=hgd hal'
       have hwant:∀ y,Region.wanted o y=true:=by intro y; simp [Region.wanted,hgn]
       have hns:jaT o.op=false:=jdR hal'
       obtain ⟨ty,hty⟩:=jlO hal'
       refine ⟨fun _ τ a b rest hx hlook hwant2 => ?_,fun hnw=>absurd (hwant _) hnw⟩
       rw [Kh (hwant _),Kh hal'] at hop
       simp only [Kf,Km] at hop
       obtain ⟨rfl,-⟩:=hop
       obtain ⟨z,hz,hLz⟩:=jlN ops.toList L hL i o ty (by simpa using ho) hty
       have hrk:=hrank i o ho hal'
       generalize hr:cntA ops.toList i=r at *
       have hp0:=hpri r i hrk hnD
       have hσ0r:σ0.heap[N+r]? = some (.cells z.cells ty):=by
         rw [hh0,Jp (by omega),hN]
         rw [show N+r - N=r by omega]; exact hLz
       have hhid:Hid N al D (N+r):=⟨i,by omega,by rw [show N+r - N=r by omega]; exact hrk,hnD⟩
       have hres:(jdE N al D (SS σ0 ss m)).heap[N+r]? = some .resv:=by
         rw [jdQ,hp0,hσ0r]; simp [hhid]
       obtain ⟨zv,hzv,hzr⟩:=jdj (Γ:=Γ) (w:=w) hz
       have mv:=hwD.revive (o:=.cells z.cells ty) (ob:=.cells zv.cells ty (0,0)) hres ⟨rfl,rfl,Xc hzr.cells.len,hzr.cells.rel⟩
       have hnew:(jdE N al D (SS σ0 ss m)).set (N+r) (.cells z.cells ty)=jdE N al (fun j=>D j∨j=i) (SS σ0 ss m):=by
         refine S.ext' (fun x => ?_) rfl
         simp only [S.set,Q7,jhW]
         by_cases e:N+r=x
         · subst e
           have hlt:=(Kr.1 (hp0.trans hσ0r)).1
           rw [Kh rfl,Kh hlt,jf9,hp0,hσ0r]
           rintro ⟨i',g1,g2,g3⟩
           rw [show N+r - N=r by omega,hrk] at g2
           cases g2
           exact g3 (.inr rfl)
         · rw [Kg e]
           refine jiY ?_
           constructor
           · rintro ⟨i',g1,g2,g3⟩
             refine ⟨i',g1,g2,?_⟩
             rintro (q | rfl)
             · exact g3 q
             · obtain ⟨_,_,_,g4⟩:=hrinv _ _ g2
               rw [hr] at g4; omega
           · rintro ⟨i',g1,g2,g3⟩
             exact ⟨i',g1,g2,fun q=>g3 (.inl q)⟩
           
       rw [hnew] at mv
       refine ⟨_,_,.pointer (some ⟨w.heap.size,0,none⟩),mv.le,mv.below,⟨m,?_,?_,hm,fun r' i' g1 g2=>hpri r' i' g1 (fun q=>g2 (.inl q)),mv.rel⟩,.ptr _ _ w.heap.size (by simp [Ctx.push]),fun k cs=>.one (jcE ho hwant2 (by intro c hc; rw [hty] at hc; cases hc) (.inl ?_))⟩
       · have:=i1'; simpa [hns] using this
       · have:=i2'; simpa [hns] using this
       · obtain ⟨dst,op,type,pos,after,guard⟩:=o
         simp only at hty
         subst hty
         simp only [execOp,Instr.alloc,Sem.run_bind,hzv,Result.andThen_ok,newVar,newRow,run_newObj,Sem.run_pure]
     · -- another operation
       have hDeq:jdE N al (fun j=>D j∨j=i)=jdE N al D:=by
         funext s
         refine S.ext' (fun x => ?_) rfl
         refine (jiY ?_).symm
         constructor
         · rintro ⟨i',g1,g2,g3⟩
           refine ⟨i',g1,g2,?_⟩
           rintro (q | rfl)
           · exact g3 q
           · obtain ⟨o',g5,g6,_⟩:=hrinv _ _ g2
             rw [ho] at g5; cases g5
             exact hal' g6
         · rintro ⟨i',g1,g2,g3⟩
           exact ⟨i',g1,g2,fun q=>g3 (.inl q)⟩
         
       have hpri':jaT o.op=false→∀ r i',al[r]? = some i'→¬ (D i'∨i'=i)→(SS σ0 ss m).heap[N+r]? = σ0.heap[N+r]? := fun _ r i' g1 g2=>hpri r i' g1 (fun q=>g2 (.inl q))
       constructor
       · intro hwant τ a b rest hx hlook hwant2
         rw [Kh hwant,Kg hal'] at hop
         split at hop
         case isFalse=>simp at hop
         rename_i haddr
         have hev:=jdP (E:=E) hlook
         have key:∃ s2,opV E rec mutb τ (jdE N al D (SS σ0 ss m)) o.op=some (v,jdE N al D s2)∧s2=SS σ0 ss (if jaT o.op then m+1 else m) ∧
             ∀ r i',al[r]? = some i'→¬ (D i'∨i'=i)→s2.heap[N+r]? = σ0.heap[N+r]? := by
           rw [jf8 o.op hev]
           by_cases hs:jaT o.op=true
           · have hmi:=hm' hs
             rw [← hmi] at hop
             have h1:=jpX hop hs haddr hDm
             refine ⟨σ1,h1,by rw [Kh hs,hmi]; exact (hscs hs).1.symm,fun r i' g1 g2 => ?_⟩
             rw [← hpri r i' g1 (fun q=>g2 (.inl q))]
             -- a store leaves what is not there yet
             cases hop2:o.op <;> simp only [hop2,jaT,Kj] at hs
             rename_i ts xa xb
             rw [hop2] at hop haddr
             simp only [opV,ja3,ja8,jbo,jeO,Ki] at hop haddr
             obtain ⟨p,hp,u,hu,s,hs',hop⟩:=hop
             split at hop
             · simp only [Kl,Km] at hop
               obtain ⟨σ2,q1,q2,rfl⟩:=hop
               have hun:=jhX haddr hp hDm
               cases p <;> simp only [jbd,reduceCtorEq] at q1
               rename_i bb off
               split at q1
               · split at q1
                 · simp only [Kf] at q1
                   subst q1
                   simp only [S.set,Q7]
                   rw [Kg]
                   rintro rfl
                   refine hun _ _ rfl ⟨i',by omega,by rw [show N+r - N=r by omega]; exact g1,fun q=>g2 (.inl q)⟩
                 · simp at q1
               · simp at q1
             · simp at hop
           · have hs':jaT o.op=false:=by simpa using hs
             have hsc':scOp E o.op=false:=by
               cases hq:scOp E o.op with
               | false=>rfl
               | true =>
                 rcases hsk hq with h | h
                 · exact absurd h hal'
                 · exact absurd h hs
             refine ⟨SS σ0 ss m,?_,by rw [Kg hs],hpri' hs'⟩
             by_cases hpc:jbc E o.op=true
             · exact jd8 hpc hop _
             · rcases jpY hsc' (by simpa using hpc) hop with ⟨u,hap⟩ | hrd
               · have:=jdn (rec:=rec) (mutb:=mutb) hap (SS σ0 ss (jbe ops i))
                 rw [this] at hop; simp at hop
                 rw [← hop.1]; exact jdn hap _
               · have hap:ja3 E (jaU E t) o.op=none∨∃ u,ja3 E (jaU E t) o.op=some u:=by
                   cases ja3 E (jaU E t) o.op with
                   | none=>exact .inl rfl
                   | some u=>exact .inr ⟨u,rfl⟩
                 rcases hap with hap | ⟨u,hap⟩
                 case inr =>
                   have:=jdn (rec:=rec) (mutb:=mutb) hap (SS σ0 ss (jbe ops i))
                   rw [this] at hop; simp at hop
                   rw [← hop.1]; exact jdn hap _
                 have h1:=Kz.1 hck i (Jb.2 hin)
                 rw [ho,htr] at h1
                 simp only [hrd,hwant,Qr,Js] at h1
                 have hml:m<(σ0::ss).length:=by simp; omega
                 have h2:=Kz.1 h1 m (Jb.2 hml)
                 have hal2:jmw ops masks i m=true:=by
                   refine Kz.2 (fun i' hi' => ?_)
                   have hi2:=Jb.1 hi'
                   have ho':ops[i']? = some ops[i']:=by simp [hi2]
                   rw [ho']
                   simp only [Je,J7,K5,Qm]
                   by_cases hs2:jaT ops[i'].op=true
                   · refine .inr ⟨?_,?_⟩
                     · cases hb:(masks.getD i 0).testBit i' with
                       | false=>exact .inl rfl
                       | true=>exact .inr (i1 i' _ ho' hs2 (hDm i' hb))
                     · cases hb:(masks.getD i' 0).testBit i with
                       | false=>exact .inl rfl
                       | true=>exact .inr (i2 i' _ ho' hs2 (hafter i' hb))
                   · exact .inl (by simpa using hs2)
                 rw [hal2] at h2
                 simp only [Qr,Js] at h2
                 have hss:(σ0::ss)[m]? = some (SS σ0 ss m):=by
                   simp only [SS]; rw [Kw hml]; rfl
                 rw [hss] at h2
                 simp only at h2
                 cases har:ja8 E (jaU E t) (SS σ0 ss m) o.op with
                 | none=>rw [har] at h2; simp at h2
                 | some u =>
                   rw [har] at h2
                   have:=V.beq_eq u v h2
                   subst this
                   exact jhV hap (jor har (hrl hrd) haddr hDm)
         obtain ⟨s2,hrun,hs2,hpri2⟩:=key
         obtain ⟨Γ1,w1,y,m1,hy,hs1⟩:=je4 hE hrec hrun hwD hg hx (b:=b) (rest:=rest) ho hwant2
         refine ⟨Γ1,w1,y,m1.le,m1.below,⟨(if jaT o.op then m+1 else m),i1',i2',hm2,?_,?_⟩,hy,hs1⟩
         · rw [← hs2]; exact hpri2
         · rw [hDeq,← hs2]; exact m1.rel
       · intro hnw
         rw [Kg hnw] at hop
         simp only [Kf,Km] at hop
         obtain ⟨rfl,hσ⟩:=hop
         have hSS:SS σ0 ss (if jaT o.op then m+1 else m)=SS σ0 ss m:=by
           by_cases hs:jaT o.op=true
           · rw [Kh hs,hm' hs,(hscs hs).1,hσ]
           · rw [Kg hs]
         refine ⟨(if jaT o.op then m+1 else m),i1',i2',hm2,?_,?_⟩
         · rw [hSS]; exact fun r i' g1 g2=>hpri r i' g1 (fun q=>g2 (.inl q))
         · rw [hDeq,hSS]; exact hwD
   · -- the start
     refine ⟨0,Kd (fun i o _ _ hd=>absurd hd (by simp only [h0]; exact Bool.false_ne_true)) (Kd (fun _ _ _ _ _=>Jc _) (Kd (Jc _) (Kd (fun _ _ _ _=>rfl) ?_)))⟩
     have hS0:SS σ0 ss 0=σ0:=rfl
     rw [hS0]
     refine hw1.reheap ht0 ?_ (fun x hx => ?_) (fun x o hx ho => ?_)
     · rw [jhW,hh0]; simp
     · rw [jf9,hh0,Kn hx]
       rintro ⟨i,g1,_⟩; omega
     · rw [jdQ,hh0,Jp hx] at ho
       have hlt:x - σ.heap.length<L.length:=by
         rcases K1 (x - σ.heap.length) L.length with h | h
         · exact h
         · rw [K8 h] at ho; simp at ho
       have hhid:Hid N al (fun j=>(Array.replicate ops.size false).getD j false=true) x:=by
         have hlt2:x - N<al.length:=by omega
         exact ⟨al[x - N],by omega,by simp [hlt2],by simp [h0]⟩
       rw [Kw hlt,Qh,Kh hhid] at ho
       cases ho
       rfl
  obtain ⟨Γ',w',a',hle,hbel,⟨m,i1,i2,hm,_,hw'⟩,hx',hd,hs⟩:=hmain
  have hmn:m=jbe ops ops.size:=by
    rcases K1 m (jbe ops ops.size) with h1 | h1
    · obtain ⟨i,o,a1,a2,a3,a4⟩:=jgF ops m _ h1
      have:=i1 i o a2 a3 a1
      omega
    · omega
  have hun:jdE N al (fun j=>j<ops.size) (SS σ0 ss m)=SS σ0 ss m:=by
    refine S.ext' (fun x=>jf9 ?_) rfl
    rintro ⟨i,g1,g2,g3⟩
    obtain ⟨o,g4,_⟩:=hrinv _ _ g2
    exact g3 (Kq.1 g4).1
  rw [hun,hmn,hSf] at hw'
  refine ⟨Γ',w',a',⟨hle,hw',hb1.trans hbel⟩,hx',hd,fun k cs=>.head stepR_region_draw ?_⟩
  have hsch:Region.schedule (E.P.follows .mixedOrders) ops (w.tape w.drawn (.order b.fn id))=Region.linearise.go .any ops ops.size (w.tape w.drawn (.order b.fn id)) (Array.replicate ops.size false) []:=by
    simp only [Region.schedule,hmix,X9,Ke,Region.linearise]
  rw [hsch]
  exact hs k cs
end
end Go.Ab
