/- Proved here: the law. Conditions: those of each theorem; no statement of the seat is proved in this text. -/
import Derived.Test.YtajaampgajieeaaGreatDoorGnB
import Derived.Test.YtajaampgajieeaaGreatDoorCkD
import Derived.Test.YtajaampgajieeaaGreatDoorRnA
set_option linter.unusedSimpArgs false
namespace Go.Proofs.YtajaampgajieeaaGreatDoor.N
open Go.Ab
set_option maxHeartbeats 4000000
set_option maxRecDepth 100000
set_option linter.unusedSimpArgs false
set_option linter.unusedVariables false
set_option linter.unusedSectionVars false
section
variable {cs:List Col}{ss ss':List Sch}
theorem jhC (h:KitL cs ss)(f:Fits ss ss'){i:Nat}(hi:i<ss.length):jca ss' (ss.getD i Sch.none).name ss'.length 0=i:=by
 have hl:=h.l
 have hle:=f.le
 have hn:=(h.at' i hi).nm
 unfold jca
 rcases jfY (fun k=>decide ((ss'.getD k Sch.none).name=(ss.getD i Sch.none).name)) ss'.length 0 with e | ⟨j,e,_,h2,h3,h4⟩
 ·exfalso
  have:(0:Int)≤jcn (fun k=>decide ((ss'.getD k Sch.none).name=(ss.getD i Sch.none).name)) ss'.length 0:=(jc7 _ _ _).2 ⟨i,by omega,by omega,by simpa using (f.eq i hi).1⟩
  omega
 ·rw [e]
  by_cases h5:i<j
  ·have:=h4 i (by omega) h5
   simp only [decide_eq_false_iff_not] at this
   exact absurd (f.eq i hi).1 this
  ·by_cases h6:j=i
   ·rw [h6]
   ·exfalso
    simp only [Qm] at h3
    rw [(f.eq j (by omega)).1,(h.at' j (by omega)).nm,hn] at h3
    exact jhB i (by omega) j (by omega) h3
theorem jeh (h:KitL cs ss)(f:Fits ss ss'){i:Nat}(hi:i<ss.length):(schN ss' (ss.getD i Sch.none).name).pub=(ss.getD i Sch.none).pub∧(schN ss' (ss.getD i Sch.none).name).cs=(ss.getD i Sch.none).cs:=by
 unfold schN
 rw [jhC h f hi,Kh (by omega),Qf]
 exact ⟨(f.eq i hi).2.1,(f.eq i hi).2.2.2⟩
theorem jlf (h:KitL cs ss){i:Nat}(hi:i<ss.length):∀ m,m≤ss.length→jdb (ss.take m) (ss.getD i Sch.none).name=if i<m then (ss.getD i Sch.none).cs else []
 | 0,_=>by unfold jdb; simp
 | m+1,hm=>by
  have hn:=h.kb.kit i hi
  rw [jgY (by omega) hn.2.2,jlf h hi m (by omega)]
  by_cases h1:m=i
  ·subst h1; rw [Kg (by omega),Kh rfl,Kh (by omega),Q8]
  ·have hl:=h.l
   rw [Kg (c:=(ss.getD m Sch.none).name=_) (fun e => ?_)]
   ·by_cases h2:i<m
    ·rw [Kh h2,Kh (by omega),Jk]
    ·rw [Kg h2,Kg (by omega),Jk]
   ·rw [(h.at' m (by omega)).nm,(h.at' i hi).nm] at e
    rcases Nat.lt_or_gt_of_ne h1 with h2 | h2
    ·exact jhB i (by omega) m h2 e
    ·exact jhB m (by omega) i h2 e.symm
theorem jjs (h:KitL cs ss){i:Nat}(hi:i<ss.length):jdb ss (ss.getD i Sch.none).name=(ss.getD i Sch.none).cs:=by
 have:=jlf h hi ss.length (Ku _)
 rwa [Xe,Kh hi] at this
structure Bs (ss:List Sch) (i:Nat) (Q:Qy):Prop where
 kind:1≤Q.kind∧Q.kind≤10
 z:Q.ex=[]∧Q.lo=0∧Q.hi=0∧Q.p=0∧Q.q=0∧Q.column=[]∧Q.bound=0∧Q.rg=[]∧Q.strat=0∧Q.cons=false
structure Rt (ss:List Sch) (i:Nat) (Q:Qy):Prop where
 table:Q.table=(ss.getD i Sch.none).name
 keep:Q.keep=0∨(ss.getD i Sch.none).pub=false∧1≤Q.keep∧Q.keep≤4
 join:(Q.other=[]∧Q.left=[]∧Q.right=[]∧Q.limit=0)∨∃ j,j<ss.length∧((ss.getD i Sch.none).pub=false∨(ss.getD j Sch.none).pub=true)∧Q.other=(ss.getD j Sch.none).name∧1≤Q.limit∧Q.limit≤3 ∧
  ∃ a b:Nat,a<(ss.getD i Sch.none).cs.length∧b<(ss.getD j Sch.none).cs.length∧((ss.getD i Sch.none).cs.getD a Col.none).name=((ss.getD j Sch.none).cs.getD b Col.none).name∧Q.left=((ss.getD i Sch.none).cs.getD a Col.none).name∧Q.right=((ss.getD j Sch.none).cs.getD b Col.none).name
 wh:Q.wh=[]∨∃ e,WF (jbZ ss Q) e∧e.kind=1∧e.post.length≤bnd 3∧Q.wh=e.post
 factor:Q.factor∈facs
 bits:1≤Q.bits∧Q.bits≤12
theorem jdw.rt {i:Nat}{Q4 Q:Qy}(h:jdw (jbZ ss Q4) Q4 Q)(r:Rt ss i Q4):Rt ss i Q:=by
 obtain ⟨_,_,_,h⟩:=h
 obtain ⟨r1,r2,r3,r4,r5,r6⟩:=r
 rcases h with ⟨_,rfl⟩ | ⟨_,_,_,_,_,_,_,_,_,_,_,_,_,_,rfl⟩ | ⟨_,_,rfl⟩ | ⟨_,_,_,_,rfl⟩ | ⟨_,_,_,_,_,_,_,_,rfl⟩ | ⟨_,rfl⟩ <;> exact ⟨r1,r2,r3,r4,r5,r6⟩
theorem jgs.split {Q:Qy}(h:jgs ss Q):∃ i Q4,i<ss.length∧Bs ss i Q4∧Rt ss i Q4∧jdw (jbZ ss Q4) Q4 Q:=by
 obtain ⟨i,k,bt,f,Q2,Q3,Q4,hi,k1,k2,b1,b2,hf,h2,h3,h4,h5⟩:=h
 have a2:Bs ss i Q2∧Rt ss i Q2∧Q2.wh=[]∧(Q2.other=[]∧Q2.left=[]∧Q2.right=[]∧Q2.limit=0):=by
  rcases h2 with rfl | ⟨hp,kp,p1,p2,rfl⟩
  ·exact ⟨⟨⟨k1,k2⟩,rfl,rfl,rfl,rfl,rfl,rfl,rfl,rfl,rfl,rfl⟩,⟨rfl,.inl rfl,.inl ⟨rfl,rfl,rfl,rfl⟩,.inl rfl,hf,b1,b2⟩,rfl,rfl,rfl,rfl,rfl⟩
  ·exact ⟨⟨⟨k1,k2⟩,rfl,rfl,rfl,rfl,rfl,rfl,rfl,rfl,rfl,rfl⟩,⟨rfl,.inr ⟨hp,p1,p2⟩,.inl ⟨rfl,rfl,rfl,rfl⟩,.inl rfl,hf,b1,b2⟩,rfl,rfl,rfl,rfl,rfl⟩
 obtain ⟨c1,c2,c3,c4⟩:=a2
 have a3:Bs ss i Q3∧Rt ss i Q3∧Q3.wh=[]:=by
  rcases h3 with rfl | ⟨j,hj,hp,rfl | ⟨a,b,l,ha,hb,hab,l1,l2,rfl⟩⟩
  ·exact ⟨c1,c2,c3⟩
  ·exact ⟨c1,c2,c3⟩
  ·exact ⟨⟨c1.kind,c1.z⟩,⟨c2.table,c2.keep,.inr ⟨j,hj,hp,rfl,l1,l2,a,b,ha,hb,hab,rfl,rfl⟩,.inl c3,c2.factor,c2.bits⟩,c3⟩
 obtain ⟨d1,d2,d3⟩:=a3
 rcases h4 with rfl | ⟨e,e1,e2,e3,rfl⟩
 ·exact ⟨i,_,hi,d1,d2,h5⟩
 ·exact ⟨i,{ Q3 with wh:=e.post },hi,⟨d1.kind,d1.z⟩,⟨d2.table,d2.keep,d2.join,.inr ⟨e,e1,e2,e3,rfl⟩,d2.factor,d2.bits⟩,h5⟩
end
section
variable {ss ss':List Sch}{cs:List Col}{i:Nat}{Q0 Q:Qy}
theorem jfC {m:Nat}(hm:m<cs.length)(hf:jda cs m):jdu cs (cs.getD m Col.none).name=m∧colN cs (cs.getD m Col.none).name=cs.getD m Col.none:=by
 have key:jdu cs (cs.getD m Col.none).name=m:=by
  rcases jc9 cs (cs.getD m Col.none).name with e | ⟨j,e,h1,h2,h3⟩
  ·exfalso
   have:(0:Int)≤jdu cs (cs.getD m Col.none).name:=(jc7 _ _ _).2 ⟨m,by omega,by omega,by simp⟩
   omega
  ·rw [e]
   rcases Xl j m with h | h | h
   ·exact absurd h2 (hf j h)
   ·rw [h]
   ·exact absurd rfl (h3 m h)
 refine ⟨key,?_⟩
 unfold colN
 rw [key,Kh (by omega),Qf]
theorem jpM {c:Col}(h:Kit c):jil c≤64:=by
 obtain ⟨j,hj,hn⟩:=h.1
 unfold jil
 rw [Kh ⟨by rw [hn]; exact jms hj,jng h⟩]
 have hb : -3≤c.lo∧c.lo≤c.hi∧c.hi≤20:=by
  rcases h.2.2 with ⟨_,a,b,d⟩ | ⟨k,k1,k2,_,a,b⟩ <;> omega
 rw [wrap_i64 (x:=c.hi - c.lo) (by omega) (by omega),wrap_i64 (by omega) (by omega)]
 omega
theorem jdJ (hk:1≤Q.kind∧Q.kind≤10)(h:¬ (bad1 Q∨bad2 Q∨bad3 Q∨bad4 Q∨bad5 Q∨bad6 Q)):jiM Q=0:=by
 unfold jiM
 rw [Kg (by omega),Kg h]
theorem jiw (hb:Bs ss i Q0)(h:jdw cs Q0 Q):jiM Q=0:=by
 obtain ⟨z1,z2,z3,z4,z5,z6,z7,z8,z9,z10⟩:=hb.z
 have hk:=hb.kind
 obtain ⟨m,_,_,h⟩:=h
 rcases h with ⟨k,rfl⟩ | ⟨k,e,lo,w,p,q,_,_,_,_,_,_,_,hp,rfl⟩ | ⟨k,c,rfl⟩ | ⟨k,bd,_,_,rfl⟩ | ⟨k,rg,st,_,_,_,_,_,rfl⟩ | ⟨k,rfl⟩
 ·refine jdJ hk ?_
  simp [bad1,bad2,bad3,bad4,bad5,bad6,valK,colK,z1,z2,z3,z4,z5,z6,z7,z8,z9,z10,k]
 ·refine jdJ hk ?_
  rcases k with k | k | k
  ·rw [Kg (by omega)] at hp
   simp [bad1,bad2,bad3,bad4,bad5,bad6,valK,colK,z1,z2,z3,z4,z5,z6,z7,z8,z9,z10,k,hp]
  ·rw [Kg (by omega)] at hp
   simp [bad1,bad2,bad3,bad4,bad5,bad6,valK,colK,z1,z2,z3,z4,z5,z6,z7,z8,z9,z10,k,hp]
  ·simp [bad1,bad2,bad3,bad4,bad5,bad6,valK,colK,z1,z2,z3,z4,z5,z6,z7,z8,z9,z10,k]
 ·refine jdJ hk ?_
  simp [bad1,bad2,bad3,bad4,bad5,bad6,valK,colK,z1,z2,z3,z4,z5,z6,z7,z8,z9,z10,k]
 ·refine jdJ hk ?_
  simp [bad1,bad2,bad3,bad4,bad5,bad6,valK,colK,z1,z2,z3,z4,z5,z6,z7,z8,z9,z10,k]
 ·refine jdJ hk ?_
  simp [bad1,bad2,bad3,bad4,bad5,bad6,valK,colK,z1,z2,z3,z4,z5,z6,z7,z8,z9,z10,k]
 ·refine jdJ hk ?_
  rcases k with k | k | k <;> simp [bad1,bad2,bad3,bad4,bad5,bad6,valK,colK,z1,z2,z3,z4,z5,z6,z7,z8,z9,z10,k]
theorem jmu {n:Int}(h : -100≤n∧n≤100):¬ far n:=by unfold far; omega
theorem jni (hb:Bs ss i Q0)(h:jdw cs Q0 Q):limE Q=0:=by
 obtain ⟨z1,z2,z3,z4,z5,z6,z7,z8,z9,z10⟩:=hb.z
 obtain ⟨m,_,_,h⟩:=h
 unfold limE
 rcases h with ⟨k,rfl⟩ | ⟨k,e,lo,w,p,q,_,_,_,l1,l2,w1,w2,hp,rfl⟩ | ⟨k,c,rfl⟩ | ⟨k,bd,b1,b2,rfl⟩ | ⟨k,rg,st,_,_,_,_,_,rfl⟩ | ⟨k,rfl⟩
 ·simp [valK,k]
 ·have f1:=jmu (n:=lo) (by omega)
  have f2:=jmu (n:=lo+w) (by omega)
  have f3:¬ lo+w<lo:=by omega
  have g1:¬ (valK Q0.kind∧(far lo∨far (lo+w)∨lo+w<lo)):=fun y=>y.2.elim f1 fun y=>y.elim f2 f3
  have g2:¬ (Q0.kind=5∧(64≤lo+w - lo∨p<1∨q≤p∨100<q)):=by
   rintro ⟨k5,y⟩
   rw [Kh k5] at hp
   omega
  have g3:¬ (Q0.kind=7∧far Q0.bound):=by
   rintro ⟨y,_⟩; rcases k with k | k | k <;> omega
  show (if valK Q0.kind∧(far lo∨far (lo+w)∨lo+w<lo) then (2:Int) else if Q0.kind=5∧(64≤lo+w - lo∨p<1∨q≤p∨100<q) then 2 else if Q0.kind=7∧far Q0.bound then 2 else 0)=0
  rw [Kg g1,Kg g2,Kg g3]
 ·simp [valK,k]
 ·have f1:=jmu (n:=bd) (by omega)
  simp [valK,k,f1]
 ·simp [valK,k]
 ·rcases k with k | k | k <;> simp [valK,k]
theorem jnj (hb:Bs ss i Q0)(h:jdw cs Q0 Q):expE Q cs=0:=by
 have hb3:bnd 3=94:=by decide
 obtain ⟨m,_,_,h⟩:=h
 unfold expE
 rcases h with ⟨k,rfl⟩ | ⟨k,e,lo,w,p,q,wf,ek,el,l1,l2,w1,w2,hp,rfl⟩ | ⟨k,c,rfl⟩ | ⟨k,bd,b1,b2,rfl⟩ | ⟨k,rg,st,_,_,_,_,_,rfl⟩ | ⟨k,rfl⟩
 ·rw [Kg (by simp [valK,k])]
 ·rw [Kh k]
  show jhe e.post cs false=0
  rw [Ex.whole wf,Kg (by omega),Kh (by simpa using ek)]
 ·rw [Kg (by simp [valK,k])]
 ·rw [Kg (by simp [valK,k])]
 ·rw [Kg (by simp [valK,k])]
 ·rw [Kg (by rcases k with k | k | k <;> simp [valK,k])]
theorem jnk (hk:Kits cs)(hb:Bs ss i Q0)(h:jdw cs Q0 Q):jmf Q cs=0:=by
 obtain ⟨m,hm,hf,h⟩:=h
 obtain ⟨s1,s2⟩:=jfC hm hf
 have hw:=jpM (hk (cs.getD m Col.none) (by simp [List.getD,hm]))
 unfold jmf
 have key:∀ q:Qy,q.column=(cs.getD m Col.none).name→(if ¬ colK q.kind then (0:Int) else if ¬ 0≤jdu cs q.column then 7 else if 64<jil (colN cs q.column) then 2 else 0)=0:=fun q e=>by
  rw [e,s1,s2]
  split
  ·rfl
  ·rw [Kg (by omega),Kg (by omega)]
 rcases h with ⟨k,rfl⟩ | ⟨k,e,lo,w,p,q,wf,ek,el,l1,l2,w1,w2,hp,rfl⟩ | ⟨k,c,rfl⟩ | ⟨k,bd,b1,b2,rfl⟩ | ⟨k,rg,st,_,_,_,_,_,rfl⟩ | ⟨k,rfl⟩
 ·rw [Kh (by simp [colK,k])]
 ·rcases k with k | k | k
  ·rw [Kh (by simp [colK,k])]
  ·exact key _ (by simp only [k,Ke])
  ·rw [Kh (by simp [colK,k])]
 ·exact key _ rfl
 ·exact key _ rfl
 ·exact key _ rfl
 ·exact key _ rfl
theorem jpN (hb:Bs ss i Q0)(h:jdw cs Q0 Q):rgE Q (colN cs Q.column)=0:=by
 obtain ⟨m,hm,hf,h⟩:=h
 obtain ⟨s1,s2⟩:=jfC hm hf
 unfold rgE
 rcases h with ⟨k,rfl⟩ | ⟨k,e,lo,w,p,q,wf,ek,el,l1,l2,w1,w2,hp,rfl⟩ | ⟨k,c,rfl⟩ | ⟨k,bd,b1,b2,rfl⟩ | ⟨k,rg,st,r1,r2,r3,t1,t2,rfl⟩ | ⟨k,rfl⟩
 ·rw [Kh (by simp [k])]
 ·rw [Kh (by rcases k with k | k | k <;> simp [k])]
 ·rw [Kh (by simp [k])]
 ·rw [Kh (by simp [k])]
 ·rw [Kg (by simp [k]),Kg (by simp only; omega),Kg (by simp only; omega),Kg,Kg (by simp only; omega)]
  rintro ⟨r,hr,h⟩
  have:=r3 r hr
  simp only [s2] at h
  omega
 ·rw [Kh (by rcases k with k | k | k <;> simp [k])]
end
theorem jix:∀ {l:List (List UInt8 × Int)},(∀ p∈l,p.2=0)→jb7 l=(0,[])
 | [],_=>rfl
 | (n,e)::l,h=>by
  have h0:e=0:=h (n,e) (by simp)
  simp only [jb7]
  rw [Kh h0]
  exact jix fun p hp=>h p (by simp [hp])
theorem jiy {Q:Qy}{ss:List Sch}{fe:Int}(h0:(allE ss).1=0)(h1:jiM Q=0)(h2:tabE Q ss=0)(h3:jnZ Q (schN ss Q.table)=0)(h4:jj2 Q ss (schN ss Q.table) (schN ss Q.other)=0)(h5:jin Q (jgo Q ss)=0)(h6:expE Q (jgo Q ss)=0)(h7:limE Q=0)(h8:jmf Q (jgo Q ss)=0)(h9:rgE Q (colN (jgo Q ss) Q.column)=0)(h10:fe=0)(h11:bitE Q=0):jgp Q ss fe=(0,[]):=by
 unfold jgp jfk
 refine jix fun p hp => ?_
 simp only [Jf,X2,or_false] at hp
 rcases hp with rfl | rfl | rfl | rfl | rfl | rfl | rfl | rfl | rfl | rfl | rfl | rfl <;> first | assumption | exact Kh h0
section
variable {cs:List Col}{ss ss':List Sch}{i:Nat}{Q0 Q:Qy}
structure Rt2 (ss:List Sch) (i:Nat) (Q:Qy):Prop where
 table:Q.table=(ss.getD i Sch.none).name
 keep:Q.keep=0∨(ss.getD i Sch.none).pub=false∧0≤Q.keep∧Q.keep≤50
 join:(Q.other=[]∧Q.left=[]∧Q.right=[]∧Q.limit=0)∨∃ j,j<ss.length∧((ss.getD i Sch.none).pub=false∨(ss.getD j Sch.none).pub=true)∧Q.other=(ss.getD j Sch.none).name∧1≤Q.limit∧Q.limit≤3 ∧
  ∃ a b:Nat,a<(ss.getD i Sch.none).cs.length∧b<(ss.getD j Sch.none).cs.length∧((ss.getD i Sch.none).cs.getD a Col.none).name=((ss.getD j Sch.none).cs.getD b Col.none).name∧Q.left=((ss.getD i Sch.none).cs.getD a Col.none).name∧Q.right=((ss.getD j Sch.none).cs.getD b Col.none).name
 bits:1≤Q.bits∧Q.bits≤12
theorem Rt.two (r:Rt ss i Q):Rt2 ss i Q:=⟨r.table,r.keep.imp id fun h=>⟨h.1,by omega,by omega⟩,r.join,r.bits⟩
theorem jiz (h:KitL cs ss)(hi:i<ss.length){a:Nat}(ha:a<(ss.getD i Sch.none).cs.length):jda (ss.getD i Sch.none).cs a:=fun k hk=>jq2 (h.at' i hi).sub h.all h.five ha hk
theorem jrV (h:KitL cs ss){j a b:Nat}(hi:i<ss.length)(hj:j<ss.length)(ha:a<(ss.getD i Sch.none).cs.length)(hb:b<(ss.getD j Sch.none).cs.length)(e:((ss.getD i Sch.none).cs.getD a Col.none).name=((ss.getD j Sch.none).cs.getD b Col.none).name):((ss.getD i Sch.none).cs.getD a Col.none).ws=((ss.getD j Sch.none).cs.getD b Col.none).ws:=by
 have key:∀ {k c:Nat},k<ss.length→c<(ss.getD k Sch.none).cs.length→∃ m,m<5∧(ss.getD k Sch.none).cs.getD c Col.none=cpK (cs.getD m Col.none)∧((ss.getD k Sch.none).cs.getD c Col.none).name=ages.getD m []:=by
  intro k c hk hc
  obtain ⟨js,e1,_,e3⟩:=(h.at' k hk).sub
  rw [e1] at hc ⊢
  rw [Jn] at hc
  have hm:=e3 js[c] (Jo hc)
  have e2:(js.map fun j=>cpK (cs.getD j Col.none)).getD c Col.none=cpK (cs.getD js[c] Col.none):=by simp only [List.getD,X7,Kw hc,Qh,Kv]
  refine ⟨js[c],hm,e2,?_⟩
  rw [e2]
  exact (h.all js[c] (by have:=h.five; omega)).1
 obtain ⟨m,m5,x1,x2⟩:=key hi ha
 obtain ⟨n,n5,y1,y2⟩:=key hj hb
 rw [x2,y2] at e
 have:m=n:=by
  rcases Xl m n with h | h | h
  ·exact absurd e (jmt n n5 m h)
  ·exact h
  ·exact absurd e.symm (jmt m m5 n h)
 rw [x1,y1,this]
theorem jlg (h:KitL cs ss)(f:Fits ss ss')(hi:i<ss.length)(r:Rt2 ss i Q):jnZ Q (schN ss' Q.table)=0:=by
 unfold jnZ
 have hp:=(jeh h f hi).1
 rw [r.table,hp]
 rcases r.keep with e | ⟨e1,e2,e3⟩
 ·rw [Kg (by omega),Kg (fun q=>q.1 e)]
 ·rw [Kg (by omega),Kg (fun q=>by rw [e1] at q; cases q.2)]
theorem jlh (h:KitL cs ss)(f:Fits ss ss')(hi:i<ss.length)(r:Rt2 ss i Q):jj2 Q ss' (schN ss' Q.table) (schN ss' Q.other)=0:=by
 unfold jj2
 rcases r.join with ⟨e1,e2,e3,e4⟩ | ⟨j,hj,hp,e1,l1,l2,a,b,ha,hb,hab,el,er⟩
 ·rw [Kh e1,Kg (by rw [e2,e3,e4]; simp)]
 ·have hn:=(h.kb.kit j hj).2.2
  obtain ⟨p1,c1⟩:=jeh h f hi
  obtain ⟨p2,c2⟩:=jeh h f hj
  have s1:=jfC ha (jiz h hi ha)
  have s2:=jfC hb (jiz h hj hb)
  rw [r.table,e1,Kg hn,jhC h f hj,Kg (by omega),p1,p2,Kg,c1,c2,el,er,s1.1,s2.1,Kg (by omega),s1.2,s2.2,Kg (fun q=>q (jrV h hi hj ha hb hab)),Kg (by omega)]
  rintro ⟨x,y⟩
  rw [x,y] at hp
  rcases hp with hp | hp <;> cases hp
theorem jnl (h:KitL cs ss)(f:Fits ss ss')(hi:i<ss.length)(r:Rt2 ss i Q):tabE Q ss'=0:=by
 unfold tabE
 rw [r.table,jhC h f hi,Kh (by omega)]
theorem jnm (r:Rt2 ss i Q):bitE Q=0:=by
 have:=r.bits
 unfold bitE
 rw [Kg (by omega)]
theorem joa (r:Rt ss i Q):jin Q (jbZ ss Q)=0:=by
 have hb3:bnd 3=94:=by decide
 unfold jin
 rcases r.wh with e | ⟨e,wf,ek,el,hw⟩
 ·rw [Kh (by rw [e]; rfl)]
 ·split
  ·rfl
  ·rw [hw,Ex.whole wf,Kg (by omega),Kh (by simpa using ek)]
theorem jnn (h:KitL cs ss)(f:Fits ss ss')(hi:i<ss.length)(r:Rt2 ss i Q):jgo Q ss'=jbZ ss Q:=by
 unfold jgo jbZ
 rw [r.table,(jeh h f hi).2,jjs h hi]
 rcases r.join with ⟨e,_⟩ | ⟨j,hj,_,e,_⟩
 ·rw [e,Kh rfl]; unfold jdb; rw [Kh rfl]
 ·rw [e,Kg (h.kb.kit j hj).2.2,(jeh h f hj).2,jjs h hj]
theorem jjt (h:KitL cs ss)(Q:Qy):Kits (jbZ ss Q):=fun c hc=>(Jv.1 hc).elim (jdI h.kb _ c) (jdI h.kb _ c)
theorem jdw.cols {L:List Col}(h:jdw L Q0 Q):jbZ ss Q=jbZ ss Q0:=by
 obtain ⟨_,_,_,h⟩:=h
 rcases h with ⟨_,rfl⟩ | ⟨_,_,_,_,_,_,_,_,_,_,_,_,_,_,rfl⟩ | ⟨_,_,rfl⟩ | ⟨_,_,_,_,rfl⟩ | ⟨_,_,_,_,_,_,_,_,rfl⟩ | ⟨_,rfl⟩ <;> rfl
theorem jli (h:KitL cs ss)(f:Fits ss ss')(ha:(allE ss').1=0)(g:jgs ss Q):jgp Q ss' 0=(0,[]):=by
 obtain ⟨i,Q4,hi,hb,r4,hk⟩:=g.split
 have r:=jdw.rt hk r4
 have ec:=jnn h f hi r.two
 have e4:jbZ ss Q=jbZ ss Q4:=jdw.cols hk
 refine jiy ha (jiw hb hk) (jnl h f hi r.two) (jlg h f hi r.two) (jlh h f hi r.two) ?_ ?_ (jni hb hk) ?_ ?_ rfl (jnm r.two)
 ·rw [ec]; exact joa r
 ·rw [ec,e4]; exact jnj hb hk
 ·rw [ec,e4]; exact jnk (jjt h Q4) hb hk
 ·rw [ec,e4]; exact jpN hb hk
theorem job (h:KitL cs ss)(f:Fits ss ss')(ha:(allE ss').1=0)(g:jgs ss Q){kp:Int}(hkp:kp=Q.keep∨(schN ss' Q.table).pub=false∧0≤kp∧kp≤50):jgp { Q with keep:=kp,wh:=[] } ss' 0=(0,[]):=by
 obtain ⟨i,Q4,hi,hb,r4,hk⟩:=g.split
 have r:=jdw.rt hk r4
 have r2:Rt2 ss i { Q with keep:=kp,wh:=[] }:=by
  refine ⟨r.table,?_,r.join,r.bits⟩
  rcases hkp with rfl | ⟨e1,e2⟩
  ·exact r.two.keep
  ·rw [r.table,(jeh h f hi).1] at e1
   exact .inr ⟨e1,e2⟩
 have ec:=jnn h f hi r2
 have e4:jbZ ss { Q with keep:=kp,wh:=[] }=jbZ ss Q4:=show jbZ ss Q=_ from jdw.cols hk
 refine jiy ha (show jiM Q=0 from jiw hb hk) (jnl h f hi r2) (jlg h f hi r2) (jlh h f hi r2) ?_ ?_ (show limE Q=0 from jni hb hk) ?_ ?_ rfl (jnm r2)
 ·unfold jin; exact Kh rfl
 ·rw [ec,e4]; exact (show expE Q _=0 from jnj hb hk)
 ·rw [ec,e4]; exact (show jmf Q _=0 from jnk (jjt h Q4) hb hk)
 ·rw [ec,e4]; exact (show rgE Q (colN _ Q.column)=0 from jpN hb hk)
theorem jqE (h:KitL cs ss)(f:Fits ss ss')(he:ss'.length=ss.length):¬ 0≤jca ss' zooN ss'.length 0:=by
 intro q
 obtain ⟨j,_,h2,h3⟩:=(jc7 _ _ _).1 q
 have hl:=h.l
 simp only [Qm] at h3
 rw [(f.eq j (by omega)).1,(h.at' j (by omega)).nm] at h3
 exact jq3 j (by omega) h3
theorem jqF (h:KitL cs ss)(f:Fits ss ss')(he:ss'.length=ss.length)(ha:(allE ss').1=0)(g:jgs ss Q)(kp:Int)(w:List Nd){fe:Int}:jgp { Q with keep:=kp,wh:=w,table:=zooN } ss' fe=(7,[116,97,98,108,101]):=by
 obtain ⟨i,Q4,hi,hb,r4,hk⟩:=g.split
 have k0:jiM { Q with keep:=kp,wh:=w,table:=zooN }=0:=show jiM Q=0 from jiw hb hk
 have t7:tabE { Q with keep:=kp,wh:=w,table:=zooN } ss'=7:=Kg (jqE h f he)
 unfold jgp jfk
 simp only [jb7]
 rw [Kh ha,Kh rfl,Kh k0,t7,Kg (by decide)]
end
def WV (v:V)(n:Nat)(cs:List V):Prop:=(v=.nilsl∧n=0∧cs=[])∨∃ q,v=.row cs n q
theorem WV.of {base w n:Nat}{ts:List Nat}{v:V}{cs:List V}(g:GrowV base ts w v n cs):WV v n cs:=by
 cases g with
 | nil=>exact .inl ⟨rfl,rfl,rfl⟩
 | full _ _ _=>exact .inr ⟨_,rfl⟩
 | tok _ _ _ _ _ _ _=>exact .inr ⟨_,rfl⟩
theorem WV.weak {v:V}{n:Nat}{cs:List V}(h:WV v n cs)(hw:V.weak.weakL cs=cs):WV v.weak n cs:=by
 rcases h with ⟨rfl,a,b⟩ | ⟨q,rfl⟩
 ·exact .inl ⟨rfl,a,b⟩
 ·exact .inr ⟨q.weak,by simp only [V.weak,hw]⟩
theorem WV.closed {v:V}{n:Nat}{cs:List V}(h:WV v n cs)(hw:V.weak.weakL cs=cs)(hc:V.closed.closedL cs=true):v.weak.closed=true:=by
 rcases h with ⟨rfl,a,b⟩ | ⟨q,rfl⟩
 ·rfl
 ·cases q <;> simp [V.weak,V.closed,hw,hc,RCap.weak]
theorem WV.nv {v:V}{l:List Nd}(h:WV v l.length (jbY l))(hl:l.length≤400):K.NV v l:=by
 rcases h with ⟨rfl,a,b⟩ | ⟨q,rfl⟩
 ·obtain rfl:l=[]:=List.length_eq_zero_iff.1 a
  exact ⟨⟨fun _=>.inl ⟨rfl,rfl⟩,.inl ⟨rfl,rfl⟩⟩,rfl,⟨rfl,rfl⟩,hl⟩
 ·refine ⟨?_,rfl,⟨rfl,rfl⟩,hl⟩
  cases q with
  | full=>exact ⟨fun _=>.inr (.inr rfl),.inr (.inr (by simp only [V.weak,jbh,RCap.weak]))⟩
  | unk=>exact ⟨fun _=>.inr (.inl rfl),.inr (.inl (by simp only [V.weak,jbh,RCap.weak]))⟩
  | tok k e w=>exact ⟨fun h=>by simp [V.closed] at h,.inr (.inl (by simp only [V.weak,jbh,RCap.weak]))⟩
theorem jfD (r:Int × Int)(l:List (Int × Int)):jeA (r::l)=.int .i64 r.1::.int .i64 r.2::jeA l:=rfl
theorem jgZ:∀ l,V.weak.weakL (jeA l)=jeA l
 | []=>rfl
 | r::l=>by rw [jfD]; simp only [V.weak.weakL,V.weak,jgZ l]
theorem jha:∀ l,V.closed.closedL (jeA l)=true
 | []=>rfl
 | r::l=>by rw [jfD]; simp only [V.closed.closedL,V.closed,jha l,K6]
theorem jfl:∀ l,V.closed.closedL (jbY l)=true
 | []=>rfl
 | x::l=>by rw [jbD]; simp only [V.closed.closedL,V.closed,jfl l,K6]
theorem jju:∀ (l:List (Int × Int)) (i:Nat),(jeA l).drop (i * 2)=jeA (l.drop i)
 | l,0=>by simp
 | [],i+1=>by simp [jeA]
 | r::l,i+1=>by
  rw [jfD,show (i+1) * 2=i * 2+1+1 by omega,K2,K2,jju l i,K2]
theorem WV.rg {v:V}{l:List (Int × Int)}(h:WV v l.length (jeA l))(hl:l.length≤400):K.RgV v l:=by
 rcases h with ⟨rfl,a,b⟩ | ⟨q,rfl⟩
 ·obtain rfl:l=[]:=List.length_eq_zero_iff.1 a
  exact ⟨rfl,fun i hi=>by simp at hi,⟨rfl,rfl⟩,hl⟩
 ·refine ⟨rfl,fun i hi => ?_,⟨rfl,rfl⟩,hl⟩
  refine ⟨jeA (l.drop (i+1)),?_⟩
  rw [Ys,Kh (by omega),Qf,jju,Qu hi,jfD]
  have:l.getD i (0,0)=l[i]:=by simp [List.getD,hi]
  rw [this]
structure WQ (Q:Qy) (ev wv rv:V):Prop where
 e:WV ev Q.ex.length (jbY Q.ex)
 w:WV wv Q.wh.length (jbY Q.wh)
 r:WV rv Q.rg.length (jeA Q.rg)
 l:Q.ex.length≤400∧Q.wh.length≤400∧Q.rg.length≤400
 fl:Q.factor.length<2 ^ 40
theorem WQ.qv {Q:Qy}{ev wv rv:V}(h:WQ Q ev wv rv)(hc:ev.closed=true∧wv.closed=true∧rv.closed=true):K.QV Q ev wv rv:=⟨h.e.nv h.l.1,h.w.nv h.l.2.1,h.r.rg h.l.2.2,hc,h.fl⟩
theorem WQ.weak {Q:Qy}{ev wv rv:V}(h:WQ Q ev wv rv):K.QV Q ev.weak wv.weak rv.weak :=
 ⟨(h.e.weak (jbh _)).nv h.l.1,(h.w.weak (jbh _)).nv h.l.2.1,(h.r.weak (jgZ _)).rg h.l.2.2,⟨h.e.closed (jbh _) (jfl _),h.w.closed (jbh _) (jfl _),h.r.closed (jgZ _) (jha _)⟩,h.fl⟩
structure LS (ss:List Sch):Prop where
 l:ss.length≤1000
 at':∀ s∈ss,(∃ q,s.cv=.row (jaL s.cs) s.cs.length q)∧OkC s.cs∧s.cs.length≤200∧jm7 s
def jj6 (s:Sch):Sch:=⟨s.name,s.pub,s.many,s.cv.weak,s.cs⟩
theorem jiA:∀ ss:List Sch,V.weak.weakL (jbB ss)=jbB (ss.map jj6)
 | []=>rfl
 | s::ss=>by rw [jb9,Qz,jb9]; simp only [V.weak.weakL,V.weak,jiA ss,jj6]
theorem jrW {cs:List Col}{q:RCap}(h:(V.row (jaL cs) cs.length q).closed=true):IsC (.row (jaL cs) cs.length q) cs:=by
 cases q with
 | full=>exact .inr ⟨.full,.inr rfl,rfl⟩
 | unk=>exact .inr ⟨.unk,.inl rfl,rfl⟩
 | tok k e w=>simp [V.closed] at h
theorem jqG {cs:List Col}(ok:OkC cs)(q:RCap):IsC (V.row (jaL cs) cs.length q).weak cs:=(RC.row ok q).2
theorem jlj:∀ {ss:List Sch},V.closed.closedL (jbB ss)=true→∀ s∈ss,s.cv.closed=true
 | [],_,_,hs=>by cases hs
 | s::ss,h,t,ht=>by
  rw [jb9] at h
  simp only [V.closed.closedL,V.closed,Jz,K5] at h
  rcases Jf.1 ht with rfl | ht
  ·exact h.1
  ·exact jlj h.2 t ht
theorem LS.mem {ss:List Sch}{i:Nat}(hi:i<ss.length):ss.getD i Sch.none∈ss:=by simp [List.getD,hi]
theorem LS.sb {ss:List Sch}(h:LS ss){q:RCap}(hc:(V.row (jbB ss) ss.length q).closed=true):K.SB (.row (jbB ss) ss.length q) ss:=by
 have hq:(q=.unk∨q=.full)∧V.closed.closedL (jbB ss)=true:=by
  cases q with
  | full=>exact ⟨.inr rfl,by simpa [V.closed] using hc⟩
  | unk=>exact ⟨.inl rfl,by simpa [V.closed] using hc⟩
  | tok k e w=>simp [V.closed] at hc
 refine ⟨⟨.inr ⟨q,hq.1,rfl⟩,fun s hs => ?_,h.l,fun i hi=>(h.at' _ (LS.mem hi)).2.2.2⟩,fun i hi=>(h.at' _ (LS.mem hi)).2.2.1⟩
 obtain ⟨⟨q',e⟩,ok,_⟩:=h.at' s hs
 have:=jlj hq.2 s hs
 rw [e] at this
 exact ⟨e ▸ jrW this,ok⟩
theorem LS.weak {ss:List Sch}(h:LS ss)(q:RCap):K.SB (V.row (jbB ss) ss.length q).weak (ss.map jj6):=by
 have e:(V.row (jbB ss) ss.length q).weak=.row (jbB (ss.map jj6)) (ss.map jj6).length q.weak:=by simp only [V.weak,jiA,Jn]
 rw [e]
 have at2:∀ s∈ss.map jj6,IsC s.cv s.cs∧OkC s.cs∧s.cs.length≤200∧jm7 s:=fun s hs=>by
  obtain ⟨t,ht,rfl⟩:=Xr.1 hs
  obtain ⟨⟨q',e⟩,ok,l,sh⟩:=h.at' t ht
  exact ⟨by show IsC t.cv.weak t.cs; rw [e]; exact jqG ok q',ok,l,sh⟩
 refine ⟨⟨.inr ⟨q.weak,by cases q <;> simp [RCap.weak],rfl⟩,fun s hs=>⟨(at2 s hs).1,(at2 s hs).2.1⟩,by rw [Jn]; exact h.l,fun i hi=>(at2 _ (LS.mem hi)).2.2.2⟩,fun i hi=>(at2 _ (LS.mem hi)).2.2.1⟩
theorem jiB (ss:List Sch):Fits ss ss:=⟨Ku _,fun _ _=>⟨rfl,rfl,rfl,rfl⟩⟩
theorem jlk (ss:List Sch):Fits ss (ss.map jj6):=by
 refine ⟨by simp,fun i hi => ?_⟩
 have e:(ss.map jj6).getD i Sch.none=jj6 (ss.getD i Sch.none):=by simp only [List.getD,X7,Kw hi,Qh,Kv]
 rw [e]
 exact ⟨rfl,rfl,rfl,rfl⟩
theorem hk17:env.hook 17=some (jeT K.env 17):=rfl
theorem hk19:env.hook 19=some (jeT K.env 19):=rfl
section
variable {Q:Qy}{ev wv rv:V}{ss:List Sch}{q:RCap}{fe:Int}
theorem jno (h:WQ Q ev wv rv):(V.agg (Q.cells ev wv rv)).weak=.agg (Q.cells ev.weak wv.weak rv.weak):=rfl
theorem jjv:(V.agg (Q.cells ev wv rv)).closed=true→ev.closed=true∧wv.closed=true∧rv.closed=true:=fun h=>by
 simp only [Qy.cells,V.closed,V.closed.closedL,Jz,Qj,K5] at h
 exact ⟨h.1,h.2.2,h.2.1⟩
theorem jj7 (hQ:WQ Q ev wv rv)(hS:LS ss)(hf:K.Fac Q.factor fe){r:Int × List UInt8}(hr:∀ ss',Fits ss ss'→ss'.length=ss.length→jgp Q ss' fe=r)(σ:S):jah env (Go.Ab.ev env) 17 [.agg (Q.cells ev wv rv),.row (jbB ss) ss.length q] σ=some (.tup [.int .i64 r.1,.str r.2],σ):=by
 refine jq0 hk17 (jme rfl rfl (fun h => ?_) ?_ ?_) _ σ
 ·simp only [K3,Qn,Qj,K5] at h
  have:=hr ss (jiB ss) rfl
  subst this
  exact fun σ=>K.check_call (hS.sb h.2) (hQ.qv (jjv h.1)) hf σ
 ·have h1:=hQ.weak.closed
  have h2:=hS.weak q
  have h3:=jfy h2.v h2.ok
  simp only [Qz,Xk,K3,Qn,jno hQ,h1,h3,K6]
 ·have:=hr _ (jlk ss) (by simp)
  subst this
  exact fun σ=>K.check_call (hS.weak q) hQ.weak hf σ
theorem jll (hQ:WQ Q ev wv rv)(hS:LS ss){r:Bool}(hr:∀ ss',Fits ss ss'→ss'.length=ss.length→K.privX Q ss'=r)(σ:S):jah env (Go.Ab.ev env) 19 [.agg (Q.cells ev wv rv),.row (jbB ss) ss.length q] σ=some (.bool r,σ):=by
 refine jq0 hk19 (jme rfl rfl (fun h => ?_) ?_ ?_) _ σ
 ·simp only [K3,Qn,Qj,K5] at h
  have:=hr ss (jiB ss) rfl
  subst this
  exact fun σ=>K.private_call (hS.sb h.2) (hQ.qv (jjv h.1)) σ
 ·have h1:=hQ.weak.closed
  have h2:=hS.weak q
  have h3:=jfy h2.v h2.ok
  simp only [Qz,Xk,K3,Qn,jno hQ,h1,h3,K6]
 ·have:=hr _ (jlk ss) (by simp)
  subst this
  exact fun σ=>K.private_call (hS.weak q) hQ.weak σ
end
theorem at3:env.P.funcs[3]? = some Tryz.f3:=by kernel_rfl
theorem jrX {f:List UInt8}(h:f∈facs):K.Fac f 0∧f.length≤7:=by
 simp only [facs,Jf,X2,or_false] at h
 rcases h with rfl | rfl | rfl | rfl | rfl
 ·exact ⟨⟨0,1,-1,0,0,K.call_F rfl F.ck_0 _,fun _=>⟨K.call_F rfl F.lo_0 _,K.call_F rfl F.hi_0 _⟩,by decide⟩,by decide⟩
 ·exact ⟨⟨0,1,-1,0,0,K.call_F rfl F.ck_1 _,fun _=>⟨K.call_F rfl F.lo_1 _,K.call_F rfl F.hi_1 _⟩,by decide⟩,by decide⟩
 ·exact ⟨⟨0,1,-1,0,0,K.call_F rfl F.ck_2 _,fun _=>⟨K.call_F rfl F.lo_2 _,K.call_F rfl F.hi_2 _⟩,by decide⟩,by decide⟩
 ·exact ⟨⟨0,1,-1,0,0,K.call_F rfl F.ck_3 _,fun _=>⟨K.call_F rfl F.lo_3 _,K.call_F rfl F.hi_3 _⟩,by decide⟩,by decide⟩
 ·exact ⟨⟨0,1,-1,0,0,K.call_F rfl F.ck_4 _,fun _=>⟨K.call_F rfl F.lo_4 _,K.call_F rfl F.hi_4 _⟩,by decide⟩,by decide⟩
theorem jrY (σ:S):jah env (ev env) 14 [] σ=some (.bool true,σ):=rfl
section
variable {cs:List Col}{ss ss':List Sch}{Q:Qy}
theorem jqH (g:jgs ss Q):Q.ex.length≤400∧Q.wh.length≤400∧Q.rg.length≤400∧Q.factor∈facs:=by
 have hb3:bnd 3=94:=by decide
 obtain ⟨i,Q4,hi,hb,r4,hk⟩:=g.split
 have r:=jdw.rt hk r4
 obtain ⟨z1,z2,z3,z4,z5,z6,z7,z8,z9,z10⟩:=hb.z
 have hw:Q.wh.length≤400:=by
  rcases r.wh with e | ⟨e,_,_,el,hw⟩
  ·rw [e]; simp
  ·rw [hw]; omega
 obtain ⟨m,_,_,h⟩:=hk
 refine ⟨?_,hw,?_,r.factor⟩
 ·rcases h with ⟨k,rfl⟩ | ⟨k,e,lo,w,p,q,wf,ek,el,l1,l2,w1,w2,hp,rfl⟩ | ⟨k,c,rfl⟩ | ⟨k,bd,b1,b2,rfl⟩ | ⟨k,rg,st,r1,r2,r3,t1,t2,rfl⟩ | ⟨k,rfl⟩
  ·simp [z1]
  ·show e.post.length≤400; omega
  ·simp [z1]
  ·simp [z1]
  ·simp [z1]
  ·simp [z1]
 ·rcases h with ⟨k,rfl⟩ | ⟨k,e,lo,w,p,q,wf,ek,el,l1,l2,w1,w2,hp,rfl⟩ | ⟨k,c,rfl⟩ | ⟨k,bd,b1,b2,rfl⟩ | ⟨k,rg,st,r1,r2,r3,t1,t2,rfl⟩ | ⟨k,rfl⟩
  ·simp [z8]
  ·simp [z8]
  ·simp [z8]
  ·simp [z8]
  ·show rg.length≤400; omega
  ·simp [z8]
theorem jjw (g:jgs ss Q):∃ i,i<ss.length∧Q.table=(ss.getD i Sch.none).name:=by
 obtain ⟨i,Q4,hi,hb,r4,hk⟩:=g.split
 exact ⟨i,hi,(jdw.rt hk r4).table⟩
theorem jnp (h:KitL cs ss)(f:Fits ss ss')(g:jgs ss Q):(schN ss' Q.table).pub=(schN ss Q.table).pub:=by
 obtain ⟨i,hi,e⟩:=jjw g
 rw [e,(jeh h f hi).1,(jeh h (jiB ss) hi).1]
theorem jpO (h:KitL cs ss)(f:Fits ss ss')(ha:(allE ss').1=0)(g:jgs ss Q):K.privX Q ss' = !(schN ss Q.table).pub:=by
 have hp:=jnp h f g
 obtain ⟨i,hi,e⟩:=jjw g
 unfold K.privX
 rw [hp]
 have:(0:Int)≤jca ss' Q.table ss'.length 0:=by rw [e,jhC h f hi]; omega
 cases (schN ss Q.table).pub <;> simp [ha,this]
def zooS:Sch:=⟨zooN,true,0,.row [.str [120],.int .i64 0,.int .i64 0,.nilsl] 1 .full,[⟨[120],0,0,.nilsl,[]⟩]⟩
theorem jj8 {z:Sch}(f:Fits (ss++[z]) ss'):Fits ss ss':=by
 refine ⟨by have:=f.le; rw [Kk] at this; omega,fun i hi => ?_⟩
 have:=f.eq i (by rw [Kk]; omega)
 rwa [show (ss++[z]).getD i Sch.none=ss.getD i Sch.none by simp [List.getD,Kn hi]] at this
theorem jqI (f:Fits (ss++[zooS]) ss'):Zoo (ss'.getD ss.length Sch.none):=by
 obtain ⟨a,b,c,d⟩:=f.eq ss.length (by simp)
 rw [show (ss++[zooS]).getD ss.length Sch.none=zooS by simp [List.getD]] at a b c d
 exact ⟨a,b,c,.nilsl,.inl ⟨rfl,rfl⟩,d⟩
theorem jpP {c:Col}(h:Kit c):jfW c:=by
 obtain ⟨⟨j,hj,hn⟩,_,h⟩:=h
 have hnm:=jms hj
 refine ⟨by rw [hn]; have:=hnm.2.1; omega,?_,?_⟩
 ·rcases h with ⟨e,_⟩ | ⟨k,_,_,e,_⟩
  ·rw [e]; simp
  ·rw [e,Qi]; omega
 ·intro i hi
  rcases h with ⟨e,_⟩ | ⟨k,k1,k5,e,_⟩
  ·rw [e] at hi; simp at hi
  ·have hr:reds.length=5:=rfl
   rw [e,Qi] at hi
   have:c.ws.getD i []=reds.getD i []:=by rw [e]; simp [List.getD,Q9,show i<k by omega]
   rw [this]
   have:=(jpH (j:=i) (by omega)).2.1
   omega
theorem jq6 (h:KitL cs ss):LS ss:=by
 have hl:=h.l
 refine ⟨by omega,fun s hs => ?_⟩
 obtain ⟨i,hi,e⟩:=Xb hs
 have e2:ss.getD i Sch.none=s:=by simp [List.getD,hi,e]
 have k:=h.at' i hi
 rw [e2] at k
 have hk:=k.sub.kits h.all h.five
 have hle:=k.le
 refine ⟨k.row,hk.ok,by omega,?_,by omega,fun j hj=>jpP (hk _ (by simp [List.getD,hj]))⟩
 rw [k.nm]
 have:=(jpI (j:=i) (by omega)).2.1
 omega
theorem jtp (h:KitL cs ss):LS (ss++[zooS]):=by
 have hl:=h.l
 refine ⟨by simp; omega,fun s hs => ?_⟩
 rcases Jv.1 hs with hs | hs
 ·exact (jq6 h).at' s hs
 ·rw [J4.1 hs]
  refine ⟨⟨.full,rfl⟩,fun c hc => ?_,by decide,by decide,by decide,fun j hj => ?_⟩
  ·rw [J4.1 hc]; exact .inl ⟨rfl,rfl⟩
  ·obtain rfl:j=0:=by simp [zooS] at hj; omega
   exact ⟨by decide,by decide,fun i hi=>by simp [zooS] at hi⟩
end
theorem bd41:jcd env 41 [(0,.str [120])]=some (.agg [.str [120],.int .i64 0,.int .i64 0,.nilsl]):=by kernel_rfl
theorem jvl:jcd env 38 [(0,.str [122,111,111]),(1,.bool true),(3,.row [.str [120],.int .i64 0,.int .i64 0,.nilsl] 1 .full)]=some (.agg [.str [122,111,111],.bool true,.int .i64 0,.row [.str [120],.int .i64 0,.int .i64 0,.nilsl] 1 .full]):=by kernel_rfl
theorem jtq:rowO env 36 1 [(0,.agg [.str [120],.int .i64 0,.int .i64 0,.nilsl])]=some (.row [.str [120],.int .i64 0,.int .i64 0,.nilsl] 1 .full):=by kernel_rfl
theorem GSc.zoo {base:Nat}{hp:List AObj}{ts:List Nat}{v:V}{ss:List Sch}(g:GSc base ts v ss)(hb:base≤ts.length)(hl:ss.length≤100):∃ v' ts',appO env false ⟨hp,ts⟩ 24 24 v (.row [.str [122,111,111],.bool true,.int .i64 0,.row [.str [120],.int .i64 0,.int .i64 0,.nilsl] 1 .full] 1 .full)=some (v',⟨hp,ts'⟩)∧GSc base ts' v' (ss++[zooS])∧Ext base ts ts':=by
 have hlim:lim=2 ^ 40:=rfl
 obtain ⟨v',ts',h1,h2,h3⟩:=GrowV.push (E:=env) (hp:=hp) (q:=.full) (new:=[.str [122,111,111],.bool true,.int .i64 0,.row [.str [120],.int .i64 0,.int .i64 0,.nilsl] 1 .full]) eS ⟨38,eS.slice⟩ g hb rfl (by rfl) ⟨by rw [hlim]; omega,by rw [hlim]; omega⟩
 refine ⟨v',ts',h1,?_,h3⟩
 have e:jbB (ss++[zooS])=jbB ss++[.str [122,111,111],.bool true,.int .i64 0,.row [.str [120],.int .i64 0,.int .i64 0,.nilsl] 1 .full]:=by
  unfold jbB; rw [Xu,List.flatten_append]; rfl
 unfold GSc
 rw [Kk,e]; exact h2
theorem joc {xv yv:V}{xs ys:List Int}{n:Int}(hn:In64 n)(Kx:Tk xv xs)(Ky:Tk yv ys):Go.Ab.Found env 3 [xv,yv,.int .i64 n]:=by
 refine jl1 at3 rfl (by simp [Tryz.f3]) (by simp [Tryz.f3]) (jaj ?_)
 obtain ⟨v,L1,ts1,cs,ss,q,hS,rfl,hk,_,_⟩:=jle Kx [] []
 have hl3:=hk.l
 obtain ⟨v,σ',hQ,Q,ev,wv,rv,M,ts2,rfl,rfl,g,ge,gw,gr,xE,hML,hMk⟩:=jn9 (q:=q) Ky hk.kb L1 ts1
 have hlen:=jqH g
 obtain ⟨fa,fl⟩:=jrX hlen.2.2.2
 have wq:WQ Q ev wv rv:=⟨.of ge,.of gw,.of gr,⟨hlen.1,hlen.2.1,hlen.2.2.1⟩,by omega⟩
 have wq2:∀ kp,WQ { Q with keep:=kp,wh:=[] } ev .nilsl rv:=fun kp=>⟨.of ge,.inl ⟨rfl,rfl,rfl⟩,.of gr,⟨hlen.1,by simp,hlen.2.2.1⟩,by show Q.factor.length<_; omega⟩
 have wq3:∀ kp,WQ { Q with keep:=kp,wh:=[],table:=zooN } ev .nilsl rv:=fun kp=>⟨.of ge,.inl ⟨rfl,rfl,rfl⟩,.of gr,⟨hlen.1,by simp,hlen.2.2.1⟩,by show Q.factor.length<_; omega⟩
 have ls:=jq6 hk
 have lz:=jtp hk
 have all0:∀ ss',Fits ss ss'→ss'.length=ss.length→(allE ss').1=0:=fun ss' f e=>jpL hk f (.inl e)
 have allz:∀ ss',Fits (ss++[zooS]) ss'→ss'.length=(ss++[zooS]).length→(allE ss').1=0:=fun ss' f e=>jpL hk (jj8 f) (.inr ⟨by rw [e]; simp,jqI f⟩)
 have c1:=jj7 (q:=q) wq ls fa (r:=(0,[])) fun ss' f e=>jli hk f (all0 ss' f e) g
 obtain ⟨vo,ts3,hO,gO,xO⟩:=jpG (ss:=ss) (q:=q) (fun s hs=>by obtain ⟨⟨q',e⟩,_⟩:=ls.at' s hs; rw [e]; rfl) (by omega) (M++[K.qc30 Q ev wv rv]) ts2
 obtain ⟨vz,ts4,hA,gz,xz⟩:=GSc.zoo (hp:=M++[K.qc30 Q ev wv rv]) gO xO.1 (by omega)
 obtain ⟨qz,rfl⟩:∃ qz,vz=.row (jbB (ss++[zooS])) (ss++[zooS]).length qz:=GrowV.isrow gz (by simp)
 have c2:=jj7 (q:=qz) wq lz fa (r:=(0,[])) fun ss' f e=>jli hk (jj8 f) (allz ss' f e) g
 have p1:=jll (q:=q) wq ls fun ss' f e=>jpO hk f (all0 ss' f e) g
 have p2:=jll (q:=qz) wq lz fun ss' f e=>jpO hk (jj8 f) (allz ss' f e) g
 have hpk:=jgm n 51 hn (by simp [In64]) (by decide)
 have m0:=Int.emod_nonneg n (show (51:Int) ≠ 0 by decide)
 have m1:=Int.emod_lt_of_pos n (show (0:Int)<51 by decide)
 have c3:=fun (kp:Int) (hkp:kp=Q.keep∨(schN ss Q.table).pub=false∧0≤kp∧kp≤50)=>jj7 (q:=q) (wq2 kp) ls fa (r:=(0,[])) fun ss' f e=>job hk f (all0 ss' f e) g (hkp.imp id fun y=>⟨(jnp hk f g).trans y.1,y.2⟩)
 have c4:=fun kp=>jj7 (q:=q) (wq3 kp) ls fa (r:=(7,[116,97,98,108,101])) fun ss' f e=>jqF hk f e (all0 ss' f e) g kp []
 have x1:=wq.e.nv hlen.1 |>.cell.2
 have x2:=wq.w.nv hlen.2.1 |>.cell.2
 have x3:=wq.r.rg hlen.2.2.1 |>.cell.2
 have ld:∀ a0 a1 a2 a3 a4 a5 a6 a7 a8 a9 a10 a11 a12 a13 a14 a15 a16 a17 a18 a19:V,jag (M++[.cells [a0,a1,a2,a3,a4,a5,a6,a7,a8,a9,a10,a11,a12,a13,a14,a15,a16,a17,a18,a19] 30]) 20 (.ptr M.length 0)=some [a0,a1,a2,a3,a4,a5,a6,a7,a8,a9,a10,a11,a12,a13,a14,a15,a16,a17,a18,a19]:=fun a0 a1 a2 a3 a4 a5 a6 a7 a8 a9 a10 a11 a12 a13 a14 a15 a16 a17 a18 a19=>by simp [jag]
 simp only [zooN] at c4
 unfold Qy.cells at c1 c2 p1 p2 c3 c4 hQ
 have hkn:=jrY
 have cst:∀ s,(V.str s).cells=[.str s]:=fun _=>rfl
 have z30:=zq
 have b1:=bd41
 have b2:=jvl
 have b3:=jtq
 have b4:=jqw
 cases hp:(schN ss Q.table).pub
 ·rw [hp] at p1 p2
  have c3:=c3 (n % 51) (.inr ⟨hp,m0,by omega⟩)
  simp -implicitDefEqProofs only [Tryz.f3,Ka,Nat.reduceLT,Nat.reduceEqDiff,Ke,Kc,reduceIte,Ys,Y0,Int.reduceEq,Int.reduceLT,Int.reduceLE,Int.reduceNeg,mb,Nat.reduceBEq,tys,stb,Vq,Va,jaa,Nat.reduceAdd,Nat.reduceLeDiff,jay,hkn,hS,hQ,al1,uq,fo30,z30,YW,cst,YH,jaf,jap,jad,jae,jam,x1,x2,x3,ld,c1,jas,jax,hO,b1,b2,b3,b4,jan,hA,c2,p1,p2,hpk,c3,c4,Ji,Qr]
  exact ⟨by kernel_rfl,rfl,rfl⟩
 ·rw [hp] at p1 p2
  have c3:=c3 Q.keep (.inl rfl)
  simp -implicitDefEqProofs only [Tryz.f3,Ka,Nat.reduceLT,Nat.reduceEqDiff,Ke,Kc,reduceIte,Ys,Y0,Int.reduceEq,Int.reduceLT,Int.reduceLE,Int.reduceNeg,mb,Nat.reduceBEq,tys,stb,Vq,Va,jaa,Nat.reduceAdd,Nat.reduceLeDiff,jay,hkn,hS,hQ,al1,uq,fo30,z30,YW,cst,YH,jaf,jap,jad,jae,jam,x1,x2,x3,ld,c1,jas,jax,hO,b1,b2,b3,b4,jan,hA,c2,p1,p2,hpk,c3,c4,Ji,Qr]
  exact ⟨by kernel_rfl,rfl,rfl⟩
end Go.Proofs.YtajaampgajieeaaGreatDoor.N
namespace Go.Proofs.YtajaampgajieeaaGreatDoor
open Go.Ab
set_option maxHeartbeats 4000000
set_option maxRecDepth 100000
set_option linter.unusedVariables false
set_option linter.unusedSectionVars false
theorem jvm {f:Nat}(h:memN f [14]=true):f=14:=by
 unfold memN at h
 split at h
 ·exact Xs ‹_›
 ·simp [memN] at h
theorem K.env_ok_of (hR:∀ f,memN f K.rowsL=true→jbI envR f [] (.bool true)):K.env.Ok :=
  { mixed:=by kernel_rfl
    glc:=jm3
    hook := fun f g h=>by
      simp only [K.env,K.hookK] at h
      split at h
      · rename_i hf
        simp only [Kf] at h
        subst h
        intro args v hv
        unfold K.hookT at hv
        split at hv
        · simp only [Kf] at hv
          subst hv
          exact hR f hf
        · simp at hv
      · split at h
        · simp only [Kf] at h
          subst h
          intro args v hv Γ σ w xs hw hg hx
          exact jhs YtajaampgajieeaaGreatDoor.env_ok hv hw hg hx
        · split at h
          · simp only [Kf] at h
            subst h
            intro args v hv Γ σ w xs hw hg hx
            exact jhs F.env_ok hv hw hg hx
          · simp at h }
theorem N.env_ok_of (hR:∀ f,memN f K.rowsL=true→jbI envR f [] (.bool true)):N.env.Ok :=
  { mixed:=by kernel_rfl
    glc:=jm3
    hook := fun f g h=>by
      simp only [N.env,N.hookN] at h
      split at h
      · rename_i hf
        simp only [Kf] at h
        subst h
        intro args v hv
        unfold K.hookT at hv
        split at hv
        · simp only [Kf] at hv
          subst hv
          exact hR f hf
        · simp at hv
      · split at h
        · simp only [Kf] at h
          subst h
          intro args v hv Γ σ w xs hw hg hx
          exact jhs YtajaampgajieeaaGreatDoor.env_ok hv hw hg hx
        · split at h
          · simp only [Kf] at h
            subst h
            intro args v hv Γ σ w xs hw hg hx
            exact jhs (K.env_ok_of hR) hv hw hg hx
          · simp at h }
namespace N
theorem env_gl {W:World}{l:List (String × DataW Unit)}(h:laidMetH Tryz.prog l W)(hp:(l.all fun x=>x.2.handleName?.isNone)=true)(m0:("privhouse/schema.reserved",Rows.laid_privhouse_schema_reserved)∈l)
  (m1:("internal/strconv.uint64pow10",Rows.laid_internal_strconv_uint64pow10)∈l):GOK env (Ctx.top W):=YtajaampgajieeaaGreatDoor.env_gl h hp m0 m1
theorem u22i:env.P.underlying 22=some (.slice 3):=by kernel_rfl
theorem u3i:env.P.underlying 3=some (.int .i64):=by kernel_rfl
theorem jq7:∀ xs:List Int,(xs.map fun x=>[V.int .i64 x]).flatten=xs.map (V.int .i64)
 | []=>rfl
 | x::xs=>by simp only [Qz,X5,jq7 xs]; rfl
theorem jq8 {v:V}{k:Nat}(h:Tyd env.P (k+2) 22 [v]):∃ xs,Tk v xs:=by
 rcases joC h u22i with h | ⟨vss,h,hl,_,ht⟩
 ·simp only [J8,and_true] at h
  exact ⟨[],.inl ⟨h,rfl⟩,fun x hx=>by simp at hx,by simp⟩
 ·simp only [J8,and_true] at h
  obtain ⟨xs,rfl⟩:=joD (f:=fun x:{x:Int // In64 x}=>[V.int .i64 x.1]) (fun x hx=>by
   obtain ⟨n,rfl,h1,h2⟩:=joB hx u3i; exact ⟨⟨n,h1,h2⟩,rfl⟩) ht
  have e:(xs.map fun x=>[V.int .i64 x.1])=((xs.map (·.1)).map fun x=>[V.int .i64 x]):=by simp
  have hm:=jpf
  refine ⟨xs.map (·.1),.inr (.inl ?_),fun x hx => ?_,by simp only [Jn] at hl ⊢; omega⟩
  ·rw [h,e,jq7]; simp
  ·obtain ⟨y,_,rfl⟩:=Xr.1 hx; exact y.2
theorem more_foundt {u v w:V}(h:Tyd Tryz.prog 6 22 [u])(h2:Tyd Tryz.prog 6 22 [v])(h3:Tyd Tryz.prog 6 3 [w]):Go.Ab.Found env 3 [u,v,w]:=by
 obtain ⟨xs,hx⟩:=jq8 (k:=4) h
 obtain ⟨ys,hy⟩:=jq8 (k:=4) h2
 obtain ⟨n,hn,n1,n2⟩:=joB h3 u3i
 simp only [J8,and_true] at hn
 subst hn
 exact joc ⟨n1,n2⟩ hx hy
end N
end Go.Proofs.YtajaampgajieeaaGreatDoor
namespace Go.Proofs.YtajaampgajieeaaGreatDoor.N
theorem env_ok:env.Ok:=env_ok_of fun f h=>by
 have:=jvm h
 subst this
 exact r14.known_row
end Go.Proofs.YtajaampgajieeaaGreatDoor.N
