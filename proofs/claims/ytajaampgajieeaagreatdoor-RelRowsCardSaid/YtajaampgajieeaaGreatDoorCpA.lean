/- Proved here: what is drawn is in order; views of it. Conditions: those of each theorem; no statement of the seat is proved in this text. -/
import Derived.Test.YtajaampgajieeaaGreatDoorBsA
import Derived.Test.YtajaampgajieeaaGreatDoorRnA
import Derived.Test.YtajaampgajieeaaGreatDoorVxA
set_option linter.unusedSimpArgs false
set_option maxHeartbeats 16000000
set_option maxRecDepth 1000000
set_option linter.unusedVariables false
set_option linter.unusedSectionVars false
namespace Go.Proofs.YtajaampgajieeaaGreatDoor.N
open Go.Ab
section
variable {cs:List Col}{ss ss':List Sch}
theorem jkF(h:KitL cs ss)(f:Fits ss ss'){i:Nat}(hi:i<ss.length):jbf ss' (ss.getD i Sch.none).name ss'.length 0=i:=by
 have hl:=h.l;have hle:=f.le;have hn:=(h.at' i hi).nm;unfold jbf
 rcases jeO (λk=>decide ((ss'.getD k Sch.none).name=(ss.getD i Sch.none).name)) ss'.length 0 with e|⟨j,e,_,h2,h3,h4⟩
 ·exfalso
  have:(0:Int)<=jbH (λk=>decide ((ss'.getD k Sch.none).name=(ss.getD i Sch.none).name)) ss'.length 0:=(jda _ _ _).2 ⟨i,by omega,by omega,by simpa using(f.eq i hi).1⟩;omega
 ·rw[e];by_cases h5:i<j
  ·have:=h4 i (by omega) h5;simp only[decide_eq_false_iff_not]at this;exact absurd (f.eq i hi).1 this
  ·by_cases h6:j=i
   ·rw[h6]
   ·exfalso
    simp only[Q7]at h3;rw[(f.eq j (by omega)).1,(h.at' j (by omega)).nm,hn]at h3;exact jhI i (by omega) j (by omega) h3
theorem jfF(h:KitL cs ss)(f:Fits ss ss'){i:Nat}(hi:i<ss.length):(schN ss' (ss.getD i Sch.none).name).pub=(ss.getD i Sch.none).pub/\(schN ss' (ss.getD i Sch.none).name).cs=(ss.getD i Sch.none).cs:=by
 unfold schN;rw[jkF h f hi,Kh (by omega),K8];exact⟨(f.eq i hi).2.1,(f.eq i hi).2.2.2⟩
theorem jlW(h:KitL cs ss){i:Nat}(hi:i<ss.length):∀m,m<=ss.length->jdd (ss.take m) (ss.getD i Sch.none).name=if i<m then(ss.getD i Sch.none).cs else []
 |0,_=>by unfold jdd;simp
 | m+1,hm=>by
  have hn:=h.kb.kit i hi;rw[jg7 (by omega) hn.2.2,jlW h hi m (by omega)];by_cases h1:m=i
  ·subst h1;rw[Ke (by omega),Kh rfl,Kh (by omega),Q6]
  ·have hl:=h.l;rw[Ke (c:=(ss.getD m Sch.none).name=_) (λe => ?_)]
   ·by_cases h2:i<m
    ·rw[Kh h2,Kh (by omega),Q5]
    ·rw[Ke h2,Ke (by omega),Q5]
   ·rw[(h.at' m (by omega)).nm,(h.at' i hi).nm]at e
    rcases Nat.lt_or_gt_of_ne h1 with h2|h2
    ·exact jhI i (by omega) m h2 e
    ·exact jhI m (by omega) i h2 e.symm
theorem jjI(h:KitL cs ss){i:Nat}(hi:i<ss.length):jdd ss (ss.getD i Sch.none).name=(ss.getD i Sch.none).cs:=by
 have:=jlW h hi ss.length (Kz _);rwa[Jn,Kh hi]at this
structure Bs (ss:List Sch) (i:Nat) (Q:Qy):Prop where
 kind:1<=Q.kind/\Q.kind<=10
 z:Q.ex=[]/\Q.lo=0/\Q.hi=0/\Q.p=0/\Q.q=0/\Q.column=[]/\Q.bound=0/\Q.rg=[]/\Q.strat=0/\Q.cons=false
structure Rt (ss:List Sch) (i:Nat) (Q:Qy):Prop where
 table:Q.table=(ss.getD i Sch.none).name
 keep:Q.keep=0\/(ss.getD i Sch.none).pub=false/\1<=Q.keep/\Q.keep<=4
 join:(Q.other=[]/\Q.left=[]/\Q.right=[]/\Q.limit=0)\/∃j,j<ss.length/\((ss.getD i Sch.none).pub=false\/(ss.getD j Sch.none).pub=true)/\Q.other=(ss.getD j Sch.none).name/\1<=Q.limit/\Q.limit<=3 /\
  ∃a b:Nat,a<(ss.getD i Sch.none).cs.length/\b<(ss.getD j Sch.none).cs.length/\((ss.getD i Sch.none).cs.getD a Col.none).name=((ss.getD j Sch.none).cs.getD b Col.none).name/\Q.left=((ss.getD i Sch.none).cs.getD a Col.none).name/\Q.right=((ss.getD j Sch.none).cs.getD b Col.none).name
 wh:Q.wh=[]\/∃e,WF (jb6 ss Q) e/\e.kind=1/\e.post.length<=bnd 3/\Q.wh=e.post
 factor:Q.factor∈facs
 bits:1<=Q.bits/\Q.bits<=12
theorem jdv.rt {i:Nat}{Q4 Q:Qy}(h:jdv (jb6 ss Q4) Q4 Q)(r:Rt ss i Q4):Rt ss i Q:=by
 obtain⟨_,_,_,h⟩:=h;obtain⟨r1,r2,r3,r4,r5,r6⟩:=r
 rcases h with⟨_,rfl⟩|⟨_,_,_,_,_,_,_,_,_,_,_,_,_,_,rfl⟩|⟨_,_,rfl⟩|⟨_,_,_,_,rfl⟩|⟨_,_,_,_,_,_,_,_,rfl⟩|⟨_,rfl⟩<;>exact⟨r1,r2,r3,r4,r5,r6⟩
theorem jiv.split {Q:Qy}(h:jiv ss Q):∃i Q4,i<ss.length/\Bs ss i Q4/\Rt ss i Q4/\jdv (jb6 ss Q4) Q4 Q:=by
 obtain⟨i,k,bt,f,Q2,Q3,Q4,hi,k1,k2,b1,b2,hf,h2,h3,h4,h5⟩:=h
 have a2:Bs ss i Q2/\Rt ss i Q2/\Q2.wh=[]/\(Q2.other=[]/\Q2.left=[]/\Q2.right=[]/\Q2.limit=0):=by
  rcases h2 with rfl|⟨hp,kp,p1,p2,rfl⟩
  ·exact⟨⟨⟨k1,k2⟩,rfl,rfl,rfl,rfl,rfl,rfl,rfl,rfl,rfl,rfl⟩,⟨rfl,.inl rfl,.inl ⟨rfl,rfl,rfl,rfl⟩,.inl rfl,hf,b1,b2⟩,rfl,rfl,rfl,rfl,rfl⟩
  ·exact⟨⟨⟨k1,k2⟩,rfl,rfl,rfl,rfl,rfl,rfl,rfl,rfl,rfl,rfl⟩,⟨rfl,.inr ⟨hp,p1,p2⟩,.inl ⟨rfl,rfl,rfl,rfl⟩,.inl rfl,hf,b1,b2⟩,rfl,rfl,rfl,rfl,rfl⟩
 obtain⟨c1,c2,c3,c4⟩:=a2
 have a3:Bs ss i Q3/\Rt ss i Q3/\Q3.wh=[]:=by
  rcases h3 with rfl|⟨j,hj,hp,rfl|⟨a,b,l,ha,hb,hab,l1,l2,rfl⟩⟩
  ·exact⟨c1,c2,c3⟩
  ·exact⟨c1,c2,c3⟩
  ·exact⟨⟨c1.kind,c1.z⟩,⟨c2.table,c2.keep,.inr ⟨j,hj,hp,rfl,l1,l2,a,b,ha,hb,hab,rfl,rfl⟩,.inl c3,c2.factor,c2.bits⟩,c3⟩
 obtain⟨d1,d2,d3⟩:=a3
 rcases h4 with rfl|⟨e,e1,e2,e3,rfl⟩
 ·exact⟨i,_,hi,d1,d2,h5⟩
 ·exact⟨i,{ Q3 with wh:=e.post },hi,⟨d1.kind,d1.z⟩,⟨d2.table,d2.keep,d2.join,.inr ⟨e,e1,e2,e3,rfl⟩,d2.factor,d2.bits⟩,h5⟩
end
section
variable {ss ss':List Sch}{cs:List Col}{i:Nat}{Q0 Q:Qy}
theorem jfG {m:Nat}(hm:m<cs.length)(hf:jdc cs m):jbO cs (cs.getD m Col.none).name=m/\colN cs (cs.getD m Col.none).name=cs.getD m Col.none:=by
 have key:jbO cs (cs.getD m Col.none).name=m:=by
  rcases jci cs (cs.getD m Col.none).name with e|⟨j,e,h1,h2,h3⟩
  ·exfalso
   have:(0:Int)<=jbO cs (cs.getD m Col.none).name:=(jda _ _ _).2 ⟨m,by omega,by omega,by simp⟩;omega
  ·rw[e]
   rcases X4 j m with h|h|h
   ·exact absurd h2 (hf j h)
   ·rw[h]
   ·exact absurd rfl (h3 m h)
 refine⟨key,?_⟩;unfold colN;rw[key,Kh (by omega),K8]
theorem jrQ {c:Col}(h:Kit c):jgv c<=64:=by
 obtain⟨j,hj,hn⟩:=h.1;unfold jgv;rw[Kh ⟨by rw[hn];exact jm9 hj,joi h⟩]
 have hb : -3<=c.lo/\c.lo<=c.hi/\c.hi<=20:=by
  rcases h.2.2 with⟨_,a,b,d⟩|⟨k,k1,k2,_,a,b⟩<;>omega
 rw[wrap_i64 (x:=c.hi-c.lo) (by omega) (by omega),wrap_i64 (by omega) (by omega)];omega
theorem jdM(hk:1<=Q.kind/\Q.kind<=10)(h:¬(bad1 Q\/bad2 Q\/bad3 Q\/bad4 Q\/bad5 Q\/bad6 Q)):jiW Q=0:=by
 unfold jiW;rw[Ke (by omega),Ke h]
theorem jlX(hb:Bs ss i Q0)(h:jdv cs Q0 Q):jiW Q=0:=by
 obtain⟨z1,z2,z3,z4,z5,z6,z7,z8,z9,z10⟩:=hb.z;have hk:=hb.kind;obtain⟨m,_,_,h⟩:=h
 rcases h with⟨k,rfl⟩|⟨k,e,lo,w,p,q,_,_,_,_,_,_,_,hp,rfl⟩|⟨k,c,rfl⟩|⟨k,bd,_,_,rfl⟩|⟨k,rg,st,_,_,_,_,_,rfl⟩|⟨k,rfl⟩
 ·refine jdM hk ?_;simp[bad1,bad2,bad3,bad4,bad5,bad6,valK,colK,z1,z2,z3,z4,z5,z6,z7,z8,z9,z10,k]
 ·refine jdM hk ?_
  rcases k with k|k|k
  ·rw[Ke (by omega)]at hp;simp[bad1,bad2,bad3,bad4,bad5,bad6,valK,colK,z1,z2,z3,z4,z5,z6,z7,z8,z9,z10,k,hp]
  ·rw[Ke (by omega)]at hp;simp[bad1,bad2,bad3,bad4,bad5,bad6,valK,colK,z1,z2,z3,z4,z5,z6,z7,z8,z9,z10,k,hp]
  ·simp[bad1,bad2,bad3,bad4,bad5,bad6,valK,colK,z1,z2,z3,z4,z5,z6,z7,z8,z9,z10,k]
 ·refine jdM hk ?_;simp[bad1,bad2,bad3,bad4,bad5,bad6,valK,colK,z1,z2,z3,z4,z5,z6,z7,z8,z9,z10,k]
 ·refine jdM hk ?_;simp[bad1,bad2,bad3,bad4,bad5,bad6,valK,colK,z1,z2,z3,z4,z5,z6,z7,z8,z9,z10,k]
 ·refine jdM hk ?_;simp[bad1,bad2,bad3,bad4,bad5,bad6,valK,colK,z1,z2,z3,z4,z5,z6,z7,z8,z9,z10,k]
 ·refine jdM hk ?_
  rcases k with k|k|k<;>simp[bad1,bad2,bad3,bad4,bad5,bad6,valK,colK,z1,z2,z3,z4,z5,z6,z7,z8,z9,z10,k]
theorem jnu {n:Int}(h : -100<=n/\n<=100):¬far n:=by unfold far;omega
theorem jor(hb:Bs ss i Q0)(h:jdv cs Q0 Q):limE Q=0:=by
 obtain⟨z1,z2,z3,z4,z5,z6,z7,z8,z9,z10⟩:=hb.z;obtain⟨m,_,_,h⟩:=h;unfold limE
 rcases h with⟨k,rfl⟩|⟨k,e,lo,w,p,q,_,_,_,l1,l2,w1,w2,hp,rfl⟩|⟨k,c,rfl⟩|⟨k,bd,b1,b2,rfl⟩|⟨k,rg,st,_,_,_,_,_,rfl⟩|⟨k,rfl⟩
 ·simp[valK,k]
 ·have f1:=jnu (n:=lo) (by omega);have f2:=jnu (n:=lo+w) (by omega);have f3:¬lo+w<lo:=by omega
  have g1:¬(valK Q0.kind/\(far lo\/far (lo+w)\/lo+w<lo)):=λy=>y.2.elim f1 λy=>y.elim f2 f3
  have g2:¬(Q0.kind=5/\(64<=lo+w-lo\/p<1\/q<=p\/100<q)):=by
   rintro⟨k5,y⟩;rw[Kh k5]at hp;omega
  have g3:¬(Q0.kind=7/\far Q0.bound):=by
   rintro⟨y,_⟩;rcases k with k|k|k<;>omega
  show(if valK Q0.kind/\(far lo\/far (lo+w)\/lo+w<lo)then(2:Int)else if Q0.kind=5/\(64<=lo+w-lo\/p<1\/q<=p\/100<q)then 2 else if Q0.kind=7/\far Q0.bound then 2 else 0)=0;rw[Ke g1,Ke g2,Ke g3]
 ·simp[valK,k]
 ·have f1:=jnu (n:=bd) (by omega);simp[valK,k,f1]
 ·simp[valK,k]
 ·rcases k with k|k|k<;>simp[valK,k]
theorem jos(hb:Bs ss i Q0)(h:jdv cs Q0 Q):expE Q cs=0:=by
 have hb3:bnd 3=94:=by decide
 obtain⟨m,_,_,h⟩:=h;unfold expE
 rcases h with⟨k,rfl⟩|⟨k,e,lo,w,p,q,wf,ek,el,l1,l2,w1,w2,hp,rfl⟩|⟨k,c,rfl⟩|⟨k,bd,b1,b2,rfl⟩|⟨k,rg,st,_,_,_,_,_,rfl⟩|⟨k,rfl⟩
 ·rw[Ke (by simp[valK,k])]
 ·rw[Kh k];show jeX e.post cs false=0;rw[Ex.whole wf,Ke (by omega),Kh (by simpa using ek)]
 ·rw[Ke (by simp[valK,k])]
 ·rw[Ke (by simp[valK,k])]
 ·rw[Ke (by simp[valK,k])]
 ·rw[Ke (by rcases k with k|k|k<;>simp[valK,k])]
theorem jot(hk:Kits cs)(hb:Bs ss i Q0)(h:jdv cs Q0 Q):jko Q cs=0:=by
 obtain⟨m,hm,hf,h⟩:=h;obtain⟨s1,s2⟩:=jfG hm hf;have hw:=jrQ (hk (cs.getD m Col.none) (by simp[List.getD,hm]));unfold jko
 have key:∀q:Qy,q.column=(cs.getD m Col.none).name->(if ¬colK q.kind then(0:Int)else if ¬0<=jbO cs q.column then 7 else if 64<jgv (colN cs q.column)then 2 else 0)=0:=λq e=>by
  rw[e,s1,s2];split
  ·rfl
  ·rw[Ke (by omega),Ke (by omega)]
 rcases h with⟨k,rfl⟩|⟨k,e,lo,w,p,q,wf,ek,el,l1,l2,w1,w2,hp,rfl⟩|⟨k,c,rfl⟩|⟨k,bd,b1,b2,rfl⟩|⟨k,rg,st,_,_,_,_,_,rfl⟩|⟨k,rfl⟩
 ·rw[Kh (by simp[colK,k])]
 ·rcases k with k|k|k
  ·rw[Kh (by simp[colK,k])]
  ·exact key _ (by simp only[k,Kk])
  ·rw[Kh (by simp[colK,k])]
 ·exact key _ rfl
 ·exact key _ rfl
 ·exact key _ rfl
 ·exact key _ rfl
theorem jrR(hb:Bs ss i Q0)(h:jdv cs Q0 Q):rgE Q (colN cs Q.column)=0:=by
 obtain⟨m,hm,hf,h⟩:=h;obtain⟨s1,s2⟩:=jfG hm hf;unfold rgE
 rcases h with⟨k,rfl⟩|⟨k,e,lo,w,p,q,wf,ek,el,l1,l2,w1,w2,hp,rfl⟩|⟨k,c,rfl⟩|⟨k,bd,b1,b2,rfl⟩|⟨k,rg,st,r1,r2,r3,t1,t2,rfl⟩|⟨k,rfl⟩
 ·rw[Kh (by simp[k])]
 ·rw[Kh (by rcases k with k|k|k<;>simp[k])]
 ·rw[Kh (by simp[k])]
 ·rw[Kh (by simp[k])]
 ·rw[Ke (by simp[k]),Ke (by simp only;omega),Ke (by simp only;omega),Ke,Ke (by simp only;omega)];rintro⟨r,hr,h⟩;have:=r3 r hr;simp only[s2]at h;omega
 ·rw[Kh (by rcases k with k|k|k<;>simp[k])]
end
theorem firstX_zero:∀{l:List (List UInt8 × Int)},(∀p∈l,p.2=0)->jb8 l=(0,[])
 | [],_=>rfl
 |(n,e)::l,h=>by
  have h0:e=0:=h (n,e) (by simp);simp only[jb8];rw[Kh h0];exact firstX_zero λp hp=>h p (by simp[hp])
theorem jiH {Q:Qy}{ss:List Sch}{fe:Int}(h0:(allE ss).1=0)(h1:jiW Q=0)(h2:tabE Q ss=0)(h3:jkn Q (schN ss Q.table)=0)(h4:jg4 Q ss (schN ss Q.table) (schN ss Q.other)=0)(h5:jio Q (jcH Q ss)=0)(h6:expE Q (jcH Q ss)=0)(h7:limE Q=0)(h8:jko Q (jcH Q ss)=0)(h9:rgE Q (colN (jcH Q ss) Q.column)=0)(h10:fe=0)(h11:bitE Q=0):jet Q ss fe=(0,[]):=by
 unfold jet jeV;refine firstX_zero λp hp => ?_
 simp only[Q9,X8,or_false]at hp
 rcases hp with rfl|rfl|rfl|rfl|rfl|rfl|rfl|rfl|rfl|rfl|rfl|rfl<;>first|assumption|exact Kh h0
section
variable {cs:List Col}{ss ss':List Sch}{i:Nat}{Q0 Q:Qy}
structure Rt2 (ss:List Sch) (i:Nat) (Q:Qy):Prop where
 table:Q.table=(ss.getD i Sch.none).name
 keep:Q.keep=0\/(ss.getD i Sch.none).pub=false/\0<=Q.keep/\Q.keep<=50
 join:(Q.other=[]/\Q.left=[]/\Q.right=[]/\Q.limit=0)\/∃j,j<ss.length/\((ss.getD i Sch.none).pub=false\/(ss.getD j Sch.none).pub=true)/\Q.other=(ss.getD j Sch.none).name/\1<=Q.limit/\Q.limit<=3 /\
  ∃a b:Nat,a<(ss.getD i Sch.none).cs.length/\b<(ss.getD j Sch.none).cs.length/\((ss.getD i Sch.none).cs.getD a Col.none).name=((ss.getD j Sch.none).cs.getD b Col.none).name/\Q.left=((ss.getD i Sch.none).cs.getD a Col.none).name/\Q.right=((ss.getD j Sch.none).cs.getD b Col.none).name
 bits:1<=Q.bits/\Q.bits<=12
theorem Rt.two(r:Rt ss i Q):Rt2 ss i Q:=⟨r.table,r.keep.imp id λh=>⟨h.1,by omega,by omega⟩,r.join,r.bits⟩
theorem jiI(h:KitL cs ss)(hi:i<ss.length){a:Nat}(ha:a<(ss.getD i Sch.none).cs.length):jdc (ss.getD i Sch.none).cs a:=λk hk=>jth (h.at' i hi).sub h.all h.five ha hk
theorem juA(h:KitL cs ss){j a b:Nat}(hi:i<ss.length)(hj:j<ss.length)(ha:a<(ss.getD i Sch.none).cs.length)(hb:b<(ss.getD j Sch.none).cs.length)(e:((ss.getD i Sch.none).cs.getD a Col.none).name=((ss.getD j Sch.none).cs.getD b Col.none).name):((ss.getD i Sch.none).cs.getD a Col.none).ws=((ss.getD j Sch.none).cs.getD b Col.none).ws:=by
 have key:∀{k c:Nat},k<ss.length->c<(ss.getD k Sch.none).cs.length->∃m,m<5/\(ss.getD k Sch.none).cs.getD c Col.none=cpK (cs.getD m Col.none)/\((ss.getD k Sch.none).cs.getD c Col.none).name=ages.getD m []:=by
  intro k c hk hc;obtain⟨js,e1,_,e3⟩:=(h.at' k hk).sub;rw[e1]at hc ⊢;rw[Q1]at hc;have hm:=e3 js[c] (Jr hc);have e2:(js.map λj=>cpK (cs.getD j Col.none)).getD c Col.none=cpK (cs.getD js[c] Col.none):=by simp only[List.getD,J5,K3 hc,K6,Ks]
  refine⟨js[c],hm,e2,?_⟩;rw[e2];exact(h.all js[c] (by have:=h.five;omega)).1
 obtain⟨m,m5,x1,x2⟩:=key hi ha;obtain⟨n,n5,y1,y2⟩:=key hj hb;rw[x2,y2]at e
 have:m=n:=by
  rcases X4 m n with h|h|h
  ·exact absurd e (jnb n n5 m h)
  ·exact h
  ·exact absurd e.symm (jnb m m5 n h)
 rw[x1,y1,this]
theorem jlY(h:KitL cs ss)(f:Fits ss ss')(hi:i<ss.length)(r:Rt2 ss i Q):jkn Q (schN ss' Q.table)=0:=by
 unfold jkn;have hp:=(jfF h f hi).1;rw[r.table,hp]
 rcases r.keep with e|⟨e1,e2,e3⟩
 ·rw[Ke (by omega),Ke (λq=>q.1 e)]
 ·rw[Ke (by omega),Ke (λq=>by rw[e1]at q;cases q.2)]
theorem jlZ(h:KitL cs ss)(f:Fits ss ss')(hi:i<ss.length)(r:Rt2 ss i Q):jg4 Q ss' (schN ss' Q.table) (schN ss' Q.other)=0:=by
 unfold jg4
 rcases r.join with⟨e1,e2,e3,e4⟩|⟨j,hj,hp,e1,l1,l2,a,b,ha,hb,hab,el,er⟩
 ·rw[Kh e1,Ke (by rw[e2,e3,e4];simp)]
 ·have hn:=(h.kb.kit j hj).2.2;obtain⟨p1,c1⟩:=jfF h f hi;obtain⟨p2,c2⟩:=jfF h f hj;have s1:=jfG ha (jiI h hi ha);have s2:=jfG hb (jiI h hj hb);rw[r.table,e1,Ke hn,jkF h f hj,Ke (by omega),p1,p2,Ke,c1,c2,el,er,s1.1,s2.1,Ke (by omega),s1.2,s2.2,Ke (λq=>q (juA h hi hj ha hb hab)),Ke (by omega)];rintro⟨x,y⟩;rw[x,y]at hp
  rcases hp with hp|hp<;>cases hp
theorem jou(h:KitL cs ss)(f:Fits ss ss')(hi:i<ss.length)(r:Rt2 ss i Q):tabE Q ss'=0:=by
 unfold tabE;rw[r.table,jkF h f hi,Kh (by omega)]
theorem jov(r:Rt2 ss i Q):bitE Q=0:=by
 have:=r.bits;unfold bitE;rw[Ke (by omega)]
theorem jpD(r:Rt ss i Q):jio Q (jb6 ss Q)=0:=by
 have hb3:bnd 3=94:=by decide
 unfold jio
 rcases r.wh with e|⟨e,wf,ek,el,hw⟩
 ·rw[Kh (by rw[e];rfl)]
 ·split
  ·rfl
  ·rw[hw,Ex.whole wf,Ke (by omega),Kh (by simpa using ek)]
theorem jow(h:KitL cs ss)(f:Fits ss ss')(hi:i<ss.length)(r:Rt2 ss i Q):jcH Q ss'=jb6 ss Q:=by
 unfold jcH jb6;rw[r.table,(jfF h f hi).2,jjI h hi]
 rcases r.join with⟨e,_⟩|⟨j,hj,_,e,_⟩
 ·rw[e,Kh rfl];unfold jdd;rw[Kh rfl]
 ·rw[e,Ke (h.kb.kit j hj).2.2,(jfF h f hj).2,jjI h hj]
theorem jjJ(h:KitL cs ss)(Q:Qy):Kits (jb6 ss Q):=λc hc=>(Jk.1 hc).elim (jdK h.kb _ c) (jdK h.kb _ c)
theorem jdv.cols {L:List Col}(h:jdv L Q0 Q):jb6 ss Q=jb6 ss Q0:=by
 obtain⟨_,_,_,h⟩:=h
 rcases h with⟨_,rfl⟩|⟨_,_,_,_,_,_,_,_,_,_,_,_,_,_,rfl⟩|⟨_,_,rfl⟩|⟨_,_,_,_,rfl⟩|⟨_,_,_,_,_,_,_,_,rfl⟩|⟨_,rfl⟩<;>rfl
theorem jrS(h:KitL cs ss)(f:Fits ss ss')(ha:(allE ss').1=0)(g:jiv ss Q):jet Q ss' 0=(0,[]):=by
 obtain⟨i,Q4,hi,hb,r4,hk⟩:=g.split;have r:=jdv.rt hk r4;have ec:=jow h f hi r.two;have e4:jb6 ss Q=jb6 ss Q4:=jdv.cols hk;refine jiH ha (jlX hb hk) (jou h f hi r.two) (jlY h f hi r.two) (jlZ h f hi r.two) ?_ ?_ (jor hb hk) ?_ ?_ rfl (jov r.two)
 ·rw[ec];exact jpD r
 ·rw[ec,e4];exact jos hb hk
 ·rw[ec,e4];exact jot (jjJ h Q4) hb hk
 ·rw[ec,e4];exact jrR hb hk
theorem jpE(h:KitL cs ss)(f:Fits ss ss')(ha:(allE ss').1=0)(g:jiv ss Q){kp:Int}(hkp:kp=Q.keep\/(schN ss' Q.table).pub=false/\0<=kp/\kp<=50):jet { Q with keep:=kp,wh:=[] } ss' 0=(0,[]):=by
 obtain⟨i,Q4,hi,hb,r4,hk⟩:=g.split;have r:=jdv.rt hk r4
 have r2:Rt2 ss i { Q with keep:=kp,wh:=[] }:=by
  refine⟨r.table,?_,r.join,r.bits⟩
  rcases hkp with rfl|⟨e1,e2⟩
  ·exact r.two.keep
  ·rw[r.table,(jfF h f hi).1]at e1;exact .inr ⟨e1,e2⟩
 have ec:=jow h f hi r2;have e4:jb6 ss { Q with keep:=kp,wh:=[] }=jb6 ss Q4:=show jb6 ss Q=_ from jdv.cols hk
 refine jiH ha (show jiW Q=0 from jlX hb hk) (jou h f hi r2) (jlY h f hi r2) (jlZ h f hi r2) ?_ ?_ (show limE Q=0 from jor hb hk) ?_ ?_ rfl (jov r2)
 ·unfold jio;exact Kh rfl
 ·rw[ec,e4];exact(show expE Q _=0 from jos hb hk)
 ·rw[ec,e4];exact(show jko Q _=0 from jot (jjJ h Q4) hb hk)
 ·rw[ec,e4];exact(show rgE Q (colN _ Q.column)=0 from jrR hb hk)
end
def WV(v:V)(n:Nat)(cs:List V):Prop:=(v=.nilsl/\n=0/\cs=[])\/∃q,v=.row cs n q
theorem WV.of {base w n:Nat}{ts:List Nat}{v:V}{cs:List V}(g:GrowV base ts w v n cs):WV v n cs:=by
 cases g with
 |nil=>exact .inl ⟨rfl,rfl,rfl⟩
 |full _ _ _=>exact .inr ⟨_,rfl⟩
 |tok _ _ _ _ _ _ _=>exact .inr ⟨_,rfl⟩
theorem WV.weak {v:V}{n:Nat}{cs:List V}(h:WV v n cs)(hw:V.weak.weakL cs=cs):WV v.weak n cs:=by
 rcases h with⟨rfl,a,b⟩|⟨q,rfl⟩
 ·exact .inl ⟨rfl,a,b⟩
 ·exact .inr ⟨q.weak,by simp only[V.weak,hw]⟩
theorem WV.closed {v:V}{n:Nat}{cs:List V}(h:WV v n cs)(hw:V.weak.weakL cs=cs)(hc:V.closed.closedL cs=true):v.weak.closed=true:=by
 rcases h with⟨rfl,a,b⟩|⟨q,rfl⟩
 ·rfl
 ·cases q<;>simp[V.weak,V.closed,hw,hc,RCap.weak]
theorem WV.nv {v:V}{l:List Nd}(h:WV v l.length (jb5 l))(hl:l.length<=400):K.NV v l:=by
 rcases h with⟨rfl,a,b⟩|⟨q,rfl⟩
 ·obtain rfl:l=[]:=List.length_eq_zero_iff.1 a;exact⟨⟨λ_=>.inl ⟨rfl,rfl⟩,.inl ⟨rfl,rfl⟩⟩,rfl,⟨rfl,rfl⟩,hl⟩
 ·refine⟨?_,rfl,⟨rfl,rfl⟩,hl⟩;cases q with
  |full=>exact⟨λ_=>.inr (.inr rfl),.inr (.inr (by simp only[V.weak,jbg,RCap.weak]))⟩
  |unk=>exact⟨λ_=>.inr (.inl rfl),.inr (.inl (by simp only[V.weak,jbg,RCap.weak]))⟩
  |tok k e w=>exact⟨λh=>by simp[V.closed]at h,.inr (.inl (by simp only[V.weak,jbg,RCap.weak]))⟩
theorem jfH(r:Int × Int)(l:List (Int × Int)):jes (r::l)=.int .i64 r.1::.int .i64 r.2::jes l:=rfl
theorem jhd:∀l,V.weak.weakL (jes l)=jes l
 | []=>rfl
 |r::l=>by rw[jfH];simp only[V.weak.weakL,V.weak,jhd l]
theorem jhp:∀l,V.closed.closedL (jes l)=true
 | []=>rfl
 |r::l=>by rw[jfH];simp only[V.closed.closedL,V.closed,jhp l,K2]
theorem jfo:∀l,V.closed.closedL (jb5 l)=true
 | []=>rfl
 |x::l=>by rw[jbD];simp only[V.closed.closedL,V.closed,jfo l,K2]
theorem jjK:∀(l:List (Int × Int)) (i:Nat),(jes l).drop (i*2)=jes (l.drop i)
 |l,0=>by simp
 | [],i+1=>by simp[jes]
 |r::l,i+1=>by
  rw[jfH,show(i+1)*2=i*2+1+1 by omega,Kv,Kv,jjK l i,Kv]
theorem WV.rg {v:V}{l:List (Int × Int)}(h:WV v l.length (jes l))(hl:l.length<=400):K.RgV v l:=by
 rcases h with⟨rfl,a,b⟩|⟨q,rfl⟩
 ·obtain rfl:l=[]:=List.length_eq_zero_iff.1 a;exact⟨rfl,λi hi=>by simp at hi,⟨rfl,rfl⟩,hl⟩
 ·refine⟨rfl,λi hi => ?_,⟨rfl,rfl⟩,hl⟩;refine⟨jes (l.drop (i+1)),?_⟩;rw[Ys,Kh (by omega),K8,jjK,K7 hi,jfH];have:l.getD i (0,0)=l[i]:=by simp[List.getD,hi]
  rw[this]
structure WQ (Q:Qy) (ev wv rv:V):Prop where
 e:WV ev Q.ex.length (jb5 Q.ex)
 w:WV wv Q.wh.length (jb5 Q.wh)
 r:WV rv Q.rg.length (jes Q.rg)
 l:Q.ex.length<=400/\Q.wh.length<=400/\Q.rg.length<=400
 fl:Q.factor.length<2^40
theorem WQ.qv {Q:Qy}{ev wv rv:V}(h:WQ Q ev wv rv)(hc:ev.closed=true/\wv.closed=true/\rv.closed=true):K.QV Q ev wv rv:=⟨h.e.nv h.l.1,h.w.nv h.l.2.1,h.r.rg h.l.2.2,hc,h.fl⟩
theorem WQ.weak {Q:Qy}{ev wv rv:V}(h:WQ Q ev wv rv):K.QV Q ev.weak wv.weak rv.weak :=
 ⟨(h.e.weak (jbg _)).nv h.l.1,(h.w.weak (jbg _)).nv h.l.2.1,(h.r.weak (jhd _)).rg h.l.2.2,⟨h.e.closed (jbg _) (jfo _),h.w.closed (jbg _) (jfo _),h.r.closed (jhd _) (jhp _)⟩,h.fl⟩
structure LS (ss:List Sch):Prop where
 l:ss.length<=1000
 at':∀s∈ss,(∃q,s.cv=.row (jaL s.cs) s.cs.length q)/\OkC s.cs/\s.cs.length<=200/\jjr s
def jgC(s:Sch):Sch:=⟨s.name,s.pub,s.many,s.cv.weak,s.cs⟩
theorem jiJ:∀ss:List Sch,V.weak.weakL (jbo ss)=jbo (ss.map jgC)
 | []=>rfl
 |s::ss=>by rw[jch,K4,jch];simp only[V.weak.weakL,V.weak,jiJ ss,jgC]
theorem juB {cs:List Col}{q:RCap}(h:(V.row (jaL cs) cs.length q).closed=true):IsC (.row (jaL cs) cs.length q) cs:=by
 cases q with
 |full=>exact .inr ⟨.full,.inr rfl,rfl⟩
 |unk=>exact .inr ⟨.unk,.inl rfl,rfl⟩
 |tok k e w=>simp[V.closed]at h
theorem jox {cs:List Col}(ok:OkC cs)(q:RCap):IsC (V.row (jaL cs) cs.length q).weak cs:=(RC.row ok q).2
theorem LS.mem {ss:List Sch}{i:Nat}(hi:i<ss.length):ss.getD i Sch.none∈ss:=by simp[List.getD,hi]
theorem LS.weak {ss:List Sch}(h:LS ss)(q:RCap):K.SB (V.row (jbo ss) ss.length q).weak (ss.map jgC):=by
 have e:(V.row (jbo ss) ss.length q).weak=.row (jbo (ss.map jgC)) (ss.map jgC).length q.weak:=by simp only[V.weak,jiJ,Q1]
 rw[e]
 have at2:∀s∈ss.map jgC,IsC s.cv s.cs/\OkC s.cs/\s.cs.length<=200/\jjr s:=λs hs=>by
  obtain⟨t,ht,rfl⟩:=Jg.1 hs;obtain⟨⟨q',e⟩,ok,l,sh⟩:=h.at' t ht;exact⟨by show IsC t.cv.weak t.cs;rw[e];exact jox ok q',ok,l,sh⟩
 refine⟨⟨.inr ⟨q.weak,by cases q<;>simp[RCap.weak],rfl⟩,λs hs=>⟨(at2 s hs).1,(at2 s hs).2.1⟩,by rw[Q1];exact h.l,λi hi=>(at2 _ (LS.mem hi)).2.2.2⟩,λi hi=>(at2 _ (LS.mem hi)).2.2.1⟩
theorem jl0(ss:List Sch):Fits ss ss:=⟨Kz _,λ_ _=>⟨rfl,rfl,rfl,rfl⟩⟩
theorem hk17:env.hook 17=some (jcj K.env 17):=rfl
section
variable {Q:Qy}{ev wv rv:V}{ss:List Sch}{q:RCap}{fe:Int}
theorem jhL(h:WQ Q ev wv rv):(V.agg (Q.cells ev wv rv)).weak=.agg (Q.cells ev.weak wv.weak rv.weak):=rfl
theorem jjL:(V.agg (Q.cells ev wv rv)).closed=true->ev.closed=true/\wv.closed=true/\rv.closed=true:=λh=>by
 simp only[Qy.cells,V.closed,V.closed.closedL,Jz,Qr,Ql]at h;exact⟨h.1,h.2.2,h.2.1⟩
end
theorem juC {f:List UInt8}(h:f∈facs):K.Fac f 0/\f.length<=7:=by
 simp only[facs,Q9,X8,or_false]at h
 rcases h with rfl|rfl|rfl|rfl|rfl
 ·exact⟨⟨0,1,-1,0,0,K.call_F rfl F.ck_0 _,λ_=>⟨K.call_F rfl F.lo_0 _,K.call_F rfl F.hi_0 _⟩,by decide⟩,by decide⟩
 ·exact⟨⟨0,1,-1,0,0,K.call_F rfl F.ck_1 _,λ_=>⟨K.call_F rfl F.lo_1 _,K.call_F rfl F.hi_1 _⟩,by decide⟩,by decide⟩
 ·exact⟨⟨0,1,-1,0,0,K.call_F rfl F.ck_2 _,λ_=>⟨K.call_F rfl F.lo_2 _,K.call_F rfl F.hi_2 _⟩,by decide⟩,by decide⟩
 ·exact⟨⟨0,1,-1,0,0,K.call_F rfl F.ck_3 _,λ_=>⟨K.call_F rfl F.lo_3 _,K.call_F rfl F.hi_3 _⟩,by decide⟩,by decide⟩
 ·exact⟨⟨0,1,-1,0,0,K.call_F rfl F.ck_4 _,λ_=>⟨K.call_F rfl F.lo_4 _,K.call_F rfl F.hi_4 _⟩,by decide⟩,by decide⟩
section
variable {cs:List Col}{ss ss':List Sch}{Q:Qy}
theorem jsV(g:jiv ss Q):Q.ex.length<=400/\Q.wh.length<=400/\Q.rg.length<=400/\Q.factor∈facs:=by
 have hb3:bnd 3=94:=by decide
 obtain⟨i,Q4,hi,hb,r4,hk⟩:=g.split;have r:=jdv.rt hk r4;obtain⟨z1,z2,z3,z4,z5,z6,z7,z8,z9,z10⟩:=hb.z
 have hw:Q.wh.length<=400:=by
  rcases r.wh with e|⟨e,_,_,el,hw⟩
  ·rw[e];simp
  ·rw[hw];omega
 obtain⟨m,_,_,h⟩:=hk;refine⟨?_,hw,?_,r.factor⟩
 ·rcases h with⟨k,rfl⟩|⟨k,e,lo,w,p,q,wf,ek,el,l1,l2,w1,w2,hp,rfl⟩|⟨k,c,rfl⟩|⟨k,bd,b1,b2,rfl⟩|⟨k,rg,st,r1,r2,r3,t1,t2,rfl⟩|⟨k,rfl⟩
  ·simp[z1]
  ·show e.post.length<=400;omega
  ·simp[z1]
  ·simp[z1]
  ·simp[z1]
  ·simp[z1]
 ·rcases h with⟨k,rfl⟩|⟨k,e,lo,w,p,q,wf,ek,el,l1,l2,w1,w2,hp,rfl⟩|⟨k,c,rfl⟩|⟨k,bd,b1,b2,rfl⟩|⟨k,rg,st,r1,r2,r3,t1,t2,rfl⟩|⟨k,rfl⟩
  ·simp[z8]
  ·simp[z8]
  ·simp[z8]
  ·simp[z8]
  ·show rg.length<=400;omega
  ·simp[z8]
theorem jrT {c:Col}(h:Kit c):jdT c:=by
 obtain⟨⟨j,hj,hn⟩,_,h⟩:=h;have hnm:=jm9 hj;refine⟨by rw[hn];have:=hnm.2.1;omega,?_,?_⟩
 ·rcases h with⟨e,_⟩|⟨k,_,_,e,_⟩
  ·rw[e];simp
  ·rw[e,Qt];omega
 ·intro i hi
  rcases h with⟨e,_⟩|⟨k,k1,k5,e,_⟩
  ·rw[e]at hi;simp at hi
  ·have hr:reds.length=5:=rfl;rw[e,Qt]at hi;have:c.ws.getD i []=reds.getD i []:=by rw[e];simp[List.getD,Jj,show i<k by omega]
   rw[this];have:=(jrj (j:=i) (by omega)).2.1;omega
theorem jwz(h:KitL cs ss):LS ss:=by
 have hl:=h.l;refine⟨by omega,λs hs => ?_⟩;obtain⟨i,hi,e⟩:=Jp hs;have e2:ss.getD i Sch.none=s:=by simp[List.getD,hi,e]
 have k:=h.at' i hi;rw[e2]at k;have hk:=k.sub.kits h.all h.five;have hle:=k.le;refine⟨k.row,hk.ok,by omega,?_,by omega,λj hj=>jrT (hk _ (by simp[List.getD,hj]))⟩;rw[k.nm];have:=(jna (j:=i) (by omega)).2.1;omega
end
open B (TOK BOK InC)
def jnv(r:Rw):Rw:=⟨r.own,r.vv.weak,r.vs⟩
def jeg(t:Tb):Tb:=⟨jgC t.s,t.rv.weak,t.rows.map jnv⟩
theorem jiK:∀l:List Rw,V.weak.weakL (jcp l)=jcp (l.map jnv)
 | []=>rfl
 |r::l=>by rw[jcu,K4,jcu];simp only[V.weak.weakL,V.weak,jiK l,jnv]
theorem jiL:∀l:List Tb,V.weak.weakL (jcv l)=jcv (l.map jeg)
 | []=>rfl
 |t::l=>by rw[jdL,K4,jdL];simp only[V.weak.weakL,V.weak,jiL l,jeg,jgC]
theorem jex:∀xs:List Int,V.weak.weakL (xs.map (V.int .i64))=xs.map (V.int .i64)
 | []=>rfl
 |x::xs=>by simp only[K4,V.weak.weakL,V.weak,jex xs]
theorem jtp(l:List Rw):(l.map jnv).map Rw.pl=l.map Rw.pl:=by
 rw[Vp];rfl
section
variable {cs:List Col}{tbs:List Tb}
theorem BaseG.len(h:BaseG cs tbs):1<=tbs.length/\tbs.length<=3:=by
 have h1:=h.k.n;have h2:=h.k.l;simp at h1 h2;exact⟨h1,h2⟩
theorem BaseG.kit(h:BaseG cs tbs){t:Tb}(ht:t∈tbs):∃i,i<tbs.length/\tbs.getD i Tb.none=t/\KitS cs i t.s:=by
 obtain⟨i,hi,e⟩:=Jp ht;have e2:(tbs.map (·.s)).getD i Sch.none=t.s:=by simp[List.getD,hi,e]
 have:=h.k.at' i (by simpa using hi);rw[e2]at this;exact⟨i,hi,by simp[List.getD,hi,e],this⟩
theorem BaseG.kits(h:BaseG cs tbs){t:Tb}(ht:t∈tbs):Kits t.s.cs:=by
 obtain⟨i,_,_,k⟩:=h.kit ht;exact k.sub.kits h.k.all h.k.five
theorem BaseG.sch(h:BaseG cs tbs){t:Tb}(ht:t∈tbs):(∃q,t.s.cv=.row (jaL t.s.cs) t.s.cs.length q)/\OkC t.s.cs/\t.s.cs.length<=200/\jjr t.s:=(jwz h.k).at' t.s (List.mem_map_of_mem ht)
theorem BaseG.tok(h:BaseG cs tbs){t:Tb}(ht:t∈tbs)(hc:t.s.cv.closed=true)(hr:t.rv.closed=true):TOK t:=by
 obtain⟨⟨q,hq⟩,ok,cl,sh⟩:=h.sch ht;obtain⟨i,hi,_,k⟩:=h.kit ht;obtain⟨hg,hl⟩:=h.r t ht;have hv:=h.v t ht;have kb:=h.kits ht
 have hx:∀r∈t.rows,r.vs.length=t.s.cs.length/\∀x∈r.vs,In64 x:=λr hr=>by
  obtain⟨_,_,g3,g4⟩:=hg.g r hr;refine⟨g3,λx hx => ?_⟩;obtain⟨j,hj,e⟩:=Jp hx;have hj2:j<t.s.cs.length:=by have:r.vs.length=t.s.cs.length:=g3;omega
  have h1:=g4 j hj2;have h2:=kb.bound hj2;have e2:r.pl.2.getD j 0=x:=by show r.vs.getD j 0=x;simp[List.getD,hj,e]
  rw[e2]at h1;simp only[In64];omega
 refine⟨by rw[hq]at hc ⊢;exact juB hc,ok,cl,sh,?_,λc hcm => ?_,?_,?_,by omega,λr hr=>by rw[(hx r hr).1];omega⟩
 ·rcases k.pb with⟨_,e,_⟩|⟨_,e1,e2⟩<;>simp only[In64]<;>omega
 ·obtain⟨j,hj,e⟩:=Jp hcm;have h2:=kb.bound hj;rw[show t.s.cs.getD j Col.none=c by simp[List.getD,hj,e]]at h2;simp only[In64];omega
 ·rcases hv with⟨e1,e2⟩|⟨q2,e⟩
  ·exact .inl ⟨e1,e2⟩
  ·rw[e]at hr ⊢;cases q2 with
   |full=>exact .inr ⟨.full,.inr rfl,rfl⟩
   |unk=>exact .inr ⟨.unk,.inl rfl,rfl⟩
   |tok k e w=>simp[V.closed]at hr
 ·intro r hrm
  have hcr:r.vv.closed=true:=by
   rcases hv with⟨e1,e2⟩|⟨q2,e⟩
   ·rw[e2]at hrm;cases hrm
   ·have hcl:V.closed.closedL (jcp t.rows)=true:=by
     rw[e]at hr;cases q2 with
     |full=>simpa[V.closed]using hr
     |unk=>simpa[V.closed]using hr
     |tok k e w=>simp[V.closed]at hr
    have:∀l:List Rw,V.closed.closedL (jcp l)=true->∀r∈l,r.vv.closed=true:=λl=>by
     induction l with
     |nil=>intro _ r hr;cases hr
     |cons a l ih =>
      intro hh r hr;rw[jcu]at hh;simp only[V.closed.closedL,V.closed,Jz,Ql]at hh
      rcases Q9.1 hr with rfl|hr
      ·exact hh.1
      ·exact ih hh.2 r hr
    exact this _ hcl r hrm
  obtain⟨q3,e3⟩:=hg.v r hrm;refine⟨?_,(hx r hrm).2,?_⟩
  ·rw[e3]at hcr ⊢;cases q3 with
   |full=>exact .inr (.inr rfl)
   |unk=>exact .inr (.inl rfl)
   |tok k e w=>simp[V.closed]at hcr
  ·obtain⟨g1,g2,_⟩:=hg.g r hrm;cases hp:t.s.pub with
   |true=>have:=g1 hp;simp only[In64];show _/\_;have e:r.own=0:=this;omega
   |false=>have:=g2 hp;simp only[In64];have e:1<=r.own/\r.own<=5:=this;omega
theorem BaseG.weak(h:BaseG cs tbs):BaseG cs (tbs.map jeg):=by
 have e:(tbs.map jeg).map (·.s)=(tbs.map (·.s)).map jgC:=by rw[Vp,Vp];rfl
 refine⟨?_,?_,?_⟩
 ·rw[e];refine⟨h.k.all,h.k.five,by have:=h.k.n;simpa using this,by have:=h.k.l;simpa using this,λi hi => ?_⟩;have hi2:i<(tbs.map (·.s)).length:=by simpa using hi
  have k:=h.k.at' i hi2;have e3:((tbs.map (·.s)).map jgC).getD i Sch.none=jgC ((tbs.map (·.s)).getD i Sch.none):=by simp only[List.getD,J5,K3 hi2,K6,Ks]
  rw[e3];refine⟨k.nm,k.sub,k.ne,k.le,k.pb,?_⟩;obtain⟨q,hq⟩:=k.row;exact⟨q.weak,by show V.weak _=_;rw[hq];simp only[V.weak,jcM ((k.sub.kits h.k.all h.k.five).ok)];rfl⟩
 ·intro t ht;obtain⟨t0,h0,rfl⟩:=Jg.1 ht;obtain⟨g,hl⟩:=h.r t0 h0;refine⟨⟨λr hr => ?_,λr hr => ?_,λhp o => ?_⟩,by simpa[jeg]using hl⟩
  ·obtain⟨r0,hr0,rfl⟩:=Jg.1 hr;obtain⟨q,hq⟩:=g.v r0 hr0;exact⟨q.weak,by show V.weak _=_;rw[hq];simp only[V.weak,jex];rfl⟩
  ·obtain⟨r0,hr0,rfl⟩:=Jg.1 hr;exact g.g r0 hr0
  ·show(cnt o ((t0.rows.map jnv).map Rw.pl):Int)<=_;rw[jtp];exact g.m hp o
 ·intro t ht;obtain⟨t0,h0,rfl⟩:=Jg.1 ht
  rcases h.v t0 h0 with⟨e1,e2⟩|⟨q,e1⟩
  ·exact .inl ⟨by show V.weak _=_;rw[e1];rfl,by show List.map _ _=_;rw[e2];rfl⟩
  ·exact .inr ⟨q.weak,by show V.weak _=.row (jcp (t0.rows.map jnv)) (t0.rows.map jnv).length _;rw[e1];simp only[V.weak,jiK,Q1]⟩
theorem jnw:∀{l:List Tb},V.closed.closedL (jcv l)=true->∀t∈l,t.s.cv.closed=true/\t.rv.closed=true
 | [],_,t,ht=>by cases ht
 |x::l,h,t,ht=>by
  rw[jdL]at h;simp only[V.closed.closedL,V.closed,Jz,Ql]at h
  rcases Q9.1 ht with rfl|ht
  ·exact⟨h.1,h.2.1⟩
  ·exact jnw h.2.2 t ht
theorem BaseG.bok(h:BaseG cs tbs){q:RCap}(hc:(V.row (jcv tbs) tbs.length q).closed=true):BOK (.row (jcv tbs) tbs.length q) tbs:=by
 have hq:(q=.unk\/q=.full)/\V.closed.closedL (jcv tbs)=true:=by
  cases q with
  |full=>exact⟨.inr rfl,by simpa[V.closed]using hc⟩
  |unk=>exact⟨.inl rfl,by simpa[V.closed]using hc⟩
  |tok k e w=>simp[V.closed]at hc
 have hl:=h.len;exact⟨.inr ⟨q,hq.1,rfl⟩,λt ht=>h.tok ht (jnw hq.2 t ht).1 (jnw hq.2 t ht).2,by omega⟩
theorem jd7(tbs:List Tb)(q:RCap):(V.row (jcv tbs) tbs.length q).weak=.row (jcv (tbs.map jeg)) (tbs.map jeg).length q.weak:=by simp only[V.weak,jiL,Q1]
theorem BaseG.bokW(h:BaseG cs tbs)(q:RCap):BOK (.row (jcv (tbs.map jeg)) (tbs.map jeg).length q.weak) (tbs.map jeg):=by
 have hw:=h.weak;have hl:=hw.len;refine⟨.inr ⟨q.weak,by cases q<;>simp[RCap.weak],rfl⟩,λt ht => ?_,by omega⟩;obtain⟨t0,h0,rfl⟩:=Jg.1 ht;refine hw.tok ht ?_ ?_
 ·obtain⟨⟨q1,e⟩,ok,_⟩:=h.sch h0;show V.closed (V.weak _)=true;rw[e];exact ja4 (jox ok q1) ok
 ·show V.closed (V.weak _)=true
  rcases h.v t0 h0 with⟨e,_⟩|⟨q1,e⟩
  ·rw[e];rfl
  ·rw [e]
   have:∀l:List Rw,(∀r∈l,∃q,r.vv=.row (r.vs.map (V.int .i64)) r.vs.length q)->V.closed.closedL (V.weak.weakL (jcp l))=true:=λl=>by
    induction l with
    |nil=>intro _;rfl
    | cons a l ih =>
     intro hh;obtain⟨q2,e2⟩:=hh a (by simp);rw[jcu]
     have e3:V.closed (V.weak a.vv)=true:=by
      rw[e2]
      have:W.IsI (V.weak (.row (a.vs.map (V.int .i64)) a.vs.length q2)) a.vs:=by
       cases q2 with
       |full=>exact .inr (.inr (by simp only[V.weak,jex,RCap.weak]))
       |unk=>exact .inr (.inl (by simp only[V.weak,jex,RCap.weak]))
       |tok k e w=>exact .inr (.inl (by simp only[V.weak,jex,RCap.weak]))
      exact W.closed_I this
     simp only[V.weak.weakL,V.weak,V.closed.closedL,V.closed,Jz,e3,ih λr hr=>hh r (by simp[hr])]
   have e4:=this _ (h.r t0 h0).1.v;cases q1<;>simp[V.weak,V.closed,RCap.weak,e4]
end
open B (TOK BOK InC FitQ jf7 sv vpQ tbN VR jnN)
section
variable {cs:List Col}{tbs:List Tb}{Q:Qy}{ev wv rv:V}{fe:Int}
theorem jkG(h:BaseG cs tbs):sv (tbs.map jeg)=sv tbs:=by
 unfold sv;rw[Vp];refine List.map_congr_left λt ht => ?_
 obtain⟨⟨q,e⟩,ok,_⟩:=h.sch ht;show({ jgC t.s with cv:=unkV t.s.cv.weak }:Sch)={ t.s with cv:=unkV t.s.cv };rw[e];simp only[V.weak,jcM ok,unkV,jgC]
theorem jhM(h:BaseG cs tbs)(nm:List UInt8):tbN (tbs.map jeg) nm=jeg (tbN tbs nm):=by
 unfold tbN;rw[jkG h];by_cases hl:(jbf (sv tbs) nm (sv tbs).length 0).toNat<tbs.length
 ·simp only[List.getD,J5,K3 hl,K6,Ks]
 ·have h1:tbs[(jbf (sv tbs) nm (sv tbs).length 0).toNat]? = none:=Qg (by omega);simp only[List.getD,J5,h1,V7,Option.getD_none];rfl
theorem juD(h:BaseG cs tbs):vpQ (tbs.map jeg) Q=vpQ tbs Q:=by
 unfold vpQ B.ixL B.ixR;rw[jkG h,jhM h,jhM h];have e:∀t:Tb,(jeg t).rows.map Rw.pl=t.rows.map Rw.pl:=λt=>jtp t.rows
 rw[e,e];rfl
theorem jsW(h:BaseG cs tbs)(n:Nat):jnN (tbs.map jeg) Q n=jnN tbs Q n:=by
 unfold jnN;rw[jhM h];rfl
theorem juE(tbs:List Tb):Fits (tbs.map (·.s)) (sv tbs):=by
 refine⟨by simp[sv],λi hi => ?_⟩;have hi2:i<tbs.length:=by simpa using hi
 have e:(sv tbs).getD i Sch.none=B.cpS ((tbs.map (·.s)).getD i Sch.none):=by simp only[sv,List.getD,J5,K3 hi2,K6,Ks]
 rw[e];exact⟨rfl,rfl,rfl,rfl⟩
theorem joy {s:Sch}:∀(l:List PR) (seen:List Int) (i:Nat),(∀r∈l,RowG s r)->(s.pub=false->∀o,((seen.count o+cnt o l:Nat):Int)<=s.many)->B.rowsE s seen i l=(0,-1)
 | [],_,_,_,_=>rfl
 | r::l,seen,i,hg,hc=>by
  obtain⟨g1,g2,g3,g4⟩:=hg r (by simp)
  have e1:∀o,cnt o (r::l)=cnt o l+if r.1=o then 1 else 0:=λo=>by
   by_cases h:r.1=o<;>simp[cnt,h]
  have hr:B.rowE s seen r=0:=by
   unfold B.rowE;rw[Ke (λq=>q g3),Ke,Ke,Ke]
   ·rintro⟨hp,h2⟩;have:=hc hp r.1;rw[e1,Kh rfl]at this;omega
   ·simp only[Q7,Vt];exact g4
   ·rintro(⟨hp,h2⟩|⟨hp,h2⟩)
    ·exact h2 (g1 hp)
    ·have:=g2 hp;omega
  simp only[B.rowsE];rw[Kh hr];refine joy l _ _ (λx hx=>hg x (by simp[hx])) λhp o => ?_
  have:=hc hp o;rw[e1]at this;by_cases h:r.1=o
  ·subst h;rw[List.count_cons_self];rw[Kh rfl]at this;omega
  ·rw[X1 h];rw[Ke h]at this;omega
theorem jwA(h:BaseG cs tbs){t:Tb}(ht:t∈tbs):(B.Tb.tabE t).1=0:=by
 obtain⟨i,hi,_,k⟩:=h.kit ht;obtain⟨hg,hl⟩:=h.r t ht;have hn:=h.len
 have hc:(jc7 t.s.name t.s.pub t.s.many t.s.cs).1=0:=by
  refine jf5 (by rw[k.nm];exact jna (by omega)) ?_ ⟨k.ne,by have:=k.le;omega⟩ λj hj=>joj k.sub h.k.all h.k.five hj
  rcases k.pb with⟨a,b,_⟩|⟨a,b,c⟩
  ·exact .inl ⟨a,b⟩
  ·exact .inr ⟨a,b,by omega⟩
 unfold B.Tb.tabE B.tabE
 rw[Ke (λq=>q hc),Ke (by simp;omega),joy _ _ _ (λr hr=>by obtain⟨r0,h0,rfl⟩:=Jg.1 hr;exact hg.g r0 h0) λhp o=>by
  have:=hg.m hp o;simpa using this]
theorem joz:∀(l:List Tb) (i:Nat),(∀t∈l,(B.Tb.tabE t).1=0)->B.tabsE i l=(0,-1,-1)
 | [],_,_=>rfl
 |t::l,i,h=>by
  simp only[B.tabsE];rw[Kh (h t (by simp))];exact joz l _ λx hx=>h x (by simp[hx])
theorem jrU(h:BaseG cs tbs):(allE (sv tbs)).1=0/\(jf7 tbs).1=0:=by
 have ha:(allE (sv tbs)).1=0:=juf h.k (juE tbs) (.inl (by simp[sv]));refine⟨ha,?_⟩;unfold jf7;rw[Ke (λq=>q ha),joz _ _ λt ht=>jwA h ht]
theorem hk41:env.hook 41=some (jcj B.env 41):=rfl
theorem jtq(h:BaseG cs tbs){q:RCap}(hQ:WQ Q ev wv rv)(hf:K.Fac Q.factor fe)(hF:FitQ tbs Q fe):∃u,VR (jnN tbs Q (tbN tbs Q.table).s.cs.length) (vpQ tbs Q).view u/\∀U,jai env (Go.Ab.ev env) 41 [.row (jcv tbs) tbs.length q,.agg (Q.cells ev wv rv)] U=some (u,U):=by
 by_cases hc:([.row (jcv tbs) tbs.length q,.agg (Q.cells ev wv rv)]:List V).all V.closed=true
 ·have hc2:=hc;simp only[Ku,Qj,Qr,Ql]at hc2;obtain⟨u,hu,hcall⟩:=B.view_call (h.bok hc2.1) (hQ.qv (jjL hc2.2)) hf;exact⟨u,hu.1 hF,λU=>jtf hk41 hcall _ U⟩
 ·have hn:([.row (jcv tbs) tbs.length q,.agg (Q.cells ev wv rv)]:List V).all V.closed=false:=by simpa using hc
  obtain⟨u,hu,hcall⟩:=B.view_call (h.bokW q) hQ.weak hf
  have hF2:FitQ (tbs.map jeg) Q fe:=by
   refine⟨(jrU h.weak).2,?_⟩;rw[jkG h];exact hF.2
  have hu:=hu.1 hF2;rw[juD h,jsW h,jhM h]at hu;have hb:=h.bokW q;have h1:=hQ.weak.closed;refine⟨u,hu,λU=>jtf hk41 (λU => ?_) _ U⟩;rw[jeH rfl rfl hn (by simp only[K4,Jq,Ku,Qj,jhL hQ,h1,jd7,hb.closed,K2]) U];simp only[K4,Jq,jhL hQ,jd7];exact hcall U
end
open B (TOK BOK sv svV cpS)
theorem at60:env.P.funcs[60]? = some Tryz.f60:=by kernel_rfl
theorem at65:env.P.funcs[65]? = some Tryz.f65:=by kernel_rfl
theorem at66:env.P.funcs[66]? = some Tryz.f66:=by kernel_rfl
theorem jy7(t:Tb):rowO env 24 1 [(0,.agg [.str t.s.name,.bool t.s.pub,.int .i64 t.s.many,t.s.cv])]=some (.row [.str t.s.name,.bool t.s.pub,.int .i64 t.s.many,t.s.cv] 1 .full):=by kernel_rfl
theorem jiM(h:List AObj):∀{l:List Tb},(∀t∈l,IsC t.s.cv t.s.cs/\OkC t.s.cs)->(jbo (l.map (·.s))).mapM (jaO h 11)=some (jbo (sv l))
 | [],_=>rfl
 | t::l,ok=>by
  obtain⟨hv,hc⟩:=ok t (by simp)
  have hs:jaO h 11 t.s.cv=some (unkV t.s.cv):=by
   rcases hv with⟨e,_⟩|⟨q,_,e⟩<;>rw[e]
   ·rfl
   ·show jaO h (10+1) (.row _ _ _)=_;rw[jbb,show(10:Nat)=8+2 from rfl,jdI h 8 hc];rfl
  have e2:sv (t::l)=cpS t.s::sv l:=rfl;rw[K4,e2,jch,jch,jam,jam,jam,jam,jiM h (l:=l) λx hx=>ok x (by simp[hx]),hs,jbM,jav,jaA];rfl
theorem jrV(h:List AObj)(a b c d e:V)(r:List V):jab h 4 (.rptr (a::b::c::d::e::r))=some [a,b,c,d]:=by simp[jab]
section
variable {v:V}{l:List Tb}
theorem jfU(h:BOK v l)(U:S):jai env (ev env) 34 [v] U=some (svV l,U):=by
 refine jal rfl rfl (by simp[h.closed]) at34 rfl (by simp[Tryz.f34]) (by simp[Tryz.f34]) (jah ?_) U;have hlim:lim=2^40:=rfl;have hl:=h.l;have hB:=jrv h.v 79;simp only[Tryz.f34,Ka,simprocAttr,Ys,Y0,Kc,Vq,jak,ty7,uq];refine jay (λm T D U=>D=[]/\T 0=v/\∃(L:List AObj) (ts:List Nat) (i:Nat) (u:V),U=⟨L,ts⟩/\T 3=u/\T 4=.int .i64 i/\i<=l.length/\m=l.length-i/\GrowV 0 ts 4 u i (jbo ((l.take i).map (·.s)))/\(i=0->u=.nilsl)) ?_ (l.length-0) _ _ _ ⟨rfl,rfl,[],[],0,.nilsl,rfl,rfl,rfl,Qm _,rfl,.nil,λ_=>rfl⟩;rintro m T D U ⟨rfl,t0,L,ts,i,u,rfl,t3,t4,hi,rfl,g,g0⟩;refine jah ?_;by_cases hlt:i<l.length
 ·have c1:(i:Int)<(l.length:Int):=by omega
  have e1:=wS i (by omega)
  have hx:=jkq h.v hlt;have ht:=h.at hlt;have hr:=jy7 (l.getD i Tb.none)
  obtain⟨v',ts',hA,g',_⟩:=GrowV.push (E:=env) (hp:=L) (q:=.full) (new:=[.str (l.getD i Tb.none).s.name,.bool (l.getD i Tb.none).s.pub,.int .i64 (l.getD i Tb.none).s.many,(l.getD i Tb.none).s.cv]) eS ⟨38,eS.slice⟩ g (Qm _) rfl
   (by rcases ht.cv with⟨e,_⟩|⟨q,_,e⟩<;>rw[e]<;>rfl) ⟨by rw[hlim];omega,by rw[hlim];omega⟩
  simp only[Ka,simprocAttr,Ys,Y0,Kc,Vq,-Ys,ty7,uq,al1,jaH,Qk,Kv,t0,t3,t4,c1,e1,hB,hx,jrV,jar,hr,hA];refine⟨l.length-(i+1),by omega,L,ts',i+1,v',rfl,rfl,rfl,by omega,rfl,?_,λh=>by omega⟩;rw[B.take_next Tb.none hlt];have e:jbo ((l.take i++[l.getD i Tb.none]).map (·.s))=jbo ((l.take i).map (·.s))++[.str (l.getD i Tb.none).s.name,.bool (l.getD i Tb.none).s.pub,.int .i64 (l.getD i Tb.none).s.many,(l.getD i Tb.none).s.cv]:=by simp[jbo,Sch.cells]
  rw[e];exact g'
 ·have hie:i=l.length:=by omega
  subst hie;have c1:((l.length:Int)<(l.length:Int))=False:=eq_false (by omega);simp only[Ka,simprocAttr,Ys,Y0,Kc,Vq,-Ys,ty7,uq,t0,t3,t4,c1,hB];rw[Jn]at g;have hs:=jiM L (l:=l) λt ht=>⟨(h.t t ht).cv,(h.t t ht).ok⟩
  unfold svV;by_cases hn:l=[]
  ·rw[Kh hn,g0 (by rw[hn];rfl)];rfl
  ·rw[Ke hn];have hp:0<l.length:=Xs.2 hn;obtain⟨q,rfl⟩:=g.isrow hp;show jaO L (11+1) (.row _ _ _)=_;rw[jbb,hs,show(sv l).length=l.length by simp[sv]];rfl
def jfp(nm:List UInt8):List Tb->Bool
 | []=>false
 |t::l=>if t.s.name=nm then !t.s.pub else jfp nm l
theorem jfk(h:BOK v l)(nm:List UInt8)(U:S):jai env (ev env) 65 [v,.str nm] U=some (.bool (jfp nm l),U):=by
 refine jal rfl rfl (by rw[Ku,h.closed];rfl) at65 rfl (by simp[Tryz.f65]) (by simp[Tryz.f65]) (jah ?_) U;have hl:=h.l;have hB:=jrv h.v 79;generalize hr:jfp nm l=r;simp only[Tryz.f65,Ka,simprocAttr,Ys,Y0,Kc,Vq,jak,ty7,uq];refine jay (λm T D U=>D=[]/\T 0=v/\T 1=.str nm/\∃i:Nat,U=⟨[],[]⟩/\T 5=.int .i64 i/\i<=l.length/\m=l.length-i/\jfp nm (l.drop i)=r) ?_ (l.length-0) _ _ _ ⟨rfl,rfl,rfl,0,rfl,rfl,Qm _,rfl,hr⟩;clear hr;rintro m T D U ⟨rfl,t0,t1,i,rfl,t5,hi,rfl,hr⟩;refine jah ?_;by_cases hlt:i<l.length
 ·have c1:(i:Int)<(l.length:Int):=by omega
  have e1:=wS i (by omega)
  have hx:=jkq h.v hlt;rw[show l.drop i=l.getD i Tb.none::l.drop (i+1) by rw[K7 hlt];simp[List.getD,hlt]]at hr;simp only[jfp]at hr;generalize l.getD i Tb.none=t at *;by_cases k:t.s.name=nm
  ·rw[Kh k]at hr;subst hr;have g1:=eq_true k;cases hp:t.s.pub
   all_goals
    simp only[Ka,simprocAttr,Ys,Y0,Kc,Vq,-Ys,ty7,uq,al1,jaH,Qk,Kv,t0,t1,t5,c1,e1,hB,hx,jaq,jaB,g1,hp,Q8,Jl];rfl
  ·rw[Ke k]at hr;have g1:=eq_false k;simp only[Ka,simprocAttr,Ys,Y0,Kc,Vq,-Ys,ty7,uq,al1,jaH,Qk,Kv,t0,t1,t5,c1,e1,hB,hx,jaq,jaB,g1];exact⟨l.length-(i+1),by omega,i+1,rfl,by omega,rfl,hr⟩
 ·have hie:i=l.length:=by omega
  subst hie;have c1:((l.length:Int)<(l.length:Int))=False:=eq_false (by omega);rw[Xu]at hr;simp only[jfp]at hr;subst hr;simp only[Ka,simprocAttr,Ys,Y0,Kc,Vq,-Ys,ty7,uq,t0,t1,t5,c1,hB];rfl
end
open W (jlt idx_I closed_I)
theorem jrW {xv yv:V}{xs ys:List Int}(hx:W.IsI xv xs)(hy:W.IsI yv ys)(hl:xs.length<=100000)(U:S):jai env (ev env) 60 [xv,yv] U=some (.bool (decide (xs=ys)),U):=by
 refine jal rfl rfl (by rw[Ku,Ku,closed_I hx,closed_I hy];rfl) at60 rfl (by simp[Tryz.f60]) (by simp[Tryz.f60]) (jah ?_) U;have lx:=jlt hx;have ly:=jlt hy;generalize hr:decide (xs=ys)=r;by_cases hn:xs.length=ys.length
 case neg =>
  have c1:((xs.length:Int)=(ys.length:Int))=False:=eq_false (by omega);have:r=false:=by rw[<- hr];exact decide_eq_false λe=>hn (by rw[e])
  subst this;simp only[Tryz.f60,Ka,simprocAttr,Ys,Y0,Kc,Vq,-Ys,jak,ty7,uq,lx,ly,c1,not_true_eq_false,Qx];rfl
 have c1:((xs.length:Int)=(ys.length:Int))=True:=eq_true (by omega);simp only[Tryz.f60,Ka,simprocAttr,Ys,Y0,Kc,Vq,-Ys,jak,ty7,uq,lx,ly,c1,not_true_eq_false,Qx];refine jay (λm T D U=>D=[]/\T 0=xv/\T 1=yv/\∃i:Nat,U=⟨[],[]⟩/\T 5=.int .i64 i/\i<=xs.length/\m=xs.length-i/\decide (xs.drop i=ys.drop i)=r) ?_ (xs.length-0) _ _ _ ⟨rfl,rfl,rfl,0,rfl,rfl,Qm _,rfl,hr⟩;clear hr;rintro m T D U ⟨rfl,t0,t1,i,rfl,t5,hi,rfl,hr⟩;refine jah ?_;by_cases hlt:i<xs.length
 ·have c1:(i:Int)<(xs.length:Int):=by omega
  have e1:=wS i (by omega)
  have ix:=idx_I hx hlt;have iy:=idx_I hy (show i<ys.length by omega);rw[K7 hlt,K7 (show i<ys.length by omega),show xs[i]=xs.getD i 0 by simp[List.getD,hlt],show ys[i]=ys.getD i 0 by simp[List.getD,show i<ys.length by omega]]at hr;by_cases k:xs.getD i 0=ys.getD i 0
  ·have g1:=eq_true k;simp only[Ka,simprocAttr,Ys,Y0,Kc,Vq,-Ys,ty7,uq,t0,t1,t5,c1,e1,lx,ix,iy,jaq,g1,not_true_eq_false,Qx];refine⟨by kernel_rfl,xs.length-(i+1),by omega,i+1,rfl,by omega,rfl,?_⟩;rw[<- hr,k];simp
  ·have g1:=eq_false k;have:r=false:=by rw[<- hr];exact decide_eq_false λe=>k (List.cons.inj e).1
   subst this;simp only[Ka,simprocAttr,Ys,Y0,Kc,Vq,-Ys,ty7,uq,t0,t1,t5,c1,e1,lx,ix,iy,jaq,g1,not_true_eq_false,Qx];exact⟨by kernel_rfl,rfl⟩
 ·have hie:i=xs.length:=by omega
  subst hie;have c1:((xs.length:Int)<(xs.length:Int))=False:=eq_false (by omega);rw[Xu,show xs.length=ys.length from hn,Xu]at hr;have:r=true:=by rw[<- hr];rfl
  subst this;simp only[Ka,simprocAttr,Ys,Y0,Kc,Vq,-Ys,ty7,uq,t0,t1,t5,c1,lx];rfl
def jeY(nm:List UInt8):List Tb->Int->Int
 | [],m=>m
 |t::l,m=>jeY nm l (if t.s.name=nm/\m=0 then t.s.many else m)
section
variable {v:V}{l:List Tb}{Q:Qy}{ev' wv rv:V}
theorem jl1(h:BOK v l)(hQ:K.QV Q ev' wv rv){mm:Int}(hm:mm=jeY Q.table l Q.keep*max 1 Q.limit)(hw:IntKind.i64.wrap mm=mm)(U:S):jai env (ev env) 66 [v,.agg (Q.cells ev' wv rv)] U=some (.int .i64 mm,U):=by
 refine jal rfl rfl (by rw[Ku,Ku,h.closed,hQ.closed];rfl) at66 rfl (by simp[Tryz.f66]) (by simp[Tryz.f66]) (jah ?_) U;have hl:=h.l;have hB:=jrv h.v 79;have ld:=K.ld30 (Q:=Q) (ev:=ev') (wv:=wv) (rv:=rv) (L:=[K.qc30 Q ev' wv rv]) (b:=0) rfl;unfold Qy.cells at *;simp only[Tryz.f66,Ka,simprocAttr,Ys,Y0,Kc,Vq,-Ys,jak,ty7,uq,al1,fo30,YW];generalize hr:jeY Q.table l Q.keep=r;rw[hr]at hm;refine jay (λm T D U=>D=[]/\T 0=v/\T 3=.ptr 0 0/\∃(i:Nat) (m0:Int),U=⟨[K.qc30 Q ev' wv rv],[]⟩/\T 5=.int .i64 m0/\T 6=.int .i64 i/\i<=l.length/\m=l.length-i/\jeY Q.table (l.drop i) m0=r) ?_ (l.length-0) _ _ _ ⟨rfl,rfl,rfl,0,Q.keep,rfl,rfl,rfl,Qm _,rfl,hr⟩;clear hr;rintro m T D U ⟨rfl,t0,t3,i,m0,rfl,t5,t6,hi,rfl,hr⟩;refine jah ?_;have q0:([K.qc30 Q ev' wv rv]:List AObj)[0]? = some (K.qc30 Q ev' wv rv):=rfl;generalize [K.qc30 Q ev' wv rv]=L at *;by_cases hlt:i<l.length
 ·have c1:(i:Int)<(l.length:Int):=by omega
  have e1:=wS i (by omega)
  have hx:=jkq h.v hlt;rw[show l.drop i=l.getD i Tb.none::l.drop (i+1) by rw[K7 hlt];simp[List.getD,hlt]]at hr;simp only[jeY]at hr;generalize l.getD i Tb.none=t at *;by_cases k:t.s.name=Q.table
  ·have g1:=eq_true k;by_cases k2:m0=0
   ·have g2:=eq_true k2;rw[Kh ⟨k,k2⟩]at hr;simp only[Ka,simprocAttr,Ys,Y0,Kc,Vq,-Ys,ty7,uq,al1,fo30,jaH,Qk,Kv,t0,t3,t5,t6,c1,e1,hB,hx,jaq,q0,jaB,g1,g2];exact⟨by kernel_rfl,l.length-(i+1),by omega,i+1,t.s.many,rfl,rfl,by omega,rfl,hr⟩
   ·have g2:=eq_false k2;rw[Ke λq=>k2 q.2]at hr;simp only[Ka,simprocAttr,Ys,Y0,Kc,Vq,-Ys,ty7,uq,al1,fo30,jaH,Qk,Kv,t0,t3,t5,t6,c1,e1,hB,hx,jaq,q0,jaB,g1,g2];exact⟨by kernel_rfl,l.length-(i+1),by omega,i+1,m0,rfl,rfl,by omega,rfl,hr⟩
  ·have g1:=eq_false k;rw[Ke λq=>k q.1]at hr;simp only[Ka,simprocAttr,Ys,Y0,Kc,Vq,-Ys,ty7,uq,al1,fo30,jaH,Qk,Kv,t0,t3,t5,t6,c1,e1,hB,hx,jaq,q0,jaB,g1];exact⟨by kernel_rfl,l.length-(i+1),by omega,i+1,m0,rfl,rfl,by omega,rfl,hr⟩
 ·have hie:i=l.length:=by omega
  subst hie;have c1:((l.length:Int)<(l.length:Int))=False:=eq_false (by omega);rw[Xu]at hr;simp only[jeY]at hr;subst hr;subst hm;simp only[Ka,simprocAttr,Ys,Y0,Kc,Vq,-Ys,ty7,uq,al1,fo30,t0,t3,t5,t6,c1,hB,jaq,q0];rw[show(if Q.limit>1 then Q.limit else 1)=max 1 Q.limit by split<;>omega,hw];rfl
end
open B (TOK BOK sv svV cpS vpQ tbN FitQ jf7)
theorem jjM(nm:List UInt8):∀l:List Tb,jfp nm (l.map jeg)=jfp nm l
 | []=>rfl
 |t::l=>by
  rw[K4];simp only[jfp,jjM nm l,jeg,jgC]
theorem jjN(nm:List UInt8):∀(l:List Tb) (m:Int),jeY nm (l.map jeg) m=jeY nm l m
 | [],_=>rfl
 |t::l,m=>by
  show jeY nm (l.map jeg) (if t.s.name=nm/\m=0 then t.s.many else m)=_;rw[jjN nm l];rfl
theorem joA {nm:List UInt8}:∀(l:List Tb) (i:Nat),i<l.length->(l.getD i Tb.none).s.name=nm->(∀k,k<l.length->(l.getD k Tb.none).s.name=nm->k=i)->jfp nm l = !(l.getD i Tb.none).s.pub
 | [],i,h,_,_=>by simp at h
 |t::l,0,_,hn,_=>by
  simp only[jfp,X9]at hn ⊢;rw[Kh hn]
 |t::l,i+1,hi,hn,hu=>by
  have h0:¬t.s.name=nm:=λe=>by have:=hu 0 (by simp) e;omega
  simp only[jfp,Xh]at hn ⊢;rw[Ke h0];exact joA l i (by simpa using hi) hn λk hk e=>by have:=hu (k+1) (by simpa using hk) e;omega
theorem jjO {nm:List UInt8}:∀(l:List Tb) (m:Int),(∀t∈l,t.s.name ≠ nm)->jeY nm l m=m
 | [],_,_=>rfl
 |t::l,m,h=>by
  simp only[jeY];rw[Ke λq=>h t (by simp) q.1];exact jjO l m λx hx=>h x (by simp[hx])
theorem joB {nm:List UInt8}:∀(l:List Tb) (i:Nat) (m:Int),i<l.length->(l.getD i Tb.none).s.name=nm->(∀k,k<l.length->(l.getD k Tb.none).s.name=nm->k=i)->jeY nm l m=if m=0 then(l.getD i Tb.none).s.many else m
 | [],i,_,h,_,_=>by simp at h
 | t::l,0,m,_,hn,hu=>by
  simp only[jeY,X9]at hn ⊢
  rw[jjO l _ λx hx e=>by
   obtain⟨k,hk,e2⟩:=Jp hx;have:=hu (k+1) (by simpa using hk) (by rw[Xh,show l.getD k Tb.none=x by simp[List.getD,hk,e2]];exact e);omega]
  simp only[hn,true_and]
 |t::l,i+1,m,hi,hn,hu=>by
  have h0:¬t.s.name=nm:=λe=>by have:=hu 0 (by simp) e;omega
  simp only[jeY,Xh]at hn ⊢;rw[Ke λq=>h0 q.1];exact joB l i m (by simpa using hi) hn λk hk e=>by have:=hu (k+1) (by simpa using hk) e;omega
theorem jsX {i k:Nat}(hi:i<3)(hk:k<3)(e:tabs.getD i []=tabs.getD k []):i=k:=by
 match i,k,hi,hk with
 |0,0,_,_=>rfl
 |1,1,_,_=>rfl
 |2,2,_,_=>rfl
 |0,1,_,_=>exact absurd e (by decide)
 |0,2,_,_=>exact absurd e (by decide)
 |1,0,_,_=>exact absurd e (by decide)
 |1,2,_,_=>exact absurd e (by decide)
 |2,0,_,_=>exact absurd e (by decide)
 |2,1,_,_=>exact absurd e (by decide)
section
variable {cs:List Col}{tbs:List Tb}{Q:Qy}{ev wv rv:V}{fe:Int}{q:RCap}
theorem jnx(h:BaseG cs tbs)(U:S):jai env (Go.Ab.ev env) 34 [.row (jcv tbs) tbs.length q] U=some (.row (jbo (sv tbs)) (sv tbs).length .unk,U):=by
 have hl:=h.len
 have hne:∀l:List Tb,1<=l.length->svV l=.row (jbo (sv l)) (sv l).length .unk:=λl hl=>by
  unfold svV;rw[Ke (λe=>by rw[e]at hl;simp at hl)]
 refine jkm rfl rfl (λhc U => ?_) ?_ (λU => ?_) U
 ·simp only[Ku,Qj,Qr]at hc;rw[jfU (h.bok hc),hne _ hl.1]
 ·simp only[K4,Jq,Ku,Qj,jd7,(h.bokW q).closed,K2]
 ·simp only[K4,Jq,jd7];rw[jfU (h.bokW q),hne _ (by simpa using hl.1),jkG h]
theorem jwB(h:BaseG cs tbs)(nm:List UInt8)(U:S):jai env (Go.Ab.ev env) 65 [.row (jcv tbs) tbs.length q,.str nm] U=some (.bool (jfp nm tbs),U):=by
 refine jkm rfl rfl (λhc U => ?_) ?_ (λU => ?_) U
 ·simp only[Ku,Qj,Qr,Ql]at hc;exact jfk (h.bok hc.1) nm U
 ·simp only[K4,Jq,Ku,Qj,jd7,(h.bokW q).closed,K2];rfl
 ·simp only[K4,Jq,jd7];rw[<- jjM];exact jfk (h.bokW q) nm U
theorem jwC(h:BaseG cs tbs)(hQ:WQ Q ev wv rv){mm:Int}(hm:mm=jeY Q.table tbs Q.keep*max 1 Q.limit)(hw:IntKind.i64.wrap mm=mm)(U:S):jai env (Go.Ab.ev env) 66 [.row (jcv tbs) tbs.length q,.agg (Q.cells ev wv rv)] U=some (.int .i64 mm,U):=by
 refine jkm rfl rfl (λhc U => ?_) ?_ (λU => ?_) U
 ·simp only[Ku,Qj,Qr,Ql]at hc;exact jl1 (h.bok hc.1) (hQ.qv (jjL hc.2)) hm hw U
 ·have h1:=hQ.weak.closed;simp only[K4,Jq,Ku,Qj,jhL hQ,h1,jd7,(h.bokW q).closed,K2]
 ·simp only[K4,Jq,jd7,jhL hQ];exact jl1 (h.bokW q) hQ.weak (by rw[jjN];exact hm) hw U
theorem BaseG.kitSv(h:BaseG cs tbs):KitL cs (sv tbs):=by
 refine⟨h.k.all,h.k.five,by have:=h.k.n;simpa[sv]using this,by have:=h.k.l;simpa[sv]using this,λi hi => ?_⟩;have hi2:i<(tbs.map (·.s)).length:=by simpa[sv]using hi
 have hi3:i<tbs.length:=by simpa using hi2
 have k:=h.k.at' i hi2;have e:(sv tbs).getD i Sch.none=cpS ((tbs.map (·.s)).getD i Sch.none):=by simp only[sv,List.getD,J5,K3 hi3,K6,Ks]
 rw[e];refine⟨k.nm,k.sub,k.ne,k.le,k.pb,?_⟩;obtain⟨q,hq⟩:=k.row;exact⟨.unk,by show unkV _=_;rw[hq];rfl⟩
theorem jwD(h:BaseG cs tbs)(g:jiv (sv tbs) Q):FitQ tbs Q 0/\FitQ tbs { Q with wh:=[] } 0:=by
 obtain⟨ha,hb⟩:=jrU h;refine⟨⟨hb,?_⟩,hb,?_⟩
 ·rw[jrS h.kitSv (jl0 _) ha g]
 ·rw[jpE h.kitSv (jl0 _) ha g (kp:=Q.keep) (.inl rfl)]
theorem joC(h:BaseG cs tbs){nm0:List UInt8}(hs:0<=jbf (sv tbs) nm0 (sv tbs).length 0):tbN tbs nm0∈tbs/\jfp nm0 tbs = !(tbN tbs nm0).s.pub/\(∀m,jeY nm0 tbs m=if m=0 then(tbN tbs nm0).s.many else m):=by
 obtain⟨i,hi1,hi2,hi3,hi4,hi5,hi6⟩:=B.tbN_spec hs;have hl:=h.len
 have nm:∀k,k<tbs.length->(tbs.getD k Tb.none).s.name=tabs.getD k []:=λk hk=>by
  have k2:=(h.k.at' k (by simpa using hk)).nm;rw[<- k2];simp only[List.getD,J5,K3 hk,K6,Ks]
 rw[hi3]at hi6;have hu:∀k,k<tbs.length->(tbs.getD k Tb.none).s.name=nm0->k=i:=λk hk e=>jsX (by omega) (by omega) (by rw[<- nm k hk,<- nm i hi2,e,hi6])
 refine⟨hi5,?_,λm => ?_⟩
 ·rw[hi3];exact joA tbs i hi2 hi6 hu
 ·rw[hi3];exact joB tbs i m hi2 hi6 hu
end
end Go.Proofs.YtajaampgajieeaaGreatDoor.N
