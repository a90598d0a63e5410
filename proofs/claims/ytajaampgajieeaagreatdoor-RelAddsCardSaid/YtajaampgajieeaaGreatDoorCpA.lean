/- Proved here: what is drawn is in order; views of it. Conditions: each theorem's own. -/
import Derived.Test.YtajaampgajieeaaGreatDoorBsA
import Derived.Test.YtajaampgajieeaaGreatDoorRnA
import Derived.Test.YtajaampgajieeaaGreatDoorVxA
set_option linter.unusedSimpArgs false
set_option maxHeartbeats 16000000
set_option maxRecDepth 1000000
set_option linter.unusedVariables false
set_option linter.unusedSectionVars false
namespace Go.Proofs.YtajaampgajieeaaGreatDoor.N
open Go.Ab
section
variable {cs:List Col}{ss ss':List Sch}
theorem jkW(h:KitL cs ss)(f:Fits ss ss'){i:Nat}(hi:i<ss.length):jbe ss' (ss.getD i Sch.none).name ss'.length 0=i:=by
 have hl:=h.l;have hle:=f.le;have hn:=(h.at' i hi).nm;unfold jbe
 rcases je5 (λk=>decide ((ss'.getD k Sch.none).name=(ss.getD i Sch.none).name)) ss'.length 0 with e|⟨j,e,_,h2,h3,h4⟩
 ·exfalso
  have:(0:Int)<=jbN (λk=>decide ((ss'.getD k Sch.none).name=(ss.getD i Sch.none).name)) ss'.length 0:=(jdh _ _ _).2 ⟨i,by omega,by omega,by simpa using(f.eq i hi).1⟩;omega
 ·rw[e];by_cases h5:i<j
  ·have:=h4 i (by omega) h5;simp only[decide_eq_false_iff_not]at this;exact absurd (f.eq i hi).1 this
  ·by_cases h6:j=i
   ·rw[h6]
   ·exfalso
    simp only[Jh]at h3;rw[(f.eq j (by omega)).1,(h.at' j (by omega)).nm,hn]at h3;exact jhW i (by omega) j (by omega) h3
theorem jfV(h:KitL cs ss)(f:Fits ss ss'){i:Nat}(hi:i<ss.length):(schN ss' (ss.getD i Sch.none).name).pub=(ss.getD i Sch.none).pub/\(schN ss' (ss.getD i Sch.none).name).cs=(ss.getD i Sch.none).cs:=by
 unfold schN;rw[jkW h f hi,Kh (by omega),Qj];exact⟨(f.eq i hi).2.1,(f.eq i hi).2.2.2⟩
theorem jmm(h:KitL cs ss){i:Nat}(hi:i<ss.length):∀m,m<=ss.length->jdk (ss.take m) (ss.getD i Sch.none).name=if i<m then(ss.getD i Sch.none).cs else []
 |0,_=>by unfold jdk;simp
 | m+1,hm=>by
  have hn:=h.kb.kit i hi;rw[jhj (by omega) hn.2.2,jmm h hi m (by omega)];by_cases h1:m=i
  ·subst h1;rw[Ke (by omega),Kh rfl,Kh (by omega),Je]
  ·have hl:=h.l;rw[Ke (c:=(ss.getD m Sch.none).name=_) (λe => ?_)]
   ·by_cases h2:i<m
    ·rw[Kh h2,Kh (by omega),Jb]
    ·rw[Ke h2,Ke (by omega),Jb]
   ·rw[(h.at' m (by omega)).nm,(h.at' i hi).nm]at e
    rcases Nat.lt_or_gt_of_ne h1 with h2|h2
    ·exact jhW i (by omega) m h2 e
    ·exact jhW m (by omega) i h2 e.symm
theorem jj3(h:KitL cs ss){i:Nat}(hi:i<ss.length):jdk ss (ss.getD i Sch.none).name=(ss.getD i Sch.none).cs:=by
 have:=jmm h hi ss.length (Kz _);rwa[Jq,Kh hi]at this
structure Bs (ss:List Sch) (i:Nat) (Q:Qy):Prop where
 kind:1<=Q.kind/\Q.kind<=10
 z:Q.ex=[]/\Q.lo=0/\Q.hi=0/\Q.p=0/\Q.q=0/\Q.column=[]/\Q.bound=0/\Q.rg=[]/\Q.strat=0/\Q.cons=false
structure Rt (ss:List Sch) (i:Nat) (Q:Qy):Prop where
 table:Q.table=(ss.getD i Sch.none).name
 keep:Q.keep=0\/(ss.getD i Sch.none).pub=false/\1<=Q.keep/\Q.keep<=4
 join:(Q.other=[]/\Q.left=[]/\Q.right=[]/\Q.limit=0)\/∃j,j<ss.length/\((ss.getD i Sch.none).pub=false\/(ss.getD j Sch.none).pub=true)/\Q.other=(ss.getD j Sch.none).name/\1<=Q.limit/\Q.limit<=3 /\
  ∃a b:Nat,a<(ss.getD i Sch.none).cs.length/\b<(ss.getD j Sch.none).cs.length/\((ss.getD i Sch.none).cs.getD a Col.none).name=((ss.getD j Sch.none).cs.getD b Col.none).name/\Q.left=((ss.getD i Sch.none).cs.getD a Col.none).name/\Q.right=((ss.getD j Sch.none).cs.getD b Col.none).name
 wh:Q.wh=[]\/∃e,WF (jce ss Q) e/\e.kind=1/\e.post.length<=bnd 3/\Q.wh=e.post
 factor:Q.factor∈facs
 bits:1<=Q.bits/\Q.bits<=12
theorem jdE.rt {i:Nat}{Q4 Q:Qy}(h:jdE (jce ss Q4) Q4 Q)(r:Rt ss i Q4):Rt ss i Q:=by
 obtain⟨_,_,_,h⟩:=h;obtain⟨r1,r2,r3,r4,r5,r6⟩:=r
 rcases h with⟨_,rfl⟩|⟨_,_,_,_,_,_,_,_,_,_,_,_,_,_,rfl⟩|⟨_,_,rfl⟩|⟨_,_,_,_,rfl⟩|⟨_,_,_,_,_,_,_,_,rfl⟩|⟨_,rfl⟩<;>exact⟨r1,r2,r3,r4,r5,r6⟩
theorem jiJ.split {Q:Qy}(h:jiJ ss Q):∃i Q4,i<ss.length/\Bs ss i Q4/\Rt ss i Q4/\jdE (jce ss Q4) Q4 Q:=by
 obtain⟨i,k,bt,f,Q2,Q3,Q4,hi,k1,k2,b1,b2,hf,h2,h3,h4,h5⟩:=h
 have a2:Bs ss i Q2/\Rt ss i Q2/\Q2.wh=[]/\(Q2.other=[]/\Q2.left=[]/\Q2.right=[]/\Q2.limit=0):=by
  rcases h2 with rfl|⟨hp,kp,p1,p2,rfl⟩
  ·exact⟨⟨⟨k1,k2⟩,rfl,rfl,rfl,rfl,rfl,rfl,rfl,rfl,rfl,rfl⟩,⟨rfl,.inl rfl,.inl ⟨rfl,rfl,rfl,rfl⟩,.inl rfl,hf,b1,b2⟩,rfl,rfl,rfl,rfl,rfl⟩
  ·exact⟨⟨⟨k1,k2⟩,rfl,rfl,rfl,rfl,rfl,rfl,rfl,rfl,rfl,rfl⟩,⟨rfl,.inr ⟨hp,p1,p2⟩,.inl ⟨rfl,rfl,rfl,rfl⟩,.inl rfl,hf,b1,b2⟩,rfl,rfl,rfl,rfl,rfl⟩
 obtain⟨c1,c2,c3,c4⟩:=a2
 have a3:Bs ss i Q3/\Rt ss i Q3/\Q3.wh=[]:=by
  rcases h3 with rfl|⟨j,hj,hp,rfl|⟨a,b,l,ha,hb,hab,l1,l2,rfl⟩⟩
  ·exact⟨c1,c2,c3⟩
  ·exact⟨c1,c2,c3⟩
  ·exact⟨⟨c1.kind,c1.z⟩,⟨c2.table,c2.keep,.inr ⟨j,hj,hp,rfl,l1,l2,a,b,ha,hb,hab,rfl,rfl⟩,.inl c3,c2.factor,c2.bits⟩,c3⟩
 obtain⟨d1,d2,d3⟩:=a3
 rcases h4 with rfl|⟨e,e1,e2,e3,rfl⟩
 ·exact⟨i,_,hi,d1,d2,h5⟩
 ·exact⟨i,{ Q3 with wh:=e.post },hi,⟨d1.kind,d1.z⟩,⟨d2.table,d2.keep,d2.join,.inr ⟨e,e1,e2,e3,rfl⟩,d2.factor,d2.bits⟩,h5⟩
end
section
variable {ss ss':List Sch}{cs:List Col}{i:Nat}{Q0 Q:Qy}
theorem jfW {m:Nat}(hm:m<cs.length)(hf:jdj cs m):ja6 cs (cs.getD m Col.none).name=m/\colN cs (cs.getD m Col.none).name=cs.getD m Col.none:=by
 have key:ja6 cs (cs.getD m Col.none).name=m:=by
  rcases jcd cs (cs.getD m Col.none).name with e|⟨j,e,h1,h2,h3⟩
  ·exfalso
   have:(0:Int)<=ja6 cs (cs.getD m Col.none).name:=(jdh _ _ _).2 ⟨m,by omega,by omega,by simp⟩;omega
  ·rw[e]
   rcases Vo j m with h|h|h
   ·exact absurd h2 (hf j h)
   ·rw[h]
   ·exact absurd rfl (h3 m h)
 refine⟨key,?_⟩;unfold colN;rw[key,Kh (by omega),Qj]
theorem jsk {c:Col}(h:Kit c):jde c<=64:=by
 obtain⟨j,hj,hn⟩:=h.1;unfold jde;rw[Kh ⟨by rw[hn];exact jkJ hj,jkK h⟩]
 have hb : -3<=c.lo/\c.lo<=c.hi/\c.hi<=20:=by
  rcases h.2.2 with⟨_,a,b,d⟩|⟨k,k1,k2,_,a,b⟩<;>omega
 rw[wrap_i64 (x:=c.hi-c.lo) (by omega) (by omega),wrap_i64 (by omega) (by omega)];omega
theorem jdY(hk:1<=Q.kind/\Q.kind<=10)(h:¬(bad1 Q\/bad2 Q\/bad3 Q\/bad4 Q\/bad5 Q\/bad6 Q)):jhE Q=0:=by
 unfold jhE;rw[Ke (by omega),Ke h]
theorem jmn(hb:Bs ss i Q0)(h:jdE cs Q0 Q):jhE Q=0:=by
 obtain⟨z1,z2,z3,z4,z5,z6,z7,z8,z9,z10⟩:=hb.z;have hk:=hb.kind;obtain⟨m,_,_,h⟩:=h
 rcases h with⟨k,rfl⟩|⟨k,e,lo,w,p,q,_,_,_,_,_,_,_,hp,rfl⟩|⟨k,c,rfl⟩|⟨k,bd,_,_,rfl⟩|⟨k,rg,st,_,_,_,_,_,rfl⟩|⟨k,rfl⟩
 ·refine jdY hk ?_;simp[bad1,bad2,bad3,bad4,bad5,bad6,valK,colK,z1,z2,z3,z4,z5,z6,z7,z8,z9,z10,k]
 ·refine jdY hk ?_
  rcases k with k|k|k
  ·rw[Ke (by omega)]at hp;simp[bad1,bad2,bad3,bad4,bad5,bad6,valK,colK,z1,z2,z3,z4,z5,z6,z7,z8,z9,z10,k,hp]
  ·rw[Ke (by omega)]at hp;simp[bad1,bad2,bad3,bad4,bad5,bad6,valK,colK,z1,z2,z3,z4,z5,z6,z7,z8,z9,z10,k,hp]
  ·simp[bad1,bad2,bad3,bad4,bad5,bad6,valK,colK,z1,z2,z3,z4,z5,z6,z7,z8,z9,z10,k]
 ·refine jdY hk ?_;simp[bad1,bad2,bad3,bad4,bad5,bad6,valK,colK,z1,z2,z3,z4,z5,z6,z7,z8,z9,z10,k]
 ·refine jdY hk ?_;simp[bad1,bad2,bad3,bad4,bad5,bad6,valK,colK,z1,z2,z3,z4,z5,z6,z7,z8,z9,z10,k]
 ·refine jdY hk ?_;simp[bad1,bad2,bad3,bad4,bad5,bad6,valK,colK,z1,z2,z3,z4,z5,z6,z7,z8,z9,z10,k]
 ·refine jdY hk ?_
  rcases k with k|k|k<;>simp[bad1,bad2,bad3,bad4,bad5,bad6,valK,colK,z1,z2,z3,z4,z5,z6,z7,z8,z9,z10,k]
theorem jnV {n:Int}(h : -100<=n/\n<=100):¬far n:=by unfold far;omega
theorem joV(hb:Bs ss i Q0)(h:jdE cs Q0 Q):limE Q=0:=by
 obtain⟨z1,z2,z3,z4,z5,z6,z7,z8,z9,z10⟩:=hb.z;obtain⟨m,_,_,h⟩:=h;unfold limE
 rcases h with⟨k,rfl⟩|⟨k,e,lo,w,p,q,_,_,_,l1,l2,w1,w2,hp,rfl⟩|⟨k,c,rfl⟩|⟨k,bd,b1,b2,rfl⟩|⟨k,rg,st,_,_,_,_,_,rfl⟩|⟨k,rfl⟩
 ·simp[valK,k]
 ·have f1:=jnV (n:=lo) (by omega);have f2:=jnV (n:=lo+w) (by omega);have f3:¬lo+w<lo:=by omega
  have g1:¬(valK Q0.kind/\(far lo\/far (lo+w)\/lo+w<lo)):=λy=>y.2.elim f1 λy=>y.elim f2 f3
  have g2:¬(Q0.kind=5/\(64<=lo+w-lo\/p<1\/q<=p\/100<q)):=by
   rintro⟨k5,y⟩;rw[Kh k5]at hp;omega
  have g3:¬(Q0.kind=7/\far Q0.bound):=by
   rintro⟨y,_⟩;rcases k with k|k|k<;>omega
  show(if valK Q0.kind/\(far lo\/far (lo+w)\/lo+w<lo)then(2:Int)else if Q0.kind=5/\(64<=lo+w-lo\/p<1\/q<=p\/100<q)then 2 else if Q0.kind=7/\far Q0.bound then 2 else 0)=0;rw[Ke g1,Ke g2,Ke g3]
 ·simp[valK,k]
 ·have f1:=jnV (n:=bd) (by omega);simp[valK,k,f1]
 ·simp[valK,k]
 ·rcases k with k|k|k<;>simp[valK,k]
theorem joW(hb:Bs ss i Q0)(h:jdE cs Q0 Q):expE Q cs=0:=by
 have hb3:bnd 3=94:=by decide
 obtain⟨m,_,_,h⟩:=h;unfold expE
 rcases h with⟨k,rfl⟩|⟨k,e,lo,w,p,q,wf,ek,el,l1,l2,w1,w2,hp,rfl⟩|⟨k,c,rfl⟩|⟨k,bd,b1,b2,rfl⟩|⟨k,rg,st,_,_,_,_,_,rfl⟩|⟨k,rfl⟩
 ·rw[Ke (by simp[valK,k])]
 ·rw[Kh k];show jfa e.post cs false=0;rw[Ex.whole wf,Ke (by omega),Kh (by simpa using ek)]
 ·rw[Ke (by simp[valK,k])]
 ·rw[Ke (by simp[valK,k])]
 ·rw[Ke (by simp[valK,k])]
 ·rw[Ke (by rcases k with k|k|k<;>simp[valK,k])]
theorem joX(hk:Kits cs)(hb:Bs ss i Q0)(h:jdE cs Q0 Q):jjc Q cs=0:=by
 obtain⟨m,hm,hf,h⟩:=h;obtain⟨s1,s2⟩:=jfW hm hf;have hw:=jsk (hk (cs.getD m Col.none) (by simp[List.getD,hm]));unfold jjc
 have key:∀q:Qy,q.column=(cs.getD m Col.none).name->(if ¬colK q.kind then(0:Int)else if ¬0<=ja6 cs q.column then 7 else if 64<jde (colN cs q.column)then 2 else 0)=0:=λq e=>by
  rw[e,s1,s2];split
  ·rfl
  ·rw[Ke (by omega),Ke (by omega)]
 rcases h with⟨k,rfl⟩|⟨k,e,lo,w,p,q,wf,ek,el,l1,l2,w1,w2,hp,rfl⟩|⟨k,c,rfl⟩|⟨k,bd,b1,b2,rfl⟩|⟨k,rg,st,_,_,_,_,_,rfl⟩|⟨k,rfl⟩
 ·rw[Kh (by simp[colK,k])]
 ·rcases k with k|k|k
  ·rw[Kh (by simp[colK,k])]
  ·exact key _ (by simp only[k,Kl])
  ·rw[Kh (by simp[colK,k])]
 ·exact key _ rfl
 ·exact key _ rfl
 ·exact key _ rfl
 ·exact key _ rfl
theorem jsl(hb:Bs ss i Q0)(h:jdE cs Q0 Q):rgE Q (colN cs Q.column)=0:=by
 obtain⟨m,hm,hf,h⟩:=h;obtain⟨s1,s2⟩:=jfW hm hf;unfold rgE
 rcases h with⟨k,rfl⟩|⟨k,e,lo,w,p,q,wf,ek,el,l1,l2,w1,w2,hp,rfl⟩|⟨k,c,rfl⟩|⟨k,bd,b1,b2,rfl⟩|⟨k,rg,st,r1,r2,r3,t1,t2,rfl⟩|⟨k,rfl⟩
 ·rw[Kh (by simp[k])]
 ·rw[Kh (by rcases k with k|k|k<;>simp[k])]
 ·rw[Kh (by simp[k])]
 ·rw[Kh (by simp[k])]
 ·rw[Ke (by simp[k]),Ke (by simp only;omega),Ke (by simp only;omega),Ke,Ke (by simp only;omega)];rintro⟨r,hr,h⟩;have:=r3 r hr;simp only[s2]at h;omega
 ·rw[Kh (by rcases k with k|k|k<;>simp[k])]
end
theorem jea:∀{l:List (List UInt8 × Int)},(∀p∈l,p.2=0)->jcg l=(0,[])
 | [],_=>rfl
 |(n,e)::l,h=>by
  have h0:e=0:=h (n,e) (by simp);simp only[jcg];rw[Kh h0];exact jea λp hp=>h p (by simp[hp])
theorem jiX {Q:Qy}{ss:List Sch}{fe:Int}(h0:(allE ss).1=0)(h1:jhE Q=0)(h2:tabE Q ss=0)(h3:jkG Q (schN ss Q.table)=0)(h4:jiB Q ss (schN ss Q.table) (schN ss Q.other)=0)(h5:jiC Q (jaI Q ss)=0)(h6:expE Q (jaI Q ss)=0)(h7:limE Q=0)(h8:jjc Q (jaI Q ss)=0)(h9:rgE Q (colN (jaI Q ss) Q.column)=0)(h10:fe=0)(h11:bitE Q=0):jdJ Q ss fe=(0,[]):=by
 unfold jdJ jfz;refine jea λp hp => ?_
 simp only[Ji,Vt,or_false]at hp
 rcases hp with rfl|rfl|rfl|rfl|rfl|rfl|rfl|rfl|rfl|rfl|rfl|rfl<;>first|assumption|exact Kh h0
section
variable {cs:List Col}{ss ss':List Sch}{i:Nat}{Q0 Q:Qy}
structure Rt2 (ss:List Sch) (i:Nat) (Q:Qy):Prop where
 table:Q.table=(ss.getD i Sch.none).name
 keep:Q.keep=0\/(ss.getD i Sch.none).pub=false/\0<=Q.keep/\Q.keep<=50
 join:(Q.other=[]/\Q.left=[]/\Q.right=[]/\Q.limit=0)\/∃j,j<ss.length/\((ss.getD i Sch.none).pub=false\/(ss.getD j Sch.none).pub=true)/\Q.other=(ss.getD j Sch.none).name/\1<=Q.limit/\Q.limit<=3 /\
  ∃a b:Nat,a<(ss.getD i Sch.none).cs.length/\b<(ss.getD j Sch.none).cs.length/\((ss.getD i Sch.none).cs.getD a Col.none).name=((ss.getD j Sch.none).cs.getD b Col.none).name/\Q.left=((ss.getD i Sch.none).cs.getD a Col.none).name/\Q.right=((ss.getD j Sch.none).cs.getD b Col.none).name
 bits:1<=Q.bits/\Q.bits<=12
theorem Rt.two(r:Rt ss i Q):Rt2 ss i Q:=⟨r.table,r.keep.imp id λh=>⟨h.1,by omega,by omega⟩,r.join,r.bits⟩
theorem jiY(h:KitL cs ss)(hi:i<ss.length){a:Nat}(ha:a<(ss.getD i Sch.none).cs.length):jdj (ss.getD i Sch.none).cs a:=λk hk=>jt1 (h.at' i hi).sub h.all h.five ha hk
theorem jvj(h:KitL cs ss){j a b:Nat}(hi:i<ss.length)(hj:j<ss.length)(ha:a<(ss.getD i Sch.none).cs.length)(hb:b<(ss.getD j Sch.none).cs.length)(e:((ss.getD i Sch.none).cs.getD a Col.none).name=((ss.getD j Sch.none).cs.getD b Col.none).name):((ss.getD i Sch.none).cs.getD a Col.none).ws=((ss.getD j Sch.none).cs.getD b Col.none).ws:=by
 have key:∀{k c:Nat},k<ss.length->c<(ss.getD k Sch.none).cs.length->∃m,m<5/\(ss.getD k Sch.none).cs.getD c Col.none=cpK (cs.getD m Col.none)/\((ss.getD k Sch.none).cs.getD c Col.none).name=ages.getD m []:=by
  intro k c hk hc;obtain⟨js,e1,_,e3⟩:=(h.at' k hk).sub;rw[e1]at hc ⊢;rw[Ja]at hc;have hm:=e3 js[c] (J7 hc);have e2:(js.map λj=>cpK (cs.getD j Col.none)).getD c Col.none=cpK (cs.getD js[c] Col.none):=by simp only[List.getD,Xj,K5 hc,Qh,Ks]
  refine⟨js[c],hm,e2,?_⟩;rw[e2];exact(h.all js[c] (by have:=h.five;omega)).1
 obtain⟨m,m5,x1,x2⟩:=key hi ha;obtain⟨n,n5,y1,y2⟩:=key hj hb;rw[x2,y2]at e
 have:m=n:=by
  rcases Vo m n with h|h|h
  ·exact absurd e (jnC n n5 m h)
  ·exact h
  ·exact absurd e.symm (jnC m m5 n h)
 rw[x1,y1,this]
theorem jmo(h:KitL cs ss)(f:Fits ss ss')(hi:i<ss.length)(r:Rt2 ss i Q):jkG Q (schN ss' Q.table)=0:=by
 unfold jkG;have hp:=(jfV h f hi).1;rw[r.table,hp]
 rcases r.keep with e|⟨e1,e2,e3⟩
 ·rw[Ke (by omega),Ke (λq=>q.1 e)]
 ·rw[Ke (by omega),Ke (λq=>by rw[e1]at q;cases q.2)]
theorem jmp(h:KitL cs ss)(f:Fits ss ss')(hi:i<ss.length)(r:Rt2 ss i Q):jiB Q ss' (schN ss' Q.table) (schN ss' Q.other)=0:=by
 unfold jiB
 rcases r.join with⟨e1,e2,e3,e4⟩|⟨j,hj,hp,e1,l1,l2,a,b,ha,hb,hab,el,er⟩
 ·rw[Kh e1,Ke (by rw[e2,e3,e4];simp)]
 ·have hn:=(h.kb.kit j hj).2.2;obtain⟨p1,c1⟩:=jfV h f hi;obtain⟨p2,c2⟩:=jfV h f hj;have s1:=jfW ha (jiY h hi ha);have s2:=jfW hb (jiY h hj hb);rw[r.table,e1,Ke hn,jkW h f hj,Ke (by omega),p1,p2,Ke,c1,c2,el,er,s1.1,s2.1,Ke (by omega),s1.2,s2.2,Ke (λq=>q (jvj h hi hj ha hb hab)),Ke (by omega)];rintro⟨x,y⟩;rw[x,y]at hp
  rcases hp with hp|hp<;>cases hp
theorem joY(h:KitL cs ss)(f:Fits ss ss')(hi:i<ss.length)(r:Rt2 ss i Q):tabE Q ss'=0:=by
 unfold tabE;rw[r.table,jkW h f hi,Kh (by omega)]
theorem joZ(r:Rt2 ss i Q):bitE Q=0:=by
 have:=r.bits;unfold bitE;rw[Ke (by omega)]
theorem jp9(r:Rt ss i Q):jiC Q (jce ss Q)=0:=by
 have hb3:bnd 3=94:=by decide
 unfold jiC
 rcases r.wh with e|⟨e,wf,ek,el,hw⟩
 ·rw[Kh (by rw[e];rfl)]
 ·split
  ·rfl
  ·rw[hw,Ex.whole wf,Ke (by omega),Kh (by simpa using ek)]
theorem jo0(h:KitL cs ss)(f:Fits ss ss')(hi:i<ss.length)(r:Rt2 ss i Q):jaI Q ss'=jce ss Q:=by
 unfold jaI jce;rw[r.table,(jfV h f hi).2,jj3 h hi]
 rcases r.join with⟨e,_⟩|⟨j,hj,_,e,_⟩
 ·rw[e,Kh rfl];unfold jdk;rw[Kh rfl]
 ·rw[e,Ke (h.kb.kit j hj).2.2,(jfV h f hj).2,jj3 h hj]
theorem jj4(h:KitL cs ss)(Q:Qy):Kits (jce ss Q):=λc hc=>(Ju.1 hc).elim (jdW h.kb _ c) (jdW h.kb _ c)
theorem jdE.cols {L:List Col}(h:jdE L Q0 Q):jce ss Q=jce ss Q0:=by
 obtain⟨_,_,_,h⟩:=h
 rcases h with⟨_,rfl⟩|⟨_,_,_,_,_,_,_,_,_,_,_,_,_,_,rfl⟩|⟨_,_,rfl⟩|⟨_,_,_,_,rfl⟩|⟨_,_,_,_,_,_,_,_,rfl⟩|⟨_,rfl⟩<;>rfl
theorem jsm(h:KitL cs ss)(f:Fits ss ss')(ha:(allE ss').1=0)(g:jiJ ss Q):jdJ Q ss' 0=(0,[]):=by
 obtain⟨i,Q4,hi,hb,r4,hk⟩:=g.split;have r:=jdE.rt hk r4;have ec:=jo0 h f hi r.two;have e4:jce ss Q=jce ss Q4:=jdE.cols hk;refine jiX ha (jmn hb hk) (joY h f hi r.two) (jmo h f hi r.two) (jmp h f hi r.two) ?_ ?_ (joV hb hk) ?_ ?_ rfl (joZ r.two)
 ·rw[ec];exact jp9 r
 ·rw[ec,e4];exact joW hb hk
 ·rw[ec,e4];exact joX (jj4 h Q4) hb hk
 ·rw[ec,e4];exact jsl hb hk
theorem jqa(h:KitL cs ss)(f:Fits ss ss')(ha:(allE ss').1=0)(g:jiJ ss Q){kp:Int}(hkp:kp=Q.keep\/(schN ss' Q.table).pub=false/\0<=kp/\kp<=50):jdJ { Q with keep:=kp,wh:=[] } ss' 0=(0,[]):=by
 obtain⟨i,Q4,hi,hb,r4,hk⟩:=g.split;have r:=jdE.rt hk r4
 have r2:Rt2 ss i { Q with keep:=kp,wh:=[] }:=by
  refine⟨r.table,?_,r.join,r.bits⟩
  rcases hkp with rfl|⟨e1,e2⟩
  ·exact r.two.keep
  ·rw[r.table,(jfV h f hi).1]at e1;exact .inr ⟨e1,e2⟩
 have ec:=jo0 h f hi r2;have e4:jce ss { Q with keep:=kp,wh:=[] }=jce ss Q4:=show jce ss Q=_ from jdE.cols hk
 refine jiX ha (show jhE Q=0 from jmn hb hk) (joY h f hi r2) (jmo h f hi r2) (jmp h f hi r2) ?_ ?_ (show limE Q=0 from joV hb hk) ?_ ?_ rfl (joZ r2)
 ·unfold jiC;exact Kh rfl
 ·rw[ec,e4];exact(show expE Q _=0 from joW hb hk)
 ·rw[ec,e4];exact(show jjc Q _=0 from joX (jj4 h Q4) hb hk)
 ·rw[ec,e4];exact(show rgE Q (colN _ Q.column)=0 from jsl hb hk)
end
def WV(v:V)(n:Nat)(cs:List V):Prop:=(v=.nilsl/\n=0/\cs=[])\/∃q,v=.row cs n q
theorem WV.of {base w n:Nat}{ts:List Nat}{v:V}{cs:List V}(g:GrowV base ts w v n cs):WV v n cs:=by
 cases g with
 |nil=>exact .inl ⟨rfl,rfl,rfl⟩
 |full _ _ _=>exact .inr ⟨_,rfl⟩
 |tok _ _ _ _ _ _ _=>exact .inr ⟨_,rfl⟩
theorem WV.weak {v:V}{n:Nat}{cs:List V}(h:WV v n cs)(hw:V.weak.weakL cs=cs):WV v.weak n cs:=by
 rcases h with⟨rfl,a,b⟩|⟨q,rfl⟩
 ·exact .inl ⟨rfl,a,b⟩
 ·exact .inr ⟨q.weak,by simp only[V.weak,hw]⟩
theorem WV.closed {v:V}{n:Nat}{cs:List V}(h:WV v n cs)(hw:V.weak.weakL cs=cs)(hc:V.closed.closedL cs=true):v.weak.closed=true:=by
 rcases h with⟨rfl,a,b⟩|⟨q,rfl⟩
 ·rfl
 ·cases q<;>simp[V.weak,V.closed,hw,hc,RCap.weak]
theorem WV.nv {v:V}{l:List Nd}(h:WV v l.length (jcc l))(hl:l.length<=400):K.NV v l:=by
 rcases h with⟨rfl,a,b⟩|⟨q,rfl⟩
 ·obtain rfl:l=[]:=Vx.1 a;exact⟨⟨λ_=>.inl ⟨rfl,rfl⟩,.inl ⟨rfl,rfl⟩⟩,rfl,⟨rfl,rfl⟩,hl⟩
 ·refine⟨?_,rfl,⟨rfl,rfl⟩,hl⟩;cases q with
  |full=>exact⟨λ_=>.inr (.inr rfl),.inr (.inr (by simp only[V.weak,jbl,RCap.weak]))⟩
  |unk=>exact⟨λ_=>.inr (.inl rfl),.inr (.inl (by simp only[V.weak,jbl,RCap.weak]))⟩
  |tok k e w=>exact⟨λh=>by simp[V.closed]at h,.inr (.inl (by simp only[V.weak,jbl,RCap.weak]))⟩
theorem jfX(r:Int × Int)(l:List (Int × Int)):jeF (r::l)=.int .i64 r.1::.int .i64 r.2::jeF l:=rfl
theorem jhm:∀l,V.weak.weakL (jeF l)=jeF l
 | []=>rfl
 |r::l=>by rw[jfX];simp only[V.weak.weakL,V.weak,jhm l]
theorem jhB:∀l,V.closed.closedL (jeF l)=true
 | []=>rfl
 |r::l=>by rw[jfX];simp only[V.closed.closedL,V.closed,jhB l,K8]
theorem jfE:∀l,V.closed.closedL (jcc l)=true
 | []=>rfl
 |x::l=>by rw[jbJ];simp only[V.closed.closedL,V.closed,jfE l,K8]
theorem jj5:∀(l:List (Int × Int)) (i:Nat),(jeF l).drop (i*2)=jeF (l.drop i)
 |l,0=>by simp
 | [],i+1=>by simp[jeF]
 |r::l,i+1=>by
  rw[jfX,show(i+1)*2=i*2+1+1 by omega,K7,K7,jj5 l i,K7]
theorem WV.rg {v:V}{l:List (Int × Int)}(h:WV v l.length (jeF l))(hl:l.length<=400):K.RgV v l:=by
 rcases h with⟨rfl,a,b⟩|⟨q,rfl⟩
 ·obtain rfl:l=[]:=Vx.1 a;exact⟨rfl,λi hi=>by simp at hi,⟨rfl,rfl⟩,hl⟩
 ·refine⟨rfl,λi hi => ?_,⟨rfl,rfl⟩,hl⟩;refine⟨jeF (l.drop (i+1)),?_⟩;rw[Ys,Kh (by omega),Qj,jj5,Qn hi,jfX];have:l.getD i (0,0)=l[i]:=by simp[List.getD,hi]
  rw[this]
structure WQ (Q:Qy) (ev wv rv:V):Prop where
 e:WV ev Q.ex.length (jcc Q.ex)
 w:WV wv Q.wh.length (jcc Q.wh)
 r:WV rv Q.rg.length (jeF Q.rg)
 l:Q.ex.length<=400/\Q.wh.length<=400/\Q.rg.length<=400
 fl:Q.factor.length<2^40
theorem WQ.qv {Q:Qy}{ev wv rv:V}(h:WQ Q ev wv rv)(hc:ev.closed=true/\wv.closed=true/\rv.closed=true):K.QV Q ev wv rv:=⟨h.e.nv h.l.1,h.w.nv h.l.2.1,h.r.rg h.l.2.2,hc,h.fl⟩
theorem WQ.weak {Q:Qy}{ev wv rv:V}(h:WQ Q ev wv rv):K.QV Q ev.weak wv.weak rv.weak :=
 ⟨(h.e.weak (jbl _)).nv h.l.1,(h.w.weak (jbl _)).nv h.l.2.1,(h.r.weak (jhm _)).rg h.l.2.2,⟨h.e.closed (jbl _) (jfE _),h.w.closed (jbl _) (jfE _),h.r.closed (jhm _) (jhB _)⟩,h.fl⟩
structure LS (ss:List Sch):Prop where
 l:ss.length<=1000
 at':∀s∈ss,(∃q,s.cv=.row (jaN s.cs) s.cs.length q)/\OkC s.cs/\s.cs.length<=200/\jjM s
def jhn(s:Sch):Sch:=⟨s.name,s.pub,s.many,s.cv.weak,s.cs⟩
theorem jiZ:∀ss:List Sch,V.weak.weakL (jbt ss)=jbt (ss.map jhn)
 | []=>rfl
 |s::ss=>by rw[jcr,K9,jcr];simp only[V.weak.weakL,V.weak,jiZ ss,jhn]
theorem jvk {cs:List Col}{q:RCap}(h:(V.row (jaN cs) cs.length q).closed=true):IsC (.row (jaN cs) cs.length q) cs:=by
 cases q with
 |full=>exact .inr ⟨.full,.inr rfl,rfl⟩
 |unk=>exact .inr ⟨.unk,.inl rfl,rfl⟩
 |tok k e w=>simp[V.closed]at h
theorem jo1 {cs:List Col}(ok:OkC cs)(q:RCap):IsC (V.row (jaN cs) cs.length q).weak cs:=(RC.row ok q).2
theorem LS.mem {ss:List Sch}{i:Nat}(hi:i<ss.length):ss.getD i Sch.none∈ss:=by simp[List.getD,hi]
theorem LS.weak {ss:List Sch}(h:LS ss)(q:RCap):K.SB (V.row (jbt ss) ss.length q).weak (ss.map jhn):=by
 have e:(V.row (jbt ss) ss.length q).weak=.row (jbt (ss.map jhn)) (ss.map jhn).length q.weak:=by simp only[V.weak,jiZ,Ja]
 rw[e]
 have at2:∀s∈ss.map jhn,IsC s.cv s.cs/\OkC s.cs/\s.cs.length<=200/\jjM s:=λs hs=>by
  obtain⟨t,ht,rfl⟩:=Jm.1 hs;obtain⟨⟨q',e⟩,ok,l,sh⟩:=h.at' t ht;exact⟨by show IsC t.cv.weak t.cs;rw[e];exact jo1 ok q',ok,l,sh⟩
 refine⟨⟨.inr ⟨q.weak,by cases q<;>simp[RCap.weak],rfl⟩,λs hs=>⟨(at2 s hs).1,(at2 s hs).2.1⟩,by rw[Ja];exact h.l,λi hi=>(at2 _ (LS.mem hi)).2.2.2⟩,λi hi=>(at2 _ (LS.mem hi)).2.2.1⟩
theorem jmq(ss:List Sch):Fits ss ss:=⟨Kz _,λ_ _=>⟨rfl,rfl,rfl,rfl⟩⟩
theorem hk17:env.hook 17=some (jb2 K.env 17):=rfl
section
variable {Q:Qy}{ev wv rv:V}{ss:List Sch}{q:RCap}{fe:Int}
theorem jh0(h:WQ Q ev wv rv):(V.agg (Q.cells ev wv rv)).weak=.agg (Q.cells ev.weak wv.weak rv.weak):=rfl
theorem jj6:(V.agg (Q.cells ev wv rv)).closed=true->ev.closed=true/\wv.closed=true/\rv.closed=true:=λh=>by
 simp only[Qy.cells,V.closed,V.closed.closedL,Xh,Q6,Qu]at h;exact⟨h.1,h.2.2,h.2.1⟩
end
theorem jvl {f:List UInt8}(h:f∈facs):K.Fac f 0/\f.length<=7:=by
 simp only[facs,Ji,Vt,or_false]at h
 rcases h with rfl|rfl|rfl|rfl|rfl
 ·exact⟨⟨0,1,-1,0,0,K.call_F rfl F.ck_0 _,λ_=>⟨K.call_F rfl F.lo_0 _,K.call_F rfl F.hi_0 _⟩,by decide⟩,by decide⟩
 ·exact⟨⟨0,1,-1,0,0,K.call_F rfl F.ck_1 _,λ_=>⟨K.call_F rfl F.lo_1 _,K.call_F rfl F.hi_1 _⟩,by decide⟩,by decide⟩
 ·exact⟨⟨0,1,-1,0,0,K.call_F rfl F.ck_2 _,λ_=>⟨K.call_F rfl F.lo_2 _,K.call_F rfl F.hi_2 _⟩,by decide⟩,by decide⟩
 ·exact⟨⟨0,1,-1,0,0,K.call_F rfl F.ck_3 _,λ_=>⟨K.call_F rfl F.lo_3 _,K.call_F rfl F.hi_3 _⟩,by decide⟩,by decide⟩
 ·exact⟨⟨0,1,-1,0,0,K.call_F rfl F.ck_4 _,λ_=>⟨K.call_F rfl F.lo_4 _,K.call_F rfl F.hi_4 _⟩,by decide⟩,by decide⟩
section
variable {cs:List Col}{ss ss':List Sch}{Q:Qy}
theorem jtr(g:jiJ ss Q):Q.ex.length<=400/\Q.wh.length<=400/\Q.rg.length<=400/\Q.factor∈facs:=by
 have hb3:bnd 3=94:=by decide
 obtain⟨i,Q4,hi,hb,r4,hk⟩:=g.split;have r:=jdE.rt hk r4;obtain⟨z1,z2,z3,z4,z5,z6,z7,z8,z9,z10⟩:=hb.z
 have hw:Q.wh.length<=400:=by
  rcases r.wh with e|⟨e,_,_,el,hw⟩
  ·rw[e];simp
  ·rw[hw];omega
 obtain⟨m,_,_,h⟩:=hk;refine⟨?_,hw,?_,r.factor⟩
 ·rcases h with⟨k,rfl⟩|⟨k,e,lo,w,p,q,wf,ek,el,l1,l2,w1,w2,hp,rfl⟩|⟨k,c,rfl⟩|⟨k,bd,b1,b2,rfl⟩|⟨k,rg,st,r1,r2,r3,t1,t2,rfl⟩|⟨k,rfl⟩
  ·simp[z1]
  ·show e.post.length<=400;omega
  ·simp[z1]
  ·simp[z1]
  ·simp[z1]
  ·simp[z1]
 ·rcases h with⟨k,rfl⟩|⟨k,e,lo,w,p,q,wf,ek,el,l1,l2,w1,w2,hp,rfl⟩|⟨k,c,rfl⟩|⟨k,bd,b1,b2,rfl⟩|⟨k,rg,st,r1,r2,r3,t1,t2,rfl⟩|⟨k,rfl⟩
  ·simp[z8]
  ·simp[z8]
  ·simp[z8]
  ·simp[z8]
  ·show rg.length<=400;omega
  ·simp[z8]
theorem jsn {c:Col}(h:Kit c):jdC c:=by
 obtain⟨⟨j,hj,hn⟩,_,h⟩:=h;have hnm:=jkJ hj;refine⟨by rw[hn];have:=hnm.2.1;omega,?_,?_⟩
 ·rcases h with⟨e,_⟩|⟨k,_,_,e,_⟩
  ·rw[e];simp
  ·rw[e,Q7];omega
 ·intro i hi
  rcases h with⟨e,_⟩|⟨k,k1,k5,e,_⟩
  ·rw[e]at hi;simp at hi
  ·have hr:reds.length=5:=rfl;rw[e,Q7]at hi;have:c.ws.getD i []=reds.getD i []:=by rw[e];simp[List.getD,Jt,show i<k by omega]
   rw[this];have:=(jrP (j:=i) (by omega)).2.1;omega
theorem jw4(h:KitL cs ss):LS ss:=by
 have hl:=h.l;refine⟨by omega,λs hs => ?_⟩;obtain⟨i,hi,e⟩:=Jp hs;have e2:ss.getD i Sch.none=s:=by simp[List.getD,hi,e]
 have k:=h.at' i hi;rw[e2]at k;have hk:=k.sub.kits h.all h.five;have hle:=k.le;refine⟨k.row,hk.ok,by omega,?_,by omega,λj hj=>jsn (hk _ (by simp[List.getD,hj]))⟩;rw[k.nm];have:=(jnB (j:=i) (by omega)).2.1;omega
end
open B (TOK BOK InC)
def jnW(r:Rw):Rw:=⟨r.own,r.vv.weak,r.vs⟩
def jes(t:Tb):Tb:=⟨jhn t.s,t.rv.weak,t.rows.map jnW⟩
theorem ji0:∀l:List Rw,V.weak.weakL (jcw l)=jcw (l.map jnW)
 | []=>rfl
 |r::l=>by rw[jcE,K9,jcE];simp only[V.weak.weakL,V.weak,ji0 l,jnW]
theorem ji1:∀l:List Tb,V.weak.weakL (jcF l)=jcF (l.map jes)
 | []=>rfl
 |t::l=>by rw[jdX,K9,jdX];simp only[V.weak.weakL,V.weak,ji1 l,jes,jhn]
theorem jeI:∀xs:List Int,V.weak.weakL (xs.map (V.int .i64))=xs.map (V.int .i64)
 | []=>rfl
 |x::xs=>by simp only[K9,V.weak.weakL,V.weak,jeI xs]
theorem jt4(l:List Rw):(l.map jnW).map Rw.pl=l.map Rw.pl:=by
 rw[Vu];rfl
section
variable {cs:List Col}{tbs:List Tb}
theorem BaseG.len(h:BaseG cs tbs):1<=tbs.length/\tbs.length<=3:=by
 have h1:=h.k.n;have h2:=h.k.l;simp at h1 h2;exact⟨h1,h2⟩
theorem BaseG.kit(h:BaseG cs tbs){t:Tb}(ht:t∈tbs):∃i,i<tbs.length/\tbs.getD i Tb.none=t/\KitS cs i t.s:=by
 obtain⟨i,hi,e⟩:=Jp ht;have e2:(tbs.map (·.s)).getD i Sch.none=t.s:=by simp[List.getD,hi,e]
 have:=h.k.at' i (by simpa using hi);rw[e2]at this;exact⟨i,hi,by simp[List.getD,hi,e],this⟩
theorem BaseG.kits(h:BaseG cs tbs){t:Tb}(ht:t∈tbs):Kits t.s.cs:=by
 obtain⟨i,_,_,k⟩:=h.kit ht;exact k.sub.kits h.k.all h.k.five
theorem BaseG.sch(h:BaseG cs tbs){t:Tb}(ht:t∈tbs):(∃q,t.s.cv=.row (jaN t.s.cs) t.s.cs.length q)/\OkC t.s.cs/\t.s.cs.length<=200/\jjM t.s:=(jw4 h.k).at' t.s (Uc ht)
theorem BaseG.tok(h:BaseG cs tbs){t:Tb}(ht:t∈tbs)(hc:t.s.cv.closed=true)(hr:t.rv.closed=true):TOK t:=by
 obtain⟨⟨q,hq⟩,ok,cl,sh⟩:=h.sch ht;obtain⟨i,hi,_,k⟩:=h.kit ht;obtain⟨hg,hl⟩:=h.r t ht;have hv:=h.v t ht;have kb:=h.kits ht
 have hx:∀r∈t.rows,r.vs.length=t.s.cs.length/\∀x∈r.vs,In64 x:=λr hr=>by
  obtain⟨_,_,g3,g4⟩:=hg.g r hr;refine⟨g3,λx hx => ?_⟩;obtain⟨j,hj,e⟩:=Jp hx;have hj2:j<t.s.cs.length:=by have:r.vs.length=t.s.cs.length:=g3;omega
  have h1:=g4 j hj2;have h2:=kb.bound hj2;have e2:r.pl.2.getD j 0=x:=by show r.vs.getD j 0=x;simp[List.getD,hj,e]
  rw[e2]at h1;simp only[In64];omega
 refine⟨by rw[hq]at hc ⊢;exact jvk hc,ok,cl,sh,?_,λc hcm => ?_,?_,?_,by omega,λr hr=>by rw[(hx r hr).1];omega⟩
 ·rcases k.pb with⟨_,e,_⟩|⟨_,e1,e2⟩<;>simp only[In64]<;>omega
 ·obtain⟨j,hj,e⟩:=Jp hcm;have h2:=kb.bound hj;rw[show t.s.cs.getD j Col.none=c by simp[List.getD,hj,e]]at h2;simp only[In64];omega
 ·rcases hv with⟨e1,e2⟩|⟨q2,e⟩
  ·exact .inl ⟨e1,e2⟩
  ·rw[e]at hr ⊢;cases q2 with
   |full=>exact .inr ⟨.full,.inr rfl,rfl⟩
   |unk=>exact .inr ⟨.unk,.inl rfl,rfl⟩
   |tok k e w=>simp[V.closed]at hr
 ·intro r hrm
  have hcr:r.vv.closed=true:=by
   rcases hv with⟨e1,e2⟩|⟨q2,e⟩
   ·rw[e2]at hrm;cases hrm
   ·have hcl:V.closed.closedL (jcw t.rows)=true:=by
     rw[e]at hr;cases q2 with
     |full=>simpa[V.closed]using hr
     |unk=>simpa[V.closed]using hr
     |tok k e w=>simp[V.closed]at hr
    have:∀l:List Rw,V.closed.closedL (jcw l)=true->∀r∈l,r.vv.closed=true:=λl=>by
     induction l with
     |nil=>intro _ r hr;cases hr
     |cons a l ih =>
      intro hh r hr;rw[jcE]at hh;simp only[V.closed.closedL,V.closed,Xh,Qu]at hh
      rcases Ji.1 hr with rfl|hr
      ·exact hh.1
      ·exact ih hh.2 r hr
    exact this _ hcl r hrm
  obtain⟨q3,e3⟩:=hg.v r hrm;refine⟨?_,(hx r hrm).2,?_⟩
  ·rw[e3]at hcr ⊢;cases q3 with
   |full=>exact .inr (.inr rfl)
   |unk=>exact .inr (.inl rfl)
   |tok k e w=>simp[V.closed]at hcr
  ·obtain⟨g1,g2,_⟩:=hg.g r hrm;cases hp:t.s.pub with
   |true=>have:=g1 hp;simp only[In64];show _/\_;have e:r.own=0:=this;omega
   |false=>have:=g2 hp;simp only[In64];have e:1<=r.own/\r.own<=5:=this;omega
theorem BaseG.weak(h:BaseG cs tbs):BaseG cs (tbs.map jes):=by
 have e:(tbs.map jes).map (·.s)=(tbs.map (·.s)).map jhn:=by rw[Vu,Vu];rfl
 refine⟨?_,?_,?_⟩
 ·rw[e];refine⟨h.k.all,h.k.five,by have:=h.k.n;simpa using this,by have:=h.k.l;simpa using this,λi hi => ?_⟩;have hi2:i<(tbs.map (·.s)).length:=by simpa using hi
  have k:=h.k.at' i hi2;have e3:((tbs.map (·.s)).map jhn).getD i Sch.none=jhn ((tbs.map (·.s)).getD i Sch.none):=by simp only[List.getD,Xj,K5 hi2,Qh,Ks]
  rw[e3];refine⟨k.nm,k.sub,k.ne,k.le,k.pb,?_⟩;obtain⟨q,hq⟩:=k.row;exact⟨q.weak,by show V.weak _=_;rw[hq];simp only[V.weak,jcR ((k.sub.kits h.k.all h.k.five).ok)];rfl⟩
 ·intro t ht;obtain⟨t0,h0,rfl⟩:=Jm.1 ht;obtain⟨g,hl⟩:=h.r t0 h0;refine⟨⟨λr hr => ?_,λr hr => ?_,λhp o => ?_⟩,by simpa[jes]using hl⟩
  ·obtain⟨r0,hr0,rfl⟩:=Jm.1 hr;obtain⟨q,hq⟩:=g.v r0 hr0;exact⟨q.weak,by show V.weak _=_;rw[hq];simp only[V.weak,jeI];rfl⟩
  ·obtain⟨r0,hr0,rfl⟩:=Jm.1 hr;exact g.g r0 hr0
  ·show(cnt o ((t0.rows.map jnW).map Rw.pl):Int)<=_;rw[jt4];exact g.m hp o
 ·intro t ht;obtain⟨t0,h0,rfl⟩:=Jm.1 ht
  rcases h.v t0 h0 with⟨e1,e2⟩|⟨q,e1⟩
  ·exact .inl ⟨by show V.weak _=_;rw[e1];rfl,by show List.map _ _=_;rw[e2];rfl⟩
  ·exact .inr ⟨q.weak,by show V.weak _=.row (jcw (t0.rows.map jnW)) (t0.rows.map jnW).length _;rw[e1];simp only[V.weak,ji0,Ja]⟩
theorem jnX:∀{l:List Tb},V.closed.closedL (jcF l)=true->∀t∈l,t.s.cv.closed=true/\t.rv.closed=true
 | [],_,t,ht=>by cases ht
 |x::l,h,t,ht=>by
  rw[jdX]at h;simp only[V.closed.closedL,V.closed,Xh,Qu]at h
  rcases Ji.1 ht with rfl|ht
  ·exact⟨h.1,h.2.1⟩
  ·exact jnX h.2.2 t ht
theorem BaseG.bok(h:BaseG cs tbs){q:RCap}(hc:(V.row (jcF tbs) tbs.length q).closed=true):BOK (.row (jcF tbs) tbs.length q) tbs:=by
 have hq:(q=.unk\/q=.full)/\V.closed.closedL (jcF tbs)=true:=by
  cases q with
  |full=>exact⟨.inr rfl,by simpa[V.closed]using hc⟩
  |unk=>exact⟨.inl rfl,by simpa[V.closed]using hc⟩
  |tok k e w=>simp[V.closed]at hc
 have hl:=h.len;exact⟨.inr ⟨q,hq.1,rfl⟩,λt ht=>h.tok ht (jnX hq.2 t ht).1 (jnX hq.2 t ht).2,by omega⟩
theorem jfY(tbs:List Tb)(q:RCap):(V.row (jcF tbs) tbs.length q).weak=.row (jcF (tbs.map jes)) (tbs.map jes).length q.weak:=by simp only[V.weak,ji1,Ja]
theorem BaseG.bokW(h:BaseG cs tbs)(q:RCap):BOK (.row (jcF (tbs.map jes)) (tbs.map jes).length q.weak) (tbs.map jes):=by
 have hw:=h.weak;have hl:=hw.len;refine⟨.inr ⟨q.weak,by cases q<;>simp[RCap.weak],rfl⟩,λt ht => ?_,by omega⟩;obtain⟨t0,h0,rfl⟩:=Jm.1 ht;refine hw.tok ht ?_ ?_
 ·obtain⟨⟨q1,e⟩,ok,_⟩:=h.sch h0;show V.closed (V.weak _)=true;rw[e];exact ja3 (jo1 ok q1) ok
 ·show V.closed (V.weak _)=true
  rcases h.v t0 h0 with⟨e,_⟩|⟨q1,e⟩
  ·rw[e];rfl
  ·rw [e]
   have:∀l:List Rw,(∀r∈l,∃q,r.vv=.row (r.vs.map (V.int .i64)) r.vs.length q)->V.closed.closedL (V.weak.weakL (jcw l))=true:=λl=>by
    induction l with
    |nil=>intro _;rfl
    | cons a l ih =>
     intro hh;obtain⟨q2,e2⟩:=hh a (by simp);rw[jcE]
     have e3:V.closed (V.weak a.vv)=true:=by
      rw[e2]
      have:W.IsI (V.weak (.row (a.vs.map (V.int .i64)) a.vs.length q2)) a.vs:=by
       cases q2 with
       |full=>exact .inr (.inr (by simp only[V.weak,jeI,RCap.weak]))
       |unk=>exact .inr (.inl (by simp only[V.weak,jeI,RCap.weak]))
       |tok k e w=>exact .inr (.inl (by simp only[V.weak,jeI,RCap.weak]))
      exact W.closed_I this
     simp only[V.weak.weakL,V.weak,V.closed.closedL,V.closed,Xh,e3,ih λr hr=>hh r (by simp[hr])]
   have e4:=this _ (h.r t0 h0).1.v;cases q1<;>simp[V.weak,V.closed,RCap.weak,e4]
end
open B (TOK BOK InC FitQ jer sv vpQ tbN VR jnN)
section
variable {cs:List Col}{tbs:List Tb}{Q:Qy}{ev wv rv:V}{fe:Int}
theorem je7(h:BaseG cs tbs):sv (tbs.map jes)=sv tbs:=by
 unfold sv;rw[Vu];refine List.map_congr_left λt ht => ?_
 obtain⟨⟨q,e⟩,ok,_⟩:=h.sch ht;show({ jhn t.s with cv:=unkV t.s.cv.weak }:Sch)={ t.s with cv:=unkV t.s.cv };rw[e];simp only[V.weak,jcR ok,unkV,jhn]
theorem jh1(h:BaseG cs tbs)(nm:List UInt8):tbN (tbs.map jes) nm=jes (tbN tbs nm):=by
 unfold tbN;rw[je7 h];by_cases hl:(jbe (sv tbs) nm (sv tbs).length 0).toNat<tbs.length
 ·simp only[List.getD,Xj,K5 hl,Qh,Ks]
 ·have h1:tbs[(jbe (sv tbs) nm (sv tbs).length 0).toNat]? = none:=Qk (by omega);simp only[List.getD,Xj,h1,Uz,Option.getD_none];rfl
theorem jkX(h:BaseG cs tbs):vpQ (tbs.map jes) Q=vpQ tbs Q:=by
 unfold vpQ B.ixL B.ixR;rw[je7 h,jh1 h,jh1 h];have e:∀t:Tb,(jes t).rows.map Rw.pl=t.rows.map Rw.pl:=λt=>jt4 t.rows
 rw[e,e];rfl
theorem jts(h:BaseG cs tbs)(n:Nat):jnN (tbs.map jes) Q n=jnN tbs Q n:=by
 unfold jnN;rw[jh1 h];rfl
theorem jvm(tbs:List Tb):Fits (tbs.map (·.s)) (sv tbs):=by
 refine⟨by simp[sv],λi hi => ?_⟩;have hi2:i<tbs.length:=by simpa using hi
 have e:(sv tbs).getD i Sch.none=B.cpS ((tbs.map (·.s)).getD i Sch.none):=by simp only[sv,List.getD,Xj,K5 hi2,Qh,Ks]
 rw[e];exact⟨rfl,rfl,rfl,rfl⟩
theorem jo2 {s:Sch}:∀(l:List PR) (seen:List Int) (i:Nat),(∀r∈l,RowG s r)->(s.pub=false->∀o,((seen.count o+cnt o l:Nat):Int)<=s.many)->B.rowsE s seen i l=(0,-1)
 | [],_,_,_,_=>rfl
 | r::l,seen,i,hg,hc=>by
  obtain⟨g1,g2,g3,g4⟩:=hg r (by simp)
  have e1:∀o,cnt o (r::l)=cnt o l+if r.1=o then 1 else 0:=λo=>by
   by_cases h:r.1=o<;>simp[cnt,h]
  have hr:B.rowE s seen r=0:=by
   unfold B.rowE;rw[Ke (λq=>q g3),Ke,Ke,Ke]
   ·rintro⟨hp,h2⟩;have:=hc hp r.1;rw[e1,Kh rfl]at this;omega
   ·simp only[Jh,Uo];exact g4
   ·rintro(⟨hp,h2⟩|⟨hp,h2⟩)
    ·exact h2 (g1 hp)
    ·have:=g2 hp;omega
  simp only[B.rowsE];rw[Kh hr];refine jo2 l _ _ (λx hx=>hg x (by simp[hx])) λhp o => ?_
  have:=hc hp o;rw[e1]at this;by_cases h:r.1=o
  ·subst h;rw[List.count_cons_self];rw[Kh rfl]at this;omega
  ·rw[Ua h];rw[Ke h]at this;omega
theorem jw5(h:BaseG cs tbs){t:Tb}(ht:t∈tbs):(B.Tb.tabE t).1=0:=by
 obtain⟨i,hi,_,k⟩:=h.kit ht;obtain⟨hg,hl⟩:=h.r t ht;have hn:=h.len
 have hc:(jdd t.s.name t.s.pub t.s.many t.s.cs).1=0:=by
  refine jgm (by rw[k.nm];exact jnB (by omega)) ?_ ⟨k.ne,by have:=k.le;omega⟩ λj hj=>joK k.sub h.k.all h.k.five hj
  rcases k.pb with⟨a,b,_⟩|⟨a,b,c⟩
  ·exact .inl ⟨a,b⟩
  ·exact .inr ⟨a,b,by omega⟩
 unfold B.Tb.tabE B.tabE
 rw[Ke (λq=>q hc),Ke (by simp;omega),jo2 _ _ _ (λr hr=>by obtain⟨r0,h0,rfl⟩:=Jm.1 hr;exact hg.g r0 h0) λhp o=>by
  have:=hg.m hp o;simpa using this]
theorem jo3:∀(l:List Tb) (i:Nat),(∀t∈l,(B.Tb.tabE t).1=0)->B.tabsE i l=(0,-1,-1)
 | [],_,_=>rfl
 |t::l,i,h=>by
  simp only[B.tabsE];rw[Kh (h t (by simp))];exact jo3 l _ λx hx=>h x (by simp[hx])
theorem jkY(h:BaseG cs tbs):(allE (sv tbs)).1=0/\(jer tbs).1=0:=by
 have ha:(allE (sv tbs)).1=0:=juX h.k (jvm tbs) (.inl (by simp[sv]));refine⟨ha,?_⟩;unfold jer;rw[Ke (λq=>q ha),jo3 _ _ λt ht=>jw5 h ht]
theorem hk41:env.hook 41=some (jb2 B.env 41):=rfl
theorem jw6(h:BaseG cs tbs){q:RCap}(hQ:WQ Q ev wv rv)(hf:K.Fac Q.factor fe)(hF:FitQ tbs Q fe):∃u,VR (jnN tbs Q (tbN tbs Q.table).s.cs.length) (vpQ tbs Q).view u/\∀U,jah env (Go.Ab.ev env) 41 [.row (jcF tbs) tbs.length q,.agg (Q.cells ev wv rv)] U=some (u,U):=by
 by_cases hc:([.row (jcF tbs) tbs.length q,.agg (Q.cells ev wv rv)]:List V).all V.closed=true
 ·have hc2:=hc;simp only[Kv,Qr,Q6,Qu]at hc2;obtain⟨u,hu,hcall⟩:=B.view_call (h.bok hc2.1) (hQ.qv (jj6 hc2.2)) hf;exact⟨u,hu.1 hF,λU=>jrd hk41 hcall _ U⟩
 ·have hn:([.row (jcF tbs) tbs.length q,.agg (Q.cells ev wv rv)]:List V).all V.closed=false:=by simpa using hc
  obtain⟨u,hu,hcall⟩:=B.view_call (h.bokW q) hQ.weak hf
  have hF2:FitQ (tbs.map jes) Q fe:=by
   refine⟨(jkY h.weak).2,?_⟩;rw[je7 h];exact hF.2
  have hu:=hu.1 hF2;rw[jkX h,jts h,jh1 h]at hu;have hb:=h.bokW q;have h1:=hQ.weak.closed;refine⟨u,hu,λU=>jrd hk41 (λU => ?_) _ U⟩;rw[jeX rfl rfl hn (by simp only[K9,Jz,Kv,Qr,jh0 hQ,h1,jfY,hb.closed,K8]) U];simp only[K9,Jz,jh0 hQ,jfY];exact hcall U
end
open B (TOK BOK sv svV cpS)
theorem jzD(t:Tb):rowO env 24 1 [(0,.agg [.str t.s.name,.bool t.s.pub,.int .i64 t.s.many,t.s.cv])]=some (.row [.str t.s.name,.bool t.s.pub,.int .i64 t.s.many,t.s.cv] 1 .full):=by kernel_rfl
theorem ji2(h:List AObj):∀{l:List Tb},(∀t∈l,IsC t.s.cv t.s.cs/\OkC t.s.cs)->(jbt (l.map (·.s))).mapM (jaM h 11)=some (jbt (sv l))
 | [],_=>rfl
 | t::l,ok=>by
  obtain⟨hv,hc⟩:=ok t (by simp)
  have hs:jaM h 11 t.s.cv=some (unkV t.s.cv):=by
   rcases hv with⟨e,_⟩|⟨q,_,e⟩<;>rw[e]
   ·rfl
   ·show jaM h (10+1) (.row _ _ _)=_;rw[ja8,show(10:Nat)=8+2 from rfl,jdU h 8 hc];rfl
  have e2:sv (t::l)=cpS t.s::sv l:=rfl;rw[K9,e2,jcr,jcr,jal,jal,jal,jal,ji2 h (l:=l) λx hx=>ok x (by simp[hx]),hs,jbS,jau,jaB];rfl
theorem jso(h:List AObj)(a b c d e:V)(r:List V):jab h 4 (.rptr (a::b::c::d::e::r))=some [a,b,c,d]:=by simp[jab]
section
variable {v:V}{l:List Tb}
theorem jgb(h:BOK v l)(U:S):jah env (ev env) 34 [v] U=some (svV l,U):=by
 refine jak (by simp[h.closed]) at34 rfl ?_ U;have hlim:lim=2^40:=rfl;have hl:=h.l;have hB:=ju8 h.v 79;simp only[Tryz.f34,simprocAttr,zK,Vq,jaj,ty7,uq];refine jax (λm T D U=>D=[]/\T 0=v/\∃(L:List AObj) (ts:List Nat) (i:Nat) (u:V),U=⟨L,ts⟩/\T 3=u/\T 4=.int .i64 i/\i<=l.length/\m=l.length-i/\GrowV 0 ts 4 u i (jbt ((l.take i).map (·.s)))/\(i=0->u=.nilsl)) ?_ (l.length-0) _ _ _ ⟨rfl,rfl,[],[],0,.nilsl,rfl,rfl,rfl,Qx _,rfl,.nil,λ_=>rfl⟩;rintro m T D U ⟨rfl,t0,L,ts,i,u,rfl,t3,t4,hi,rfl,g,g0⟩;refine jaC ?_;by_cases hlt:i<l.length
 ·have c1:(i:Int)<(l.length:Int):=by omega
  have e1:=wS i (by omega)
  have hx:=jnu h.v hlt;have ht:=h.at hlt;have hr:=jzD (l.getD i Tb.none)
  obtain⟨v',ts',hA,g',_⟩:=GrowV.push (E:=env) (hp:=L) (q:=.full) (new:=[.str (l.getD i Tb.none).s.name,.bool (l.getD i Tb.none).s.pub,.int .i64 (l.getD i Tb.none).s.many,(l.getD i Tb.none).s.cv]) eS ⟨38,eS.slice⟩ g (Qx _) rfl
   (by rcases ht.cv with⟨e,_⟩|⟨q,_,e⟩<;>rw[e]<;>rfl) ⟨by rw[hlim];omega,by rw[hlim];omega⟩
  simp only[simprocAttr,yK,Vq,ty7,uq,al1,jaJ,Q9,K7,t0,t3,t4,c1,e1,hB,hx,jso,jap,hr,hA];refine⟨l.length-(i+1),by omega,L,ts',i+1,v',rfl,rfl,rfl,by omega,rfl,?_,λh=>by omega⟩;rw[B.take_next Tb.none hlt];have e:jbt ((l.take i++[l.getD i Tb.none]).map (·.s))=jbt ((l.take i).map (·.s))++[.str (l.getD i Tb.none).s.name,.bool (l.getD i Tb.none).s.pub,.int .i64 (l.getD i Tb.none).s.many,(l.getD i Tb.none).s.cv]:=by simp[jbt,Sch.cells]
  rw[e];exact g'
 ·have hie:i=l.length:=by omega
  subst hie;have c1:((l.length:Int)<(l.length:Int))=False:=eq_false (by omega);simp only[simprocAttr,yK,Vq,ty7,uq,t0,t3,t4,c1,hB];rw[Jq]at g;have hs:=ji2 L (l:=l) λt ht=>⟨(h.t t ht).cv,(h.t t ht).ok⟩
  unfold svV;by_cases hn:l=[]
  ·rw[Kh hn,g0 (by rw[hn];rfl)];rfl
  ·rw[Ke hn];have hp:0<l.length:=Vd.2 hn;obtain⟨q,rfl⟩:=g.isrow hp;show jaM L (11+1) (.row _ _ _)=_;rw[ja8,hs,show(sv l).length=l.length by simp[sv]];rfl
def jsp(nm:List UInt8):List Tb->Bool
 | []=>false
 |t::l=>if t.s.name=nm then !t.s.pub else jsp nm l
end
open W (len_I idx_I closed_I)
def jnY(nm:List UInt8):List Tb->Int->Int
 | [],m=>m
 |t::l,m=>jnY nm l (if t.s.name=nm/\m=0 then t.s.many else m)
section
variable {v:V}{l:List Tb}{Q:Qy}{ev' wv rv:V}
end
open B (TOK BOK sv svV cpS vpQ tbN FitQ jer)
theorem jo4 {nm:List UInt8}:∀(l:List Tb) (i:Nat),i<l.length->(l.getD i Tb.none).s.name=nm->(∀k,k<l.length->(l.getD k Tb.none).s.name=nm->k=i)->jsp nm l = !(l.getD i Tb.none).s.pub
 | [],i,h,_,_=>by simp at h
 |t::l,0,_,hn,_=>by
  simp only[jsp,Vv]at hn ⊢;rw[Kh hn]
 |t::l,i+1,hi,hn,hu=>by
  have h0:¬t.s.name=nm:=λe=>by have:=hu 0 (by simp) e;omega
  simp only[jsp,Xw]at hn ⊢;rw[Ke h0];exact jo4 l i (by simpa using hi) hn λk hk e=>by have:=hu (k+1) (by simpa using hk) e;omega
theorem jj7 {nm:List UInt8}:∀(l:List Tb) (m:Int),(∀t∈l,t.s.name ≠ nm)->jnY nm l m=m
 | [],_,_=>rfl
 |t::l,m,h=>by
  simp only[jnY];rw[Ke λq=>h t (by simp) q.1];exact jj7 l m λx hx=>h x (by simp[hx])
theorem jo5 {nm:List UInt8}:∀(l:List Tb) (i:Nat) (m:Int),i<l.length->(l.getD i Tb.none).s.name=nm->(∀k,k<l.length->(l.getD k Tb.none).s.name=nm->k=i)->jnY nm l m=if m=0 then(l.getD i Tb.none).s.many else m
 | [],i,_,h,_,_=>by simp at h
 | t::l,0,m,_,hn,hu=>by
  simp only[jnY,Vv]at hn ⊢
  rw[jj7 l _ λx hx e=>by
   obtain⟨k,hk,e2⟩:=Jp hx;have:=hu (k+1) (by simpa using hk) (by rw[Xw,show l.getD k Tb.none=x by simp[List.getD,hk,e2]];exact e);omega]
  simp only[hn,true_and]
 |t::l,i+1,m,hi,hn,hu=>by
  have h0:¬t.s.name=nm:=λe=>by have:=hu 0 (by simp) e;omega
  simp only[jnY,Xw]at hn ⊢;rw[Ke λq=>h0 q.1];exact jo5 l i m (by simpa using hi) hn λk hk e=>by have:=hu (k+1) (by simpa using hk) e;omega
theorem jtt {i k:Nat}(hi:i<3)(hk:k<3)(e:tabs.getD i []=tabs.getD k []):i=k:=by
 match i,k,hi,hk with
 |0,0,_,_=>rfl
 |1,1,_,_=>rfl
 |2,2,_,_=>rfl
 |0,1,_,_=>exact absurd e (by decide)
 |0,2,_,_=>exact absurd e (by decide)
 |1,0,_,_=>exact absurd e (by decide)
 |1,2,_,_=>exact absurd e (by decide)
 |2,0,_,_=>exact absurd e (by decide)
 |2,1,_,_=>exact absurd e (by decide)
section
variable {cs:List Col}{tbs:List Tb}{Q:Qy}{ev wv rv:V}{fe:Int}{q:RCap}
theorem jnZ(h:BaseG cs tbs)(U:S):jah env (Go.Ab.ev env) 34 [.row (jcF tbs) tbs.length q] U=some (.row (jbt (sv tbs)) (sv tbs).length .unk,U):=by
 have hl:=h.len
 have hne:∀l:List Tb,1<=l.length->svV l=.row (jbt (sv l)) (sv l).length .unk:=λl hl=>by
  unfold svV;rw[Ke (λe=>by rw[e]at hl;simp at hl)]
 refine jlR rfl rfl (λhc U => ?_) ?_ (λU => ?_) U
 ·simp only[Kv,Qr,Q6]at hc;rw[jgb (h.bok hc),hne _ hl.1]
 ·simp only[K9,Jz,Kv,Qr,jfY,(h.bokW q).closed,K8]
 ·simp only[K9,Jz,jfY];rw[jgb (h.bokW q),hne _ (by simpa using hl.1),je7 h]
theorem BaseG.kitSv(h:BaseG cs tbs):KitL cs (sv tbs):=by
 refine⟨h.k.all,h.k.five,by have:=h.k.n;simpa[sv]using this,by have:=h.k.l;simpa[sv]using this,λi hi => ?_⟩;have hi2:i<(tbs.map (·.s)).length:=by simpa[sv]using hi
 have hi3:i<tbs.length:=by simpa using hi2
 have k:=h.k.at' i hi2;have e:(sv tbs).getD i Sch.none=cpS ((tbs.map (·.s)).getD i Sch.none):=by simp only[sv,List.getD,Xj,K5 hi3,Qh,Ks]
 rw[e];refine⟨k.nm,k.sub,k.ne,k.le,k.pb,?_⟩;obtain⟨q,hq⟩:=k.row;exact⟨.unk,by show unkV _=_;rw[hq];rfl⟩
theorem jw7(h:BaseG cs tbs)(g:jiJ (sv tbs) Q):FitQ tbs Q 0/\FitQ tbs { Q with wh:=[] } 0:=by
 obtain⟨ha,hb⟩:=jkY h;refine⟨⟨hb,?_⟩,hb,?_⟩
 ·rw[jsm h.kitSv (jmq _) ha g]
 ·rw[jqa h.kitSv (jmq _) ha g (kp:=Q.keep) (.inl rfl)]
theorem jw8(h:BaseG cs tbs){nm0:List UInt8}(hs:0<=jbe (sv tbs) nm0 (sv tbs).length 0):tbN tbs nm0∈tbs/\jsp nm0 tbs = !(tbN tbs nm0).s.pub/\(∀m,jnY nm0 tbs m=if m=0 then(tbN tbs nm0).s.many else m):=by
 obtain⟨i,hi1,hi2,hi3,hi4,hi5,hi6⟩:=B.tbN_spec hs;have hl:=h.len
 have nm:∀k,k<tbs.length->(tbs.getD k Tb.none).s.name=tabs.getD k []:=λk hk=>by
  have k2:=(h.k.at' k (by simpa using hk)).nm;rw[<- k2];simp only[List.getD,Xj,K5 hk,Qh,Ks]
 rw[hi3]at hi6;have hu:∀k,k<tbs.length->(tbs.getD k Tb.none).s.name=nm0->k=i:=λk hk e=>jtt (by omega) (by omega) (by rw[<- nm k hk,<- nm i hi2,e,hi6])
 refine⟨hi5,?_,λm => ?_⟩
 ·rw[hi3];exact jo4 tbs i hi2 hi6 hu
 ·rw[hi3];exact jo5 tbs i m hi2 hi6 hu
end
end Go.Proofs.YtajaampgajieeaaGreatDoor.N
