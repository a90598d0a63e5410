/- Proved here: what is drawn is in order; views of it. Conditions: each theorem's own. -/
import Derived.Test.YtajaampgajieeaaGreatDoorBsA
import Derived.Test.YtajaampgajieeaaGreatDoorRnA
import Derived.Test.YtajaampgajieeaaGreatDoorVxA
set_option linter.unusedSimpArgs false
set_option maxHeartbeats 16000000
set_option maxRecDepth 1000000
set_option linter.unusedVariables false
set_option linter.unusedSectionVars false
namespace Go.Proofs.YtajaampgajieeaaGreatDoor.N
open Go.Ab
section
variable {cs:List Col}{ss ss':List Sch}
theorem jk8(h:KitL cs ss)(f:Fits ss ss'){i:Nat}(hi:i<ss.length):ja3 ss' (ss.getD i Sch.none).name ss'.length 0=i:=by
 have hl:=h.l;have hle:=f.le;have hn:=(h.at' i hi).nm;unfold ja3
 rcases je0 (λk=>decide ((ss'.getD k Sch.none).name=(ss.getD i Sch.none).name)) ss'.length 0 with e|⟨j,e,_,h2,h3,h4⟩
 ·exfalso
  have:(0:Int)<=jbR (λk=>decide ((ss'.getD k Sch.none).name=(ss.getD i Sch.none).name)) ss'.length 0:=(jdn _ _ _).2 ⟨i,aa,aa,by simpa using(f.eq i hi).1⟩;omega
 ·rw[e];by_cases h5:i<j
  ·have:=h4 i aa h5;simp only[decide_eq_false_iff_not]at this;exact absurd (f.eq i hi).1 this
  ·by_cases h6:j=i
   ·rw[h6]
   ·exfalso
    simp only[Jq]at h3;rw[(f.eq j aa).1,(h.at' j aa).nm,hn]at h3;exact jh0 i aa j aa h3
theorem jgS(h:KitL cs ss)(f:Fits ss ss'){i:Nat}(hi:i<ss.length):(schN ss' (ss.getD i Sch.none).name).pub=(ss.getD i Sch.none).pub/\(schN ss' (ss.getD i Sch.none).name).cs=(ss.getD i Sch.none).cs:=by
 unfold schN;rw[jk8 h f hi,Kg aa,Qj];exact⟨(f.eq i hi).2.1,(f.eq i hi).2.2.2⟩
theorem jmz(h:KitL cs ss){i:Nat}(hi:i<ss.length):∀m,m<=ss.length->jcb (ss.take m) (ss.getD i Sch.none).name=if i<m then(ss.getD i Sch.none).cs else []
 |0,_=>by unfold jcb;simp
 | m+1,hm=>by
  have hn:=h.kb.kit i hi;rw[jfV aa hn.2.2,jmz h hi m aa];by_cases h1:m=i
  ·subst h1;rw[Ke aa,Kg rfl,Kg aa,Ja]
  ·have hl:=h.l;rw[Ke (c:=(ss.getD m Sch.none).name=_) (λe => ?_)]
   ·by_cases h2:i<m
    ·rw[Kg h2,Kg aa,Jb]
    ·rw[Ke h2,Ke aa,Jb]
   ·rw[(h.at' m aa).nm,(h.at' i hi).nm]at e
    rcases Nat.lt_or_gt_of_ne h1 with h2|h2
    ·exact jh0 i aa m h2 e
    ·exact jh0 m aa i h2 e.symm
theorem jkh(h:KitL cs ss){i:Nat}(hi:i<ss.length):jcb ss (ss.getD i Sch.none).name=(ss.getD i Sch.none).cs:=by
 have:=jmz h hi ss.length (Kw _);rwa[Jh,Kg hi]at this
structure Bs (ss:List Sch) (i:Nat) (Q:Qy):Prop where
 kind:1<=Q.kind/\Q.kind<=10
 z:Q.ex=[]/\Q.lo=0/\Q.hi=0/\Q.p=0/\Q.q=0/\Q.column=[]/\Q.bound=0/\Q.rg=[]/\Q.strat=0/\Q.cons=false
structure Rt (ss:List Sch) (i:Nat) (Q:Qy):Prop where
 table:Q.table=(ss.getD i Sch.none).name
 keep:Q.keep=0\/(ss.getD i Sch.none).pub=false/\1<=Q.keep/\Q.keep<=4
 join:(Q.other=[]/\Q.left=[]/\Q.right=[]/\Q.limit=0)\/∃j,j<ss.length/\((ss.getD i Sch.none).pub=false\/(ss.getD j Sch.none).pub=true)/\Q.other=(ss.getD j Sch.none).name/\1<=Q.limit/\Q.limit<=3 /\
  ∃a b:Nat,a<(ss.getD i Sch.none).cs.length/\b<(ss.getD j Sch.none).cs.length/\((ss.getD i Sch.none).cs.getD a Col.none).name=((ss.getD j Sch.none).cs.getD b Col.none).name/\Q.left=((ss.getD i Sch.none).cs.getD a Col.none).name/\Q.right=((ss.getD j Sch.none).cs.getD b Col.none).name
 wh:Q.wh=[]\/∃e,WF (ja5 ss Q) e/\e.kind=1/\e.post.length<=bnd 3/\Q.wh=e.post
 factor:Q.factor∈facs
 bits:1<=Q.bits/\Q.bits<=12
theorem je2.rt {i:Nat}{Q4 Q:Qy}(h:je2 (ja5 ss Q4) Q4 Q)(r:Rt ss i Q4):Rt ss i Q:=by
 obtain⟨_,_,_,h⟩:=h;obtain⟨r1,r2,r3,r4,r5,r6⟩:=r
 rcases h with⟨_,rfl⟩|⟨_,_,_,_,_,_,_,_,_,_,_,_,_,_,rfl⟩|⟨_,_,rfl⟩|⟨_,_,_,_,rfl⟩|⟨_,_,_,_,_,_,_,_,rfl⟩|⟨_,rfl⟩<;>exact⟨r1,r2,r3,r4,r5,r6⟩
theorem jiQ.split {Q:Qy}(h:jiQ ss Q):∃i Q4,i<ss.length/\Bs ss i Q4/\Rt ss i Q4/\je2 (ja5 ss Q4) Q4 Q:=by
 obtain⟨i,k,bt,f,Q2,Q3,Q4,hi,k1,k2,b1,b2,hf,h2,h3,h4,h5⟩:=h
 have a2:Bs ss i Q2/\Rt ss i Q2/\Q2.wh=[]/\(Q2.other=[]/\Q2.left=[]/\Q2.right=[]/\Q2.limit=0):=by
  rcases h2 with rfl|⟨hp,kp,p1,p2,rfl⟩
  ·exact⟨⟨⟨k1,k2⟩,rfl,rfl,rfl,rfl,rfl,rfl,rfl,rfl,rfl,rfl⟩,⟨rfl,.inl rfl,.inl ⟨rfl,rfl,rfl,rfl⟩,.inl rfl,hf,b1,b2⟩,rfl,rfl,rfl,rfl,rfl⟩
  ·exact⟨⟨⟨k1,k2⟩,rfl,rfl,rfl,rfl,rfl,rfl,rfl,rfl,rfl,rfl⟩,⟨rfl,.inr ⟨hp,p1,p2⟩,.inl ⟨rfl,rfl,rfl,rfl⟩,.inl rfl,hf,b1,b2⟩,rfl,rfl,rfl,rfl,rfl⟩
 obtain⟨c1,c2,c3,c4⟩:=a2
 have a3:Bs ss i Q3/\Rt ss i Q3/\Q3.wh=[]:=by
  rcases h3 with rfl|⟨j,hj,hp,rfl|⟨a,b,l,ha,hb,hab,l1,l2,rfl⟩⟩
  ·exact⟨c1,c2,c3⟩
  ·exact⟨c1,c2,c3⟩
  ·exact⟨⟨c1.kind,c1.z⟩,⟨c2.table,c2.keep,.inr ⟨j,hj,hp,rfl,l1,l2,a,b,ha,hb,hab,rfl,rfl⟩,.inl c3,c2.factor,c2.bits⟩,c3⟩
 obtain⟨d1,d2,d3⟩:=a3
 rcases h4 with rfl|⟨e,e1,e2,e3,rfl⟩
 ·exact⟨i,_,hi,d1,d2,h5⟩
 ·exact⟨i,{ Q3 with wh:=e.post },hi,⟨d1.kind,d1.z⟩,⟨d2.table,d2.keep,d2.join,.inr ⟨e,e1,e2,e3,rfl⟩,d2.factor,d2.bits⟩,h5⟩
theorem jv6(h:KitL cs ss)(f:Fits ss ss'){i:Nat}(hi:i<ss.length){Q:Qy}(r:Rt ss i Q):jaI Q ss'=ja5 ss Q:=by
 unfold jaI ja5;rw[r.table,(jgS h f hi).2,jkh h hi]
 rcases r.join with⟨e,_⟩|⟨j,hj,_,e,_⟩
 ·rw[e,Kg rfl];unfold jcb;rw[Kg rfl]
 ·rw[e,Ke (h.kb.kit j hj).2.2,(jgS h f hj).2,jkh h hj]
end
section
variable {ss ss':List Sch}{cs:List Col}{i:Nat}{Q0 Q:Qy}
theorem jhr {m:Nat}(hm:m<cs.length)(hf:jci cs m):jbg cs (cs.getD m Col.none).name=m/\colN cs (cs.getD m Col.none).name=cs.getD m Col.none:=by
 have key:jbg cs (cs.getD m Col.none).name=m:=by
  rcases jca cs (cs.getD m Col.none).name with e|⟨j,e,h1,h2,h3⟩
  ·exfalso
   have:(0:Int)<=jbg cs (cs.getD m Col.none).name:=(jdn _ _ _).2 ⟨m,aa,aa,ae⟩;omega
  ·rw[e]
   rcases Vv j m with h|h|h
   ·exact absurd h2 (hf j h)
   ·rw[h]
   ·exact absurd rfl (h3 m h)
 refine⟨key,?_⟩;unfold colN;rw[key,Kg aa,Qj]
theorem jsK {c:Col}(h:Kit c):jcU c<=64:=by
 obtain⟨j,hj,hn⟩:=h.1;unfold jcU;rw[Kg ⟨by rw[hn];exact jkU hj,jkV h⟩]
 have hb : -3<=c.lo/\c.lo<=c.hi/\c.hi<=20:=by
  rcases h.2.2 with⟨_,a,b,d⟩|⟨k,k1,k2,_,a,b⟩<;>omega
 rw[wrap_i64 (x:=c.hi-c.lo) aa aa,wrap_i64 aa aa];omega
theorem jqo(hk:1<=Q.kind/\Q.kind<=10)(h:¬(bad1 Q\/bad2 Q\/bad3 Q\/bad4 Q\/bad5 Q\/bad6 Q)):jjr Q=0:=by
 unfold jjr;rw[Ke aa,Ke h]
end
theorem jdq:∀{l:List (List UInt8 × Int)},(∀p∈l,p.2=0)->jcf l=(0,[])
 | [],_=>rfl
 |(n,e)::l,h=>by
  have h0:e=0:=h (n,e) ae;simp only[jcf];rw[Kg h0];exact jdq λp hp=>h p (by simp[hp])
theorem jn4 {Q:Qy}{ss:List Sch}{fe:Int}(h0:(allE ss).1=0)(h1:jjr Q=0)(h2:tabE Q ss=0)(h3:jkQ Q (schN ss Q.table)=0)(h4:jiH Q ss (schN ss Q.table) (schN ss Q.other)=0)(h5:jj5 Q (jaI Q ss)=0)(h6:expE Q (jaI Q ss)=0)(h7:limE Q=0)(h8:jl4 Q (jaI Q ss)=0)(h9:rgE Q (colN (jaI Q ss) Q.column)=0)(h10:fe=0)(h11:bitE Q=0):jdD Q ss fe=(0,[]):=by
 unfold jdD je6;refine jdq λp hp => ?_
 simp only[Jg,V4,or_false]at hp
 rcases hp with rfl|rfl|rfl|rfl|rfl|rfl|rfl|rfl|rfl|rfl|rfl|rfl<;>first|assumption|exact Kg h0
section
variable {cs:List Col}{ss ss':List Sch}{i:Nat}{Q0 Q:Qy}
structure Rt2 (ss:List Sch) (i:Nat) (Q:Qy):Prop where
 table:Q.table=(ss.getD i Sch.none).name
 keep:Q.keep=0\/(ss.getD i Sch.none).pub=false/\0<=Q.keep/\Q.keep<=50
 join:(Q.other=[]/\Q.left=[]/\Q.right=[]/\Q.limit=0)\/∃j,j<ss.length/\((ss.getD i Sch.none).pub=false\/(ss.getD j Sch.none).pub=true)/\Q.other=(ss.getD j Sch.none).name/\1<=Q.limit/\Q.limit<=3 /\
  ∃a b:Nat,a<(ss.getD i Sch.none).cs.length/\b<(ss.getD j Sch.none).cs.length/\((ss.getD i Sch.none).cs.getD a Col.none).name=((ss.getD j Sch.none).cs.getD b Col.none).name/\Q.left=((ss.getD i Sch.none).cs.getD a Col.none).name/\Q.right=((ss.getD j Sch.none).cs.getD b Col.none).name
 bits:1<=Q.bits/\Q.bits<=12
theorem Rt.two(r:Rt ss i Q):Rt2 ss i Q:=⟨r.table,r.keep.imp id λh=>⟨h.1,aa,aa⟩,r.join,r.bits⟩
theorem ji6(h:KitL cs ss)(hi:i<ss.length){a:Nat}(ha:a<(ss.getD i Sch.none).cs.length):jci (ss.getD i Sch.none).cs a:=λk hk=>juY (h.at' i hi).sub h.all h.five ha hk
theorem jv7(h:KitL cs ss){j a b:Nat}(hi:i<ss.length)(hj:j<ss.length)(ha:a<(ss.getD i Sch.none).cs.length)(hb:b<(ss.getD j Sch.none).cs.length)(e:((ss.getD i Sch.none).cs.getD a Col.none).name=((ss.getD j Sch.none).cs.getD b Col.none).name):((ss.getD i Sch.none).cs.getD a Col.none).ws=((ss.getD j Sch.none).cs.getD b Col.none).ws:=by
 have key:∀{k c:Nat},k<ss.length->c<(ss.getD k Sch.none).cs.length->∃m,m<5/\(ss.getD k Sch.none).cs.getD c Col.none=cpK (cs.getD m Col.none)/\((ss.getD k Sch.none).cs.getD c Col.none).name=ages.getD m []:=by
  intro k c hk hc;obtain⟨js,e1,_,e3⟩:=(h.at' k hk).sub;rw[e1]at hc ⊢;rw[Qw]at hc;have hm:=e3 js[c] (J7 hc);have e2:(js.map λj=>cpK (cs.getD j Col.none)).getD c Col.none=cpK (cs.getD js[c] Col.none):=by simp only[List.getD,J9,Kz hc,K9,Kr]
  refine⟨js[c],hm,e2,?_⟩;rw[e2];exact(h.all js[c] (by have:=h.five;omega)).1
 obtain⟨m,m5,x1,x2⟩:=key hi ha;obtain⟨n,n5,y1,y2⟩:=key hj hb;rw[x2,y2]at e
 have:m=n:=by
  rcases Vv m n with h|h|h
  ·exact absurd e (jnJ n n5 m h)
  ·exact h
  ·exact absurd e.symm (jnJ m m5 n h)
 rw[x1,y1,this]
theorem jsL(h:KitL cs ss)(f:Fits ss ss')(hi:i<ss.length)(r:Rt2 ss i Q):jkQ Q (schN ss' Q.table)=0:=by
 unfold jkQ;have hp:=(jgS h f hi).1;rw[r.table,hp]
 rcases r.keep with e|⟨e1,e2,e3⟩
 ·rw[Ke aa,Ke (λq=>q.1 e)]
 ·rw[Ke aa,Ke (λq=>by rw[e1]at q;cases q.2)]
theorem jsM(h:KitL cs ss)(f:Fits ss ss')(hi:i<ss.length)(r:Rt2 ss i Q):jiH Q ss' (schN ss' Q.table) (schN ss' Q.other)=0:=by
 unfold jiH
 rcases r.join with⟨e1,e2,e3,e4⟩|⟨j,hj,hp,e1,l1,l2,a,b,ha,hb,hab,el,er⟩
 ·rw[Kg e1,Ke (by rw[e2,e3,e4];simp)]
 ·have hn:=(h.kb.kit j hj).2.2;obtain⟨p1,c1⟩:=jgS h f hi;obtain⟨p2,c2⟩:=jgS h f hj;have s1:=jhr ha (ji6 h hi ha);have s2:=jhr hb (ji6 h hj hb);rw[r.table,e1,Ke hn,jk8 h f hj,Ke aa,p1,p2,Ke,c1,c2,el,er,s1.1,s2.1,Ke aa,s1.2,s2.2,Ke (λq=>q (jv7 h hi hj ha hb hab)),Ke aa];rintro⟨x,y⟩;rw[x,y]at hp
  rcases hp with hp|hp<;>cases hp
theorem jud(h:KitL cs ss)(f:Fits ss ss')(hi:i<ss.length)(r:Rt2 ss i Q):tabE Q ss'=0:=by
 unfold tabE;rw[r.table,jk8 h f hi,Kg aa]
theorem jue(r:Rt2 ss i Q):bitE Q=0:=by
 have:=r.bits;unfold bitE;rw[Ke aa]
theorem jqp(r:Rt ss i Q):jj5 Q (ja5 ss Q)=0:=by
 have hb3:bnd 3=94:=af;unfold jj5
 rcases r.wh with e|⟨e,wf,ek,el,hw⟩
 ·rw[Kg (by rw[e];rfl)]
 ·split
  ·rfl
  ·rw[hw,Ex.whole wf,Ke aa,Kg (by simpa using ek)]
theorem jki(h:KitL cs ss)(Q:Qy):Kits (ja5 ss Q):=λc hc=>(Jl.1 hc).elim (jd1 h.kb _ c) (jd1 h.kb _ c)
theorem je2.cols {L:List Col}(h:je2 L Q0 Q):ja5 ss Q=ja5 ss Q0:=by
 obtain⟨_,_,_,h⟩:=h
 rcases h with⟨_,rfl⟩|⟨_,_,_,_,_,_,_,_,_,_,_,_,_,_,rfl⟩|⟨_,_,rfl⟩|⟨_,_,_,_,rfl⟩|⟨_,_,_,_,_,_,_,_,rfl⟩|⟨_,rfl⟩<;>rfl
end
def WV(v:V)(n:Nat)(cs:List V):Prop:=(v=.nilsl/\n=0/\cs=[])\/∃q,v=.row cs n q
theorem WV.of {base w n:Nat}{ts:List Nat}{v:V}{cs:List V}(g:GrowV base ts w v n cs):WV v n cs:=by
 cases g with
 |nil=>exact .inl ⟨rfl,rfl,rfl⟩
 |full _ _ _=>exact .inr ⟨_,rfl⟩
 |tok _ _ _ _ _ _ _=>exact .inr ⟨_,rfl⟩
theorem WV.weak {v:V}{n:Nat}{cs:List V}(h:WV v n cs)(hw:V.weak.weakL cs=cs):WV v.weak n cs:=by
 rcases h with⟨rfl,a,b⟩|⟨q,rfl⟩
 ·exact .inl ⟨rfl,a,b⟩
 ·exact .inr ⟨q.weak,by simp only[V.weak,hw]⟩
theorem WV.closed {v:V}{n:Nat}{cs:List V}(h:WV v n cs)(hw:V.weak.weakL cs=cs)(hc:V.closed.closedL cs=true):v.weak.closed=true:=by
 rcases h with⟨rfl,a,b⟩|⟨q,rfl⟩
 ·rfl
 ·cases q<;>simp[V.weak,V.closed,hw,hc,RCap.weak]
theorem WV.nv {v:V}{l:List Nd}(h:WV v l.length (jb9 l))(hl:l.length<=400):K.NV v l:=by
 rcases h with⟨rfl,a,b⟩|⟨q,rfl⟩
 ·obtain rfl:l=[]:=V7.1 a;exact⟨⟨λ_=>.inl ⟨rfl,rfl⟩,.inl ⟨rfl,rfl⟩⟩,rfl,⟨rfl,rfl⟩,hl⟩
 ·refine⟨?_,rfl,⟨rfl,rfl⟩,hl⟩;cases q with
  |full=>exact⟨λ_=>.inr (.inr rfl),.inr (.inr (by simp only[V.weak,jbo,RCap.weak]))⟩
  |unk=>exact⟨λ_=>.inr (.inl rfl),.inr (.inl (by simp only[V.weak,jbo,RCap.weak]))⟩
  |tok k e w=>exact⟨λh=>by simp[V.closed]at h,.inr (.inl (by simp only[V.weak,jbo,RCap.weak]))⟩
theorem jfX(r:Int × Int)(l:List (Int × Int)):jeC (r::l)=.int .i64 r.1::.int .i64 r.2::jeC l:=rfl
theorem jhs:∀l,V.weak.weakL (jeC l)=jeC l
 | []=>rfl
 |r::l=>by rw[jfX];simp only[V.weak.weakL,V.weak,jhs l]
theorem jhE:∀l,V.closed.closedL (jeC l)=true
 | []=>rfl
 |r::l=>by rw[jfX];simp only[V.closed.closedL,V.closed,jhE l,K8]
theorem jfE:∀l,V.closed.closedL (jb9 l)=true
 | []=>rfl
 |x::l=>by rw[jbJ];simp only[V.closed.closedL,V.closed,jfE l,K8]
theorem jkj:∀(l:List (Int × Int)) (i:Nat),(jeC l).drop (i*2)=jeC (l.drop i)
 |l,0=>ae
 | [],i+1=>by simp[jeC]
 |r::l,i+1=>by
  rw[jfX,show(i+1)*2=i*2+1+1 by omega,K5,K5,jkj l i,K5]
theorem WV.rg {v:V}{l:List (Int × Int)}(h:WV v l.length (jeC l))(hl:l.length<=400):K.RgV v l:=by
 rcases h with⟨rfl,a,b⟩|⟨q,rfl⟩
 ·obtain rfl:l=[]:=V7.1 a;exact⟨rfl,λi hi=>by simp at hi,⟨rfl,rfl⟩,hl⟩
 ·refine⟨rfl,λi hi => ?_,⟨rfl,rfl⟩,hl⟩;refine⟨jeC (l.drop (i+1)),?_⟩;rw[Ys,Kg aa,Qj,jkj,Qk hi,jfX];have:l.getD i (0,0)=l[i]:=by simp[List.getD,hi]
  rw[this]
structure WQ (Q:Qy) (ev wv rv:V):Prop where
 e:WV ev Q.ex.length (jb9 Q.ex)
 w:WV wv Q.wh.length (jb9 Q.wh)
 r:WV rv Q.rg.length (jeC Q.rg)
 l:Q.ex.length<=400/\Q.wh.length<=400/\Q.rg.length<=400
 fl:Q.factor.length<2^40
theorem WQ.qv {Q:Qy}{ev wv rv:V}(h:WQ Q ev wv rv)(hc:ev.closed=true/\wv.closed=true/\rv.closed=true):K.QV Q ev wv rv:=⟨h.e.nv h.l.1,h.w.nv h.l.2.1,h.r.rg h.l.2.2,hc,h.fl⟩
theorem WQ.weak {Q:Qy}{ev wv rv:V}(h:WQ Q ev wv rv):K.QV Q ev.weak wv.weak rv.weak :=
 ⟨(h.e.weak (jbo _)).nv h.l.1,(h.w.weak (jbo _)).nv h.l.2.1,(h.r.weak (jhs _)).rg h.l.2.2,⟨h.e.closed (jbo _) (jfE _),h.w.closed (jbo _) (jfE _),h.r.closed (jhs _) (jhE _)⟩,h.fl⟩
structure LS (ss:List Sch):Prop where
 l:ss.length<=1000
 at':∀s∈ss,(∃q,s.cv=.row (jaO s.cs) s.cs.length q)/\OkC s.cs/\s.cs.length<=200/\jj1 s
def jgs(s:Sch):Sch:=⟨s.name,s.pub,s.many,s.cv.weak,s.cs⟩
theorem jgt:∀ss:List Sch,V.weak.weakL (jaY ss)=jaY (ss.map jgs)
 | []=>rfl
 |s::ss=>by rw[jb8,K6,jb8];simp only[V.weak.weakL,V.weak,jgt ss,jgs]
theorem jsN {cs:List Col}{q:RCap}(h:(V.row (jaO cs) cs.length q).closed=true):IsC (.row (jaO cs) cs.length q) cs:=by
 cases q with
 |full=>exact .inr ⟨.full,.inr rfl,rfl⟩
 |unk=>exact .inr ⟨.unk,.inl rfl,rfl⟩
 |tok k e w=>simp[V.closed]at h
theorem jpb {cs:List Col}(ok:OkC cs)(q:RCap):IsC (V.row (jaO cs) cs.length q).weak cs:=(RC.row ok q).2
theorem jmA:∀{ss:List Sch},V.closed.closedL (jaY ss)=true->∀s∈ss,s.cv.closed=true
 | [],_,_,hs=>by cases hs
 |s::ss,h,t,ht=>by
  rw[jb8]at h;simp only[V.closed.closedL,V.closed,Xh,Qt]at h
  rcases Jg.1 ht with rfl|ht
  ·exact h.1
  ·exact jmA h.2 t ht
theorem LS.mem {ss:List Sch}{i:Nat}(hi:i<ss.length):ss.getD i Sch.none∈ss:=by simp[List.getD,hi]
theorem LS.sb {ss:List Sch}(h:LS ss){q:RCap}(hc:(V.row (jaY ss) ss.length q).closed=true):K.SB (.row (jaY ss) ss.length q) ss:=by
 have hq:(q=.unk\/q=.full)/\V.closed.closedL (jaY ss)=true:=by
  cases q with
  |full=>exact⟨.inr rfl,by simpa[V.closed]using hc⟩
  |unk=>exact⟨.inl rfl,by simpa[V.closed]using hc⟩
  |tok k e w=>simp[V.closed]at hc
 refine⟨⟨.inr ⟨q,hq.1,rfl⟩,λs hs => ?_,h.l,λi hi=>(h.at' _ (LS.mem hi)).2.2.2⟩,λi hi=>(h.at' _ (LS.mem hi)).2.2.1⟩;obtain⟨⟨q',e⟩,ok,_⟩:=h.at' s hs;have:=jmA hq.2 s hs;rw[e]at this;exact⟨e ▸ jsN this,ok⟩
theorem LS.weak {ss:List Sch}(h:LS ss)(q:RCap):K.SB (V.row (jaY ss) ss.length q).weak (ss.map jgs):=by
 have e:(V.row (jaY ss) ss.length q).weak=.row (jaY (ss.map jgs)) (ss.map jgs).length q.weak:=by simp only[V.weak,jgt,Qw]
 rw[e]
 have at2:∀s∈ss.map jgs,IsC s.cv s.cs/\OkC s.cs/\s.cs.length<=200/\jj1 s:=λs hs=>by
  obtain⟨t,ht,rfl⟩:=Jd.1 hs;obtain⟨⟨q',e⟩,ok,l,sh⟩:=h.at' t ht;exact⟨by show IsC t.cv.weak t.cs;rw[e];exact jpb ok q',ok,l,sh⟩
 refine⟨⟨.inr ⟨q.weak,by cases q<;>simp[RCap.weak],rfl⟩,λs hs=>⟨(at2 s hs).1,(at2 s hs).2.1⟩,by rw[Qw];exact h.l,λi hi=>(at2 _ (LS.mem hi)).2.2.2⟩,λi hi=>(at2 _ (LS.mem hi)).2.2.1⟩
theorem jsO(ss:List Sch):Fits ss ss:=⟨Kw _,λ_ _=>⟨rfl,rfl,rfl,rfl⟩⟩
theorem hk17:env.hook 17=some (jbU K.env 17):=rfl
theorem hk19:env.hook 19=some (jbU K.env 19):=rfl
section
variable {Q:Qy}{ev wv rv:V}{ss:List Sch}{q:RCap}{fe:Int}
theorem jfY(h:WQ Q ev wv rv):(V.agg (Q.cells ev wv rv)).weak=.agg (Q.cells ev.weak wv.weak rv.weak):=rfl
theorem jkk:(V.agg (Q.cells ev wv rv)).closed=true->ev.closed=true/\wv.closed=true/\rv.closed=true:=λh=>by
 simp only[Qy.cells,V.closed,V.closed.closedL,Xh,Q5,Qt]at h;exact⟨h.1,h.2.2,h.2.1⟩
end
theorem jsP {f:List UInt8}(h:f∈facs):K.Fac f 0/\f.length<=7:=by
 simp only[facs,Jg,V4,or_false]at h
 rcases h with rfl|rfl|rfl|rfl|rfl
 ·exact⟨⟨0,1,-1,0,0,K.call_F rfl F.ck_0 _,λ_=>⟨K.call_F rfl F.lo_0 _,K.call_F rfl F.hi_0 _⟩,af⟩,af⟩
 ·exact⟨⟨0,1,-1,0,0,K.call_F rfl F.ck_1 _,λ_=>⟨K.call_F rfl F.lo_1 _,K.call_F rfl F.hi_1 _⟩,af⟩,af⟩
 ·exact⟨⟨0,1,-1,0,0,K.call_F rfl F.ck_2 _,λ_=>⟨K.call_F rfl F.lo_2 _,K.call_F rfl F.hi_2 _⟩,af⟩,af⟩
 ·exact⟨⟨0,1,-1,0,0,K.call_F rfl F.ck_3 _,λ_=>⟨K.call_F rfl F.lo_3 _,K.call_F rfl F.hi_3 _⟩,af⟩,af⟩
 ·exact⟨⟨0,1,-1,0,0,K.call_F rfl F.ck_4 _,λ_=>⟨K.call_F rfl F.lo_4 _,K.call_F rfl F.hi_4 _⟩,af⟩,af⟩
section
variable {cs:List Col}{ss ss':List Sch}{Q:Qy}
theorem juf(g:jiQ ss Q):Q.ex.length<=400/\Q.wh.length<=400/\Q.rg.length<=400/\Q.factor∈facs:=by
 have hb3:bnd 3=94:=af;obtain⟨i,Q4,hi,hb,r4,hk⟩:=g.split;have r:=je2.rt hk r4;obtain⟨z1,z2,z3,z4,z5,z6,z7,z8,z9,z10⟩:=hb.z
 have hw:Q.wh.length<=400:=by
  rcases r.wh with e|⟨e,_,_,el,hw⟩
  ·rw[e];simp
  ·rw[hw];omega
 obtain⟨m,_,_,h⟩:=hk;refine⟨?_,hw,?_,r.factor⟩
 ·rcases h with⟨k,rfl⟩|⟨k,e,lo,w,p,q,wf,ek,el,l1,l2,w1,w2,hp,rfl⟩|⟨k,c,rfl⟩|⟨k,bd,b1,b2,rfl⟩|⟨k,rg,st,r1,r2,r3,t1,t2,rfl⟩|⟨k,rfl⟩
  ·simp[z1]
  ·show e.post.length<=400;omega
  ·simp[z1]
  ·simp[z1]
  ·simp[z1]
  ·simp[z1]
 ·rcases h with⟨k,rfl⟩|⟨k,e,lo,w,p,q,wf,ek,el,l1,l2,w1,w2,hp,rfl⟩|⟨k,c,rfl⟩|⟨k,bd,b1,b2,rfl⟩|⟨k,rg,st,r1,r2,r3,t1,t2,rfl⟩|⟨k,rfl⟩
  ·simp[z8]
  ·simp[z8]
  ·simp[z8]
  ·simp[z8]
  ·show rg.length<=400;omega
  ·simp[z8]
theorem jsQ {c:Col}(h:Kit c):jdL c:=by
 obtain⟨⟨j,hj,hn⟩,_,h⟩:=h;have hnm:=jkU hj;refine⟨by rw[hn];have:=hnm.2.1;omega,?_,?_⟩
 ·rcases h with⟨e,_⟩|⟨k,_,_,e,_⟩
  ·rw[e];simp
  ·rw[e,Qx];omega
 ·intro i hi
  rcases h with⟨e,_⟩|⟨k,k1,k5,e,_⟩
  ·rw[e]at hi;simp at hi
  ·have hr:reds.length=5:=rfl;rw[e,Qx]at hi;have:c.ws.getD i []=reds.getD i []:=by rw[e];simp[List.getD,Jw,show i<k by omega]
   rw[this];have:=(jsd (j:=i) aa).2.1;omega
theorem jsR(h:KitL cs ss):LS ss:=by
 have hl:=h.l;refine⟨aa,λs hs => ?_⟩;obtain⟨i,hi,e⟩:=Jr hs;have e2:ss.getD i Sch.none=s:=by simp[List.getD,hi,e]
 have k:=h.at' i hi;rw[e2]at k;have hk:=k.sub.kits h.all h.five;have hle:=k.le;refine⟨k.row,hk.ok,aa,?_,aa,λj hj=>jsQ (hk _ (by simp[List.getD,hj]))⟩;rw[k.nm];have:=(jnI (j:=i) aa).2.1;omega
end
open B (TOK BOK InC)
def ji7(r:Rw):Rw:=⟨r.own,r.vv.weak,r.vs⟩
def jcL(t:Tb):Tb:=⟨jgs t.s,t.rv.weak,t.rows.map ji7⟩
theorem ji8:∀l:List Rw,V.weak.weakL (jcr l)=jcr (l.map ji7)
 | []=>rfl
 |r::l=>by rw[jcF,K6,jcF];simp only[V.weak.weakL,V.weak,ji8 l,ji7]
theorem ji9:∀l:List Tb,V.weak.weakL (jbc l)=jbc (l.map jcL)
 | []=>rfl
 |t::l=>by rw[jcW,K6,jcW];simp only[V.weak.weakL,V.weak,ji9 l,jcL,jgs]
theorem jd3:∀xs:List Int,V.weak.weakL (xs.map (V.int .i64))=xs.map (V.int .i64)
 | []=>rfl
 |x::xs=>by simp only[K6,V.weak.weakL,V.weak,jd3 xs]
theorem ju2(l:List Rw):(l.map ji7).map Rw.pl=l.map Rw.pl:=by
 rw[X5];rfl
section
variable {cs:List Col}{tbs:List Tb}
theorem BaseG.len(h:BaseG cs tbs):1<=tbs.length/\tbs.length<=3:=by
 have h1:=h.k.n;have h2:=h.k.l;simp at h1 h2;exact⟨h1,h2⟩
theorem BaseG.kit(h:BaseG cs tbs){t:Tb}(ht:t∈tbs):∃i,i<tbs.length/\tbs.getD i Tb.none=t/\KitS cs i t.s:=by
 obtain⟨i,hi,e⟩:=Jr ht;have e2:(tbs.map (·.s)).getD i Sch.none=t.s:=by simp[List.getD,hi,e]
 have:=h.k.at' i (by simpa using hi);rw[e2]at this;exact⟨i,hi,by simp[List.getD,hi,e],this⟩
theorem BaseG.kits(h:BaseG cs tbs){t:Tb}(ht:t∈tbs):Kits t.s.cs:=by
 obtain⟨i,_,_,k⟩:=h.kit ht;exact k.sub.kits h.k.all h.k.five
theorem BaseG.sch(h:BaseG cs tbs){t:Tb}(ht:t∈tbs):(∃q,t.s.cv=.row (jaO t.s.cs) t.s.cs.length q)/\OkC t.s.cs/\t.s.cs.length<=200/\jj1 t.s:=(jsR h.k).at' t.s (List.mem_map_of_mem ht)
theorem BaseG.tok(h:BaseG cs tbs){t:Tb}(ht:t∈tbs)(hc:t.s.cv.closed=true)(hr:t.rv.closed=true):TOK t:=by
 obtain⟨⟨q,hq⟩,ok,cl,sh⟩:=h.sch ht;obtain⟨i,hi,_,k⟩:=h.kit ht;obtain⟨hg,hl⟩:=h.r t ht;have hv:=h.v t ht;have kb:=h.kits ht
 have hx:∀r∈t.rows,r.vs.length=t.s.cs.length/\∀x∈r.vs,In64 x:=λr hr=>by
  obtain⟨_,_,g3,g4⟩:=hg.g r hr;refine⟨g3,λx hx => ?_⟩;obtain⟨j,hj,e⟩:=Jr hx;have hj2:j<t.s.cs.length:=by have:r.vs.length=t.s.cs.length:=g3;omega
  have h1:=g4 j hj2;have h2:=kb.bound hj2;have e2:r.pl.2.getD j 0=x:=by show r.vs.getD j 0=x;simp[List.getD,hj,e]
  rw[e2]at h1;simp only[In64];omega
 refine⟨by rw[hq]at hc ⊢;exact jsN hc,ok,cl,sh,?_,λc hcm => ?_,?_,?_,aa,λr hr=>by rw[(hx r hr).1];omega⟩
 ·rcases k.pb with⟨_,e,_⟩|⟨_,e1,e2⟩<;>simp only[In64]<;>omega
 ·obtain⟨j,hj,e⟩:=Jr hcm;have h2:=kb.bound hj;rw[show t.s.cs.getD j Col.none=c by simp[List.getD,hj,e]]at h2;simp only[In64];omega
 ·rcases hv with⟨e1,e2⟩|⟨q2,e⟩
  ·exact .inl ⟨e1,e2⟩
  ·rw[e]at hr ⊢;cases q2 with
   |full=>exact .inr ⟨.full,.inr rfl,rfl⟩
   |unk=>exact .inr ⟨.unk,.inl rfl,rfl⟩
   |tok k e w=>simp[V.closed]at hr
 ·intro r hrm
  have hcr:r.vv.closed=true:=by
   rcases hv with⟨e1,e2⟩|⟨q2,e⟩
   ·rw[e2]at hrm;cases hrm
   ·have hcl:V.closed.closedL (jcr t.rows)=true:=by
     rw[e]at hr;cases q2 with
     |full=>simpa[V.closed]using hr
     |unk=>simpa[V.closed]using hr
     |tok k e w=>simp[V.closed]at hr
    have:∀l:List Rw,V.closed.closedL (jcr l)=true->∀r∈l,r.vv.closed=true:=λl=>by
     induction l with
     |nil=>intro _ r hr;cases hr
     |cons a l ih =>
      intro hh r hr;rw[jcF]at hh;simp only[V.closed.closedL,V.closed,Xh,Qt]at hh
      rcases Jg.1 hr with rfl|hr
      ·exact hh.1
      ·exact ih hh.2 r hr
    exact this _ hcl r hrm
  obtain⟨q3,e3⟩:=hg.v r hrm;refine⟨?_,(hx r hrm).2,?_⟩
  ·rw[e3]at hcr ⊢;cases q3 with
   |full=>exact .inr (.inr rfl)
   |unk=>exact .inr (.inl rfl)
   |tok k e w=>simp[V.closed]at hcr
  ·obtain⟨g1,g2,_⟩:=hg.g r hrm;cases hp:t.s.pub with
   |true=>have:=g1 hp;simp only[In64];show _/\_;have e:r.own=0:=this;omega
   |false=>have:=g2 hp;simp only[In64];have e:1<=r.own/\r.own<=5:=this;omega
theorem BaseG.weak(h:BaseG cs tbs):BaseG cs (tbs.map jcL):=by
 have e:(tbs.map jcL).map (·.s)=(tbs.map (·.s)).map jgs:=by rw[X5,X5];rfl
 refine⟨?_,?_,?_⟩
 ·rw[e];refine⟨h.k.all,h.k.five,by have:=h.k.n;simpa using this,by have:=h.k.l;simpa using this,λi hi => ?_⟩;have hi2:i<(tbs.map (·.s)).length:=by simpa using hi
  have k:=h.k.at' i hi2;have e3:((tbs.map (·.s)).map jgs).getD i Sch.none=jgs ((tbs.map (·.s)).getD i Sch.none):=by simp only[List.getD,J9,Kz hi2,K9,Kr]
  rw[e3];refine⟨k.nm,k.sub,k.ne,k.le,k.pb,?_⟩;obtain⟨q,hq⟩:=k.row;exact⟨q.weak,by show V.weak _=_;rw[hq];simp only[V.weak,jch ((k.sub.kits h.k.all h.k.five).ok)];rfl⟩
 ·intro t ht;obtain⟨t0,h0,rfl⟩:=Jd.1 ht;obtain⟨g,hl⟩:=h.r t0 h0;refine⟨⟨λr hr => ?_,λr hr => ?_,λhp o => ?_⟩,by simpa[jcL]using hl⟩
  ·obtain⟨r0,hr0,rfl⟩:=Jd.1 hr;obtain⟨q,hq⟩:=g.v r0 hr0;exact⟨q.weak,by show V.weak _=_;rw[hq];simp only[V.weak,jd3];rfl⟩
  ·obtain⟨r0,hr0,rfl⟩:=Jd.1 hr;exact g.g r0 hr0
  ·show(cnt o ((t0.rows.map ji7).map Rw.pl):Int)<=_;rw[ju2];exact g.m hp o
 ·intro t ht;obtain⟨t0,h0,rfl⟩:=Jd.1 ht
  rcases h.v t0 h0 with⟨e1,e2⟩|⟨q,e1⟩
  ·exact .inl ⟨by show V.weak _=_;rw[e1];rfl,by show List.map _ _=_;rw[e2];rfl⟩
  ·exact .inr ⟨q.weak,by show V.weak _=.row (jcr (t0.rows.map ji7)) (t0.rows.map ji7).length _;rw[e1];simp only[V.weak,ji8,Qw]⟩
theorem jn5:∀{l:List Tb},V.closed.closedL (jbc l)=true->∀t∈l,t.s.cv.closed=true/\t.rv.closed=true
 | [],_,t,ht=>by cases ht
 |x::l,h,t,ht=>by
  rw[jcW]at h;simp only[V.closed.closedL,V.closed,Xh,Qt]at h
  rcases Jg.1 ht with rfl|ht
  ·exact⟨h.1,h.2.1⟩
  ·exact jn5 h.2.2 t ht
theorem BaseG.bok(h:BaseG cs tbs){q:RCap}(hc:(V.row (jbc tbs) tbs.length q).closed=true):BOK (.row (jbc tbs) tbs.length q) tbs:=by
 have hq:(q=.unk\/q=.full)/\V.closed.closedL (jbc tbs)=true:=by
  cases q with
  |full=>exact⟨.inr rfl,by simpa[V.closed]using hc⟩
  |unk=>exact⟨.inl rfl,by simpa[V.closed]using hc⟩
  |tok k e w=>simp[V.closed]at hc
 have hl:=h.len;exact⟨.inr ⟨q,hq.1,rfl⟩,λt ht=>h.tok ht (jn5 hq.2 t ht).1 (jn5 hq.2 t ht).2,aa⟩
theorem jh6(tbs:List Tb)(q:RCap):(V.row (jbc tbs) tbs.length q).weak=.row (jbc (tbs.map jcL)) (tbs.map jcL).length q.weak:=by simp only[V.weak,ji9,Qw]
theorem BaseG.bokW(h:BaseG cs tbs)(q:RCap):BOK (.row (jbc (tbs.map jcL)) (tbs.map jcL).length q.weak) (tbs.map jcL):=by
 have hw:=h.weak;have hl:=hw.len;refine⟨.inr ⟨q.weak,by cases q<;>simp[RCap.weak],rfl⟩,λt ht => ?_,aa⟩;obtain⟨t0,h0,rfl⟩:=Jd.1 ht;refine hw.tok ht ?_ ?_
 ·obtain⟨⟨q1,e⟩,ok,_⟩:=h.sch h0;show V.closed (V.weak _)=true;rw[e];exact ja9 (jpb ok q1) ok
 ·show V.closed (V.weak _)=true
  rcases h.v t0 h0 with⟨e,_⟩|⟨q1,e⟩
  ·rw[e];rfl
  ·rw [e]
   have:∀l:List Rw,(∀r∈l,∃q,r.vv=.row (r.vs.map (V.int .i64)) r.vs.length q)->V.closed.closedL (V.weak.weakL (jcr l))=true:=λl=>by
    induction l with
    |nil=>intro _;rfl
    | cons a l ih =>
     intro hh;obtain⟨q2,e2⟩:=hh a ae;rw[jcF]
     have e3:V.closed (V.weak a.vv)=true:=by
      rw[e2]
      have:W.IsI (V.weak (.row (a.vs.map (V.int .i64)) a.vs.length q2)) a.vs:=by
       cases q2 with
       |full=>exact .inr (.inr (by simp only[V.weak,jd3,RCap.weak]))
       |unk=>exact .inr (.inl (by simp only[V.weak,jd3,RCap.weak]))
       |tok k e w=>exact .inr (.inl (by simp only[V.weak,jd3,RCap.weak]))
      exact W.closed_I this
     simp only[V.weak.weakL,V.weak,V.closed.closedL,V.closed,Xh,e3,ih λr hr=>hh r (by simp[hr])]
   have e4:=this _ (h.r t0 h0).1.v;cases q1<;>simp[V.weak,V.closed,RCap.weak,e4]
end
open B (TOK BOK InC FitQ jed sv vpQ tbN VR jnN)
section
variable {cs:List Col}{tbs:List Tb}{Q:Qy}{ev wv rv:V}{fe:Int}
theorem jht(h:BaseG cs tbs):sv (tbs.map jcL)=sv tbs:=by
 unfold sv;rw[X5];refine Xz λt ht => ?_
 obtain⟨⟨q,e⟩,ok,_⟩:=h.sch ht;show({ jgs t.s with cv:=unkV t.s.cv.weak }:Sch)={ t.s with cv:=unkV t.s.cv };rw[e];simp only[V.weak,jch ok,unkV,jgs]
theorem jpc(h:BaseG cs tbs)(nm:List UInt8):tbN (tbs.map jcL) nm=jcL (tbN tbs nm):=by
 unfold tbN;rw[jht h];by_cases hl:(ja3 (sv tbs) nm (sv tbs).length 0).toNat<tbs.length
 ·simp only[List.getD,J9,Kz hl,K9,Kr]
 ·have h1:tbs[(ja3 (sv tbs) nm (sv tbs).length 0).toNat]? = none:=Qo aa;simp only[List.getD,J9,h1,Te,Option.getD_none];rfl
theorem jsS(h:BaseG cs tbs):vpQ (tbs.map jcL) Q=vpQ tbs Q:=by
 unfold vpQ B.ixL B.ixR;rw[jht h,jpc h,jpc h];have e:∀t:Tb,(jcL t).rows.map Rw.pl=t.rows.map Rw.pl:=λt=>ju2 t.rows
 rw[e,e];rfl
theorem jv8(tbs:List Tb):Fits (tbs.map (·.s)) (sv tbs):=by
 refine⟨by simp[sv],λi hi => ?_⟩;have hi2:i<tbs.length:=by simpa using hi
 have e:(sv tbs).getD i Sch.none=B.cpS ((tbs.map (·.s)).getD i Sch.none):=by simp only[sv,List.getD,J9,Kz hi2,K9,Kr]
 rw[e];exact⟨rfl,rfl,rfl,rfl⟩
theorem jpd {s:Sch}:∀(l:List PR) (seen:List Int) (i:Nat),(∀r∈l,RowG s r)->(s.pub=false->∀o,((seen.count o+cnt o l:Nat):Int)<=s.many)->B.rowsE s seen i l=(0,-1)
 | [],_,_,_,_=>rfl
 | r::l,seen,i,hg,hc=>by
  obtain⟨g1,g2,g3,g4⟩:=hg r ae
  have e1:∀o,cnt o (r::l)=cnt o l+if r.1=o then 1 else 0:=λo=>by
   by_cases h:r.1=o<;>simp[cnt,h]
  have hr:B.rowE s seen r=0:=by
   unfold B.rowE;rw[Ke (λq=>q g3),Ke,Ke,Ke]
   ·rintro⟨hp,h2⟩;have:=hc hp r.1;rw[e1,Kg rfl]at this;omega
   ·simp only[Jq,Ux];exact g4
   ·rintro(⟨hp,h2⟩|⟨hp,h2⟩)
    ·exact h2 (g1 hp)
    ·have:=g2 hp;omega
  simp only[B.rowsE];rw[Kg hr];refine jpd l _ _ (λx hx=>hg x (by simp[hx])) λhp o => ?_
  have:=hc hp o;rw[e1]at this;by_cases h:r.1=o
  ·subst h;rw[List.count_cons_self];rw[Kg rfl]at this;omega
  ·rw[Vb h];rw[Ke h]at this;omega
theorem jxP(h:BaseG cs tbs){t:Tb}(ht:t∈tbs):(B.Tb.tabE t).1=0:=by
 obtain⟨i,hi,_,k⟩:=h.kit ht;obtain⟨hg,hl⟩:=h.r t ht;have hn:=h.len
 have hc:(jdh t.s.name t.s.pub t.s.many t.s.cs).1=0:=by
  refine jgp (by rw[k.nm];exact jnI aa) ?_ ⟨k.ne,by have:=k.le;omega⟩ λj hj=>joZ k.sub h.k.all h.k.five hj
  rcases k.pb with⟨a,b,_⟩|⟨a,b,c⟩
  ·exact .inl ⟨a,b⟩
  ·exact .inr ⟨a,b,aa⟩
 unfold B.Tb.tabE B.tabE
 rw[Ke (λq=>q hc),Ke (by simp;omega),jpd _ _ _ (λr hr=>by obtain⟨r0,h0,rfl⟩:=Jd.1 hr;exact hg.g r0 h0) λhp o=>by
  have:=hg.m hp o;simpa using this]
theorem jpe:∀(l:List Tb) (i:Nat),(∀t∈l,(B.Tb.tabE t).1=0)->B.tabsE i l=(0,-1,-1)
 | [],_,_=>rfl
 |t::l,i,h=>by
  simp only[B.tabsE];rw[Kg (h t ae)];exact jpe l _ λx hx=>h x (by simp[hx])
theorem jk9(h:BaseG cs tbs):(allE (sv tbs)).1=0/\(jed tbs).1=0:=by
 have ha:(allE (sv tbs)).1=0:=jvJ h.k (jv8 tbs) (.inl (by simp[sv]));refine⟨ha,?_⟩;unfold jed;rw[Ke (λq=>q ha),jpe _ _ λt ht=>jxP h ht]
end
open B (TOK BOK sv svV cpS)
theorem at65:env.P.funcs[65]? = some Tryz.f65:=ac
theorem jAk(t:Tb):rowO env 24 1 [(0,.agg [.str t.s.name,.bool t.s.pub,.int .i64 t.s.many,t.s.cv])]=some (.row [.str t.s.name,.bool t.s.pub,.int .i64 t.s.many,t.s.cv] 1 .full):=ac
theorem jja(h:List AObj):∀{l:List Tb},(∀t∈l,IsC t.s.cv t.s.cs/\OkC t.s.cs)->(jaY (l.map (·.s))).mapM (jaK h 11)=some (jaY (sv l))
 | [],_=>rfl
 | t::l,ok=>by
  obtain⟨hv,hc⟩:=ok t ae
  have hs:jaK h 11 t.s.cv=some (unkV t.s.cv):=by
   rcases hv with⟨e,_⟩|⟨q,_,e⟩<;>rw[e]
   ·rfl
   ·show jaK h (10+1) (.row _ _ _)=_;rw[ja1,show(10:Nat)=8+2 from rfl,jdZ h 8 hc];rfl
  have e2:sv (t::l)=cpS t.s::sv l:=rfl;rw[K6,e2,jb8,jb8,jal,jal,jal,jal,jja h (l:=l) λx hx=>ok x (by simp[hx]),hs,jbC,jav,jaA];rfl
theorem jsT(h:List AObj)(a b c d e:V)(r:List V):jab h 4 (.rptr (a::b::c::d::e::r))=some [a,b,c,d]:=by simp[jab]
section
variable {v:V}{l:List Tb}
theorem jge(h:BOK v l)(U:S):jah env (ev env) 34 [v] U=some (svV l,U):=by
 refine jaj (by simp[h.closed]) at34 rfl ?_ U;have hlim:lim=2^40:=rfl;have hl:=h.l;have hB:=jmo h.v 79;simp only[Tryz.f34,simprocAttr,zK,Vq,jai,ty7,uq];refine jau (λm T D U=>D=[]/\T 0=v/\∃(L:List AObj) (ts:List Nat) (i:Nat) (u:V),U=⟨L,ts⟩/\T 3=u/\T 4=.int .i64 i/\i<=l.length/\m=l.length-i/\GrowV 0 ts 4 u i (jaY ((l.take i).map (·.s)))/\(i=0->u=.nilsl)) ?_ (l.length-0) _ _ _ ⟨rfl,rfl,[],[],0,.nilsl,rfl,rfl,rfl,Qm _,rfl,.nil,λ_=>rfl⟩;rintro m T D U ⟨rfl,t0,L,ts,i,u,rfl,t3,t4,hi,rfl,g,g0⟩;refine jaC ?_;by_cases hlt:i<l.length
 ·have c1:(i:Int)<(l.length:Int):=by omega
  have e1:IntKind.i64.wrap ((i:Int)+1)=((i+1:Nat):Int):=by rw[wrap_i64 aa aa];omega
  have hx:=jiK h.v hlt;have ht:=h.at hlt;have hr:=jAk (l.getD i Tb.none)
  obtain⟨v',ts',hA,g',_⟩:=GrowV.push (E:=env) (hp:=L) (q:=.full) (new:=[.str (l.getD i Tb.none).s.name,.bool (l.getD i Tb.none).s.pub,.int .i64 (l.getD i Tb.none).s.many,(l.getD i Tb.none).s.cv]) eS ⟨38,eS.slice⟩ g (Qm _) rfl
   (by rcases ht.cv with⟨e,_⟩|⟨q,_,e⟩<;>rw[e]<;>rfl) ⟨by rw[hlim];omega,by rw[hlim];omega⟩
  simp only[simprocAttr,yK,Vq,ty7,uq,al1,jaJ,Qz,K5,t0,t3,t4,c1,e1,hB,hx,jsT,jar,hr,hA];refine⟨l.length-(i+1),aa,L,ts',i+1,v',rfl,rfl,rfl,aa,rfl,?_,λh=>aa⟩;rw[B.take_next Tb.none hlt];have e:jaY ((l.take i++[l.getD i Tb.none]).map (·.s))=jaY ((l.take i).map (·.s))++[.str (l.getD i Tb.none).s.name,.bool (l.getD i Tb.none).s.pub,.int .i64 (l.getD i Tb.none).s.many,(l.getD i Tb.none).s.cv]:=by simp[jaY,Sch.cells]
  rw[e];exact g'
 ·have hie:i=l.length:=by omega
  subst hie;have c1:((l.length:Int)<(l.length:Int))=False:=eq_false aa;simp only[simprocAttr,yK,Vq,ty7,uq,t0,t3,t4,c1,hB];rw[Jh]at g;have hs:=jja L (l:=l) λt ht=>⟨(h.t t ht).cv,(h.t t ht).ok⟩
  unfold svV;by_cases hn:l=[]
  ·rw[Kg hn,g0 (by rw[hn];rfl)];rfl
  ·rw[Ke hn];have hp:0<l.length:=Xy.2 hn;obtain⟨q,rfl⟩:=g.isrow hp;show jaK L (11+1) (.row _ _ _)=_;rw[ja1,hs,show(sv l).length=l.length by simp[sv]];rfl
def jjv(nm:List UInt8):List Tb->Bool
 | []=>false
 |t::l=>if t.s.name=nm then !t.s.pub else jjv nm l
theorem private_call(h:BOK v l)(nm:List UInt8)(U:S):jah env (ev env) 65 [v,.str nm] U=some (.bool (jjv nm l),U):=by
 refine jaj (by rw[Ks,h.closed];rfl) at65 rfl ?_ U;have hl:=h.l;have hB:=jmo h.v 79;generalize hr:jjv nm l=r;simp only[Tryz.f65,simprocAttr,zK,Vq,jai,ty7,uq];refine jau (λm T D U=>D=[]/\T 0=v/\T 1=.str nm/\∃i:Nat,U=⟨[],[]⟩/\T 5=.int .i64 i/\i<=l.length/\m=l.length-i/\jjv nm (l.drop i)=r) ?_ (l.length-0) _ _ _ ⟨rfl,rfl,rfl,0,rfl,rfl,Qm _,rfl,hr⟩;clear hr;rintro m T D U ⟨rfl,t0,t1,i,rfl,t5,hi,rfl,hr⟩;refine jaC ?_;by_cases hlt:i<l.length
 ·have c1:(i:Int)<(l.length:Int):=by omega
  have e1:IntKind.i64.wrap ((i:Int)+1)=((i+1:Nat):Int):=by rw[wrap_i64 aa aa];omega
  have hx:=jiK h.v hlt;rw[show l.drop i=l.getD i Tb.none::l.drop (i+1) by rw[Qk hlt];simp[List.getD,hlt]]at hr;simp only[jjv]at hr;generalize l.getD i Tb.none=t at *;by_cases k:t.s.name=nm
  ·rw[Kg k]at hr;subst hr;have g1:=eq_true k;cases hp:t.s.pub
   all_goals
    simp only[simprocAttr,yK,Vq,ty7,uq,al1,jaJ,Qz,K5,t0,t1,t5,c1,e1,hB,hx,jaq,jax,g1,hp,Q8,Ji];rfl
  ·rw[Ke k]at hr;have g1:=eq_false k;simp only[simprocAttr,yK,Vq,ty7,uq,al1,jaJ,Qz,K5,t0,t1,t5,c1,e1,hB,hx,jaq,jax,g1];exact⟨l.length-(i+1),aa,i+1,rfl,aa,rfl,hr⟩
 ·have hie:i=l.length:=by omega
  subst hie;have c1:((l.length:Int)<(l.length:Int))=False:=eq_false aa;rw[U8]at hr;simp only[jjv]at hr;subst hr;simp only[simprocAttr,yK,Vq,ty7,uq,t0,t1,t5,c1,hB];rfl
end
open W (len_I idx_I closed_I)
def jn6(nm:List UInt8):List Tb->Int->Int
 | [],m=>m
 |t::l,m=>jn6 nm l (if t.s.name=nm/\m=0 then t.s.many else m)
section
variable {v:V}{l:List Tb}{Q:Qy}{ev' wv rv:V}
end
open B (TOK BOK sv svV cpS vpQ tbN FitQ jed)
theorem jpf {nm:List UInt8}:∀(l:List Tb) (i:Nat),i<l.length->(l.getD i Tb.none).s.name=nm->(∀k,k<l.length->(l.getD k Tb.none).s.name=nm->k=i)->jjv nm l = !(l.getD i Tb.none).s.pub
 | [],i,h,_,_=>by simp at h
 |t::l,0,_,hn,_=>by
  simp only[jjv,V6]at hn ⊢;rw[Kg hn]
 |t::l,i+1,hi,hn,hu=>by
  have h0:¬t.s.name=nm:=λe=>by have:=hu 0 ae e;omega
  simp only[jjv,X7]at hn ⊢;rw[Ke h0];exact jpf l i (by simpa using hi) hn λk hk e=>by have:=hu (k+1) (by simpa using hk) e;omega
theorem jkl {nm:List UInt8}:∀(l:List Tb) (m:Int),(∀t∈l,t.s.name ≠ nm)->jn6 nm l m=m
 | [],_,_=>rfl
 |t::l,m,h=>by
  simp only[jn6];rw[Ke λq=>h t ae q.1];exact jkl l m λx hx=>h x (by simp[hx])
theorem jpg {nm:List UInt8}:∀(l:List Tb) (i:Nat) (m:Int),i<l.length->(l.getD i Tb.none).s.name=nm->(∀k,k<l.length->(l.getD k Tb.none).s.name=nm->k=i)->jn6 nm l m=if m=0 then(l.getD i Tb.none).s.many else m
 | [],i,_,h,_,_=>by simp at h
 | t::l,0,m,_,hn,hu=>by
  simp only[jn6,V6]at hn ⊢
  rw[jkl l _ λx hx e=>by
   obtain⟨k,hk,e2⟩:=Jr hx;have:=hu (k+1) (by simpa using hk) (by rw[X7,show l.getD k Tb.none=x by simp[List.getD,hk,e2]];exact e);omega]
  simp only[hn,true_and]
 |t::l,i+1,m,hi,hn,hu=>by
  have h0:¬t.s.name=nm:=λe=>by have:=hu 0 ae e;omega
  simp only[jn6,X7]at hn ⊢;rw[Ke λq=>h0 q.1];exact jpg l i m (by simpa using hi) hn λk hk e=>by have:=hu (k+1) (by simpa using hk) e;omega
theorem jug {i k:Nat}(hi:i<3)(hk:k<3)(e:tabs.getD i []=tabs.getD k []):i=k:=by
 match i,k,hi,hk with
 |0,0,_,_=>rfl
 |1,1,_,_=>rfl
 |2,2,_,_=>rfl
 |0,1,_,_=>exact absurd e af
 |0,2,_,_=>exact absurd e af
 |1,0,_,_=>exact absurd e af
 |1,2,_,_=>exact absurd e af
 |2,0,_,_=>exact absurd e af
 |2,1,_,_=>exact absurd e af
section
variable {cs:List Col}{tbs:List Tb}{Q:Qy}{ev wv rv:V}{fe:Int}{q:RCap}
theorem jn7(h:BaseG cs tbs)(U:S):jah env (Go.Ab.ev env) 34 [.row (jbc tbs) tbs.length q] U=some (.row (jaY (sv tbs)) (sv tbs).length .unk,U):=by
 have hl:=h.len
 have hne:∀l:List Tb,1<=l.length->svV l=.row (jaY (sv l)) (sv l).length .unk:=λl hl=>by
  unfold svV;rw[Ke (λe=>by rw[e]at hl;simp at hl)]
 refine jjq rfl rfl (λhc U => ?_) ?_ (λU => ?_) U
 ·simp only[Ks,Qn,Q5]at hc;rw[jge (h.bok hc),hne _ hl.1]
 ·simp only[K6,J5,Ks,Qn,jh6,(h.bokW q).closed,K8]
 ·simp only[K6,J5,jh6];rw[jge (h.bokW q),hne _ (by simpa using hl.1),jht h]
theorem BaseG.kitSv(h:BaseG cs tbs):KitL cs (sv tbs):=by
 refine⟨h.k.all,h.k.five,by have:=h.k.n;simpa[sv]using this,by have:=h.k.l;simpa[sv]using this,λi hi => ?_⟩;have hi2:i<(tbs.map (·.s)).length:=by simpa[sv]using hi
 have hi3:i<tbs.length:=by simpa using hi2
 have k:=h.k.at' i hi2;have e:(sv tbs).getD i Sch.none=cpS ((tbs.map (·.s)).getD i Sch.none):=by simp only[sv,List.getD,J9,Kz hi3,K9,Kr]
 rw[e];refine⟨k.nm,k.sub,k.ne,k.le,k.pb,?_⟩;obtain⟨q,hq⟩:=k.row;exact⟨.unk,by show unkV _=_;rw[hq];rfl⟩
theorem jsU(h:BaseG cs tbs){nm0:List UInt8}(hs:0<=ja3 (sv tbs) nm0 (sv tbs).length 0):tbN tbs nm0∈tbs/\jjv nm0 tbs = !(tbN tbs nm0).s.pub/\(∀m,jn6 nm0 tbs m=if m=0 then(tbN tbs nm0).s.many else m):=by
 obtain⟨i,hi1,hi2,hi3,hi4,hi5,hi6⟩:=B.tbN_spec hs;have hl:=h.len
 have nm:∀k,k<tbs.length->(tbs.getD k Tb.none).s.name=tabs.getD k []:=λk hk=>by
  have k2:=(h.k.at' k (by simpa using hk)).nm;rw[<- k2];simp only[List.getD,J9,Kz hk,K9,Kr]
 rw[hi3]at hi6;have hu:∀k,k<tbs.length->(tbs.getD k Tb.none).s.name=nm0->k=i:=λk hk e=>jug aa aa (by rw[<- nm k hk,<- nm i hi2,e,hi6])
 refine⟨hi5,?_,λm => ?_⟩
 ·rw[hi3];exact jpf tbs i hi2 hi6 hu
 ·rw[hi3];exact jpg tbs i m hi2 hi6 hu
end
end Go.Proofs.YtajaampgajieeaaGreatDoor.N
