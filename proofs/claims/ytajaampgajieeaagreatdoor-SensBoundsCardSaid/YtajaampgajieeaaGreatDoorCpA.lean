/- Proved here: what is drawn is in order; views of it. Conditions: each theorem's own. -/
import Derived.Test.YtajaampgajieeaaGreatDoorBsA
import Derived.Test.YtajaampgajieeaaGreatDoorRnA
import Derived.Test.YtajaampgajieeaaGreatDoorVxA
set_option linter.unusedSimpArgs false
set_option maxHeartbeats 16000000
set_option maxRecDepth 1000000
set_option linter.unusedVariables false
set_option linter.unusedSectionVars false
namespace Go.Proofs.YtajaampgajieeaaGreatDoor.N
open Go.Ab
section
variable {cs:List Col}{ss ss':List Sch}
structure Bs (ss:List Sch) (i:Nat) (Q:Qy):Prop where
 kind:1<=Q.kind/\Q.kind<=10
 z:Q.ex=[]/\Q.lo=0/\Q.hi=0/\Q.p=0/\Q.q=0/\Q.column=[]/\Q.bound=0/\Q.rg=[]/\Q.strat=0/\Q.cons=false
structure Rt (ss:List Sch) (i:Nat) (Q:Qy):Prop where
 table:Q.table=(ss.getD i Sch.none).name
 keep:Q.keep=0\/(ss.getD i Sch.none).pub=false/\1<=Q.keep/\Q.keep<=4
 join:(Q.other=[]/\Q.left=[]/\Q.right=[]/\Q.limit=0)\/∃j,j<ss.length/\((ss.getD i Sch.none).pub=false\/(ss.getD j Sch.none).pub=true)/\Q.other=(ss.getD j Sch.none).name/\1<=Q.limit/\Q.limit<=3 /\
  ∃a b:Nat,a<(ss.getD i Sch.none).cs.length/\b<(ss.getD j Sch.none).cs.length/\((ss.getD i Sch.none).cs.getD a Col.none).name=((ss.getD j Sch.none).cs.getD b Col.none).name/\Q.left=((ss.getD i Sch.none).cs.getD a Col.none).name/\Q.right=((ss.getD j Sch.none).cs.getD b Col.none).name
 wh:Q.wh=[]\/∃e,WF (jda ss Q) e/\e.kind=1/\e.post.length<=bnd 3/\Q.wh=e.post
 factor:Q.factor∈facs
 bits:1<=Q.bits/\Q.bits<=12
theorem jgP.rt {i:Nat}{Q4 Q:Qy}(h:jgP (jda ss Q4) Q4 Q)(r:Rt ss i Q4):Rt ss i Q:=by
 obtain⟨_,_,_,h⟩:=h;obtain⟨r1,r2,r3,r4,r5,r6⟩:=r
 rcases h with⟨_,rfl⟩|⟨_,_,_,_,_,_,_,_,_,_,_,_,_,_,rfl⟩|⟨_,_,rfl⟩|⟨_,_,_,_,rfl⟩|⟨_,_,_,_,_,_,_,_,rfl⟩|⟨_,rfl⟩<;>exact⟨r1,r2,r3,r4,r5,r6⟩
theorem jme.split {Q:Qy}(h:jme ss Q):∃i Q4,i<ss.length/\Bs ss i Q4/\Rt ss i Q4/\jgP (jda ss Q4) Q4 Q:=by
 obtain⟨i,k,bt,f,Q2,Q3,Q4,hi,k1,k2,b1,b2,hf,h2,h3,h4,h5⟩:=h
 have a2:Bs ss i Q2/\Rt ss i Q2/\Q2.wh=[]/\(Q2.other=[]/\Q2.left=[]/\Q2.right=[]/\Q2.limit=0):=by
  rcases h2 with rfl|⟨hp,kp,p1,p2,rfl⟩
  ·exact⟨⟨⟨k1,k2⟩,rfl,rfl,rfl,rfl,rfl,rfl,rfl,rfl,rfl,rfl⟩,⟨rfl,.inl rfl,.inl ⟨rfl,rfl,rfl,rfl⟩,.inl rfl,hf,b1,b2⟩,rfl,rfl,rfl,rfl,rfl⟩
  ·exact⟨⟨⟨k1,k2⟩,rfl,rfl,rfl,rfl,rfl,rfl,rfl,rfl,rfl,rfl⟩,⟨rfl,.inr ⟨hp,p1,p2⟩,.inl ⟨rfl,rfl,rfl,rfl⟩,.inl rfl,hf,b1,b2⟩,rfl,rfl,rfl,rfl,rfl⟩
 obtain⟨c1,c2,c3,c4⟩:=a2
 have a3:Bs ss i Q3/\Rt ss i Q3/\Q3.wh=[]:=by
  rcases h3 with rfl|⟨j,hj,hp,rfl|⟨a,b,l,ha,hb,hab,l1,l2,rfl⟩⟩
  ·exact⟨c1,c2,c3⟩
  ·exact⟨c1,c2,c3⟩
  ·exact⟨⟨c1.kind,c1.z⟩,⟨c2.table,c2.keep,.inr ⟨j,hj,hp,rfl,l1,l2,a,b,ha,hb,hab,rfl,rfl⟩,.inl c3,c2.factor,c2.bits⟩,c3⟩
 obtain⟨d1,d2,d3⟩:=a3
 rcases h4 with rfl|⟨e,e1,e2,e3,rfl⟩
 ·exact⟨i,_,hi,d1,d2,h5⟩
 ·exact⟨i,{ Q3 with wh:=e.post },hi,⟨d1.kind,d1.z⟩,⟨d2.table,d2.keep,d2.join,.inr ⟨e,e1,e2,e3,rfl⟩,d2.factor,d2.bits⟩,h5⟩
end
section
variable {ss ss':List Sch}{cs:List Col}{i:Nat}{Q0 Q:Qy}
end
theorem jec:∀{l:List (List UInt8 × Int)},(∀p∈l,p.2=0)->jci l=(0,[])
 | [],_=>rfl
 |(n,e)::l,h=>by
  have h0:e=0:=h (n,e) ae;simp only[jci];rw[Kg h0];exact jec λp hp=>h p (by simp[hp])
section
variable {cs:List Col}{ss ss':List Sch}{i:Nat}{Q0 Q:Qy}
structure Rt2 (ss:List Sch) (i:Nat) (Q:Qy):Prop where
 table:Q.table=(ss.getD i Sch.none).name
 keep:Q.keep=0\/(ss.getD i Sch.none).pub=false/\0<=Q.keep/\Q.keep<=50
 join:(Q.other=[]/\Q.left=[]/\Q.right=[]/\Q.limit=0)\/∃j,j<ss.length/\((ss.getD i Sch.none).pub=false\/(ss.getD j Sch.none).pub=true)/\Q.other=(ss.getD j Sch.none).name/\1<=Q.limit/\Q.limit<=3 /\
  ∃a b:Nat,a<(ss.getD i Sch.none).cs.length/\b<(ss.getD j Sch.none).cs.length/\((ss.getD i Sch.none).cs.getD a Col.none).name=((ss.getD j Sch.none).cs.getD b Col.none).name/\Q.left=((ss.getD i Sch.none).cs.getD a Col.none).name/\Q.right=((ss.getD j Sch.none).cs.getD b Col.none).name
 bits:1<=Q.bits/\Q.bits<=12
theorem Rt.two(r:Rt ss i Q):Rt2 ss i Q:=⟨r.table,r.keep.imp id λh=>⟨h.1,aa,aa⟩,r.join,r.bits⟩
end
def WV(v:V)(n:Nat)(cs:List V):Prop:=(v=.nilsl/\n=0/\cs=[])\/∃q,v=.row cs n q
theorem WV.of {base w n:Nat}{ts:List Nat}{v:V}{cs:List V}(g:GrowV base ts w v n cs):WV v n cs:=by
 cases g with
 |nil=>exact .inl ⟨rfl,rfl,rfl⟩
 |full _ _ _=>exact .inr ⟨_,rfl⟩
 |tok _ _ _ _ _ _ _=>exact .inr ⟨_,rfl⟩
theorem WV.weak {v:V}{n:Nat}{cs:List V}(h:WV v n cs)(hw:V.weak.weakL cs=cs):WV v.weak n cs:=by
 rcases h with⟨rfl,a,b⟩|⟨q,rfl⟩
 ·exact .inl ⟨rfl,a,b⟩
 ·exact .inr ⟨q.weak,by simp only[V.weak,hw]⟩
theorem WV.closed {v:V}{n:Nat}{cs:List V}(h:WV v n cs)(hw:V.weak.weakL cs=cs)(hc:V.closed.closedL cs=true):v.weak.closed=true:=by
 rcases h with⟨rfl,a,b⟩|⟨q,rfl⟩
 ·rfl
 ·cases q<;>simp[V.weak,V.closed,hw,hc,RCap.weak]
theorem WV.nv {v:V}{l:List Nd}(h:WV v l.length (jcg l))(hl:l.length<=400):K.NV v l:=by
 rcases h with⟨rfl,a,b⟩|⟨q,rfl⟩
 ·obtain rfl:l=[]:=X5.1 a;exact⟨⟨λ_=>.inl ⟨rfl,rfl⟩,.inl ⟨rfl,rfl⟩⟩,rfl,⟨rfl,rfl⟩,hl⟩
 ·refine⟨?_,rfl,⟨rfl,rfl⟩,hl⟩;cases q with
  |full=>exact⟨λ_=>.inr (.inr rfl),.inr (.inr (by simp only[V.weak,jbn,RCap.weak]))⟩
  |unk=>exact⟨λ_=>.inr (.inl rfl),.inr (.inl (by simp only[V.weak,jbn,RCap.weak]))⟩
  |tok k e w=>exact⟨λh=>by simp[V.closed]at h,.inr (.inl (by simp only[V.weak,jbn,RCap.weak]))⟩
theorem jfU(r:Int × Int)(l:List (Int × Int)):jeC (r::l)=.int .i64 r.1::.int .i64 r.2::jeC l:=rfl
theorem jhv:∀l,V.weak.weakL (jeC l)=jeC l
 | []=>rfl
 |r::l=>by rw[jfU];simp only[V.weak.weakL,V.weak,jhv l]
theorem jhG:∀l,V.closed.closedL (jeC l)=true
 | []=>rfl
 |r::l=>by rw[jfU];simp only[V.closed.closedL,V.closed,jhG l,K8]
theorem jfB:∀l,V.closed.closedL (jcg l)=true
 | []=>rfl
 |x::l=>by rw[jbK];simp only[V.closed.closedL,V.closed,jfB l,K8]
theorem jkd:∀(l:List (Int × Int)) (i:Nat),(jeC l).drop (i*2)=jeC (l.drop i)
 |l,0=>ae
 | [],i+1=>by simp[jeC]
 |r::l,i+1=>by
  rw[jfU,show(i+1)*2=i*2+1+1 by omega,K6,K6,jkd l i,K6]
theorem WV.rg {v:V}{l:List (Int × Int)}(h:WV v l.length (jeC l))(hl:l.length<=400):K.RgV v l:=by
 rcases h with⟨rfl,a,b⟩|⟨q,rfl⟩
 ·obtain rfl:l=[]:=X5.1 a;exact⟨rfl,λi hi=>by simp at hi,⟨rfl,rfl⟩,hl⟩
 ·refine⟨rfl,λi hi => ?_,⟨rfl,rfl⟩,hl⟩;refine⟨jeC (l.drop (i+1)),?_⟩;rw[Ys,Kg aa,Qj,jkd,Qk hi,jfU];have:l.getD i (0,0)=l[i]:=by simp[List.getD,hi]
  rw[this]
structure WQ (Q:Qy) (ev wv rv:V):Prop where
 e:WV ev Q.ex.length (jcg Q.ex)
 w:WV wv Q.wh.length (jcg Q.wh)
 r:WV rv Q.rg.length (jeC Q.rg)
 l:Q.ex.length<=400/\Q.wh.length<=400/\Q.rg.length<=400
 fl:Q.factor.length<2^40
theorem WQ.qv {Q:Qy}{ev wv rv:V}(h:WQ Q ev wv rv)(hc:ev.closed=true/\wv.closed=true/\rv.closed=true):K.QV Q ev wv rv:=⟨h.e.nv h.l.1,h.w.nv h.l.2.1,h.r.rg h.l.2.2,hc,h.fl⟩
theorem WQ.weak {Q:Qy}{ev wv rv:V}(h:WQ Q ev wv rv):K.QV Q ev.weak wv.weak rv.weak :=
 ⟨(h.e.weak (jbn _)).nv h.l.1,(h.w.weak (jbn _)).nv h.l.2.1,(h.r.weak (jhv _)).rg h.l.2.2,⟨h.e.closed (jbn _) (jfB _),h.w.closed (jbn _) (jfB _),h.r.closed (jhv _) (jhG _)⟩,h.fl⟩
structure LS (ss:List Sch):Prop where
 l:ss.length<=1000
 at':∀s∈ss,(∃q,s.cv=.row (jaO s.cs) s.cs.length q)/\OkC s.cs/\s.cs.length<=200/\jjV s
def jgr(s:Sch):Sch:=⟨s.name,s.pub,s.many,s.cv.weak,s.cs⟩
theorem ji6:∀ss:List Sch,V.weak.weakL (ja9 ss)=ja9 (ss.map jgr)
 | []=>rfl
 |s::ss=>by rw[jce,Kw,jce];simp only[V.weak.weakL,V.weak,ji6 ss,jgr]
theorem jsJ {cs:List Col}{q:RCap}(h:(V.row (jaO cs) cs.length q).closed=true):IsC (.row (jaO cs) cs.length q) cs:=by
 cases q with
 |full=>exact .inr ⟨.full,.inr rfl,rfl⟩
 |unk=>exact .inr ⟨.unk,.inl rfl,rfl⟩
 |tok k e w=>simp[V.closed]at h
theorem jpl {cs:List Col}(ok:OkC cs)(q:RCap):IsC (V.row (jaO cs) cs.length q).weak cs:=(RC.row ok q).2
theorem jmD:∀{ss:List Sch},V.closed.closedL (ja9 ss)=true->∀s∈ss,s.cv.closed=true
 | [],_,_,hs=>by cases hs
 |s::ss,h,t,ht=>by
  rw[jce]at h;simp only[V.closed.closedL,V.closed,J7,Qu]at h
  rcases Jg.1 ht with rfl|ht
  ·exact h.1
  ·exact jmD h.2 t ht
theorem LS.mem {ss:List Sch}{i:Nat}(hi:i<ss.length):ss.getD i Sch.none∈ss:=by simp[List.getD,hi]
theorem LS.sb {ss:List Sch}(h:LS ss){q:RCap}(hc:(V.row (ja9 ss) ss.length q).closed=true):K.SB (.row (ja9 ss) ss.length q) ss:=by
 have hq:(q=.unk\/q=.full)/\V.closed.closedL (ja9 ss)=true:=by
  cases q with
  |full=>exact⟨.inr rfl,by simpa[V.closed]using hc⟩
  |unk=>exact⟨.inl rfl,by simpa[V.closed]using hc⟩
  |tok k e w=>simp[V.closed]at hc
 refine⟨⟨.inr ⟨q,hq.1,rfl⟩,λs hs => ?_,h.l,λi hi=>(h.at' _ (LS.mem hi)).2.2.2⟩,λi hi=>(h.at' _ (LS.mem hi)).2.2.1⟩;obtain⟨⟨q',e⟩,ok,_⟩:=h.at' s hs;have:=jmD hq.2 s hs;rw[e]at this;exact⟨e ▸ jsJ this,ok⟩
theorem LS.weak {ss:List Sch}(h:LS ss)(q:RCap):K.SB (V.row (ja9 ss) ss.length q).weak (ss.map jgr):=by
 have e:(V.row (ja9 ss) ss.length q).weak=.row (ja9 (ss.map jgr)) (ss.map jgr).length q.weak:=by simp only[V.weak,ji6,Qn]
 rw[e]
 have at2:∀s∈ss.map jgr,IsC s.cv s.cs/\OkC s.cs/\s.cs.length<=200/\jjV s:=λs hs=>by
  obtain⟨t,ht,rfl⟩:=Ja.1 hs;obtain⟨⟨q',e⟩,ok,l,sh⟩:=h.at' t ht;exact⟨by show IsC t.cv.weak t.cs;rw[e];exact jpl ok q',ok,l,sh⟩
 refine⟨⟨.inr ⟨q.weak,by cases q<;>simp[RCap.weak],rfl⟩,λs hs=>⟨(at2 s hs).1,(at2 s hs).2.1⟩,by rw[Qn];exact h.l,λi hi=>(at2 _ (LS.mem hi)).2.2.2⟩,λi hi=>(at2 _ (LS.mem hi)).2.2.1⟩
theorem hk17:env.hook 17=some (jbN K.env 17):=rfl
theorem hk19:env.hook 19=some (jbN K.env 19):=rfl
section
variable {Q:Qy}{ev wv rv:V}{ss:List Sch}{q:RCap}{fe:Int}
theorem jfV(h:WQ Q ev wv rv):(V.agg (Q.cells ev wv rv)).weak=.agg (Q.cells ev.weak wv.weak rv.weak):=rfl
theorem jhw:(V.agg (Q.cells ev wv rv)).closed=true->ev.closed=true/\wv.closed=true/\rv.closed=true:=λh=>by
 simp only[Qy.cells,V.closed,V.closed.closedL,J7,Qx,Qu]at h;exact⟨h.1,h.2.2,h.2.1⟩
end
theorem jvU {f:List UInt8}(h:f∈facs):K.Fac f 0/\f.length<=7:=by
 simp only[facs,Jg,Uj,or_false]at h
 rcases h with rfl|rfl|rfl|rfl|rfl
 ·exact⟨⟨0,1,-1,0,0,K.call_F rfl F.ck_0 _,λ_=>⟨K.call_F rfl F.lo_0 _,K.call_F rfl F.hi_0 _⟩,af⟩,af⟩
 ·exact⟨⟨0,1,-1,0,0,K.call_F rfl F.ck_1 _,λ_=>⟨K.call_F rfl F.lo_1 _,K.call_F rfl F.hi_1 _⟩,af⟩,af⟩
 ·exact⟨⟨0,1,-1,0,0,K.call_F rfl F.ck_2 _,λ_=>⟨K.call_F rfl F.lo_2 _,K.call_F rfl F.hi_2 _⟩,af⟩,af⟩
 ·exact⟨⟨0,1,-1,0,0,K.call_F rfl F.ck_3 _,λ_=>⟨K.call_F rfl F.lo_3 _,K.call_F rfl F.hi_3 _⟩,af⟩,af⟩
 ·exact⟨⟨0,1,-1,0,0,K.call_F rfl F.ck_4 _,λ_=>⟨K.call_F rfl F.lo_4 _,K.call_F rfl F.hi_4 _⟩,af⟩,af⟩
section
variable {cs:List Col}{ss ss':List Sch}{Q:Qy}
theorem jtX(g:jme ss Q):Q.ex.length<=400/\Q.wh.length<=400/\Q.rg.length<=400/\Q.factor∈facs:=by
 have hb3:bnd 3=94:=af;obtain⟨i,Q4,hi,hb,r4,hk⟩:=g.split;have r:=jgP.rt hk r4;obtain⟨z1,z2,z3,z4,z5,z6,z7,z8,z9,z10⟩:=hb.z
 have hw:Q.wh.length<=400:=by
  rcases r.wh with e|⟨e,_,_,el,hw⟩
  ·rw[e];simp
  ·rw[hw];omega
 obtain⟨m,_,_,h⟩:=hk;refine⟨?_,hw,?_,r.factor⟩
 ·rcases h with⟨k,rfl⟩|⟨k,e,lo,w,p,q,wf,ek,el,l1,l2,w1,w2,hp,rfl⟩|⟨k,c,rfl⟩|⟨k,bd,b1,b2,rfl⟩|⟨k,rg,st,r1,r2,r3,t1,t2,rfl⟩|⟨k,rfl⟩
  ·simp[z1]
  ·show e.post.length<=400;omega
  ·simp[z1]
  ·simp[z1]
  ·simp[z1]
  ·simp[z1]
 ·rcases h with⟨k,rfl⟩|⟨k,e,lo,w,p,q,wf,ek,el,l1,l2,w1,w2,hp,rfl⟩|⟨k,c,rfl⟩|⟨k,bd,b1,b2,rfl⟩|⟨k,rg,st,r1,r2,r3,t1,t2,rfl⟩|⟨k,rfl⟩
  ·simp[z8]
  ·simp[z8]
  ·simp[z8]
  ·simp[z8]
  ·show rg.length<=400;omega
  ·simp[z8]
theorem jsK {c:Col}(h:Kit c):jdF c:=by
 obtain⟨⟨j,hj,hn⟩,_,h⟩:=h;have hnm:=jnY hj;refine⟨by rw[hn];have:=hnm.2.1;omega,?_,?_⟩
 ·rcases h with⟨e,_⟩|⟨k,_,_,e,_⟩
  ·rw[e];simp
  ·rw[e,Q6];omega
 ·intro i hi
  rcases h with⟨e,_⟩|⟨k,k1,k5,e,_⟩
  ·rw[e]at hi;simp at hi
  ·have hr:reds.length=5:=rfl;rw[e,Q6]at hi;have:c.ws.getD i []=reds.getD i []:=by rw[e];simp[List.getD,Jv,show i<k by omega]
   rw[this];have:=(jsd (j:=i) aa).2.1;omega
theorem juH(h:KitL cs ss):LS ss:=by
 have hl:=h.l;refine⟨aa,λs hs => ?_⟩;obtain⟨i,hi,e⟩:=Jo hs;have e2:ss.getD i Sch.none=s:=by simp[List.getD,hi,e]
 have k:=h.at' i hi;rw[e2]at k;have hk:=k.sub.kits h.all h.five;have hle:=k.le;refine⟨k.row,hk.ok,aa,?_,aa,λj hj=>jsK (hk _ (by simp[List.getD,hj]))⟩;rw[k.nm];have:=(jnZ (j:=i) aa).2.1;omega
end
open B (TOK BOK InC)
def ji7(r:Rw):Rw:=⟨r.own,r.vv.weak,r.vs⟩
def jcy(t:Tb):Tb:=⟨jgr t.s,t.rv.weak,t.rows.map ji7⟩
theorem ji8:∀l:List Rw,V.weak.weakL (jcu l)=jcu (l.map ji7)
 | []=>rfl
 |r::l=>by rw[jcH,Kw,jcH];simp only[V.weak.weakL,V.weak,ji8 l,ji7]
theorem ji9:∀l:List Tb,V.weak.weakL (ja0 l)=ja0 (l.map jcy)
 | []=>rfl
 |t::l=>by rw[jcT,Kw,jcT];simp only[V.weak.weakL,V.weak,ji9 l,jcy,jgr]
theorem jdY:∀xs:List Int,V.weak.weakL (xs.map (V.int .i64))=xs.map (V.int .i64)
 | []=>rfl
 |x::xs=>by simp only[Kw,V.weak.weakL,V.weak,jdY xs]
theorem juI(l:List Rw):(l.map ji7).map Rw.pl=l.map Rw.pl:=by
 rw[Xv];rfl
section
variable {cs:List Col}{tbs:List Tb}
theorem BaseG.len(h:BaseG cs tbs):1<=tbs.length/\tbs.length<=3:=by
 have h1:=h.k.n;have h2:=h.k.l;simp at h1 h2;exact⟨h1,h2⟩
theorem BaseG.kit(h:BaseG cs tbs){t:Tb}(ht:t∈tbs):∃i,i<tbs.length/\tbs.getD i Tb.none=t/\KitS cs i t.s:=by
 obtain⟨i,hi,e⟩:=Jo ht;have e2:(tbs.map (·.s)).getD i Sch.none=t.s:=by simp[List.getD,hi,e]
 have:=h.k.at' i (by simpa using hi);rw[e2]at this;exact⟨i,hi,by simp[List.getD,hi,e],this⟩
theorem BaseG.kits(h:BaseG cs tbs){t:Tb}(ht:t∈tbs):Kits t.s.cs:=by
 obtain⟨i,_,_,k⟩:=h.kit ht;exact k.sub.kits h.k.all h.k.five
theorem BaseG.sch(h:BaseG cs tbs){t:Tb}(ht:t∈tbs):(∃q,t.s.cv=.row (jaO t.s.cs) t.s.cs.length q)/\OkC t.s.cs/\t.s.cs.length<=200/\jjV t.s:=(juH h.k).at' t.s (Um ht)
theorem BaseG.tok(h:BaseG cs tbs){t:Tb}(ht:t∈tbs)(hc:t.s.cv.closed=true)(hr:t.rv.closed=true):TOK t:=by
 obtain⟨⟨q,hq⟩,ok,cl,sh⟩:=h.sch ht;obtain⟨i,hi,_,k⟩:=h.kit ht;obtain⟨hg,hl⟩:=h.r t ht;have hv:=h.v t ht;have kb:=h.kits ht
 have hx:∀r∈t.rows,r.vs.length=t.s.cs.length/\∀x∈r.vs,In64 x:=λr hr=>by
  obtain⟨_,_,g3,g4⟩:=hg.g r hr;refine⟨g3,λx hx => ?_⟩;obtain⟨j,hj,e⟩:=Jo hx;have hj2:j<t.s.cs.length:=by have:r.vs.length=t.s.cs.length:=g3;omega
  have h1:=g4 j hj2;have h2:=kb.bound hj2;have e2:r.pl.2.getD j 0=x:=by show r.vs.getD j 0=x;simp[List.getD,hj,e]
  rw[e2]at h1;simp only[In64];omega
 refine⟨by rw[hq]at hc ⊢;exact jsJ hc,ok,cl,sh,?_,λc hcm => ?_,?_,?_,aa,λr hr=>by rw[(hx r hr).1];omega⟩
 ·rcases k.pb with⟨_,e,_⟩|⟨_,e1,e2⟩<;>simp only[In64]<;>omega
 ·obtain⟨j,hj,e⟩:=Jo hcm;have h2:=kb.bound hj;rw[show t.s.cs.getD j Col.none=c by simp[List.getD,hj,e]]at h2;simp only[In64];omega
 ·rcases hv with⟨e1,e2⟩|⟨q2,e⟩
  ·exact .inl ⟨e1,e2⟩
  ·rw[e]at hr ⊢;cases q2 with
   |full=>exact .inr ⟨.full,.inr rfl,rfl⟩
   |unk=>exact .inr ⟨.unk,.inl rfl,rfl⟩
   |tok k e w=>simp[V.closed]at hr
 ·intro r hrm
  have hcr:r.vv.closed=true:=by
   rcases hv with⟨e1,e2⟩|⟨q2,e⟩
   ·rw[e2]at hrm;cases hrm
   ·have hcl:V.closed.closedL (jcu t.rows)=true:=by
     rw[e]at hr;cases q2 with
     |full=>simpa[V.closed]using hr
     |unk=>simpa[V.closed]using hr
     |tok k e w=>simp[V.closed]at hr
    have:∀l:List Rw,V.closed.closedL (jcu l)=true->∀r∈l,r.vv.closed=true:=λl=>by
     induction l with
     |nil=>intro _ r hr;cases hr
     |cons a l ih =>
      intro hh r hr;rw[jcH]at hh;simp only[V.closed.closedL,V.closed,J7,Qu]at hh
      rcases Jg.1 hr with rfl|hr
      ·exact hh.1
      ·exact ih hh.2 r hr
    exact this _ hcl r hrm
  obtain⟨q3,e3⟩:=hg.v r hrm;refine⟨?_,(hx r hrm).2,?_⟩
  ·rw[e3]at hcr ⊢;cases q3 with
   |full=>exact .inr (.inr rfl)
   |unk=>exact .inr (.inl rfl)
   |tok k e w=>simp[V.closed]at hcr
  ·obtain⟨g1,g2,_⟩:=hg.g r hrm;cases hp:t.s.pub with
   |true=>have:=g1 hp;simp only[In64];show _/\_;have e:r.own=0:=this;omega
   |false=>have:=g2 hp;simp only[In64];have e:1<=r.own/\r.own<=5:=this;omega
theorem BaseG.weak(h:BaseG cs tbs):BaseG cs (tbs.map jcy):=by
 have e:(tbs.map jcy).map (·.s)=(tbs.map (·.s)).map jgr:=by rw[Xv,Xv];rfl
 refine⟨?_,?_,?_⟩
 ·rw[e];refine⟨h.k.all,h.k.five,by have:=h.k.n;simpa using this,by have:=h.k.l;simpa using this,λi hi => ?_⟩;have hi2:i<(tbs.map (·.s)).length:=by simpa using hi
  have k:=h.k.at' i hi2;have e3:((tbs.map (·.s)).map jgr).getD i Sch.none=jgr ((tbs.map (·.s)).getD i Sch.none):=by simp only[List.getD,Xh,K4 hi2,K9,Ku]
  rw[e3];refine⟨k.nm,k.sub,k.ne,k.le,k.pb,?_⟩;obtain⟨q,hq⟩:=k.row;exact⟨q.weak,by show V.weak _=_;rw[hq];simp only[V.weak,jck ((k.sub.kits h.k.all h.k.five).ok)];rfl⟩
 ·intro t ht;obtain⟨t0,h0,rfl⟩:=Ja.1 ht;obtain⟨g,hl⟩:=h.r t0 h0;refine⟨⟨λr hr => ?_,λr hr => ?_,λhp o => ?_⟩,by simpa[jcy]using hl⟩
  ·obtain⟨r0,hr0,rfl⟩:=Ja.1 hr;obtain⟨q,hq⟩:=g.v r0 hr0;exact⟨q.weak,by show V.weak _=_;rw[hq];simp only[V.weak,jdY];rfl⟩
  ·obtain⟨r0,hr0,rfl⟩:=Ja.1 hr;exact g.g r0 hr0
  ·show(cnt o ((t0.rows.map ji7).map Rw.pl):Int)<=_;rw[juI];exact g.m hp o
 ·intro t ht;obtain⟨t0,h0,rfl⟩:=Ja.1 ht
  rcases h.v t0 h0 with⟨e1,e2⟩|⟨q,e1⟩
  ·exact .inl ⟨by show V.weak _=_;rw[e1];rfl,by show List.map _ _=_;rw[e2];rfl⟩
  ·exact .inr ⟨q.weak,by show V.weak _=.row (jcu (t0.rows.map ji7)) (t0.rows.map ji7).length _;rw[e1];simp only[V.weak,ji8,Qn]⟩
theorem jof:∀{l:List Tb},V.closed.closedL (ja0 l)=true->∀t∈l,t.s.cv.closed=true/\t.rv.closed=true
 | [],_,t,ht=>by cases ht
 |x::l,h,t,ht=>by
  rw[jcT]at h;simp only[V.closed.closedL,V.closed,J7,Qu]at h
  rcases Jg.1 ht with rfl|ht
  ·exact⟨h.1,h.2.1⟩
  ·exact jof h.2.2 t ht
theorem BaseG.bok(h:BaseG cs tbs){q:RCap}(hc:(V.row (ja0 tbs) tbs.length q).closed=true):BOK (.row (ja0 tbs) tbs.length q) tbs:=by
 have hq:(q=.unk\/q=.full)/\V.closed.closedL (ja0 tbs)=true:=by
  cases q with
  |full=>exact⟨.inr rfl,by simpa[V.closed]using hc⟩
  |unk=>exact⟨.inl rfl,by simpa[V.closed]using hc⟩
  |tok k e w=>simp[V.closed]at hc
 have hl:=h.len;exact⟨.inr ⟨q,hq.1,rfl⟩,λt ht=>h.tok ht (jof hq.2 t ht).1 (jof hq.2 t ht).2,aa⟩
theorem jfW(tbs:List Tb)(q:RCap):(V.row (ja0 tbs) tbs.length q).weak=.row (ja0 (tbs.map jcy)) (tbs.map jcy).length q.weak:=by simp only[V.weak,ji9,Qn]
theorem BaseG.bokW(h:BaseG cs tbs)(q:RCap):BOK (.row (ja0 (tbs.map jcy)) (tbs.map jcy).length q.weak) (tbs.map jcy):=by
 have hw:=h.weak;have hl:=hw.len;refine⟨.inr ⟨q.weak,by cases q<;>simp[RCap.weak],rfl⟩,λt ht => ?_,aa⟩;obtain⟨t0,h0,rfl⟩:=Ja.1 ht;refine hw.tok ht ?_ ?_
 ·obtain⟨⟨q1,e⟩,ok,_⟩:=h.sch h0;show V.closed (V.weak _)=true;rw[e];exact ja5 (jpl ok q1) ok
 ·show V.closed (V.weak _)=true
  rcases h.v t0 h0 with⟨e,_⟩|⟨q1,e⟩
  ·rw[e];rfl
  ·rw [e]
   have:∀l:List Rw,(∀r∈l,∃q,r.vv=.row (r.vs.map (V.int .i64)) r.vs.length q)->V.closed.closedL (V.weak.weakL (jcu l))=true:=λl=>by
    induction l with
    |nil=>intro _;rfl
    | cons a l ih =>
     intro hh;obtain⟨q2,e2⟩:=hh a ae;rw[jcH]
     have e3:V.closed (V.weak a.vv)=true:=by
      rw[e2]
      have:W.IsI (V.weak (.row (a.vs.map (V.int .i64)) a.vs.length q2)) a.vs:=by
       cases q2 with
       |full=>exact .inr (.inr (by simp only[V.weak,jdY,RCap.weak]))
       |unk=>exact .inr (.inl (by simp only[V.weak,jdY,RCap.weak]))
       |tok k e w=>exact .inr (.inl (by simp only[V.weak,jdY,RCap.weak]))
      exact W.closed_I this
     simp only[V.weak.weakL,V.weak,V.closed.closedL,V.closed,J7,e3,ih λr hr=>hh r (by simp[hr])]
   have e4:=this _ (h.r t0 h0).1.v;cases q1<;>simp[V.weak,V.closed,RCap.weak,e4]
end
open B (TOK BOK InC FitQ jdH sv vpQ tbN VR jnN)
section
variable {cs:List Col}{tbs:List Tb}{Q:Qy}{ev wv rv:V}{fe:Int}
theorem je3(h:BaseG cs tbs):sv (tbs.map jcy)=sv tbs:=by
 unfold sv;rw[Xv];refine Xy λt ht => ?_
 obtain⟨⟨q,e⟩,ok,_⟩:=h.sch ht;show({ jgr t.s with cv:=unkV t.s.cv.weak }:Sch)={ t.s with cv:=unkV t.s.cv };rw[e];simp only[V.weak,jck ok,unkV,jgr]
theorem jh5(h:BaseG cs tbs)(nm:List UInt8):tbN (tbs.map jcy) nm=jcy (tbN tbs nm):=by
 unfold tbN;rw[je3 h];by_cases hl:(ja3 (sv tbs) nm (sv tbs).length 0).toNat<tbs.length
 ·simp only[List.getD,Xh,K4 hl,K9,Ku]
 ·have h1:tbs[(ja3 (sv tbs) nm (sv tbs).length 0).toNat]? = none:=Qq aa;simp only[List.getD,Xh,h1,Tg,Option.getD_none];rfl
theorem jk8(h:BaseG cs tbs):vpQ (tbs.map jcy) Q=vpQ tbs Q:=by
 unfold vpQ B.ixL B.ixR;rw[je3 h,jh5 h,jh5 h];have e:∀t:Tb,(jcy t).rows.map Rw.pl=t.rows.map Rw.pl:=λt=>juI t.rows
 rw[e,e];rfl
theorem jtY(h:BaseG cs tbs)(n:Nat):jnN (tbs.map jcy) Q n=jnN tbs Q n:=by
 unfold jnN;rw[jh5 h];rfl
theorem jvV(tbs:List Tb):Fits (tbs.map (·.s)) (sv tbs):=by
 refine⟨by simp[sv],λi hi => ?_⟩;have hi2:i<tbs.length:=by simpa using hi
 have e:(sv tbs).getD i Sch.none=B.cpS ((tbs.map (·.s)).getD i Sch.none):=by simp only[sv,List.getD,Xh,K4 hi2,K9,Ku]
 rw[e];exact⟨rfl,rfl,rfl,rfl⟩
theorem jpm {s:Sch}:∀(l:List PR) (seen:List Int) (i:Nat),(∀r∈l,RowG s r)->(s.pub=false->∀o,((seen.count o+cnt o l:Nat):Int)<=s.many)->B.rowsE s seen i l=(0,-1)
 | [],_,_,_,_=>rfl
 | r::l,seen,i,hg,hc=>by
  obtain⟨g1,g2,g3,g4⟩:=hg r ae
  have e1:∀o,cnt o (r::l)=cnt o l+if r.1=o then 1 else 0:=λo=>by
   by_cases h:r.1=o<;>simp[cnt,h]
  have hr:B.rowE s seen r=0:=by
   unfold B.rowE;rw[Ke (λq=>q g3),Ke,Ke,Ke]
   ·rintro⟨hp,h2⟩;have:=hc hp r.1;rw[e1,Kg rfl]at this;omega
   ·simp only[Jq,Uy];exact g4
   ·rintro(⟨hp,h2⟩|⟨hp,h2⟩)
    ·exact h2 (g1 hp)
    ·have:=g2 hp;omega
  simp only[B.rowsE];rw[Kg hr];refine jpm l _ _ (λx hx=>hg x (by simp[hx])) λhp o => ?_
  have:=hc hp o;rw[e1]at this;by_cases h:r.1=o
  ·subst h;rw[List.count_cons_self];rw[Kg rfl]at this;omega
  ·rw[Vc h];rw[Ke h]at this;omega
theorem jxs(h:BaseG cs tbs){t:Tb}(ht:t∈tbs):(B.Tb.tabE t).1=0:=by
 obtain⟨i,hi,_,k⟩:=h.kit ht;obtain⟨hg,hl⟩:=h.r t ht;have hn:=h.len
 have hc:(jde t.s.name t.s.pub t.s.many t.s.cs).1=0:=by
  refine jgo (by rw[k.nm];exact jnZ aa) ?_ ⟨k.ne,by have:=k.le;omega⟩ λj hj=>jo9 k.sub h.k.all h.k.five hj
  rcases k.pb with⟨a,b,_⟩|⟨a,b,c⟩
  ·exact .inl ⟨a,b⟩
  ·exact .inr ⟨a,b,aa⟩
 unfold B.Tb.tabE B.tabE
 rw[Ke (λq=>q hc),Ke (by simp;omega),jpm _ _ _ (λr hr=>by obtain⟨r0,h0,rfl⟩:=Ja.1 hr;exact hg.g r0 h0) λhp o=>by
  have:=hg.m hp o;simpa using this]
theorem jpn:∀(l:List Tb) (i:Nat),(∀t∈l,(B.Tb.tabE t).1=0)->B.tabsE i l=(0,-1,-1)
 | [],_,_=>rfl
 |t::l,i,h=>by
  simp only[B.tabsE];rw[Kg (h t ae)];exact jpn l _ λx hx=>h x (by simp[hx])
theorem jja(h:BaseG cs tbs):(allE (sv tbs)).1=0/\(jdH tbs).1=0:=by
 have ha:(allE (sv tbs)).1=0:=jvy h.k (jvV tbs) (.inl (by simp[sv]));refine⟨ha,?_⟩;unfold jdH;rw[Ke (λq=>q ha),jpn _ _ λt ht=>jxs h ht]
theorem hk41:env.hook 41=some (jbN B.env 41):=rfl
theorem juJ(h:BaseG cs tbs){q:RCap}(hQ:WQ Q ev wv rv)(hf:K.Fac Q.factor fe)(hF:FitQ tbs Q fe):∃u,VR (jnN tbs Q (tbN tbs Q.table).s.cs.length) (vpQ tbs Q).view u/\∀U,jaf env (Go.Ab.ev env) 41 [.row (ja0 tbs) tbs.length q,.agg (Q.cells ev wv rv)] U=some (u,U):=by
 by_cases hc:([.row (ja0 tbs) tbs.length q,.agg (Q.cells ev wv rv)]:List V).all V.closed=true
 ·have hc2:=hc;simp only[Kr,Qo,Qx,Qu]at hc2;obtain⟨u,hu,hcall⟩:=B.view_call (h.bok hc2.1) (hQ.qv (jhw hc2.2)) hf;exact⟨u,hu.1 hF,λU=>joW hk41 hcall _ U⟩
 ·have hn:([.row (ja0 tbs) tbs.length q,.agg (Q.cells ev wv rv)]:List V).all V.closed=false:=by simpa using hc
  obtain⟨u,hu,hcall⟩:=B.view_call (h.bokW q) hQ.weak hf
  have hF2:FitQ (tbs.map jcy) Q fe:=by
   refine⟨(jja h.weak).2,?_⟩;rw[je3 h];exact hF.2
  have hu:=hu.1 hF2;rw[jk8 h,jtY h,jh5 h]at hu;have hb:=h.bokW q;have h1:=hQ.weak.closed;refine⟨u,hu,λU=>joW hk41 (λU => ?_) _ U⟩;rw[jeU rfl rfl hn (by simp only[Kw,Jz,Kr,Qo,jfV hQ,h1,jfW,hb.closed,K8]) U];simp only[Kw,Jz,jfV hQ,jfW];exact hcall U
end
open B (TOK BOK sv svV cpS)
theorem at65:env.P.funcs[65]? = some Tryz.f65:=ac
theorem jzY(t:Tb):rowO env 24 1 [(0,.agg [.str t.s.name,.bool t.s.pub,.int .i64 t.s.many,t.s.cv])]=some (.row [.str t.s.name,.bool t.s.pub,.int .i64 t.s.many,t.s.cv] 1 .full):=ac
theorem jjb(h:List AObj):∀{l:List Tb},(∀t∈l,IsC t.s.cv t.s.cs/\OkC t.s.cs)->(ja9 (l.map (·.s))).mapM (jaJ h 11)=some (ja9 (sv l))
 | [],_=>rfl
 | t::l,ok=>by
  obtain⟨hv,hc⟩:=ok t ae
  have hs:jaJ h 11 t.s.cv=some (unkV t.s.cv):=by
   rcases hv with⟨e,_⟩|⟨q,_,e⟩<;>rw[e]
   ·rfl
   ·show jaJ h (10+1) (.row _ _ _)=_;rw[ja1,show(10:Nat)=8+2 from rfl,jdV h 8 hc];rfl
  have e2:sv (t::l)=cpS t.s::sv l:=rfl;rw[Kw,e2,jce,jce,jal,jal,jal,jal,jjb h (l:=l) λx hx=>ok x (by simp[hx]),hs,jbE,jau,jay];rfl
theorem jsL(h:List AObj)(a b c d e:V)(r:List V):jab h 4 (.rptr (a::b::c::d::e::r))=some [a,b,c,d]:=by simp[jab]
section
variable {v:V}{l:List Tb}
theorem jgb(h:BOK v l)(U:S):jaf env (ev env) 34 [v] U=some (svV l,U):=by
 refine jaj (by simp[h.closed]) at34 rfl ?_ U;have hlim:lim=2^40:=rfl;have hl:=h.l;have hB:=jmr h.v 79;simp only[Tryz.f34,simprocAttr,zK,Vq,jai,ty7,uq];refine jav (λm T D U=>D=[]/\T 0=v/\∃(L:List AObj) (ts:List Nat) (i:Nat) (u:V),U=⟨L,ts⟩/\T 3=u/\T 4=.int .i64 i/\i<=l.length/\m=l.length-i/\GrowV 0 ts 4 u i (ja9 ((l.take i).map (·.s)))/\(i=0->u=.nilsl)) ?_ (l.length-0) _ _ _ ⟨rfl,rfl,[],[],0,.nilsl,rfl,rfl,rfl,Qr _,rfl,.nil,λ_=>rfl⟩;rintro m T D U ⟨rfl,t0,L,ts,i,u,rfl,t3,t4,hi,rfl,g,g0⟩;refine jaC ?_;by_cases hlt:i<l.length
 ·have c1:(i:Int)<(l.length:Int):=by omega
  have e1:IntKind.i64.wrap ((i:Int)+1)=((i+1:Nat):Int):=by rw[wrap_i64 aa aa];omega
  have hx:=jiM h.v hlt;have ht:=h.at hlt;have hr:=jzY (l.getD i Tb.none)
  obtain⟨v',ts',hA,g',_⟩:=GrowV.push (E:=env) (hp:=L) (q:=.full) (new:=[.str (l.getD i Tb.none).s.name,.bool (l.getD i Tb.none).s.pub,.int .i64 (l.getD i Tb.none).s.many,(l.getD i Tb.none).s.cv]) eS ⟨38,eS.slice⟩ g (Qr _) rfl
   (by rcases ht.cv with⟨e,_⟩|⟨q,_,e⟩<;>rw[e]<;>rfl) ⟨by rw[hlim];omega,by rw[hlim];omega⟩
  simp only[simprocAttr,yK,Vq,ty7,uq,al1,jaL,Qw,K6,t0,t3,t4,c1,e1,hB,hx,jsL,jap,hr,hA];refine⟨l.length-(i+1),aa,L,ts',i+1,v',rfl,rfl,rfl,aa,rfl,?_,λh=>aa⟩;rw[B.take_next Tb.none hlt];have e:ja9 ((l.take i++[l.getD i Tb.none]).map (·.s))=ja9 ((l.take i).map (·.s))++[.str (l.getD i Tb.none).s.name,.bool (l.getD i Tb.none).s.pub,.int .i64 (l.getD i Tb.none).s.many,(l.getD i Tb.none).s.cv]:=by simp[ja9,Sch.cells]
  rw[e];exact g'
 ·have hie:i=l.length:=by omega
  subst hie;have c1:((l.length:Int)<(l.length:Int))=False:=eq_false aa;simp only[simprocAttr,yK,Vq,ty7,uq,t0,t3,t4,c1,hB];rw[Jp]at g;have hs:=jjb L (l:=l) λt ht=>⟨(h.t t ht).cv,(h.t t ht).ok⟩
  unfold svV;by_cases hn:l=[]
  ·rw[Kg hn,g0 (by rw[hn];rfl)];rfl
  ·rw[Ke hn];have hp:0<l.length:=Xx.2 hn;obtain⟨q,rfl⟩:=g.isrow hp;show jaJ L (11+1) (.row _ _ _)=_;rw[ja1,hs,show(sv l).length=l.length by simp[sv]];rfl
def jjr(nm:List UInt8):List Tb->Bool
 | []=>false
 |t::l=>if t.s.name=nm then !t.s.pub else jjr nm l
theorem private_call(h:BOK v l)(nm:List UInt8)(U:S):jaf env (ev env) 65 [v,.str nm] U=some (.bool (jjr nm l),U):=by
 refine jaj (by rw[Kr,h.closed];rfl) at65 rfl ?_ U;have hl:=h.l;have hB:=jmr h.v 79;generalize hr:jjr nm l=r;simp only[Tryz.f65,simprocAttr,zK,Vq,jai,ty7,uq];refine jav (λm T D U=>D=[]/\T 0=v/\T 1=.str nm/\∃i:Nat,U=⟨[],[]⟩/\T 5=.int .i64 i/\i<=l.length/\m=l.length-i/\jjr nm (l.drop i)=r) ?_ (l.length-0) _ _ _ ⟨rfl,rfl,rfl,0,rfl,rfl,Qr _,rfl,hr⟩;clear hr;rintro m T D U ⟨rfl,t0,t1,i,rfl,t5,hi,rfl,hr⟩;refine jaC ?_;by_cases hlt:i<l.length
 ·have c1:(i:Int)<(l.length:Int):=by omega
  have e1:IntKind.i64.wrap ((i:Int)+1)=((i+1:Nat):Int):=by rw[wrap_i64 aa aa];omega
  have hx:=jiM h.v hlt;rw[show l.drop i=l.getD i Tb.none::l.drop (i+1) by rw[Qk hlt];simp[List.getD,hlt]]at hr;simp only[jjr]at hr;generalize l.getD i Tb.none=t at *;by_cases k:t.s.name=nm
  ·rw[Kg k]at hr;subst hr;have g1:=eq_true k;cases hp:t.s.pub
   all_goals
    simp only[simprocAttr,yK,Vq,ty7,uq,al1,jaL,Qw,K6,t0,t1,t5,c1,e1,hB,hx,jar,jaB,g1,hp,Q7,Jh];rfl
  ·rw[Ke k]at hr;have g1:=eq_false k;simp only[simprocAttr,yK,Vq,ty7,uq,al1,jaL,Qw,K6,t0,t1,t5,c1,e1,hB,hx,jar,jaB,g1];exact⟨l.length-(i+1),aa,i+1,rfl,aa,rfl,hr⟩
 ·have hie:i=l.length:=by omega
  subst hie;have c1:((l.length:Int)<(l.length:Int))=False:=eq_false aa;rw[U8]at hr;simp only[jjr]at hr;subst hr;simp only[simprocAttr,yK,Vq,ty7,uq,t0,t1,t5,c1,hB];rfl
end
open W (len_I idx_I closed_I)
def jog(nm:List UInt8):List Tb->Int->Int
 | [],m=>m
 |t::l,m=>jog nm l (if t.s.name=nm/\m=0 then t.s.many else m)
section
variable {v:V}{l:List Tb}{Q:Qy}{ev' wv rv:V}
end
open B (TOK BOK sv svV cpS vpQ tbN FitQ jdH)
theorem jpo {nm:List UInt8}:∀(l:List Tb) (i:Nat),i<l.length->(l.getD i Tb.none).s.name=nm->(∀k,k<l.length->(l.getD k Tb.none).s.name=nm->k=i)->jjr nm l = !(l.getD i Tb.none).s.pub
 | [],i,h,_,_=>by simp at h
 |t::l,0,_,hn,_=>by
  simp only[jjr,V4]at hn ⊢;rw[Kg hn]
 |t::l,i+1,hi,hn,hu=>by
  have h0:¬t.s.name=nm:=λe=>by have:=hu 0 ae e;omega
  simp only[jjr,X7]at hn ⊢;rw[Ke h0];exact jpo l i (by simpa using hi) hn λk hk e=>by have:=hu (k+1) (by simpa using hk) e;omega
theorem jke {nm:List UInt8}:∀(l:List Tb) (m:Int),(∀t∈l,t.s.name ≠ nm)->jog nm l m=m
 | [],_,_=>rfl
 |t::l,m,h=>by
  simp only[jog];rw[Ke λq=>h t ae q.1];exact jke l m λx hx=>h x (by simp[hx])
theorem jpp {nm:List UInt8}:∀(l:List Tb) (i:Nat) (m:Int),i<l.length->(l.getD i Tb.none).s.name=nm->(∀k,k<l.length->(l.getD k Tb.none).s.name=nm->k=i)->jog nm l m=if m=0 then(l.getD i Tb.none).s.many else m
 | [],i,_,h,_,_=>by simp at h
 | t::l,0,m,_,hn,hu=>by
  simp only[jog,V4]at hn ⊢
  rw[jke l _ λx hx e=>by
   obtain⟨k,hk,e2⟩:=Jo hx;have:=hu (k+1) (by simpa using hk) (by rw[X7,show l.getD k Tb.none=x by simp[List.getD,hk,e2]];exact e);omega]
  simp only[hn,true_and]
 |t::l,i+1,m,hi,hn,hu=>by
  have h0:¬t.s.name=nm:=λe=>by have:=hu 0 ae e;omega
  simp only[jog,X7]at hn ⊢;rw[Ke λq=>h0 q.1];exact jpp l i m (by simpa using hi) hn λk hk e=>by have:=hu (k+1) (by simpa using hk) e;omega
theorem jtZ {i k:Nat}(hi:i<3)(hk:k<3)(e:tabs.getD i []=tabs.getD k []):i=k:=by
 match i,k,hi,hk with
 |0,0,_,_=>rfl
 |1,1,_,_=>rfl
 |2,2,_,_=>rfl
 |0,1,_,_=>exact absurd e af
 |0,2,_,_=>exact absurd e af
 |1,0,_,_=>exact absurd e af
 |1,2,_,_=>exact absurd e af
 |2,0,_,_=>exact absurd e af
 |2,1,_,_=>exact absurd e af
section
variable {cs:List Col}{tbs:List Tb}{Q:Qy}{ev wv rv:V}{fe:Int}{q:RCap}
theorem joh(h:BaseG cs tbs)(U:S):jaf env (Go.Ab.ev env) 34 [.row (ja0 tbs) tbs.length q] U=some (.row (ja9 (sv tbs)) (sv tbs).length .unk,U):=by
 have hl:=h.len
 have hne:∀l:List Tb,1<=l.length->svV l=.row (ja9 (sv l)) (sv l).length .unk:=λl hl=>by
  unfold svV;rw[Ke (λe=>by rw[e]at hl;simp at hl)]
 refine jkQ rfl rfl (λhc U => ?_) ?_ (λU => ?_) U
 ·simp only[Kr,Qo,Qx]at hc;rw[jgb (h.bok hc),hne _ hl.1]
 ·simp only[Kw,Jz,Kr,Qo,jfW,(h.bokW q).closed,K8]
 ·simp only[Kw,Jz,jfW];rw[jgb (h.bokW q),hne _ (by simpa using hl.1),je3 h]
theorem BaseG.kitSv(h:BaseG cs tbs):KitL cs (sv tbs):=by
 refine⟨h.k.all,h.k.five,by have:=h.k.n;simpa[sv]using this,by have:=h.k.l;simpa[sv]using this,λi hi => ?_⟩;have hi2:i<(tbs.map (·.s)).length:=by simpa[sv]using hi
 have hi3:i<tbs.length:=by simpa using hi2
 have k:=h.k.at' i hi2;have e:(sv tbs).getD i Sch.none=cpS ((tbs.map (·.s)).getD i Sch.none):=by simp only[sv,List.getD,Xh,K4 hi3,K9,Ku]
 rw[e];refine⟨k.nm,k.sub,k.ne,k.le,k.pb,?_⟩;obtain⟨q,hq⟩:=k.row;exact⟨.unk,by show unkV _=_;rw[hq];rfl⟩
theorem jsM(h:BaseG cs tbs){nm0:List UInt8}(hs:0<=ja3 (sv tbs) nm0 (sv tbs).length 0):tbN tbs nm0∈tbs/\jjr nm0 tbs = !(tbN tbs nm0).s.pub/\(∀m,jog nm0 tbs m=if m=0 then(tbN tbs nm0).s.many else m):=by
 obtain⟨i,hi1,hi2,hi3,hi4,hi5,hi6⟩:=B.tbN_spec hs;have hl:=h.len
 have nm:∀k,k<tbs.length->(tbs.getD k Tb.none).s.name=tabs.getD k []:=λk hk=>by
  have k2:=(h.k.at' k (by simpa using hk)).nm;rw[<- k2];simp only[List.getD,Xh,K4 hk,K9,Ku]
 rw[hi3]at hi6;have hu:∀k,k<tbs.length->(tbs.getD k Tb.none).s.name=nm0->k=i:=λk hk e=>jtZ aa aa (by rw[<- nm k hk,<- nm i hi2,e,hi6])
 refine⟨hi5,?_,λm => ?_⟩
 ·rw[hi3];exact jpo tbs i hi2 hi6 hu
 ·rw[hi3];exact jpp tbs i m hi2 hi6 hu
end
end Go.Proofs.YtajaampgajieeaaGreatDoor.N
