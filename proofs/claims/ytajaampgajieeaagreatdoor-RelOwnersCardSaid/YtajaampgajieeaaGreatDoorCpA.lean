/- Proved here: what is drawn is in order; views of it. Conditions: each theorem's own. -/
import Derived.Test.YtajaampgajieeaaGreatDoorBsA
import Derived.Test.YtajaampgajieeaaGreatDoorRnA
import Derived.Test.YtajaampgajieeaaGreatDoorVxA
set_option linter.unusedSimpArgs false
set_option maxHeartbeats 16000000
set_option maxRecDepth 1000000
set_option linter.unusedVariables false
set_option linter.unusedSectionVars false
namespace Go.Proofs.YtajaampgajieeaaGreatDoor.N
open Go.Ab
section
variable {cs:List Col}{ss ss':List Sch}
structure Bs (ss:List Sch) (i:Nat) (Q:Qy):Prop where
 kind:1<=Q.kind/\Q.kind<=10
 z:Q.ex=[]/\Q.lo=0/\Q.hi=0/\Q.p=0/\Q.q=0/\Q.column=[]/\Q.bound=0/\Q.rg=[]/\Q.strat=0/\Q.cons=false
structure Rt (ss:List Sch) (i:Nat) (Q:Qy):Prop where
 table:Q.table=(ss.getD i Sch.none).name
 keep:Q.keep=0\/(ss.getD i Sch.none).pub=false/\1<=Q.keep/\Q.keep<=4
 join:(Q.other=[]/\Q.left=[]/\Q.right=[]/\Q.limit=0)\/∃j,j<ss.length/\((ss.getD i Sch.none).pub=false\/(ss.getD j Sch.none).pub=true)/\Q.other=(ss.getD j Sch.none).name/\1<=Q.limit/\Q.limit<=3 /\
  ∃a b:Nat,a<(ss.getD i Sch.none).cs.length/\b<(ss.getD j Sch.none).cs.length/\((ss.getD i Sch.none).cs.getD a Col.none).name=((ss.getD j Sch.none).cs.getD b Col.none).name/\Q.left=((ss.getD i Sch.none).cs.getD a Col.none).name/\Q.right=((ss.getD j Sch.none).cs.getD b Col.none).name
 wh:Q.wh=[]\/∃e,WF (jc8 ss Q) e/\e.kind=1/\e.post.length<=bnd 3/\Q.wh=e.post
 factor:Q.factor∈facs
 bits:1<=Q.bits/\Q.bits<=12
theorem jgA.rt {i:Nat}{Q4 Q:Qy}(h:jgA (jc8 ss Q4) Q4 Q)(r:Rt ss i Q4):Rt ss i Q:=by
 obtain⟨_,_,_,h⟩:=h;obtain⟨r1,r2,r3,r4,r5,r6⟩:=r
 rcases h with⟨_,rfl⟩|⟨_,_,_,_,_,_,_,_,_,_,_,_,_,_,rfl⟩|⟨_,_,rfl⟩|⟨_,_,_,_,rfl⟩|⟨_,_,_,_,_,_,_,_,rfl⟩|⟨_,rfl⟩<;>exact⟨r1,r2,r3,r4,r5,r6⟩
theorem jly.split {Q:Qy}(h:jly ss Q):∃i Q4,i<ss.length/\Bs ss i Q4/\Rt ss i Q4/\jgA (jc8 ss Q4) Q4 Q:=by
 obtain⟨i,k,bt,f,Q2,Q3,Q4,hi,k1,k2,b1,b2,hf,h2,h3,h4,h5⟩:=h
 have a2:Bs ss i Q2/\Rt ss i Q2/\Q2.wh=[]/\(Q2.other=[]/\Q2.left=[]/\Q2.right=[]/\Q2.limit=0):=by
  rcases h2 with rfl|⟨hp,kp,p1,p2,rfl⟩
  ·exact⟨⟨⟨k1,k2⟩,rfl,rfl,rfl,rfl,rfl,rfl,rfl,rfl,rfl,rfl⟩,⟨rfl,.inl rfl,.inl ⟨rfl,rfl,rfl,rfl⟩,.inl rfl,hf,b1,b2⟩,rfl,rfl,rfl,rfl,rfl⟩
  ·exact⟨⟨⟨k1,k2⟩,rfl,rfl,rfl,rfl,rfl,rfl,rfl,rfl,rfl,rfl⟩,⟨rfl,.inr ⟨hp,p1,p2⟩,.inl ⟨rfl,rfl,rfl,rfl⟩,.inl rfl,hf,b1,b2⟩,rfl,rfl,rfl,rfl,rfl⟩
 obtain⟨c1,c2,c3,c4⟩:=a2
 have a3:Bs ss i Q3/\Rt ss i Q3/\Q3.wh=[]:=by
  rcases h3 with rfl|⟨j,hj,hp,rfl|⟨a,b,l,ha,hb,hab,l1,l2,rfl⟩⟩
  ·exact⟨c1,c2,c3⟩
  ·exact⟨c1,c2,c3⟩
  ·exact⟨⟨c1.kind,c1.z⟩,⟨c2.table,c2.keep,.inr ⟨j,hj,hp,rfl,l1,l2,a,b,ha,hb,hab,rfl,rfl⟩,.inl c3,c2.factor,c2.bits⟩,c3⟩
 obtain⟨d1,d2,d3⟩:=a3
 rcases h4 with rfl|⟨e,e1,e2,e3,rfl⟩
 ·exact⟨i,_,hi,d1,d2,h5⟩
 ·exact⟨i,{ Q3 with wh:=e.post },hi,⟨d1.kind,d1.z⟩,⟨d2.table,d2.keep,d2.join,.inr ⟨e,e1,e2,e3,rfl⟩,d2.factor,d2.bits⟩,h5⟩
end
section
variable {ss ss':List Sch}{cs:List Col}{i:Nat}{Q0 Q:Qy}
end
theorem jeO:∀{l:List (List UInt8 × Int)},(∀p∈l,p.2=0)->jb8 l=(0,[])
 | [],_=>rfl
 |(n,e)::l,h=>by
  have h0:e=0:=h (n,e) ae;simp only[jb8];rw[Kj h0];exact jeO λp hp=>h p (by simp[hp])
section
variable {cs:List Col}{ss ss':List Sch}{i:Nat}{Q0 Q:Qy}
structure Rt2 (ss:List Sch) (i:Nat) (Q:Qy):Prop where
 table:Q.table=(ss.getD i Sch.none).name
 keep:Q.keep=0\/(ss.getD i Sch.none).pub=false/\0<=Q.keep/\Q.keep<=50
 join:(Q.other=[]/\Q.left=[]/\Q.right=[]/\Q.limit=0)\/∃j,j<ss.length/\((ss.getD i Sch.none).pub=false\/(ss.getD j Sch.none).pub=true)/\Q.other=(ss.getD j Sch.none).name/\1<=Q.limit/\Q.limit<=3 /\
  ∃a b:Nat,a<(ss.getD i Sch.none).cs.length/\b<(ss.getD j Sch.none).cs.length/\((ss.getD i Sch.none).cs.getD a Col.none).name=((ss.getD j Sch.none).cs.getD b Col.none).name/\Q.left=((ss.getD i Sch.none).cs.getD a Col.none).name/\Q.right=((ss.getD j Sch.none).cs.getD b Col.none).name
 bits:1<=Q.bits/\Q.bits<=12
theorem Rt.two(r:Rt ss i Q):Rt2 ss i Q:=⟨r.table,r.keep.imp id λh=>⟨h.1,aa,aa⟩,r.join,r.bits⟩
end
def WV(v:V)(n:Nat)(cs:List V):Prop:=(v=.nilsl/\n=0/\cs=[])\/∃q,v=.row cs n q
theorem WV.of {base w n:Nat}{ts:List Nat}{v:V}{cs:List V}(g:GrowV base ts w v n cs):WV v n cs:=by
 cases g with
 |nil=>exact .inl ⟨rfl,rfl,rfl⟩
 |full _ _ _=>exact .inr ⟨_,rfl⟩
 |tok _ _ _ _ _ _ _=>exact .inr ⟨_,rfl⟩
theorem WV.weak {v:V}{n:Nat}{cs:List V}(h:WV v n cs)(hw:V.weak.weakL cs=cs):WV v.weak n cs:=by
 rcases h with⟨rfl,a,b⟩|⟨q,rfl⟩
 ·exact .inl ⟨rfl,a,b⟩
 ·exact .inr ⟨q.weak,by simp only[V.weak,hw]⟩
theorem WV.closed {v:V}{n:Nat}{cs:List V}(h:WV v n cs)(hw:V.weak.weakL cs=cs)(hc:V.closed.closedL cs=true):v.weak.closed=true:=by
 rcases h with⟨rfl,a,b⟩|⟨q,rfl⟩
 ·rfl
 ·cases q<;>simp[V.weak,V.closed,hw,hc,RCap.weak]
theorem WV.nv {v:V}{l:List Nd}(h:WV v l.length (jb5 l))(hl:l.length<=400):K.NV v l:=by
 rcases h with⟨rfl,a,b⟩|⟨q,rfl⟩
 ·obtain rfl:l=[]:=Uo.1 a;exact⟨⟨λ_=>.inl ⟨rfl,rfl⟩,.inl ⟨rfl,rfl⟩⟩,rfl,⟨rfl,rfl⟩,hl⟩
 ·refine⟨?_,rfl,⟨rfl,rfl⟩,hl⟩;cases q with
  |full=>exact⟨λ_=>.inr (.inr rfl),.inr (.inr (by simp only[V.weak,weakL_flatN,RCap.weak]))⟩
  |unk=>exact⟨λ_=>.inr (.inl rfl),.inr (.inl (by simp only[V.weak,weakL_flatN,RCap.weak]))⟩
  |tok k e w=>exact⟨λh=>by simp[V.closed]at h,.inr (.inl (by simp only[V.weak,weakL_flatN,RCap.weak]))⟩
theorem jfD(r:Int × Int)(l:List (Int × Int)):jes (r::l)=.int .i64 r.1::.int .i64 r.2::jes l:=rfl
theorem flatR_weak:∀l,V.weak.weakL (jes l)=jes l
 | []=>rfl
 |r::l=>by rw[jfD];simp only[V.weak.weakL,V.weak,flatR_weak l]
theorem jhl:∀l,V.closed.closedL (jes l)=true
 | []=>rfl
 |r::l=>by rw[jfD];simp only[V.closed.closedL,V.closed,jhl l,K6]
theorem jfj:∀l,V.closed.closedL (jb5 l)=true
 | []=>rfl
 |x::l=>by rw[jbF];simp only[V.closed.closedL,V.closed,jfj l,K6]
theorem jjF:∀(l:List (Int × Int)) (i:Nat),(jes l).drop (i*2)=jes (l.drop i)
 |l,0=>ae
 | [],i+1=>by simp[jes]
 |r::l,i+1=>by
  rw[jfD,show(i+1)*2=i*2+1+1 by omega,K9,K9,jjF l i,K9]
theorem WV.rg {v:V}{l:List (Int × Int)}(h:WV v l.length (jes l))(hl:l.length<=400):K.RgV v l:=by
 rcases h with⟨rfl,a,b⟩|⟨q,rfl⟩
 ·obtain rfl:l=[]:=Uo.1 a;exact⟨rfl,λi hi=>by simp at hi,⟨rfl,rfl⟩,hl⟩
 ·refine⟨rfl,λi hi => ?_,⟨rfl,rfl⟩,hl⟩;refine⟨jes (l.drop (i+1)),?_⟩;rw[Ys,Kj aa,Qi,jjF,Qj hi,jfD];have:l.getD i (0,0)=l[i]:=by simp[List.getD,hi]
  rw[this]
structure WQ (Q:Qy) (ev wv rv:V):Prop where
 e:WV ev Q.ex.length (jb5 Q.ex)
 w:WV wv Q.wh.length (jb5 Q.wh)
 r:WV rv Q.rg.length (jes Q.rg)
 l:Q.ex.length<=400/\Q.wh.length<=400/\Q.rg.length<=400
 fl:Q.factor.length<2^40
theorem WQ.qv {Q:Qy}{ev wv rv:V}(h:WQ Q ev wv rv)(hc:ev.closed=true/\wv.closed=true/\rv.closed=true):K.QV Q ev wv rv:=⟨h.e.nv h.l.1,h.w.nv h.l.2.1,h.r.rg h.l.2.2,hc,h.fl⟩
theorem WQ.weak {Q:Qy}{ev wv rv:V}(h:WQ Q ev wv rv):K.QV Q ev.weak wv.weak rv.weak :=
 ⟨(h.e.weak (weakL_flatN _)).nv h.l.1,(h.w.weak (weakL_flatN _)).nv h.l.2.1,(h.r.weak (flatR_weak _)).rg h.l.2.2,⟨h.e.closed (weakL_flatN _) (jfj _),h.w.closed (weakL_flatN _) (jfj _),h.r.closed (flatR_weak _) (jhl _)⟩,h.fl⟩
structure LS (ss:List Sch):Prop where
 l:ss.length<=1000
 at':∀s∈ss,(∃q,s.cv=.row (jaM s.cs) s.cs.length q)/\OkC s.cs/\s.cs.length<=200/\jjp s
def jf9(s:Sch):Sch:=⟨s.name,s.pub,s.many,s.cv.weak,s.cs⟩
theorem jiF:∀ss:List Sch,V.weak.weakL (jbl ss)=jbl (ss.map jf9)
 | []=>rfl
 |s::ss=>by rw[jci,K7,jci];simp only[V.weak.weakL,V.weak,jiF ss,jf9]
theorem jun {cs:List Col}{q:RCap}(h:(V.row (jaM cs) cs.length q).closed=true):IsC (.row (jaM cs) cs.length q) cs:=by
 cases q with
 |full=>exact .inr ⟨.full,.inr rfl,rfl⟩
 |unk=>exact .inr ⟨.unk,.inl rfl,rfl⟩
 |tok k e w=>simp[V.closed]at h
theorem joe {cs:List Col}(ok:OkC cs)(q:RCap):IsC (V.row (jaM cs) cs.length q).weak cs:=(RC.row ok q).2
theorem LS.mem {ss:List Sch}{i:Nat}(hi:i<ss.length):ss.getD i Sch.none∈ss:=by simp[List.getD,hi]
theorem LS.weak {ss:List Sch}(h:LS ss)(q:RCap):K.SB (V.row (jbl ss) ss.length q).weak (ss.map jf9):=by
 have e:(V.row (jbl ss) ss.length q).weak=.row (jbl (ss.map jf9)) (ss.map jf9).length q.weak:=by simp only[V.weak,jiF,Qw]
 rw[e]
 have at2:∀s∈ss.map jf9,IsC s.cv s.cs/\OkC s.cs/\s.cs.length<=200/\jjp s:=λs hs=>by
  obtain⟨t,ht,rfl⟩:=Ji.1 hs;obtain⟨⟨q',e⟩,ok,l,sh⟩:=h.at' t ht;exact⟨by show IsC t.cv.weak t.cs;rw[e];exact joe ok q',ok,l,sh⟩
 refine⟨⟨.inr ⟨q.weak,by cases q<;>simp[RCap.weak],rfl⟩,λs hs=>⟨(at2 s hs).1,(at2 s hs).2.1⟩,by rw[Qw];exact h.l,λi hi=>(at2 _ (LS.mem hi)).2.2.2⟩,λi hi=>(at2 _ (LS.mem hi)).2.2.1⟩
theorem hk17:env.hook 17=some (jbR K.env 17):=rfl
section
variable {Q:Qy}{ev wv rv:V}{ss:List Sch}{q:RCap}{fe:Int}
theorem agg_weak(h:WQ Q ev wv rv):(V.agg (Q.cells ev wv rv)).weak=.agg (Q.cells ev.weak wv.weak rv.weak):=rfl
theorem jjG:(V.agg (Q.cells ev wv rv)).closed=true->ev.closed=true/\wv.closed=true/\rv.closed=true:=λh=>by
 simp only[Qy.cells,V.closed,V.closed.closedL,J6,Qt,Qo]at h;exact⟨h.1,h.2.2,h.2.1⟩
end
theorem facs_ok {f:List UInt8}(h:f∈facs):K.Fac f 0/\f.length<=7:=by
 simp only[facs,Jh,Uc,or_false]at h
 rcases h with rfl|rfl|rfl|rfl|rfl
 ·exact⟨⟨0,1,-1,0,0,K.call_F rfl F.ck_0 _,λ_=>⟨K.call_F rfl F.lo_0 _,K.call_F rfl F.hi_0 _⟩,af⟩,af⟩
 ·exact⟨⟨0,1,-1,0,0,K.call_F rfl F.ck_1 _,λ_=>⟨K.call_F rfl F.lo_1 _,K.call_F rfl F.hi_1 _⟩,af⟩,af⟩
 ·exact⟨⟨0,1,-1,0,0,K.call_F rfl F.ck_2 _,λ_=>⟨K.call_F rfl F.lo_2 _,K.call_F rfl F.hi_2 _⟩,af⟩,af⟩
 ·exact⟨⟨0,1,-1,0,0,K.call_F rfl F.ck_3 _,λ_=>⟨K.call_F rfl F.lo_3 _,K.call_F rfl F.hi_3 _⟩,af⟩,af⟩
 ·exact⟨⟨0,1,-1,0,0,K.call_F rfl F.ck_4 _,λ_=>⟨K.call_F rfl F.lo_4 _,K.call_F rfl F.hi_4 _⟩,af⟩,af⟩
section
variable {cs:List Col}{ss ss':List Sch}{Q:Qy}
theorem good_len(g:jly ss Q):Q.ex.length<=400/\Q.wh.length<=400/\Q.rg.length<=400/\Q.factor∈facs:=by
 have hb3:bnd 3=94:=af;obtain⟨i,Q4,hi,hb,r4,hk⟩:=g.split;have r:=jgA.rt hk r4;obtain⟨z1,z2,z3,z4,z5,z6,z7,z8,z9,z10⟩:=hb.z
 have hw:Q.wh.length<=400:=by
  rcases r.wh with e|⟨e,_,_,el,hw⟩
  ·rw[e];simp
  ·rw[hw];omega
 obtain⟨m,_,_,h⟩:=hk;refine⟨?_,hw,?_,r.factor⟩
 ·rcases h with⟨k,rfl⟩|⟨k,e,lo,w,p,q,wf,ek,el,l1,l2,w1,w2,hp,rfl⟩|⟨k,c,rfl⟩|⟨k,bd,b1,b2,rfl⟩|⟨k,rg,st,r1,r2,r3,t1,t2,rfl⟩|⟨k,rfl⟩
  ·simp[z1]
  ·show e.post.length<=400;omega
  ·simp[z1]
  ·simp[z1]
  ·simp[z1]
  ·simp[z1]
 ·rcases h with⟨k,rfl⟩|⟨k,e,lo,w,p,q,wf,ek,el,l1,l2,w1,w2,hp,rfl⟩|⟨k,c,rfl⟩|⟨k,bd,b1,b2,rfl⟩|⟨k,rg,st,r1,r2,r3,t1,t2,rfl⟩|⟨k,rfl⟩
  ·simp[z8]
  ·simp[z8]
  ·simp[z8]
  ·simp[z8]
  ·show rg.length<=400;omega
  ·simp[z8]
theorem jrv {c:Col}(h:Kit c):jdS c:=by
 obtain⟨⟨j,hj,hn⟩,_,h⟩:=h;have hnm:=jq0 hj;refine⟨by rw[hn];have:=hnm.2.1;omega,?_,?_⟩
 ·rcases h with⟨e,_⟩|⟨k,_,_,e,_⟩
  ·rw[e];simp
  ·rw[e,Qz];omega
 ·intro i hi
  rcases h with⟨e,_⟩|⟨k,k1,k5,e,_⟩
  ·rw[e]at hi;simp at hi
  ·have hr:reds.length=5:=rfl;rw[e,Qz]at hi;have:c.ws.getD i []=reds.getD i []:=by rw[e];simp[List.getD,Jr,show i<k by omega]
   rw[this];have:=(jq1 (j:=i) aa).2.1;omega
theorem jwc(h:KitL cs ss):LS ss:=by
 have hl:=h.l;refine⟨aa,λs hs => ?_⟩;obtain⟨i,hi,e⟩:=Jt hs;have e2:ss.getD i Sch.none=s:=by simp[List.getD,hi,e]
 have k:=h.at' i hi;rw[e2]at k;have hk:=k.sub.kits h.all h.five;have hle:=k.le;refine⟨k.row,hk.ok,aa,?_,aa,λj hj=>jrv (hk _ (by simp[List.getD,hj]))⟩;rw[k.nm];have:=(jmZ (j:=i) aa).2.1;omega
end
open B (TOK BOK InC)
def jiG(r:Rw):Rw:=⟨r.own,r.vv.weak,r.vs⟩
def jby(t:Tb):Tb:=⟨jf9 t.s,t.rv.weak,t.rows.map jiG⟩
theorem jiH:∀l:List Rw,V.weak.weakL (jcf l)=jcf (l.map jiG)
 | []=>rfl
 |r::l=>by rw[jcD,K7,jcD];simp only[V.weak.weakL,V.weak,jiH l,jiG]
theorem weakL_flatT:∀l:List Tb,V.weak.weakL (jaV l)=jaV (l.map jby)
 | []=>rfl
 |t::l=>by rw[jcT,K7,jcT];simp only[V.weak.weakL,V.weak,weakL_flatT l,jby,jf9]
theorem jdM:∀xs:List Int,V.weak.weakL (xs.map (V.int .i64))=xs.map (V.int .i64)
 | []=>rfl
 |x::xs=>by simp only[K7,V.weak.weakL,V.weak,jdM xs]
theorem js7(l:List Rw):(l.map jiG).map Rw.pl=l.map Rw.pl:=by
 rw[Xw];rfl
section
variable {cs:List Col}{tbs:List Tb}
theorem BaseG.len(h:BaseG cs tbs):1<=tbs.length/\tbs.length<=3:=by
 have h1:=h.k.n;have h2:=h.k.l;simp at h1 h2;exact⟨h1,h2⟩
theorem BaseG.kit(h:BaseG cs tbs){t:Tb}(ht:t∈tbs):∃i,i<tbs.length/\tbs.getD i Tb.none=t/\KitS cs i t.s:=by
 obtain⟨i,hi,e⟩:=Jt ht;have e2:(tbs.map (·.s)).getD i Sch.none=t.s:=by simp[List.getD,hi,e]
 have:=h.k.at' i (by simpa using hi);rw[e2]at this;exact⟨i,hi,by simp[List.getD,hi,e],this⟩
theorem BaseG.kits(h:BaseG cs tbs){t:Tb}(ht:t∈tbs):Kits t.s.cs:=by
 obtain⟨i,_,_,k⟩:=h.kit ht;exact k.sub.kits h.k.all h.k.five
theorem BaseG.sch(h:BaseG cs tbs){t:Tb}(ht:t∈tbs):(∃q,t.s.cv=.row (jaM t.s.cs) t.s.cs.length q)/\OkC t.s.cs/\t.s.cs.length<=200/\jjp t.s:=(jwc h.k).at' t.s (List.mem_map_of_mem ht)
theorem BaseG.tok(h:BaseG cs tbs){t:Tb}(ht:t∈tbs)(hc:t.s.cv.closed=true)(hr:t.rv.closed=true):TOK t:=by
 obtain⟨⟨q,hq⟩,ok,cl,sh⟩:=h.sch ht;obtain⟨i,hi,_,k⟩:=h.kit ht;obtain⟨hg,hl⟩:=h.r t ht;have hv:=h.v t ht;have kb:=h.kits ht
 have hx:∀r∈t.rows,r.vs.length=t.s.cs.length/\∀x∈r.vs,In64 x:=λr hr=>by
  obtain⟨_,_,g3,g4⟩:=hg.g r hr;refine⟨g3,λx hx => ?_⟩;obtain⟨j,hj,e⟩:=Jt hx;have hj2:j<t.s.cs.length:=by have:r.vs.length=t.s.cs.length:=g3;omega
  have h1:=g4 j hj2;have h2:=kb.bound hj2;have e2:r.pl.2.getD j 0=x:=by show r.vs.getD j 0=x;simp[List.getD,hj,e]
  rw[e2]at h1;simp only[In64];omega
 refine⟨by rw[hq]at hc ⊢;exact jun hc,ok,cl,sh,?_,λc hcm => ?_,?_,?_,aa,λr hr=>by rw[(hx r hr).1];omega⟩
 ·rcases k.pb with⟨_,e,_⟩|⟨_,e1,e2⟩<;>simp only[In64]<;>omega
 ·obtain⟨j,hj,e⟩:=Jt hcm;have h2:=kb.bound hj;rw[show t.s.cs.getD j Col.none=c by simp[List.getD,hj,e]]at h2;simp only[In64];omega
 ·rcases hv with⟨e1,e2⟩|⟨q2,e⟩
  ·exact .inl ⟨e1,e2⟩
  ·rw[e]at hr ⊢;cases q2 with
   |full=>exact .inr ⟨.full,.inr rfl,rfl⟩
   |unk=>exact .inr ⟨.unk,.inl rfl,rfl⟩
   |tok k e w=>simp[V.closed]at hr
 ·intro r hrm
  have hcr:r.vv.closed=true:=by
   rcases hv with⟨e1,e2⟩|⟨q2,e⟩
   ·rw[e2]at hrm;cases hrm
   ·have hcl:V.closed.closedL (jcf t.rows)=true:=by
     rw[e]at hr;cases q2 with
     |full=>simpa[V.closed]using hr
     |unk=>simpa[V.closed]using hr
     |tok k e w=>simp[V.closed]at hr
    have:∀l:List Rw,V.closed.closedL (jcf l)=true->∀r∈l,r.vv.closed=true:=λl=>by
     induction l with
     |nil=>intro _ r hr;cases hr
     |cons a l ih =>
      intro hh r hr;rw[jcD]at hh;simp only[V.closed.closedL,V.closed,J6,Qo]at hh
      rcases Jh.1 hr with rfl|hr
      ·exact hh.1
      ·exact ih hh.2 r hr
    exact this _ hcl r hrm
  obtain⟨q3,e3⟩:=hg.v r hrm;refine⟨?_,(hx r hrm).2,?_⟩
  ·rw[e3]at hcr ⊢;cases q3 with
   |full=>exact .inr (.inr rfl)
   |unk=>exact .inr (.inl rfl)
   |tok k e w=>simp[V.closed]at hcr
  ·obtain⟨g1,g2,_⟩:=hg.g r hrm;cases hp:t.s.pub with
   |true=>have:=g1 hp;simp only[In64];show _/\_;have e:r.own=0:=this;omega
   |false=>have:=g2 hp;simp only[In64];have e:1<=r.own/\r.own<=5:=this;omega
theorem BaseG.weak(h:BaseG cs tbs):BaseG cs (tbs.map jby):=by
 have e:(tbs.map jby).map (·.s)=(tbs.map (·.s)).map jf9:=by rw[Xw,Xw];rfl
 refine⟨?_,?_,?_⟩
 ·rw[e];refine⟨h.k.all,h.k.five,by have:=h.k.n;simpa using this,by have:=h.k.l;simpa using this,λi hi => ?_⟩;have hi2:i<(tbs.map (·.s)).length:=by simpa using hi
  have k:=h.k.at' i hi2;have e3:((tbs.map (·.s)).map jf9).getD i Sch.none=jf9 ((tbs.map (·.s)).getD i Sch.none):=by simp only[List.getD,J4,Kz hi2,Kw,Kv]
  rw[e3];refine⟨k.nm,k.sub,k.ne,k.le,k.pb,?_⟩;obtain⟨q,hq⟩:=k.row;exact⟨q.weak,by show V.weak _=_;rw[hq];simp only[V.weak,jcz ((k.sub.kits h.k.all h.k.five).ok)];rfl⟩
 ·intro t ht;obtain⟨t0,h0,rfl⟩:=Ji.1 ht;obtain⟨g,hl⟩:=h.r t0 h0;refine⟨⟨λr hr => ?_,λr hr => ?_,λhp o => ?_⟩,by simpa[jby]using hl⟩
  ·obtain⟨r0,hr0,rfl⟩:=Ji.1 hr;obtain⟨q,hq⟩:=g.v r0 hr0;exact⟨q.weak,by show V.weak _=_;rw[hq];simp only[V.weak,jdM];rfl⟩
  ·obtain⟨r0,hr0,rfl⟩:=Ji.1 hr;exact g.g r0 hr0
  ·show(cnt o ((t0.rows.map jiG).map Rw.pl):Int)<=_;rw[js7];exact g.m hp o
 ·intro t ht;obtain⟨t0,h0,rfl⟩:=Ji.1 ht
  rcases h.v t0 h0 with⟨e1,e2⟩|⟨q,e1⟩
  ·exact .inl ⟨by show V.weak _=_;rw[e1];rfl,by show List.map _ _=_;rw[e2];rfl⟩
  ·exact .inr ⟨q.weak,by show V.weak _=.row (jcf (t0.rows.map jiG)) (t0.rows.map jiG).length _;rw[e1];simp only[V.weak,jiH,Qw]⟩
theorem jnf:∀{l:List Tb},V.closed.closedL (jaV l)=true->∀t∈l,t.s.cv.closed=true/\t.rv.closed=true
 | [],_,t,ht=>by cases ht
 |x::l,h,t,ht=>by
  rw[jcT]at h;simp only[V.closed.closedL,V.closed,J6,Qo]at h
  rcases Jh.1 ht with rfl|ht
  ·exact⟨h.1,h.2.1⟩
  ·exact jnf h.2.2 t ht
theorem BaseG.bok(h:BaseG cs tbs){q:RCap}(hc:(V.row (jaV tbs) tbs.length q).closed=true):BOK (.row (jaV tbs) tbs.length q) tbs:=by
 have hq:(q=.unk\/q=.full)/\V.closed.closedL (jaV tbs)=true:=by
  cases q with
  |full=>exact⟨.inr rfl,by simpa[V.closed]using hc⟩
  |unk=>exact⟨.inl rfl,by simpa[V.closed]using hc⟩
  |tok k e w=>simp[V.closed]at hc
 have hl:=h.len;exact⟨.inr ⟨q,hq.1,rfl⟩,λt ht=>h.tok ht (jnf hq.2 t ht).1 (jnf hq.2 t ht).2,aa⟩
theorem jcq(tbs:List Tb)(q:RCap):(V.row (jaV tbs) tbs.length q).weak=.row (jaV (tbs.map jby)) (tbs.map jby).length q.weak:=by simp only[V.weak,weakL_flatT,Qw]
theorem BaseG.bokW(h:BaseG cs tbs)(q:RCap):BOK (.row (jaV (tbs.map jby)) (tbs.map jby).length q.weak) (tbs.map jby):=by
 have hw:=h.weak;have hl:=hw.len;refine⟨.inr ⟨q.weak,by cases q<;>simp[RCap.weak],rfl⟩,λt ht => ?_,aa⟩;obtain⟨t0,h0,rfl⟩:=Ji.1 ht;refine hw.tok ht ?_ ?_
 ·obtain⟨⟨q1,e⟩,ok,_⟩:=h.sch h0;show V.closed (V.weak _)=true;rw[e];exact ja5 (joe ok q1) ok
 ·show V.closed (V.weak _)=true
  rcases h.v t0 h0 with⟨e,_⟩|⟨q1,e⟩
  ·rw[e];rfl
  ·rw [e]
   have:∀l:List Rw,(∀r∈l,∃q,r.vv=.row (r.vs.map (V.int .i64)) r.vs.length q)->V.closed.closedL (V.weak.weakL (jcf l))=true:=λl=>by
    induction l with
    |nil=>intro _;rfl
    | cons a l ih =>
     intro hh;obtain⟨q2,e2⟩:=hh a ae;rw[jcD]
     have e3:V.closed (V.weak a.vv)=true:=by
      rw[e2]
      have:W.IsI (V.weak (.row (a.vs.map (V.int .i64)) a.vs.length q2)) a.vs:=by
       cases q2 with
       |full=>exact .inr (.inr (by simp only[V.weak,jdM,RCap.weak]))
       |unk=>exact .inr (.inl (by simp only[V.weak,jdM,RCap.weak]))
       |tok k e w=>exact .inr (.inl (by simp only[V.weak,jdM,RCap.weak]))
      exact W.closed_I this
     simp only[V.weak.weakL,V.weak,V.closed.closedL,V.closed,J6,e3,ih λr hr=>hh r (by simp[hr])]
   have e4:=this _ (h.r t0 h0).1.v;cases q1<;>simp[V.weak,V.closed,RCap.weak,e4]
end
open B (TOK BOK InC FitQ jd1 sv vpQ tbN VR jnN)
section
variable {cs:List Col}{tbs:List Tb}{Q:Qy}{ev wv rv:V}{fe:Int}
theorem jiI(h:BaseG cs tbs):sv (tbs.map jby)=sv tbs:=by
 unfold sv;rw[Xw];refine Vx λt ht => ?_
 obtain⟨⟨q,e⟩,ok,_⟩:=h.sch ht;show({ jf9 t.s with cv:=unkV t.s.cv.weak }:Sch)={ t.s with cv:=unkV t.s.cv };rw[e];simp only[V.weak,jcz ok,unkV,jf9]
theorem jhI(h:BaseG cs tbs)(nm:List UInt8):tbN (tbs.map jby) nm=jby (tbN tbs nm):=by
 unfold tbN;rw[jiI h];by_cases hl:(ja3 (sv tbs) nm (sv tbs).length 0).toNat<tbs.length
 ·simp only[List.getD,J4,Kz hl,Kw,Kv]
 ·have h1:tbs[(ja3 (sv tbs) nm (sv tbs).length 0).toNat]? = none:=Ql aa;simp only[List.getD,J4,h1,U6,Option.getD_none];rfl
theorem jrw(h:BaseG cs tbs):vpQ (tbs.map jby) Q=vpQ tbs Q:=by
 unfold vpQ B.ixL B.ixR;rw[jiI h,jhI h,jhI h];have e:∀t:Tb,(jby t).rows.map Rw.pl=t.rows.map Rw.pl:=λt=>js7 t.rows
 rw[e,e];rfl
theorem jsD(h:BaseG cs tbs)(n:Nat):jnN (tbs.map jby) Q n=jnN tbs Q n:=by
 unfold jnN;rw[jhI h];rfl
theorem juo(tbs:List Tb):Fits (tbs.map (·.s)) (sv tbs):=by
 refine⟨by simp[sv],λi hi => ?_⟩;have hi2:i<tbs.length:=by simpa using hi
 have e:(sv tbs).getD i Sch.none=B.cpS ((tbs.map (·.s)).getD i Sch.none):=by simp only[sv,List.getD,J4,Kz hi2,Kw,Kv]
 rw[e];exact⟨rfl,rfl,rfl,rfl⟩
theorem jof {s:Sch}:∀(l:List PR) (seen:List Int) (i:Nat),(∀r∈l,RowG s r)->(s.pub=false->∀o,((seen.count o+cnt o l:Nat):Int)<=s.many)->B.rowsE s seen i l=(0,-1)
 | [],_,_,_,_=>rfl
 | r::l,seen,i,hg,hc=>by
  obtain⟨g1,g2,g3,g4⟩:=hg r ae
  have e1:∀o,cnt o (r::l)=cnt o l+if r.1=o then 1 else 0:=λo=>by
   by_cases h:r.1=o<;>simp[cnt,h]
  have hr:B.rowE s seen r=0:=by
   unfold B.rowE;rw[Kh (λq=>q g3),Kh,Kh,Kh]
   ·rintro⟨hp,h2⟩;have:=hc hp r.1;rw[e1,Kj rfl]at this;omega
   ·simp only[Jc,Ur];exact g4
   ·rintro(⟨hp,h2⟩|⟨hp,h2⟩)
    ·exact h2 (g1 hp)
    ·have:=g2 hp;omega
  simp only[B.rowsE];rw[Kj hr];refine jof l _ _ (λx hx=>hg x (by simp[hx])) λhp o => ?_
  have:=hc hp o;rw[e1]at this;by_cases h:r.1=o
  ·subst h;rw[List.count_cons_self];rw[Kj rfl]at this;omega
  ·rw[Vm h];rw[Kh h]at this;omega
theorem jwd(h:BaseG cs tbs){t:Tb}(ht:t∈tbs):(B.Tb.tabE t).1=0:=by
 obtain⟨i,hi,_,k⟩:=h.kit ht;obtain⟨hg,hl⟩:=h.r t ht;have hn:=h.len
 have hc:(jda t.s.name t.s.pub t.s.many t.s.cs).1=0:=by
  refine jf6 (by rw[k.nm];exact jmZ aa) ?_ ⟨k.ne,by have:=k.le;omega⟩ λj hj=>jn3 k.sub h.k.all h.k.five hj
  rcases k.pb with⟨a,b,_⟩|⟨a,b,c⟩
  ·exact .inl ⟨a,b⟩
  ·exact .inr ⟨a,b,aa⟩
 unfold B.Tb.tabE B.tabE
 rw[Kh (λq=>q hc),Kh (by simp;omega),jof _ _ _ (λr hr=>by obtain⟨r0,h0,rfl⟩:=Ji.1 hr;exact hg.g r0 h0) λhp o=>by
  have:=hg.m hp o;simpa using this]
theorem jog:∀(l:List Tb) (i:Nat),(∀t∈l,(B.Tb.tabE t).1=0)->B.tabsE i l=(0,-1,-1)
 | [],_,_=>rfl
 |t::l,i,h=>by
  simp only[B.tabsE];rw[Kj (h t ae)];exact jog l _ λx hx=>h x (by simp[hx])
theorem jiJ(h:BaseG cs tbs):(allE (sv tbs)).1=0/\(jd1 tbs).1=0:=by
 have ha:(allE (sv tbs)).1=0:=jtZ h.k (juo tbs) (.inl (by simp[sv]));refine⟨ha,?_⟩;unfold jd1;rw[Kh (λq=>q ha),jog _ _ λt ht=>jwd h ht]
theorem hk41:env.hook 41=some (jbR B.env 41):=rfl
theorem jwe(h:BaseG cs tbs){q:RCap}(hQ:WQ Q ev wv rv)(hf:K.Fac Q.factor fe)(hF:FitQ tbs Q fe):∃u,VR (jnN tbs Q (tbN tbs Q.table).s.cs.length) (vpQ tbs Q).view u/\∀U,jaf env (Go.Ab.ev env) 41 [.row (jaV tbs) tbs.length q,.agg (Q.cells ev wv rv)] U=some (u,U):=by
 by_cases hc:([.row (jaV tbs) tbs.length q,.agg (Q.cells ev wv rv)]:List V).all V.closed=true
 ·have hc2:=hc;simp only[Ku,Qk,Qt,Qo]at hc2;obtain⟨u,hu,hcall⟩:=B.view_call (h.bok hc2.1) (hQ.qv (jjG hc2.2)) hf;exact⟨u,hu.1 hF,λU=>jjg hk41 hcall _ U⟩
 ·have hn:([.row (jaV tbs) tbs.length q,.agg (Q.cells ev wv rv)]:List V).all V.closed=false:=by simpa using hc
  obtain⟨u,hu,hcall⟩:=B.view_call (h.bokW q) hQ.weak hf
  have hF2:FitQ (tbs.map jby) Q fe:=by
   refine⟨(jiJ h.weak).2,?_⟩;rw[jiI h];exact hF.2
  have hu:=hu.1 hF2;rw[jrw h,jsD h,jhI h]at hu;have hb:=h.bokW q;have h1:=hQ.weak.closed;refine⟨u,hu,λU=>jjg hk41 (λU => ?_) _ U⟩;rw[jeF rfl rfl hn (by simp only[K7,Jv,Ku,Qk,agg_weak hQ,h1,jcq,hb.closed,K6]) U];simp only[K7,Jv,agg_weak hQ,jcq];exact hcall U
end
open B (TOK BOK sv svV cpS)
theorem at60:env.P.funcs[60]? = some Tryz.f60:=ac
theorem at65:env.P.funcs[65]? = some Tryz.f65:=ac
theorem jyR(t:Tb):rowO env 24 1 [(0,.agg [.str t.s.name,.bool t.s.pub,.int .i64 t.s.many,t.s.cv])]=some (.row [.str t.s.name,.bool t.s.pub,.int .i64 t.s.many,t.s.cv] 1 .full):=ac
theorem jiK(h:List AObj):∀{l:List Tb},(∀t∈l,IsC t.s.cv t.s.cs/\OkC t.s.cs)->(jbl (l.map (·.s))).mapM (jaL h 11)=some (jbl (sv l))
 | [],_=>rfl
 | t::l,ok=>by
  obtain⟨hv,hc⟩:=ok t ae
  have hs:jaL h 11 t.s.cv=some (unkV t.s.cv):=by
   rcases hv with⟨e,_⟩|⟨q,_,e⟩<;>rw[e]
   ·rfl
   ·show jaL h (10+1) (.row _ _ _)=_;rw[ja2,show(10:Nat)=8+2 from rfl,jdK h 8 hc];rfl
  have e2:sv (t::l)=cpS t.s::sv l:=rfl;rw[K7,e2,jci,jci,jal,jal,jal,jal,jiK h (l:=l) λx hx=>ok x (by simp[hx]),hs,jbB,jav,jaz];rfl
theorem jrx(h:List AObj)(a b c d e:V)(r:List V):jab h 4 (.rptr (a::b::c::d::e::r))=some [a,b,c,d]:=by simp[jab]
section
variable {v:V}{l:List Tb}
theorem jfR(h:BOK v l)(U:S):jaf env (ev env) 34 [v] U=some (svV l,U):=by
 refine jak (by simp[h.closed]) at34 rfl ?_ U;have hlim:lim=2^40:=rfl;have hl:=h.l;have hB:=jo9 h.v 79;simp only[Tryz.f34,simprocAttr,zK,Vq,jaj,ty7,uq];refine jax (λm T D U=>D=[]/\T 0=v/\∃(L:List AObj) (ts:List Nat) (i:Nat) (u:V),U=⟨L,ts⟩/\T 3=u/\T 4=.int .i64 i/\i<=l.length/\m=l.length-i/\GrowV 0 ts 4 u i (jbl ((l.take i).map (·.s)))/\(i=0->u=.nilsl)) ?_ (l.length-0) _ _ _ ⟨rfl,rfl,[],[],0,.nilsl,rfl,rfl,rfl,Qr _,rfl,.nil,λ_=>rfl⟩;rintro m T D U ⟨rfl,t0,L,ts,i,u,rfl,t3,t4,hi,rfl,g,g0⟩;refine jaB ?_;by_cases hlt:i<l.length
 ·have c1:(i:Int)<(l.length:Int):=by omega
  have e1:IntKind.i64.wrap ((i:Int)+1)=((i+1:Nat):Int):=by rw[wrap_i64 aa aa];omega
  have hx:=jiU h.v hlt;have ht:=h.at hlt;have hr:=jyR (l.getD i Tb.none)
  obtain⟨v',ts',hA,g',_⟩:=GrowV.push (E:=env) (hp:=L) (q:=.full) (new:=[.str (l.getD i Tb.none).s.name,.bool (l.getD i Tb.none).s.pub,.int .i64 (l.getD i Tb.none).s.many,(l.getD i Tb.none).s.cv]) eS ⟨38,eS.slice⟩ g (Qr _) rfl
   (by rcases ht.cv with⟨e,_⟩|⟨q,_,e⟩<;>rw[e]<;>rfl) ⟨by rw[hlim];omega,by rw[hlim];omega⟩
  simp only[simprocAttr,yK,Vq,ty7,uq,al1,jaH,Q6,K9,t0,t3,t4,c1,e1,hB,hx,jrx,jaq,hr,hA];refine⟨l.length-(i+1),aa,L,ts',i+1,v',rfl,rfl,rfl,aa,rfl,?_,λh=>aa⟩;rw[B.take_next Tb.none hlt];have e:jbl ((l.take i++[l.getD i Tb.none]).map (·.s))=jbl ((l.take i).map (·.s))++[.str (l.getD i Tb.none).s.name,.bool (l.getD i Tb.none).s.pub,.int .i64 (l.getD i Tb.none).s.many,(l.getD i Tb.none).s.cv]:=by simp[jbl,Sch.cells]
  rw[e];exact g'
 ·have hie:i=l.length:=by omega
  subst hie;have c1:((l.length:Int)<(l.length:Int))=False:=eq_false aa;simp only[simprocAttr,yK,Vq,ty7,uq,t0,t3,t4,c1,hB];rw[Jp]at g;have hs:=jiK L (l:=l) λt ht=>⟨(h.t t ht).cv,(h.t t ht).ok⟩
  unfold svV;by_cases hn:l=[]
  ·rw[Kj hn,g0 (by rw[hn];rfl)];rfl
  ·rw[Kh hn];have hp:0<l.length:=Xn.2 hn;obtain⟨q,rfl⟩:=g.isrow hp;show jaL L (11+1) (.row _ _ _)=_;rw[ja2,hs,show(sv l).length=l.length by simp[sv]];rfl
def jcN(nm:List UInt8):List Tb->Bool
 | []=>false
 |t::l=>if t.s.name=nm then !t.s.pub else jcN nm l
theorem jff(h:BOK v l)(nm:List UInt8)(U:S):jaf env (ev env) 65 [v,.str nm] U=some (.bool (jcN nm l),U):=by
 refine jak (by rw[Ku,h.closed];rfl) at65 rfl ?_ U;have hl:=h.l;have hB:=jo9 h.v 79;generalize hr:jcN nm l=r;simp only[Tryz.f65,simprocAttr,zK,Vq,jaj,ty7,uq];refine jax (λm T D U=>D=[]/\T 0=v/\T 1=.str nm/\∃i:Nat,U=⟨[],[]⟩/\T 5=.int .i64 i/\i<=l.length/\m=l.length-i/\jcN nm (l.drop i)=r) ?_ (l.length-0) _ _ _ ⟨rfl,rfl,rfl,0,rfl,rfl,Qr _,rfl,hr⟩;clear hr;rintro m T D U ⟨rfl,t0,t1,i,rfl,t5,hi,rfl,hr⟩;refine jaB ?_;by_cases hlt:i<l.length
 ·have c1:(i:Int)<(l.length:Int):=by omega
  have e1:IntKind.i64.wrap ((i:Int)+1)=((i+1:Nat):Int):=by rw[wrap_i64 aa aa];omega
  have hx:=jiU h.v hlt;rw[show l.drop i=l.getD i Tb.none::l.drop (i+1) by rw[Qj hlt];simp[List.getD,hlt]]at hr;simp only[jcN]at hr;generalize l.getD i Tb.none=t at *;by_cases k:t.s.name=nm
  ·rw[Kj k]at hr;subst hr;have g1:=eq_true k;cases hp:t.s.pub
   all_goals
    simp only[simprocAttr,yK,Vq,ty7,uq,al1,jaH,Q6,K9,t0,t1,t5,c1,e1,hB,hx,jar,jaA,g1,hp,Q7,Jd];rfl
  ·rw[Kh k]at hr;have g1:=eq_false k;simp only[simprocAttr,yK,Vq,ty7,uq,al1,jaH,Q6,K9,t0,t1,t5,c1,e1,hB,hx,jar,jaA,g1];exact⟨l.length-(i+1),aa,i+1,rfl,aa,rfl,hr⟩
 ·have hie:i=l.length:=by omega
  subst hie;have c1:((l.length:Int)<(l.length:Int))=False:=eq_false aa;rw[Vu]at hr;simp only[jcN]at hr;subst hr;simp only[simprocAttr,yK,Vq,ty7,uq,t0,t1,t5,c1,hB];rfl
end
open W (jln idx_I closed_I)
theorem jry {xv yv:V}{xs ys:List Int}(hx:W.IsI xv xs)(hy:W.IsI yv ys)(hl:xs.length<=100000)(U:S):jaf env (ev env) 60 [xv,yv] U=some (.bool (decide (xs=ys)),U):=by
 refine jak (by rw[Ku,Ku,closed_I hx,closed_I hy];rfl) at60 rfl ?_ U;have lx:=jln hx;have ly:=jln hy;generalize hr:decide (xs=ys)=r;by_cases hn:xs.length=ys.length
 case neg =>
  have c1:((xs.length:Int)=(ys.length:Int))=False:=eq_false aa;have:r=false:=by rw[<- hr];exact decide_eq_false λe=>hn (by rw[e])
  subst this;simp only[Tryz.f60,simprocAttr,yK,Vq,jaj,ty7,uq,lx,ly,c1,not_true_eq_false,Q9];rfl
 have c1:((xs.length:Int)=(ys.length:Int))=True:=eq_true aa;simp only[Tryz.f60,simprocAttr,yK,Vq,jaj,ty7,uq,lx,ly,c1,not_true_eq_false,Q9];refine jax (λm T D U=>D=[]/\T 0=xv/\T 1=yv/\∃i:Nat,U=⟨[],[]⟩/\T 5=.int .i64 i/\i<=xs.length/\m=xs.length-i/\decide (xs.drop i=ys.drop i)=r) ?_ (xs.length-0) _ _ _ ⟨rfl,rfl,rfl,0,rfl,rfl,Qr _,rfl,hr⟩;clear hr;rintro m T D U ⟨rfl,t0,t1,i,rfl,t5,hi,rfl,hr⟩;refine jaB ?_;by_cases hlt:i<xs.length
 ·have c1:(i:Int)<(xs.length:Int):=by omega
  have e1:IntKind.i64.wrap ((i:Int)+1)=((i+1:Nat):Int):=by rw[wrap_i64 aa aa];omega
  have ix:=idx_I hx hlt;have iy:=idx_I hy (show i<ys.length by omega);rw[Qj hlt,Qj (show i<ys.length by omega),show xs[i]=xs.getD i 0 by simp[List.getD,hlt],show ys[i]=ys.getD i 0 by simp[List.getD,show i<ys.length by omega]]at hr;by_cases k:xs.getD i 0=ys.getD i 0
  ·have g1:=eq_true k;simp only[simprocAttr,yK,Vq,ty7,uq,t0,t1,t5,c1,e1,lx,ix,iy,jar,g1,not_true_eq_false,Q9];refine⟨ac,xs.length-(i+1),aa,i+1,rfl,aa,rfl,?_⟩;rw[<- hr,k];simp
  ·have g1:=eq_false k;have:r=false:=by rw[<- hr];exact decide_eq_false λe=>k (List.cons.inj e).1
   subst this;simp only[simprocAttr,yK,Vq,ty7,uq,t0,t1,t5,c1,e1,lx,ix,iy,jar,g1,not_true_eq_false,Q9];exact⟨ac,rfl⟩
 ·have hie:i=xs.length:=by omega
  subst hie;have c1:((xs.length:Int)<(xs.length:Int))=False:=eq_false aa;rw[Vu,show xs.length=ys.length from hn,Vu]at hr;have:r=true:=by rw[<- hr];rfl
  subst this;simp only[simprocAttr,yK,Vq,ty7,uq,t0,t1,t5,c1,lx];rfl
def jng(nm:List UInt8):List Tb->Int->Int
 | [],m=>m
 |t::l,m=>jng nm l (if t.s.name=nm/\m=0 then t.s.many else m)
section
variable {v:V}{l:List Tb}{Q:Qy}{ev' wv rv:V}
end
open B (TOK BOK sv svV cpS vpQ tbN FitQ jd1)
theorem jjH(nm:List UInt8):∀l:List Tb,jcN nm (l.map jby)=jcN nm l
 | []=>rfl
 |t::l=>by
  rw[K7];simp only[jcN,jjH nm l,jby,jf9]
theorem joh {nm:List UInt8}:∀(l:List Tb) (i:Nat),i<l.length->(l.getD i Tb.none).s.name=nm->(∀k,k<l.length->(l.getD k Tb.none).s.name=nm->k=i)->jcN nm l = !(l.getD i Tb.none).s.pub
 | [],i,h,_,_=>by simp at h
 |t::l,0,_,hn,_=>by
  simp only[jcN,Vw]at hn ⊢;rw[Kj hn]
 |t::l,i+1,hi,hn,hu=>by
  have h0:¬t.s.name=nm:=λe=>by have:=hu 0 ae e;omega
  simp only[jcN,X4]at hn ⊢;rw[Kh h0];exact joh l i (by simpa using hi) hn λk hk e=>by have:=hu (k+1) (by simpa using hk) e;omega
theorem jjI {nm:List UInt8}:∀(l:List Tb) (m:Int),(∀t∈l,t.s.name ≠ nm)->jng nm l m=m
 | [],_,_=>rfl
 |t::l,m,h=>by
  simp only[jng];rw[Kh λq=>h t ae q.1];exact jjI l m λx hx=>h x (by simp[hx])
theorem joi {nm:List UInt8}:∀(l:List Tb) (i:Nat) (m:Int),i<l.length->(l.getD i Tb.none).s.name=nm->(∀k,k<l.length->(l.getD k Tb.none).s.name=nm->k=i)->jng nm l m=if m=0 then(l.getD i Tb.none).s.many else m
 | [],i,_,h,_,_=>by simp at h
 | t::l,0,m,_,hn,hu=>by
  simp only[jng,Vw]at hn ⊢
  rw[jjI l _ λx hx e=>by
   obtain⟨k,hk,e2⟩:=Jt hx;have:=hu (k+1) (by simpa using hk) (by rw[X4,show l.getD k Tb.none=x by simp[List.getD,hk,e2]];exact e);omega]
  simp only[hn,true_and]
 |t::l,i+1,m,hi,hn,hu=>by
  have h0:¬t.s.name=nm:=λe=>by have:=hu 0 ae e;omega
  simp only[jng,X4]at hn ⊢;rw[Kh λq=>h0 q.1];exact joi l i m (by simpa using hi) hn λk hk e=>by have:=hu (k+1) (by simpa using hk) e;omega
theorem joj {i k:Nat}(hi:i<3)(hk:k<3)(e:tabs.getD i []=tabs.getD k []):i=k:=by
 match i,k,hi,hk with
 |0,0,_,_=>rfl
 |1,1,_,_=>rfl
 |2,2,_,_=>rfl
 |0,1,_,_=>exact absurd e af
 |0,2,_,_=>exact absurd e af
 |1,0,_,_=>exact absurd e af
 |1,2,_,_=>exact absurd e af
 |2,0,_,_=>exact absurd e af
 |2,1,_,_=>exact absurd e af
section
variable {cs:List Col}{tbs:List Tb}{Q:Qy}{ev wv rv:V}{fe:Int}{q:RCap}
theorem schemasOf_N(h:BaseG cs tbs)(U:S):jaf env (Go.Ab.ev env) 34 [.row (jaV tbs) tbs.length q] U=some (.row (jbl (sv tbs)) (sv tbs).length .unk,U):=by
 have hl:=h.len
 have hne:∀l:List Tb,1<=l.length->svV l=.row (jbl (sv l)) (sv l).length .unk:=λl hl=>by
  unfold svV;rw[Kh (λe=>by rw[e]at hl;simp at hl)]
 refine jhp rfl rfl (λhc U => ?_) ?_ (λU => ?_) U
 ·simp only[Ku,Qk,Qt]at hc;rw[jfR (h.bok hc),hne _ hl.1]
 ·simp only[K7,Jv,Ku,Qk,jcq,(h.bokW q).closed,K6]
 ·simp only[K7,Jv,jcq];rw[jfR (h.bokW q),hne _ (by simpa using hl.1),jiI h]
theorem priv_N(h:BaseG cs tbs)(nm:List UInt8)(U:S):jaf env (Go.Ab.ev env) 65 [.row (jaV tbs) tbs.length q,.str nm] U=some (.bool (jcN nm tbs),U):=by
 refine jhp rfl rfl (λhc U => ?_) ?_ (λU => ?_) U
 ·simp only[Ku,Qk,Qt,Qo]at hc;exact jff (h.bok hc.1) nm U
 ·simp only[K7,Jv,Ku,Qk,jcq,(h.bokW q).closed,K6];rfl
 ·simp only[K7,Jv,jcq];rw[<- jjH];exact jff (h.bokW q) nm U
theorem BaseG.kitSv(h:BaseG cs tbs):KitL cs (sv tbs):=by
 refine⟨h.k.all,h.k.five,by have:=h.k.n;simpa[sv]using this,by have:=h.k.l;simpa[sv]using this,λi hi => ?_⟩;have hi2:i<(tbs.map (·.s)).length:=by simpa[sv]using hi
 have hi3:i<tbs.length:=by simpa using hi2
 have k:=h.k.at' i hi2;have e:(sv tbs).getD i Sch.none=cpS ((tbs.map (·.s)).getD i Sch.none):=by simp only[sv,List.getD,J4,Kz hi3,Kw,Kv]
 rw[e];refine⟨k.nm,k.sub,k.ne,k.le,k.pb,?_⟩;obtain⟨q,hq⟩:=k.row;exact⟨.unk,by show unkV _=_;rw[hq];rfl⟩
theorem jok(h:BaseG cs tbs){nm0:List UInt8}(hs:0<=ja3 (sv tbs) nm0 (sv tbs).length 0):tbN tbs nm0∈tbs/\jcN nm0 tbs = !(tbN tbs nm0).s.pub/\(∀m,jng nm0 tbs m=if m=0 then(tbN tbs nm0).s.many else m):=by
 obtain⟨i,hi1,hi2,hi3,hi4,hi5,hi6⟩:=B.tbN_spec hs;have hl:=h.len
 have nm:∀k,k<tbs.length->(tbs.getD k Tb.none).s.name=tabs.getD k []:=λk hk=>by
  have k2:=(h.k.at' k (by simpa using hk)).nm;rw[<- k2];simp only[List.getD,J4,Kz hk,Kw,Kv]
 rw[hi3]at hi6;have hu:∀k,k<tbs.length->(tbs.getD k Tb.none).s.name=nm0->k=i:=λk hk e=>joj aa aa (by rw[<- nm k hk,<- nm i hi2,e,hi6])
 refine⟨hi5,?_,λm => ?_⟩
 ·rw[hi3];exact joh tbs i hi2 hi6 hu
 ·rw[hi3];exact joi tbs i m hi2 hi6 hu
end
end Go.Proofs.YtajaampgajieeaaGreatDoor.N
