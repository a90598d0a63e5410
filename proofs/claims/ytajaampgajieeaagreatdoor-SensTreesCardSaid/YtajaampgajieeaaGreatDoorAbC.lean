/- Proved here: that its runs are the machine's, and how a law follows from a run. Conditions: each theorem's own. -/
import Derived.Test.YtajaampgajieeaaGreatDoorAbB
import Derived.RangeFuncIn
import Derived.RangeFuncRecord
import Derived.MakeChecks
import Derived.LaidMore
import Derived.ProofKit
import Derived.Stop.Joined
set_option linter.unusedSimpArgs false
namespace Go.Ab
open Go.RowKit (Below)
section
variable {E:Env}
theorem jeP(hE:E.Ok){rec:Task->Option Res}(hrec:∀t r,rec t=some r->jfj E t r){mutb:Bool}{ops:Array Oper}:∀(is:List Nat) {tmps tmps':List V} {U U':S},
  jdj E rec mutb ops is tmps U=some (tmps',U')->∀{O:Ctx} {w:World} {a:Act} (b:Frame),WRel O U w->GOK E O->LRel O tmps a.tmps ->
  ∃O' w' a',Moved O O' U' w w'/\LRel O' tmps' a'.tmps/\a'.defers=a.defers/\∀k cs,Steps E.P (lone (b.atR a (.inRegion ops is::k)) cs w) (lone (b.atR a' k) cs w')
 | [],tmps,tmps',U,U',h,O,w,a,b,hw,hg,hx=>by
  simp[jdj]at h;obtain⟨rfl,rfl⟩:=h;exact⟨O,w,a,Moved.refl hw,hx,rfl,λk cs=>.one stepR_region_end⟩
 | i::is,tmps,tmps',U,U',h,O,w,a,b,hw,hg,hx=>by
  simp only[jdj]at h;split at h
  ·simp at h
  ·rename_i o ho;split at h
   ·rename_i hwant;rw[jdW hx]at hwant;split at h
    ·rename_i v U1 hop;obtain⟨O1,w1,y,m1,hy,hs⟩:=jin hE hrec hop hw hg hx (b:=b) (rest:=is) ho hwant;obtain⟨O',w',a',m2,hx',hd,hs2⟩:=jeP hE hrec is h b m1.rel (hg.mono m1.le) (jg1 (hx.mono m1.le) o.dst hy);exact⟨O',w',a',m1.trans m2,hx',hd.trans (jdX _ _ _),λk cs=>(hs k cs).trans (hs2 k cs)⟩
    ·simp at h
   ·rename_i hwant;rw[jdW hx]at hwant;obtain⟨O',w',a',m2,hx',hd,hs2⟩:=jeP hE hrec is h b hw hg (jg1 hx o.dst (jc1 O));refine⟨O',w',a',m2,hx',hd.trans (jdX _ _ _),λk cs=>.head (stepR_op_skip (by simp[ho];simpa using hwant)) ?_⟩;rw[ho];exact hs2 k cs
end
section
variable {E:Env}
def ArrA(P:Program)(m:Machine)(b:Frame)(k:List Item)(cs:List Frame)(ex:Ex)(a:Act)(w:World):Prop :=
 match ex with
 | .normal=>Steps P m (lone (b.atR a k) cs w)
 | .exit id=>∃k1,exitTo id k1=exitTo id k/\Steps P m (lone (b.atR a (.code (.exit id)::k1)) cs w)
 | .ret=>∃k1,Steps P m (lone (b.atR a (.code .ret::k1)) cs w)
theorem ArrA.of_steps {P:Program}{m m1:Machine}{b:Frame}{k:List Item}{cs:List Frame}{ex:Ex}{a:Act}{w:World}(h:Steps P m m1)(h':ArrA P m1 b k cs ex a w):ArrA P m b k cs ex a w:=by
 cases ex with
 |normal=>exact h.trans h'
 |exit id=>obtain⟨k1,h1,h2⟩:=h';exact⟨k1,h1,h.trans h2⟩
 |ret=>obtain⟨k1,h1⟩:=h';exact⟨k1,h.trans h1⟩
def jww(E:Env)(c:Code)(fn:FuncId)(rnd:Option Nat)(tmps:List V)(dfs:List DE)(U:S)(r:Res):Prop :=
 ∀O w (a:Act) (b:Frame),WRel O U w->GOK E O->LRel O tmps a.tmps->DRel O dfs a.defers->b.fn=fn->RRel O rnd b.roundOf ->
  ∃O' w' a',Moved O O' r.st w w'/\LRel O' r.vals a'.tmps/\DRel O' r.dfs a'.defers/\∀k cs,ArrA E.P (lone (b.atR a (.code c::k)) cs w) b k cs r.ex a' w'
theorem jm5 {id:Nat}{c:Code}{k:List Item}:exitTo id (.code c::k)=exitTo id k:=rfl
theorem jky {id:Nat}{c:Code}{k:List Item}:exitTo id (.inLoop c::k)=exitTo id k:=rfl
theorem jgk {P:Program}{b:Frame}{a:Act}{k:List Item}{cs:List Frame}{w:World}{c:Code} :
  step P (lone (b.atR a (.code (.scope c)::k)) cs w)=.next (lone (b.atR a (.code c::.inScope c::k)) cs w):=step_lone_go rfl
theorem jkz {P:Program}{b:Frame}{a:Act}{k:List Item}{cs:List Frame}{w:World}{c:Code} :
  step P (lone (b.atR a (.inScope c::k)) cs w)=.next (lone (b.atR a k) cs w):=step_lone_go rfl
theorem jbw(hE:E.Ok){rec:Task->Option Res}(hrec:∀t r,rec t=some r->jfj E t r)(fn:FuncId)(rnd:Option Nat):∀(c:Code) (tmps:List V) (dfs:List DE) (U:S) (r:Res),
  ja6 E rec fn rnd c tmps dfs U=some r->jww E c fn rnd tmps dfs U r
 | .skip,tmps,dfs,U,r,h=>by
  simp[ja6]at h;subst h;intro O w a b hw hg hx hd hf hr;exact⟨O,w,a,Moved.refl hw,hx,hd,λk cs=>.one stepR_skip⟩
 | .label _,tmps,dfs,U,r,h=>by
  simp[ja6]at h;subst h;intro O w a b hw hg hx hd hf hr;exact⟨O,w,a,Moved.refl hw,hx,hd,λk cs=>.one stepR_label⟩
 | .exit id,tmps,dfs,U,r,h=>by
  simp[ja6]at h;subst h;intro O w a b hw hg hx hd hf hr;exact⟨O,w,a,Moved.refl hw,hx,hd,λk cs=>⟨k,rfl,Steps.refl _ _⟩⟩
 | .ret,tmps,dfs,U,r,h=>by
  simp[ja6]at h;subst h;intro O w a b hw hg hx hd hf hr;exact⟨O,w,a,Moved.refl hw,hx,hd,λk cs=>⟨k,Steps.refl _ _⟩⟩
 | .seq x y,tmps,dfs,U,r,h=>by
  simp only[ja6]at h;intro O w a b hw hg hx hd hf hr;split at h
  ·rename_i t1 d1 U1 hx1;obtain⟨O1,w1,a1,m1,l1,e1,s1⟩:=jbw hE hrec fn rnd x _ _ _ _ hx1 O w a b hw hg hx hd hf hr;obtain⟨O2,w2,a2,m2,l2,e2,s2⟩:=jbw hE hrec fn rnd y _ _ _ _ h O1 w1 a1 b m1.rel (hg.mono m1.le) l1 e1 hf (hr.mono m1.le);exact⟨O2,w2,a2,m1.trans m2,l2,e2,λk cs=>.of_steps (.head stepR_seq (s1 (.code y::k) cs)) (s2 k cs)⟩
  ·rename_i hne;obtain⟨O1,w1,a1,m1,l1,e1,s1⟩:=jbw hE hrec fn rnd x _ _ _ _ h O w a b hw hg hx hd hf hr;refine⟨O1,w1,a1,m1,l1,e1,λk cs => ?_⟩;have s:=s1 (.code y::k) cs;obtain⟨ex,vals,dfs',st⟩:=r;cases ex with
   |normal=>exact absurd h (hne _ _ _)
   |exit id=>obtain⟨k1,g1,g2⟩:=s;exact⟨k1,g1.trans jm5,.head stepR_seq g2⟩
   |ret=>obtain⟨k1,g1⟩:=s;exact⟨k1,.head stepR_seq g1⟩
 | .cond c x y,tmps,dfs,U,r,h=>by
  simp only[ja6]at h;intro O w a b hw hg hx hd hf hr;split at h
  ·rename_i hc;have hev:=(jgA hg hx _ _ hc).bool_inv;obtain⟨O1,w1,a1,m1,l1,e1,s1⟩:=jbw hE hrec fn rnd x _ _ _ _ h O w a b hw hg hx hd hf hr;exact⟨O1,w1,a1,m1,l1,e1,λk cs=>.of_steps (.one (stepR_cond hev)) (s1 k cs)⟩
  ·rename_i hc;have hev:=(jgA hg hx _ _ hc).bool_inv;obtain⟨O1,w1,a1,m1,l1,e1,s1⟩:=jbw hE hrec fn rnd y _ _ _ _ h O w a b hw hg hx hd hf hr;exact⟨O1,w1,a1,m1,l1,e1,λk cs=>.of_steps (.one (stepR_cond hev)) (s1 k cs)⟩
  ·simp at h
 | .block id c,tmps,dfs,U,r,h=>by
  simp only[ja6]at h;intro O w a b hw hg hx hd hf hr;split at h
  ·rename_i i t1 d1 U1 hx1;simp at h;subst h;obtain⟨O1,w1,a1,m1,l1,e1,s1⟩:=jbw hE hrec fn rnd c _ _ _ _ hx1 O w a b hw hg hx hd hf hr;refine⟨O1,w1,a1,m1,l1,e1,λk cs => ?_⟩;obtain⟨k1,g1,g2⟩:=s1 (.inBlock id::k) cs;by_cases hid:i=id
   ·subst hid;simp only[Kl];have:exitTo i k1=some k:=by rw[g1];simp[exitTo]
    exact(Steps.head stepR_block g2).trans (.one (stepR_exit this))
   ·simp only[Ke hid];refine⟨k1,?_,.head stepR_block g2⟩;rw[g1];have:(id==i)=false:=by simp;exact λe=>hid e.symm
    simp[exitTo,this]
  ·rename_i hne;obtain⟨O1,w1,a1,m1,l1,e1,s1⟩:=jbw hE hrec fn rnd c _ _ _ _ h O w a b hw hg hx hd hf hr;refine⟨O1,w1,a1,m1,l1,e1,λk cs => ?_⟩;have s:=s1 (.inBlock id::k) cs;obtain⟨ex,vals,dfs',st⟩:=r;cases ex with
   |normal=>exact(Steps.head stepR_block s).trans (.one stepR_inBlock)
   |exit i=>exact absurd h (hne _ _ _ _)
   |ret=>obtain⟨k1,g1⟩:=s;exact⟨k1,.head stepR_block g1⟩
 | .loop c,tmps,dfs,U,r,h=>by
  simp only[ja6]at h;intro O w a b hw hg hx hd hf hr;obtain⟨O1,w1,a1,m1,l1,e1,s1⟩:=hrec _ _ h O w a b hw hg hx hd hf hr;refine⟨O1,w1,a1,m1,l1,e1,λk cs => ?_⟩;have s:=s1 k cs;obtain⟨ex,vals,dfs',st⟩:=r;cases ex with
  |normal=>exact s.elim
  |exit i=>obtain⟨k1,g1,g2⟩:=s;exact⟨k1,g1,.head stepR_loop g2⟩
  |ret=>obtain⟨k1,g1⟩:=s;exact⟨k1,.head stepR_loop g1⟩
 | .region id ops d,tmps,dfs,U,r,h=>by
  cases d with
  | true =>
   simp only[ja6]at h;intro O w a b hw hg hx hd hf hr;split at h
   ·rename_i hp;split at h
    ·rename_i tr ss t1 U1 hrun;split at h
     ·rename_i hck;simp at h;subst h;obtain⟨O',w',a',m,l,e,s⟩:=jm4 hE hrec hE.mixed hp hrun hck b (id:=id) hw hg hx;exact⟨O',w',a',m,l,by rw[e];exact hd.mono m.le,s⟩
     ·simp at h
    ·simp at h
   ·simp only[Kv]at h;obtain⟨⟨t1,U1⟩,hrun,h⟩:=h;subst h;obtain⟨O',w',a',m,l,e,s⟩:=jlA hE hrec hE.mixed hrun b (id:=id) hw hg hx;exact⟨O',w',a',m,l,by rw[e];exact hd.mono m.le,s⟩
  |false =>
   simp only[ja6]at h;intro O w a b hw hg hx hd hf hr;simp only[Kv]at h;obtain⟨⟨t1,U1⟩,hrun,h⟩:=h;subst h;obtain⟨O',w',a',m,l,e,s⟩:=jeP hE hrec _ hrun b hw hg hx;exact⟨O',w',a',m,l,by rw[e];exact hd.mono m.le,λk cs=>.head stepR_region (s k cs)⟩
 | .rangeFunc f ps asg body,tmps,dfs,U,r,h=>by
  simp only[ja6]at h;intro O w a b hw hg hx hd hf hr;split at h
  ·rename_i g hgv;have hro:b.roundOf=none:=hr;split at h
   ·rename_i v0 U2 hcall;split at hcall
    ·rename_i fid first captured
     split at h
     ·rename_i st pend fn' tmps' ps' asg' body' dfr hl;split at h
      ·simp at h
      ·rename_i hbusy;have hrg:=jgA hg hx _ _ hgv;generalize hge:a.eval f=gval at hrg;cases hrg with
       | func _ _ _ xs ys h1 h2 h3 h4 =>
        -- the block for the deferred calls,and the record
        have m1:=hw.push (o:=.defd true) (ob:=.deferred (some [])) trivial;have m2:=m1.rel.push (o:=.loop .ready none fn tmps ps asg body U.heap.length) (ob:=.loop { state:=.ready,pending:=none,fn:=b.fn,tmps:=a.tmps,params:=ps,assign:=asg,body:=body,defers:=w.heap.size }) ⟨rfl,rfl,hf,hx.mono m1.le,rfl,rfl,rfl,by simp[Ctx.push]⟩;have m12:=m1.trans m2;have hl1:(U.push (.defd true)).heap.length=U.heap.length+1:=by simp[S.push]
        have hsz:(w.heap.push (Obj.deferred (some []))).size=w.heap.size+1:=ae;have hU:((U.push (.defd true)).push (.loop .ready none fn tmps ps asg body U.heap.length))=⟨U.heap++[.defd true,.loop .ready none fn tmps ps asg body U.heap.length],U.toks⟩:=by simp[S.push]
        rw[hU]at m12;rw[hl1]at m12;simp only[hsz]at m12;generalize hO2:(O.push U.heap.length w.heap.size).push (U.heap.length+1) (w.heap.size+1)=O2 at m12;have hbl:O2.blk (U.heap.length+1)=some (w.heap.size+1):=by rw[<- hO2];simp[Ctx.push]
        have hbd:O2.blk U.heap.length=some w.heap.size:=by rw[<- hO2];simp[Ctx.push]
        have hargs:LRel O2 (first++[V.yld (U.heap.length+1)]++captured) (xs ++ #[.func (.yield (w.heap.size+1)) #[] #[]]++ys) :=
         ((LRel.mono m12.le ⟨h1,h2⟩).append (LRel.one (.yld _ _ hbl))).append (LRel.mono m12.le ⟨h3,h4⟩)
        obtain⟨O3,w3,y,m3,hy,hent,hcs⟩:=hrec _ _ hcall v0 rfl O2 _ _ m12.rel (hg.mono m12.le) hargs;have hb3:=m3.le.blk _ _ hbl;obtain⟨ob,g1,g2,g3,g4⟩:=m3.rel.at hb3 hl;cases ob<;>simp only[ORel]at g2;rename_i rc;obtain⟨q1,q2,q3,q4,q5,q6,q7,q8⟩:=g2;have hlt:=(Qi.1 g1).1;have m4:=m3.rel.upd (o:=.loop .exhausted pend fn' tmps' ps' asg' body' dfr) (Upd.putObj (ob:=.loop { rc with state:=.exhausted }) hlt) hb3 hl rfl ⟨rfl,q2,q3,q4,q5,q6,q7,q8⟩
        have hend:(Instr.endLoop (w.heap.size+1)).run E.P w3=.ok pend { w3 with heap:=w3.heap.setIfInBounds (w.heap.size+1) (.loop { rc with state:=.exhausted }) }:=by
         have hnb:(rc.state==LoopState.busy)=false:=by rw[q1];simpa using hbusy
         simp only[Instr.endLoop,Instr.getLoop,Sem.run_bind,run_getObj_loop g1,Result.andThen_ok,Sem.run_pure,hnb,Ku,Kn,run_setObj_loop _ g1,q2];rfl
        have hent0:(Instr.enterLoop b.fn a.tmps ps asg body b.roundOf).run E.P w=.ok (w.heap.size+1,[{ target:=.collected w.heap.size,args := #[] }]) { w with heap:=(w.heap.push (.deferred (some []))).push (.loop { state:=.ready,pending:=none,fn:=b.fn,tmps:=a.tmps,params:=ps,assign:=asg,body:=body,defers:=w.heap.size }) }:=by
         rw[hro];simp only[Instr.enterLoop,Sem.run_bind,run_newObj,Result.andThen_ok,Sem.run_pure,hsz]
        have fin:∃a':Act,LRel O3 tmps a'.tmps/\DRel O3 (.mark U.heap.length::dfs) a'.defers/\∀k cs,Steps E.P (lone (b.atR a (.code (.rangeFunc f ps asg body)::k)) cs w) (lone (b.atR a' ((pend.map Item.code).toList++k)) cs { w3 with heap:=w3.heap.setIfInBounds (w.heap.size+1) (.loop { rc with state:=.exhausted }) }):=by
         refine⟨{ a with defers:=[{ target:=.collected w.heap.size,args := #[] }]++a.defers },hx.mono (m12.le.trans m3.le),⟨⟨_,m3.le.blk _ _ hbd,rfl⟩,hd.mono (m12.le.trans m3.le)⟩,λk cs => ?_⟩
         have hres:(resolve a.eval (rangeCall f (w.heap.size+1)) 0).run E.P { w with heap:=(w.heap.push (.deferred (some []))).push (.loop { state:=.ready,pending:=none,fn:=b.fn,tmps:=a.tmps,params:=ps,assign:=asg,body:=body,defers:=w.heap.size }) }=.ok { target:=.fn (.func fid) ys,args:=xs ++ #[.func (.yield (w.heap.size+1)) #[] #[]] } { w with heap:=(w.heap.push (.deferred (some []))).push (.loop { state:=.ready,pending:=none,fn:=b.fn,tmps:=a.tmps,params:=ps,assign:=asg,body:=body,defers:=w.heap.size }) }:=by
          have hmap:Array.map a.eval #[Operand.const (Value.func (Fn.yield (w.heap.size+1)) #[] #[])] = #[.func (.yield (w.heap.size+1)) #[] #[]]:=by simp;rfl
          simp only[resolve,hge,Deferred.ofValue,Sem.run_pure,hmap]
         have hinv:(invoke (.fn (.func fid) ys) (xs ++ #[.func (.yield (w.heap.size+1)) #[] #[]])).run E.P { w with heap:=(w.heap.push (.deferred (some []))).push (.loop { state:=.ready,pending:=none,fn:=b.fn,tmps:=a.tmps,params:=ps,assign:=asg,body:=body,defers:=w.heap.size }) }=.ok (.enter fid (xs ++ #[.func (.yield (w.heap.size+1)) #[] #[]]++ys)) { w with heap:=(w.heap.push (.deferred (some []))).push (.loop { state:=.ready,pending:=none,fn:=b.fn,tmps:=a.tmps,params:=ps,assign:=asg,body:=body,defers:=w.heap.size }) }:=hent;obtain⟨fr,hs,_,hlv⟩:=hcs (b.atR { a with defers:=[{ target:=.collected w.heap.size,args := #[] }]++a.defers } (.inRangeFunc (w.heap.size+1)::k)::cs);refine .head (stepR_rangeFunc hent0 hres hinv) (hs.trans (.head ?_ (.one (stepR_endRangeFunc hend))))
         ·rw[step_leave_returned hlv,finish_atR_inRangeFunc]
        obtain⟨a',fa,fb,fc⟩:=fin;have mall:=(m12.trans m3).trans m4;split at h
        ·simp at h;subst h;exact⟨O3,_,a',mall,fa,fb,λk cs=>fc k cs⟩
        ·simp at h;subst h;exact⟨O3,_,a',mall,fa,fb,λk cs=>⟨k,rfl,fc k cs⟩⟩
        ·simp at h;subst h;exact⟨O3,_,a',mall,fa,fb,λk cs=>⟨k,fc k cs⟩⟩
        ·simp at h
     ·simp at h
    ·simp at hcall
   ·simp at h
  ·simp at h
 | .scope c,tmps,dfs,U,r,h=>by
  simp only[ja6]at h;intro O w a b hw hg hx hd hf hr;obtain⟨O1,w1,a1,m1,l1,e1,s1⟩:=jbw hE hrec fn rnd c _ _ _ _ h O w a b hw hg hx hd hf hr;refine⟨O1,w1,a1,m1,l1,e1,λk cs => ?_⟩;have s:=s1 (.inScope c::k) cs;obtain⟨ex,vals,dfs',st⟩:=r;cases ex with
  |normal=>exact .head jgk (Steps.trans s (.one jkz))
  |exit i=>obtain⟨k1,g1,g2⟩:=s;exact⟨k1,g1.trans rfl,.head jgk g2⟩
  |ret=>obtain⟨k1,g1⟩:=s;exact⟨k1,.head jgk g1⟩
 | .goto _,tmps,dfs,U,r,h=>by simp[ja6]at h
 | .refuse _,tmps,dfs,U,r,h=>by simp[ja6]at h
end
section
variable {E:Env}{O:Ctx}{U:S}{w:World}
theorem jg4 {P:Program}{c:Nat}(h:w.heap[c]? = some (.deferred (some []))) :
  (Instr.takeDeferred c).run P w=.ok [] { w with heap:=w.heap.setIfInBounds c (.deferred none) }:=by
 simp[Instr.takeDeferred,getObj,setObj,Sem.run,h]
theorem jqQ {P:Program}{b:Frame}{ts:Array Value}{todo:List Item}{cs:List Frame}{c:Nat}{ds:List Deferred}{w':World}(h:(Instr.takeDeferred c).run P w=.ok [] w') :
  step P (lone { b.atR ⟨ts,{ target:=.collected c,args := #[] }::ds⟩ todo with mode:=.returning } cs w)=.next (lone { b.atR ⟨ts,ds⟩ todo with mode:=.returning } cs w') :=
 step_lone_go (by simp[stepG,unwind,Frame.atR,Sem.runT_eq,h,GStep.bare_after])
theorem jpu {O:Ctx}{U:S}{w:World}{a c:Nat}(hw:WRel O U w)(hb:O.blk a=some c)(ho:U.heap[a]? = some (.defd true)) :
  ∃w',Moved O O (U.set a (.defd false)) w w'/\∀P,(Instr.takeDeferred c).run P w=.ok [] w':=by
 obtain⟨ob,g1,g2,g3,g4⟩:=hw.at hb ho
 have hob:ob=.deferred (some []):=by
  cases ob with
  | deferred cl=>cases cl with
   |none=>exact g2.elim
   |some l=>cases l with
    |nil=>rfl
    |cons=>exact g2.elim
  |_=>exact g2.elim
 subst hob;have hlt:=(Qi.1 g1).1;have m1:=hw.upd (o:=.defd false) (Upd.putObj (ob:=.deferred none) hlt) hb ho rfl trivial;exact⟨_,m1,λP=>jg4 g1⟩
theorem jgB {P:Program}{b:Frame}{ts:Array Value}:∀(l:List DE) (ds:List Deferred) (U:S) (h:List AObj) (w:World),jdk U.heap l=some h->WRel O U w->DRel O l ds ->
  ∃w',Moved O O ⟨h,U.toks⟩ w w'/\∀todo cs,Steps P (lone { b.atR ⟨ts,ds⟩ todo with mode:=.returning } cs w) (lone { b.atR ⟨ts,[]⟩ todo with mode:=.returning } cs w')
 | [],[],U,h,w,ht,hw,hd=>by
  simp[jdk]at ht;subst ht;exact⟨w,Moved.refl hw,λ_ cs=>Steps.refl _ _⟩
 | [],_::_,U,h,w,ht,hw,hd=>hd.elim
 | .mark _::_,[],U,h,w,ht,hw,hd=>hd.elim
 | .mark a::l,d::ds,U,h,w,ht,hw,⟨⟨c,hb,hdd⟩,hd⟩=>by
  subst hdd;simp only[jdk]at ht;split at ht
  ·rename_i ho;obtain⟨w1,m1,hst⟩:=jpu hw hb ho;obtain⟨w',m2,hs⟩:=jgB (P:=P) (b:=b) (ts:=ts) l ds (U.set a (.defd false)) h _ ht m1.rel hd;exact⟨w',m1.trans m2,λtodo cs=>.head (jqQ (hst P)) (hs todo cs)⟩
  ·simp at ht
def _root_.Go.ResultVar.at:ResultVar->Nat
 | .tmp t=>t
 | .cell a _=>a
theorem jg5 {E:Env}(hw:WRel O U w){tmps:List V}{ts:Array Value}{ts':List ResultVar}(hx:∀rv∈ts',VRel O (tmps.getD rv.at (.tup [])) (ts.getD rv.at undef)):∀(l:List ResultVar) (vs:List V),(∀rv∈l,rv∈ts')->resV E tmps U.heap l=some vs ->
  ∃ys:List Value,(l.mapM (λ| .tmp t=>pure (ts.getD t undef)| .cell a t=>do loadVar t (<- asAddr (ts.getD a undef))):Sem (List Value)).run E.P w=.ok ys w/\LRel O vs ys.toArray
 | [],vs,_,h=>by simp[resV]at h;subst h;exact⟨[],ae,LRel.nil O⟩
 | .tmp t::r,vs,hin,h=>by
  simp only[resV,Kv]at h;obtain⟨us,hu,rfl⟩:=h;obtain⟨ys,h1,h2⟩:=jg5 hw hx r us (λrv h=>hin rv (by simp[h])) hu;exact⟨ts.getD t undef::ys,by simp only[Xx,Sem.run_bind,Sem.run_pure,Result.andThen_ok,h1],by simpa using LRel.cons (show VRel O (tmps.getD t (.tup [])) (ts.getD t undef)from hx (.tmp t) (hin _ ae)) h2⟩
 | .cell a t::r,vs,hin,h=>by
  simp only[resV,Ko,Kv]at h;obtain⟨v,hv,us,hu,rfl⟩:=h;obtain⟨ys,h1,h2⟩:=jg5 hw hx r us (λrv h=>hin rv (by simp[h])) hu;obtain⟨y,hy,hr⟩:=jlo hw (show VRel O (tmps.getD a (.tup [])) (ts.getD a undef)from hx (.cell a t) (hin _ ae)) hv
  have hc:(do loadVar t (<- asAddr (ts.getD a undef)):Sem Value).run E.P w=.ok y w:=by
   generalize ts.getD a undef=x at hy;cases x<;>simp[Instr.loadAt,Instr.sureAddr]at hy;rename_i ad;cases ad<;>simp at hy;simpa[asAddr]using hy
  refine⟨y::ys,?_,by simpa using LRel.cons hr h2⟩;simp only[Sem.run_bind]at hc;simp only[Xx,Sem.run_bind,Sem.run_pure];rw[hc];simp only[Result.andThen_ok,h1]
theorem jkA {E:Env}(hw:WRel O U w){tmps:List V}{ts:Array Value}{fn:Func}(hx:∀rv∈fn.results.toList,VRel O (tmps.getD rv.at (.tup [])) (ts.getD rv.at undef)){vs:List V}(h:resV E tmps U.heap fn.results.toList=some vs) :
  ∃y,(results fn ts).run E.P w=.ok y w/\VRel O (jaB vs) y:=by
 obtain⟨ys,h1,h2⟩:=jg5 hw hx _ vs (λ_ h=>h) h
 have hrun:(fn.results.mapM (λ| .tmp t=>pure (ts.getD t undef)| .cell a t=>do loadVar t (<- asAddr (ts.getD a undef))):Sem (Array Value)).run E.P w=.ok ys.toArray w:=by
  rw[Array.mapM_eq_mapM_toList,Sem.run_map];have:∀s:Sem (List Value),s.run E.P w=.ok ys w->(s.run E.P w).andThen (λa w'=>.ok a.toArray w')=.ok ys.toArray w:=by intro s hs;rw[hs];rfl
  exact this _ h1
 have hl:=h2.len;simp only[List.size_toArray]at hl
 match vs,ys,hl,h2,hrun with
 | [v],[y],_,h2,hrun =>
  refine⟨y,?_,h2.rel 0 ae ae⟩;simp only[results,Sem.run_bind]
  erw [hrun];rfl
 | [],[],_,h2,hrun =>
  refine⟨.tuple #[],?_,VRel.mkTup h2⟩;simp only[results,Sem.run_bind]
  erw [hrun];rfl
 |v::u::vs,y::z::ys,_,h2,hrun =>
  refine⟨.tuple (y::z::ys).toArray,?_,VRel.mkTup h2⟩;simp only[results,Sem.run_bind]
  erw [hrun]
  simp
theorem LRel.res {O:Ctx}{tmps:List V}{ts:Array Value}(h:LRel O tmps ts)(l:List ResultVar):∀rv∈l,VRel O (tmps.getD rv.at (.tup [])) (ts.getD rv.at undef):=λ_ _=>h.getD _
theorem jok:∀(ps:List Tmp) (args:List V) (xs:List Value) (tmps:List V) (ts:Array Value),LRel O args xs.toArray->LRel O tmps ts ->
  LRel O ((ps.zip args).foldl (λts (x:Tmp × V)=>ts.set x.1 x.2) tmps) ((ps.zip xs).foldl (λts (x:Tmp × Value)=>ts.setIfInBounds x.1 x.2) ts)
 | [],args,xs,tmps,ts,h,ht=>by simpa using ht
 |p::ps,[],[],tmps,ts,h,ht=>by simpa using ht
 |p::ps,[],x::xs,tmps,ts,h,ht=>by have:=h.len;simp at this
 |p::ps,v::args,[],tmps,ts,h,ht=>by have:=h.len;simp at this
 |p::ps,v::args,x::xs,tmps,ts,h,ht=>by
  simp only[Vr,X4];refine jok ps args xs _ _ ?_ (ht.set p ?_)
  ·exact LRel.mkList (by have:=h.len;simpa using this) (λi a b=>by have:=h.rel (i+1) (by simp;omega) (by simp;omega);simpa only[Xb,Xu]using this)
  ·have:=h.rel 0 ae ae;simpa using this
theorem jm6(hE:E.Ok){rec:Task->Option Res}(hrec:∀t r,rec t=some r->jfj E t r)(t:Task)(r:Res)(h:jf3 E rec t=some r):jfj E t r:=by
 cases t with
 | call f args U =>
  simp only[jf3]at h;split at h
  ·rename_i fn hf;split at h
   ·rename_i body hb;split at h
    ·simp at h
    ·rename_i hname
     have hcf:∀xs w,(callFunc f xs).run E.P w=.ok (.enter f xs) w:=by
      intro xs w;simp[callFunc,hf,hb,hname]
     let b:Frame:={ (default:Frame)with fn:=f,kind:=.normal,roundOf:=none }
     have hent:∀xs,Frame.enter E.P f xs .normal=b.atR ⟨xs++Array.replicate (fn.ntmps-xs.size) undef,[]⟩ [.code body]:=by
      intro xs;simp[Frame.enter,Frame.atR,hf,hb,b]
     have hx0:∀{O:Ctx} {xs:Array Value},LRel O args xs->LRel O (args++List.replicate (fn.ntmps-args.length) (.tup [])) (xs++Array.replicate (fn.ntmps-xs.size) undef):=by
      intro O xs hx;have hsz:xs.size=args.length:=hx.len.symm;rw[hsz];exact hx.append (LRel.replicate _ (jc1 O))
     split at h
     ·simp at h
     ·rename_i ex tmps dfs U1 hne1 hex;split at h
      ·rename_i hh htk;split at h
       ·rename_i vs hvs;simp only[Ki]at h;subst h;intro v hr O w xs hw hg hx;obtain⟨O1,w1,a1,m1,l1,e1,s1⟩:=jbw hE hrec f none body _ _ _ _ hex O w ⟨xs++Array.replicate (fn.ntmps-xs.size) undef,[]⟩ b hw hg (hx0 hx) trivial rfl rfl;obtain⟨ts,ds⟩:=a1;simp only[Res.mk.injEq,Ve,and_true,true_and]at hr;obtain⟨w2,m2,hs2⟩:=jgB (P:=E.P) (b:=b) (ts:=ts) dfs ds U1 hh w1 htk m1.rel e1;obtain⟨y,hy,hr2⟩:=jkA (E:=E) m2.rel (LRel.res l1 _) hvs;refine⟨O1,w2,y,m1.trans m2,by rw[<- hr];exact hr2,hcf xs w,λcs => ?_⟩;rw[hent];have s:=s1 [] cs;cases ex with
        |exit id=>exact(hne1 _ rfl).elim
        |normal=>exact⟨_,Steps.trans s (.head (stepR_end rfl) (hs2 [] cs)),rfl,rfl,rfl,rfl,fn,hf,hy⟩
        |ret =>
         obtain⟨k1,s⟩:=s;exact⟨_,Steps.trans s (.head (stepR_ret rfl) (hs2 _ cs)),rfl,rfl,rfl,rfl,fn,hf,hy⟩
       ·simp at h
      ·simp at h
     ·simp at h
   ·simp at h
  ·simp at h
 | round l args U =>
  simp only[jf3]at h;split at h
  ·rename_i fn tmps ps asg body dfr hl;split at h
   ·simp at h
   ·rename_i hsz;split at h
    ·rename_i tmps1 U1 hasg;split at h
     ·rename_i fn1 tm1 ps1 as1 bo1 df1 hl1;split at h
      ·rename_i ex tmps2 U2 hbody;split at h
       ·rename_i st2 pe2 fn2 tm2 ps2 as2 bo2 df2 hl2;intro v hr O w xs hw hg hx;obtain⟨lc,ob,g0,g1,g2,g3,g4⟩:=(hw.live l _ hl).resolve_left (λq=>by cases q.1);cases ob<;>simp only[ORel]at g2;rename_i rc;obtain⟨q1,q2,q3,q4,q5,q6,q7,q8⟩:=g2
        have hyd:(Instr.yield lc xs).run E.P w=.ok (.round lc fn ((ps.zip xs).foldl (λtmps (t,a)=>tmps.setIfInBounds t a) rc.tmps) asg body) w:=by
         have hne:¬(xs.size ≠ ps.size):=by have:=hx.len;omega
         simp only[Instr.yield,Instr.getLoop,Sem.run_bind,run_getObj_loop g1,Result.andThen_ok,Sem.run_pure,q3,q5,q6,q7];rw[Ke hne];rfl
        have hx0:LRel O ((ps.toList.zip args).foldl (λts (t,a)=>ts.set t a) tmps) ((ps.zip xs).foldl (λtmps (t,a)=>tmps.setIfInBounds t a) rc.tmps):=by
         have:=jok ps.toList args xs.toList tmps rc.tmps (by simpa using hx) q4;rw[<- Array.foldl_toList,Array.toList_zip];exact this
        let b:Frame:={ (default:Frame)with fn:=fn,kind:=.normal,roundOf:=some lc }
        have hent:Frame.round lc fn ((ps.zip xs).foldl (λtmps (t,a)=>tmps.setIfInBounds t a) rc.tmps) asg body .normal=b.atR ⟨(ps.zip xs).foldl (λtmps (t,a)=>tmps.setIfInBounds t a) rc.tmps,[]⟩ [.code asg,.beginRound,.code body]:=by
         simp[Frame.round,Frame.atR,b]
        obtain⟨O1,w1,a1,m1,l1,e1,s1⟩:=jbw hE hrec fn (some l) asg _ _ _ _ hasg O w ⟨_,[]⟩ b hw hg hx0 trivial rfl ⟨lc,rfl,g0⟩;obtain⟨ts1,ds1⟩:=a1;have hb1:=m1.le.blk _ _ g0;obtain⟨ob1,p1,p2,p3,p4⟩:=m1.rel.at hb1 hl1;cases ob1<;>simp only[ORel]at p2;rename_i rc1;obtain⟨r1,r2,r3,r4,r5,r6,r7,r8⟩:=p2;have hlt1:=(Qi.1 p1).1;have mb:=m1.rel.upd (o:=.loop .busy none fn1 tm1 ps1 as1 bo1 df1) (Upd.putObj (ob:=.loop { rc1 with state:=.busy }) hlt1) hb1 hl1 rfl ⟨rfl,r2,r3,r4,r5,r6,r7,r8⟩
        have hbeg:(Instr.beginRound lc).run E.P w1=.ok () { w1 with heap:=w1.heap.setIfInBounds lc (.loop { rc1 with state:=.busy }) }:=by
         simp only[Instr.beginRound,Instr.getLoop,Sem.run_bind,run_getObj_loop p1,Result.andThen_ok,Sem.run_pure,run_setObj_loop _ p1,r1];rfl
        obtain⟨O2,w2,a2,m2,l2,e2,s2⟩:=jbw hE hrec fn (some l) body _ _ _ _ hbody O1 _ ⟨ts1,ds1⟩ b mb.rel (hg.mono m1.le) l1 e1 rfl ⟨lc,rfl,hb1⟩;have hb2:=m2.le.blk _ _ hb1;obtain⟨ob2,t1,t2,t3,t4⟩:=m2.rel.at hb2 hl2;cases ob2<;>simp only[ORel]at t2;rename_i rc2;obtain⟨u1,u2,u3,u4,u5,u6,u7,u8⟩:=t2;have hlt2:=(Qi.1 t1).1
        have hendR:∀jump,(Instr.endRound lc jump).run E.P w2=.ok (.bool jump.isNone) { w2 with heap:=w2.heap.setIfInBounds lc (.loop { rc2 with state:=if jump.isNone then .ready else .done,pending:=jump }) }:=by
         intro jump;simp only[Instr.endRound,Instr.getLoop,Sem.run_bind,run_getObj_loop t1,Result.andThen_ok,Sem.run_pure,run_setObj_loop _ t1];rfl
        have mE:∀jump:Option Code,Moved O2 O2 (U2.set l (.loop (if jump.isNone then .ready else .done) jump fn2 tm2 ps2 as2 bo2 df2)) w2 { w2 with heap:=w2.heap.setIfInBounds lc (.loop { rc2 with state:=if jump.isNone then .ready else .done,pending:=jump }) } :=
         λjump=>m2.rel.upd (o:=.loop (if jump.isNone then .ready else .done) jump fn2 tm2 ps2 as2 bo2 df2) (Upd.putObj (ob:=.loop { rc2 with state:=if jump.isNone then .ready else .done,pending:=jump }) hlt2) hb2 hl2 rfl ⟨rfl,rfl,u3,u4,u5,u6,u7,u8⟩
        have mall:=(m1.trans mb).trans m2
        have hst:∀(c:Frame) cs,Steps E.P (lone (Frame.round lc fn ((ps.zip xs).foldl (λtmps (t,a)=>tmps.setIfInBounds t a) rc.tmps) asg body .normal) (c::cs) w) (lone (b.atR ⟨ts1,ds1⟩ [.code body]) (c::cs) { w1 with heap:=w1.heap.setIfInBounds lc (.loop { rc1 with state:=.busy }) }):=by
         intro c cs;rw[hent];exact(s1 [.beginRound,.code body] (c::cs)).trans (.one (stepR_beginRound rfl hbeg))
        cases ex with
        |normal =>
         simp only[Ki]at h;subst h;simp only[Res.mk.injEq,Ve,and_true,true_and]at hr;subst hr;exact⟨O2,_,.bool true,lc,fn,_,asg,body,mall.trans (mE none),.bool true,g0,hyd,λc cs=>(hst c cs).trans ((s2 [] (c::cs)).trans (.one (stepR_round_end rfl rfl (hendR none))))⟩
        |ret =>
         simp only[Ki]at h;subst h;simp only[Res.mk.injEq,Ve,and_true,true_and]at hr;subst hr;refine⟨O2,_,.bool false,lc,fn,_,asg,body,mall.trans (mE (some .ret)),.bool false,g0,hyd,λc cs => ?_⟩;obtain⟨k1,s⟩:=s2 [] (c::cs);exact(hst c cs).trans (s.trans (.one (stepR_round_ret rfl rfl (hendR (some .ret)))))
        |exit id =>
         simp only[Ki]at h;subst h;simp only[Res.mk.injEq,Ve,and_true,true_and]at hr;subst hr;refine⟨O2,_,.bool false,lc,fn,_,asg,body,mall.trans (mE (some (.exit id))),.bool false,g0,hyd,λc cs => ?_⟩;obtain⟨k1,hk,s⟩:=s2 [] (c::cs);exact(hst c cs).trans (s.trans (.one (stepR_round_exit rfl rfl (by rw[hk];rfl) (hendR (some (.exit id))))))
       ·simp at h
      ·simp at h
     ·simp at h
    ·simp at h
  ·simp at h
 | loop fn rnd c tmps dfs U =>
  simp only[jf3]at h;intro O w a b hw hg hx hd hf hr;split at h
  ·rename_i tmps1 dfs1 U1 hc;obtain⟨O1,w1,a1,m1,l1,e1,s1⟩:=jbw hE hrec fn rnd c _ _ _ _ hc O w a b hw hg hx hd hf hr;obtain⟨O2,w2,a2,m2,l2,e2,s2⟩:=hrec _ _ h O1 w1 a1 b m1.rel (hg.mono m1.le) l1 e1 hf (hr.mono m1.le);refine⟨O2,w2,a2,m1.trans m2,l2,e2,λk cs => ?_⟩;have sa:Steps E.P (lone (b.atR a (.code c::.inLoop c::k)) cs w) (lone (b.atR a1 (.code c::.inLoop c::k)) cs w1):=Steps.trans (s1 (.inLoop c::k) cs) (.one stepR_inLoop);have s:=s2 k cs;obtain⟨ex,vals,dfs',st⟩:=r;cases ex with
   |normal=>exact s.elim
   |exit i=>obtain⟨k1,g1,g2⟩:=s;exact⟨k1,g1,sa.trans g2⟩
   |ret=>obtain⟨k1,g1⟩:=s;exact⟨k1,sa.trans g1⟩
  ·rename_i hne;obtain⟨O1,w1,a1,m1,l1,e1,s1⟩:=jbw hE hrec fn rnd c _ _ _ _ h O w a b hw hg hx hd hf hr;refine⟨O1,w1,a1,m1,l1,e1,λk cs => ?_⟩;have s:=s1 (.inLoop c::k) cs;obtain⟨ex,vals,dfs',st⟩:=r;cases ex with
   |normal=>exact absurd h (hne _ _ _)
   |exit i=>obtain⟨k1,g1,g2⟩:=s;exact⟨k1,g1.trans jky,g2⟩
   |ret=>exact s
theorem jip(hE:E.Ok):∀(n:Nat) (t:Task) (r:Res),run E n t=some r->jfj E t r
 |0,t,r,h=>by simp[run]at h
 |n+1,t,r,h=>jm6 hE (jip hE n) t r h
end
def Ans(rec':Task->Option Res)(L:List (Task × Res)):Prop:=∀p∈L,rec' p.1=some p.2
theorem Ans.left {f:Task->Option Res}{A B:List (Task × Res)}(h:Ans f (A++B)):Ans f A:=λp hp=>h p (by simp[hp])
theorem Ans.right {f:Task->Option Res}{A B:List (Task × Res)}(h:Ans f (A++B)):Ans f B:=λp hp=>h p (by simp[hp])
theorem Ans.app {f:Task->Option Res}{A B:List (Task × Res)}(h:Ans f A)(k:Ans f B):Ans f (A++B):=λp hp=>by
 rcases Jl.1 hp with h1|h1
 ·exact h p h1
 ·exact k p h1
theorem Ans.nil {f:Task->Option Res}:Ans f []:=λp hp=>by simp at hp
theorem Ans.one {f:Task->Option Res}{t:Task}{r:Res}(h:f t=some r):Ans f [(t,r)]:=λp hp=>by simp at hp;subst hp;exact h
theorem Ans.of_one {f:Task->Option Res}{t:Task}{r:Res}(h:Ans f [(t,r)]):f t=some r:=h (t,r) ae
def Uses {α:Type}(rec:Task->Option Res)(F:(Task->Option Res)->Option α)(r:α):Prop :=
 ∃L,Ans rec L/\∀rec',Ans rec' L->F rec'=some r
theorem Uses.const {α:Type}{rec:Task->Option Res}{F:(Task->Option Res)->Option α}{r:α}(h:∀f,F f=some r):Uses rec F r:=⟨[],Ans.nil,λf _=>h f⟩
theorem Uses.rec {rec:Task->Option Res}{t:Task}{r:Res}(h:rec t=some r):Uses rec (λf=>f t) r:=⟨[(t,r)],Ans.one h,λ_ k=>k.of_one⟩
theorem Uses.and {α β γ:Type}{rec:Task->Option Res}{F:(Task->Option Res)->Option α}{G:(Task->Option Res)->Option β}{H:(Task->Option Res)->Option γ}{a:α}{b:β}{c:γ}
  (hF:Uses rec F a) (hG:Uses rec G b) (h:∀f,F f=some a->G f=some b->H f=some c):Uses rec H c:=by
 obtain⟨L,h1,h2⟩:=hF;obtain⟨M,h3,h4⟩:=hG;exact⟨L++M,h1.app h3,λf hf=>h f (h2 f hf.left) (h4 f hf.right)⟩
theorem Uses.map {α β:Type}{rec:Task->Option Res}{F:(Task->Option Res)->Option α}{H:(Task->Option Res)->Option β}{a:α}{c:β}(hF:Uses rec F a)(h:∀f,F f=some a->H f=some c):Uses rec H c:=by
 obtain⟨L,h1,h2⟩:=hF;exact⟨L,h1,λf hf=>h f (h2 f hf)⟩
section
variable {E:Env}{rec:Task->Option Res}
theorem jiq {f:FuncId}{args:List V}{U:S}{r:V × S}(h:jah E rec f args U=some r):Uses rec (λg=>jah E g f args U) r:=by
 unfold jah at h ⊢;cases hh:E.hook f with
 |some g=>simp only[hh]at h ⊢;exact Uses.const λ_=>h
 | none =>
  simp only[hh]at h ⊢;by_cases hp:E.pure f=true
  ·simp only[hp,Kl]at h ⊢;by_cases hc:(wargs args).all V.closed=true
   ·simp only[hc,Kl]at h ⊢;cases hr:rec (.call f (wargs args) S.empty)with
    |none=>rw[hr]at h;simp at h
    |some r0=>rw[hr]at h;exact(Uses.rec hr).map λg hg=>by rw[hg];exact h
   ·simp[hc]at h
  ·simp only[hp,Ku,Kn]at h ⊢;cases hr:rec (.call f args U)with
   |none=>rw[hr]at h;simp at h
   |some r0=>rw[hr]at h;exact(Uses.rec hr).map λg hg=>by rw[hg];exact h
theorem jpv {v:V}{args:List V}{U:S}{r:V × S}(h:jeL E rec v args U=some r):Uses rec (λg=>jeL E g v args U) r:=by
 unfold jeL at h ⊢;split at h
 ·exact jiq h
 ·rename_i l;cases hr:rec (.round l args U)with
  |none=>rw[hr]at h;simp at h
  |some r0=>rw[hr]at h;exact(Uses.rec hr).map λg hg=>by rw[hg];exact h
 ·simp at h
theorem jhO {mutb:Bool}{tmps:List V}{U:S}{op:Op}{r:V × S}(h:opV E rec mutb tmps U op=some r):Uses rec (λg=>opV E g mutb tmps U op) r:=by
 unfold opV at h ⊢;cases hp:jbK E (jbv E tmps) op with
 |some v=>rw[hp]at h;exact Uses.const λ_=>h
 | none =>
  rw[hp]at h;cases hr:jbh E (jbv E tmps) U op with
  |some v=>rw[hr]at h;exact Uses.const λ_=>h
  | none =>
   rw[hr]at h;simp only at h;split at h
   ·simp only[Ko]at h;obtain⟨gv,hgv,as,has,h⟩:=h;exact(jpv h).map λg hg=>by simp only[hgv,has,Kq,hg]
   ·simp only[Ko]at h;obtain⟨xv,hxv,p,hm,as,has,h⟩:=h;exact(jiq h).map λg hg=>by simp only[hxv,hm,has,Kq,hg]
   ·exact Uses.const λ_=>h
theorem jfq {mutb:Bool}{ops:Array Oper}:∀{is:List Nat} {tmps:List V} {U:S} {r:List V × S},jdj E rec mutb ops is tmps U=some r->Uses rec (λg=>jdj E g mutb ops is tmps U) r
 | [],tmps,U,r,h=>by simp only[jdj]at h ⊢;exact Uses.const λ_=>h
 | i::is,tmps,U,r,h=>by
  simp only[jdj]at h ⊢;cases ho:ops[i]? with
  |none=>rw[ho]at h;simp at h
  | some o =>
   simp only[ho]at h ⊢;by_cases hw:Region.wanted o (jaG ops tmps)=true
   ·simp only[hw,Kl]at h ⊢;cases hop:opV E rec mutb tmps U o.op with
    |none=>rw[hop]at h;simp at h
    |some p =>
     obtain⟨v,U1⟩:=p;rw[hop]at h;exact(jhO hop).and (jfq h) λg h1 h2=>by simp only[h1,h2]
   ·simp only[hw,Ku,Kn]at h ⊢;exact jfq h
theorem jfK {mutb:Bool}{ops:Array Oper}{N:Nat}:∀{l:List Oper} {r0:Nat} {tmps:List V} {U:S} {r:List (List V × V) × List V × S},jf2 E rec mutb ops N l r0 tmps U=some r
  -> Uses rec (λg=>jf2 E g mutb ops N l r0 tmps U) r
 | [],r0,tmps,U,r,h=>by simp only[jf2]at h ⊢;exact Uses.const λ_=>h
 | o::l,r0,tmps,U,r,h=>by
  simp only[jf2]at h ⊢;by_cases hw:Region.wanted o (jaG ops tmps)=true
  ·simp only[hw,Kl]at h ⊢;by_cases ha:jbl o.op=true
   ·simp only[ha,Kl]at h ⊢;cases hd:jf2 E rec mutb ops N l (r0+1) (putT tmps o.dst (.ptr (N+r0) 0)) U with
    |none=>rw[hd]at h;simp at h
    |some rd =>
     obtain⟨a,b,c⟩:=rd;simp only[hd]at h;exact(jfK hd).map λg h1=>by simp only[h1,h]
   ·simp only[ha,Kn,Ku]at h ⊢;cases hop:opV E rec mutb tmps U o.op with
    |none=>rw[hop]at h;simp at h
    | some p =>
     obtain⟨v,U1⟩:=p;rw[hop]at h;simp only at h;cases hd:jf2 E rec mutb ops N l r0 (putT tmps o.dst v) U1 with
     |none=>rw[hd]at h;simp at h
     |some rd =>
      obtain⟨a,b,c⟩:=rd;simp only[hd]at h;exact(jhO hop).and (jfK hd) λg h1 h2=>by simp only[h1,h2,h]
  ·simp only[hw,Kn,Ku]at h ⊢;cases hd:jf2 E rec mutb ops N l (if jbl o.op then r0+1 else r0) (putT tmps o.dst (.tup [])) U with
   |none=>rw[hd]at h;simp at h
   |some rd =>
    obtain⟨a,b,c⟩:=rd;simp only[hd]at h;exact(jfK hd).map λg h1=>by simp only[h1,h]
theorem jm7 {G:Nat->(Task->Option Res)->Prop}:∀n,(∀k,k<n->∃L,Ans rec L/\∀f,Ans f L->G k f)->∃L,Ans rec L/\∀f,Ans f L->∀k,k<n->G k f
 |0,_=>⟨[],Ans.nil,λf _ k hk=>aa⟩
 |n+1,h=>by
  obtain⟨L,h1,h2⟩:=jm7 n λk hk=>h k aa
  obtain⟨M,h3,h4⟩:=h n aa;refine⟨L++M,h1.app h3,λf hf k hk => ?_⟩;by_cases hkn:k=n
  ·rw[hkn];exact h4 f hf.right
  ·exact h2 f hf.left k aa
theorem jqR {mutb:Bool}{ops:Array Oper}{masks:List Nat}{k:Nat}{U Uf:S}{tr:List (List V × V)}{St:Nat->S}(h:jog E rec mutb ops masks k U Uf tr St):∃L,Ans rec L/\∀f,Ans f L->jog E f mutb ops masks k U Uf tr St:=by
 obtain⟨h1,h2,h3⟩:=h
 have key:∃L,Ans rec L/\∀f,Ans f L->∀c,c<2^ops.size->∀i,i<ops.size->∀o t v,ops[i]? = some o->tr[i]? = some (t,v)->jcZ masks i c ->
   if Region.wanted o (jaG ops t)=true then
    (jbl o.op=true->∃n ty z,o.op=.alloc ty/\v=.ptr n 0/\(St c).heap[n]? = some .resv/\jba E ty=some z/\St (c |||2^i)=(St c).set n (.cells z.cells ty)) /\
    (jbl o.op=false->opV E f mutb t (St c) o.op=some (v,St (c |||2^i)))
   else St (c |||2^i)=St c:=by
  refine jm7 _ λc hc=>jm7 _ λi hi => ?_
  cases ho:ops[i]? with
  |none=>exact⟨[],Ans.nil,λf _ o t v h=>by simp at h⟩
  | some o =>
   cases ht:tr[i]? with
   |none=>exact⟨[],Ans.nil,λf _ o t v _ h=>by simp at h⟩
   | some p =>
    obtain⟨t,v⟩:=p;by_cases hal:jcZ masks i c
    case neg=>exact⟨[],Ans.nil,λf _ o t v _ _ h=>absurd h hal⟩
    have h4:=h3 i o t v ho ht c hc hal;by_cases hw:Region.wanted o (jaG ops t)=true
    ·rw[Kg hw]at h4;by_cases ha:jbl o.op=true
     ·refine⟨[],Ans.nil,λf _ o' t' v' e1 e2 _ => ?_⟩;simp only[Ki,Qg]at e1 e2;obtain⟨rfl,rfl⟩:=e2;subst e1;rw[Kg hw];exact⟨h4.1,λh=>by rw[ha]at h;cases h⟩
     ·obtain⟨L,l1,l2⟩:=jhO (h4.2 (by simpa using ha));refine⟨L,l1,λf hf o' t' v' e1 e2 _ => ?_⟩;simp only[Ki,Qg]at e1 e2;obtain⟨rfl,rfl⟩:=e2;subst e1;rw[Kg hw];exact⟨h4.1,λ_=>l2 f hf⟩
    ·rw[Ke hw]at h4;refine⟨[],Ans.nil,λf _ o' t' v' e1 e2 _ => ?_⟩;simp only[Ki,Qg]at e1 e2;obtain⟨rfl,rfl⟩:=e2;subst e1;rw[Ke hw];exact h4
 obtain⟨L,l1,l2⟩:=key;exact⟨L,l1,λf hf=>⟨h1,h2,λi o t v ho ht c hc hal=>l2 f hf c hc i (Qi.1 ho).1 o t v ho ht hal⟩⟩
theorem jm8 {mutb:Bool}{ops:Array Oper}{tmps:List V}{U:S}{r:List V × S}(h:jgw E rec mutb ops tmps U=some r):Uses rec (λg=>jgw E g mutb ops tmps U) r:=by
 unfold jgw at h ⊢;by_cases hf:jti ops (jat [] ops.toList)=true
 ·simp only[hf,Kl]at h ⊢;cases hp:preL E ops.toList with
  |none=>rw[hp]at h;simp at h
  | some L =>
   rw[hp]at h;simp only at h ⊢;cases hc:jf2 E rec mutb ops U.heap.length ops.toList 0 tmps ⟨U.heap++L,U.toks⟩with
   |none=>rw[hc]at h;simp at h
   | some rc =>
    obtain⟨tr,tf,Uf⟩:=rc;rw[hc]at h;simp only at h;split at h
    ·rename_i hex;obtain⟨St,hSt⟩:=hex;obtain⟨A,a1,a2⟩:=jfK hc;obtain⟨B,b1,b2⟩:=jqR hSt;refine⟨A++B,a1.app b1,λg hg => ?_⟩;have e1:=a2 g hg.left;simp only at e1;simp only[e1];rw[Kg ⟨St,b2 g hg.right⟩];exact h
    ·simp at h
 ·simp[hf]at h
theorem jir {mutb:Bool}{ops:Array Oper}:∀{l:List Oper} {tmps:List V} {U:S} {r:List (List V × V) × List S × List V × S},dRun E rec mutb ops l tmps U=some r->Uses rec (λg=>dRun E g mutb ops l tmps U) r
 | [],tmps,U,r,h=>by simp only[dRun]at h ⊢;exact Uses.const λ_=>h
 | o::l,tmps,U,r,h=>by
  simp only[dRun]at h ⊢;by_cases hw:Region.wanted o (jaG ops tmps)=true
  ·simp only[hw,Kl]at h ⊢;cases hop:opV E rec mutb tmps U o.op with
   |none=>rw[hop]at h;simp at h
   | some p =>
    obtain⟨v,U1⟩:=p;simp only[hop]at h;cases hd:dRun E rec mutb ops l (putT tmps o.dst v) U1 with
    |none=>rw[hd]at h;simp at h
    |some q =>
     obtain⟨a,b,c,d⟩:=q;simp only[hd]at h;exact(jhO hop).and (jir hd) λg h1 h2=>by simp only[h1,h2,h]
  ·simp only[hw,Ku,Kn]at h ⊢;cases hd:dRun E rec mutb ops l (putT tmps o.dst (.tup [])) U with
   |none=>rw[hd]at h;simp at h
   |some q =>
    obtain⟨a,b,c,d⟩:=q;simp only[hd]at h;exact(jir hd).map λg h1=>by simp only[h1,h]
theorem jbx {fn:FuncId}{rnd:Option Nat}:∀(c:Code) {tmps:List V} {dfs:List DE} {U:S} {r:Res},ja6 E rec fn rnd c tmps dfs U=some r->Uses rec (λg=>ja6 E g fn rnd c tmps dfs U) r
 | .skip,tmps,dfs,U,r,h=>by simp only[ja6]at h ⊢;exact Uses.const λ_=>h
 | .label _,tmps,dfs,U,r,h=>by simp only[ja6]at h ⊢;exact Uses.const λ_=>h
 | .exit _,tmps,dfs,U,r,h=>by simp only[ja6]at h ⊢;exact Uses.const λ_=>h
 | .ret,tmps,dfs,U,r,h=>by simp only[ja6]at h ⊢;exact Uses.const λ_=>h
 | .scope c,tmps,dfs,U,r,h=>by simp only[ja6]at h ⊢;exact jbx c h
 | .goto _,tmps,dfs,U,r,h=>by simp[ja6]at h
 | .refuse _,tmps,dfs,U,r,h=>by simp[ja6]at h
 | .seq a b,tmps,dfs,U,r,h=>by
  simp only[ja6]at h ⊢;cases ha:ja6 E rec fn rnd a tmps dfs U with
  |none=>rw[ha]at h;simp at h
  | some ra =>
   obtain⟨ex,vals,d,st⟩:=ra;cases ex with
   |normal =>
    simp only[ha]at h;exact(jbx a ha).and (jbx b h) λg h1 h2=>by simp only[h1,h2]
   |exit i=>simp only[ha]at h;exact(jbx a ha).map λg h1=>by simp only[h1];exact h
   |ret=>simp only[ha]at h;exact(jbx a ha).map λg h1=>by simp only[h1];exact h
 | .cond c a b,tmps,dfs,U,r,h=>by
  simp only[ja6]at h ⊢;split at h
  ·rename_i hc;exact(jbx a h).map λg hg=>by simp only[hg]
  ·rename_i hc;exact(jbx b h).map λg hg=>by simp only[hg]
  ·simp at h
 | .block id c,tmps,dfs,U,r,h=>by
  simp only[ja6]at h ⊢;cases hc:ja6 E rec fn rnd c tmps dfs U with
  |none=>rw[hc]at h;simp at h
  |some rc =>
   rw[hc]at h;exact(jbx c hc).map λg h1=>by rw[h1];exact h
 | .loop c,tmps,dfs,U,r,h=>by simp only[ja6]at h ⊢;exact Uses.rec h
 | .region id ops d,tmps,dfs,U,r,h=>by
  cases d with
  |false =>
   simp only[ja6]at h ⊢;cases hc:jdj E rec (E.mutb fn id) ops (List.range ops.size) tmps U with
   |none=>rw[hc]at h;simp at h
   |some rc=>rw[hc]at h;exact(jfq hc).map λg h1=>by rw[h1];exact h
  | true =>
   simp only[ja6]at h ⊢;by_cases hp:jcJ E ops (jat [] ops.toList)=true
   ·simp only[hp,Kl]at h ⊢;cases hc:dRun E rec (E.mutb fn id) ops ops.toList tmps U with
    |none=>rw[hc]at h;simp at h
    |some rc=>rw[hc]at h;exact(jir hc).map λg h1=>by rw[h1];exact h
   ·simp only[hp,Kn,Ku]at h ⊢;cases hc:jgw E rec (E.mutb fn id) ops tmps U with
    |none=>rw[hc]at h;simp at h
    |some rc=>rw[hc]at h;exact(jm8 hc).map λg h1=>by rw[h1];exact h
 | .rangeFunc f ps asg body,tmps,dfs,U,r,h=>by
  simp only[ja6]at h ⊢;split at h
  ·rename_i g hg;cases g with
   |func fid first captured =>
    simp only at h;cases hc:rec (.call fid (first++[V.yld (U.heap.length+1)]++captured) ⟨U.heap++[.defd true,.loop .ready none fn tmps ps asg body U.heap.length],U.toks⟩)with
    |none=>rw[hc]at h;simp at h
    |some rc=>rw[hc]at h;exact(Uses.rec hc).map λg h1=>by simp only[h1];exact h
   |_=>simp at h
  ·simp at h
theorem jjH {t:Task}{r:Res}(h:jf3 E rec t=some r):Uses rec (λg=>jf3 E g t) r:=by
 cases t with
 | call f args U =>
  simp only[jf3]at h ⊢;cases hf:E.P.funcs[f]? with
  |none=>simp only[hf]at h;simp at h
  | some fn =>
   simp only[hf]at h ⊢;cases hb:fn.body with
   |none=>simp only[hb]at h;simp at h
   | some body =>
    simp only[hb]at h ⊢;by_cases hn:fn.name = "runtime.NumGoroutine"
    ·simp[hn]at h
    ·simp only[hn,Kn]at h ⊢;cases hc:ja6 E rec f none body (args++List.replicate (fn.ntmps-args.length) (.tup [])) [] U with
     |none=>rw[hc]at h;simp at h
     | some rc =>
      obtain⟨ex,tmps,dfs,U'⟩:=rc;cases ex with
      |exit i=>simp[hc]at h
      |normal =>
       simp only[hc]at h;cases hd:jdk U'.heap dfs with
       |some hp=>simp only[hd]at h;exact(jbx body hc).map λg h1=>by simp only[h1,hd];exact h
       |none=>simp[hd]at h
      |ret =>
       simp only[hc]at h;cases hd:jdk U'.heap dfs with
       |some hp=>simp only[hd]at h;exact(jbx body hc).map λg h1=>by simp only[h1,hd];exact h
       |none=>simp[hd]at h
 | round l args U =>
  simp only[jf3]at h ⊢;split at h
  ·rename_i fn tmps ps asg body d hl;by_cases hn:args.length ≠ ps.size
   ·simp[hn]at h
   ·simp only[hn,Kn]at h;cases hc:ja6 E rec fn (some l) asg ((ps.toList.zip args).foldl (λts (x:Tmp × V)=>ts.set x.1 x.2) tmps) [] U with
    |none=>simp only[hc]at h;simp at h
    | some rc =>
     simp only[hc]at h;split at h
     ·rename_i tmps1 U1 heq;cases heq;split at h
      ·rename_i fn1 tm1 ps1 as1 bo1 df1 hl1;cases hd:ja6 E rec fn (some l) body tmps1 [] (U1.set l (.loop .busy none fn1 tm1 ps1 as1 bo1 df1))with
       |none=>simp only[hd]at h;simp at h
       |some rd =>
        simp only[hd]at h;exact(jbx asg hc).and (jbx body hd) λg h1 h2=>by simp only[hn,Kn,h1,hl1,h2];exact h
      ·simp at h
     ·simp at h
  ·simp at h
 | loop fn rnd c tmps dfs U =>
  simp only[jf3]at h ⊢;cases hc:ja6 E rec fn rnd c tmps dfs U with
  |none=>rw[hc]at h;simp at h
  | some rc =>
   obtain⟨ex,vals,d,st⟩:=rc;cases ex with
   |normal =>
    simp only[hc]at h;exact(jbx c hc).and (Uses.rec h) λg h1 h2=>by simp only[h1,h2]
   |exit i=>simp only[hc]at h;exact(jbx c hc).map λg h1=>by simp only[h1];exact h
   |ret=>simp only[hc]at h;exact(jbx c hc).map λg h1=>by simp only[h1];exact h
end
theorem jlB(E:Env):∀(n:Nat) (t:Task) (r:Res),run E n t=some r->run E (n+1) t=some r
 |0,t,r,h=>by simp[run]at h
 |n+1,t,r,h=>by
  obtain⟨L,h1,h2⟩:=jjH (E:=E) (rec:=run E n) (t:=t) h;exact h2 (run E (n+1)) λp hp=>jlB E n _ _ (h1 p hp)
theorem jhP (E:Env){n m:Nat}(h:n<=m){t:Task}{r:Res}(hr:run E n t=some r):run E m t=some r:=by
  induction m with
  | zero => have:n=0:=by omega
            subst this;exact hr
  | succ m ih =>
    rcases Ql n (m+1)with h1|h1
    · exact jlB E m t r (ih aa)
    · have:n=m+1:=by omega
      subst this;exact hr
open Classical in
noncomputable def ev(E:Env)(t:Task):Option Res:=if h:∃r n,run E n t=some r then some h.choose else none
theorem jqS {E:Env}{n:Nat}{t:Task}{r:Res}(h:run E n t=some r):ev E t=some r:=by
 have hex:∃r n,run E n t=some r:=⟨r,n,h⟩;unfold ev;rw[dif_pos hex];obtain⟨m,hm⟩:=hex.choose_spec;have h1:=jhP E (Nat.le_max_left n m) h;have h2:=jhP E (Nat.le_max_right n m) hm;rw[h1]at h2;exact h2.symm
theorem jqT {E:Env}{t:Task}{r:Res}(h:ev E t=some r):∃n,run E n t=some r:=by
 unfold ev at h;split at h
 ·rename_i hex;simp at h;obtain⟨n,hn⟩:=hex.choose_spec;exact⟨n,by rw[hn,h]⟩
 ·simp at h
theorem jis {E:Env}{t:Task}{r:Res}(h:jf3 E (ev E) t=some r):ev E t=some r:=by
 obtain⟨L,h1,h2⟩:=jjH h
 have key:∀L:List (Task × Res),Ans (ev E) L->∃n,Ans (run E n) L:=by
  intro L
  induction L with
  |nil=>intro _;exact⟨0,Ans.nil⟩
  |cons p L ih =>
   intro hL;obtain⟨n,hn⟩:=ih (λq hq=>hL q (by simp[hq]));obtain⟨m,hm⟩:=jqT (hL p ae);refine⟨max n m,λq hq => ?_⟩
   rcases Jg.1 hq with rfl|hq
   ·exact jhP E (Nat.le_max_right n m) hm
   ·exact jhP E (Nat.le_max_left n m) (hn q hq)
 obtain⟨n,hn⟩:=key L h1;exact jqS (n:=n+1) (h2 (run E n) hn)
theorem jol {E:Env}(hE:E.Ok){t:Task}{r:Res}(h:ev E t=some r):jfj E t r:=by
 obtain⟨n,hn⟩:=jqT h;exact jip hE n t r hn
def Ctx.top(W:World):Ctx:={ base:=W.heap.size,blk:=λ_=>none,pin:=λb i=>W.cell? ⟨b,i,none⟩,tok:=λ_ _=>none,siz:=λ_=>none }
theorem WRel.top(W:World):WRel (Ctx.top W) S.empty W :=
  ⟨Kw _,λ_ _ _ h=>h,λa o ho=>by simp[S.empty]at ho,λa c hc=>by simp[Ctx.top]at hc,λa a' c hc=>by simp[Ctx.top]at hc,
   λk e he=>by simp[S.empty]at he,λk e x hx=>by simp[Ctx.top]at hx,λk k' e e' b p q he=>by simp[S.empty]at he,λc n hc=>by simp[Ctx.top]at hc⟩
def Found(E:Env)(f:FuncId)(vs:List V):Prop:=∃n U',run E n (.call f vs S.empty)=some ⟨.ret,[.bool true],[],U'⟩
theorem calls_of_found {E:Env}(hE:E.Ok){f:FuncId}{vs:List V}(h:Found E f vs){xs:Array Value}{W:World}(hx:LRel (Ctx.top W) vs xs)(hg:GOK E (Ctx.top W)) :
  Calls E.P f xs W λe w'=>e=.returned (.bool true)/\Below W.heap.size W w':=by
 obtain⟨n,U',hr⟩:=h;obtain⟨O',w',y,m,hy,_,hs⟩:=jip hE n _ _ hr (.bool true) rfl (Ctx.top W) W xs (WRel.top W) hg hx;obtain rfl:=hy.bool_inv;intro cs;obtain⟨fr,h1,h2,h3⟩:=hs cs;exact⟨.returned (.bool true),w',fr,⟨rfl,m.below⟩,h1,h2,h3⟩
set_option linter.unusedVariables false
structure CRel (O:Ctx) (vs:List V) (cs:List Value):Prop where
 len:vs.length=cs.length
 rel:∀i (h:i<vs.length) (h2:i<cs.length),VRel O vs[i] cs[i]
theorem CRel.nil(O:Ctx):CRel O [] []:=⟨rfl,λi h=>by simp at h⟩
theorem CRel.one {O:Ctx}{v:V}{x:Value}(h:VRel O v x):CRel O [v] [x]:=⟨rfl,λi h1 h2=>by
 have:i=0:=by simp at h1;omega
 subst this;exact h⟩
theorem CRel.append {O:Ctx}{a b:List V}{x y:List Value}(h:CRel O a x)(k:CRel O b y):CRel O (a++b) (x++y):=by
 refine⟨by simp[h.len,k.len],λi h1 h2 => ?_⟩;have hl:=h.len;rw[Vm,Vm];by_cases hi:i<a.length
 ·rw[dif_pos hi,dif_pos aa];exact h.rel i _ _
 ·rw[dif_neg hi,dif_neg aa];have:=k.rel (i-a.length) (by simp at h1;omega) (by simp at h2;omega);simpa[hl]using this
theorem CRel.get {O:Ctx}{v:V}{x:Value}(h:CRel O [v] [x]):VRel O v x:=h.rel 0 ae ae
def catE {α:Type}(f:α->Option (List V))(s:Nat):List α->Option (List V)
 | []=>some []
 |d::ds=>(f d).bind λvs=>if vs.length=s then(catE f s ds).map λr=>vs++r else none
def catF {α:Type}(f:TypeId->α->Option (List V))(s:TypeId->Nat):Nat->List Field->List α->Option (List V)
 |_,[],[]=>some []
 |pos,fd::fs,d::ds=>if fd.offset=pos then(f fd.type d).bind λvs=>if vs.length=s fd.type then(catF f s (pos+vs.length) fs ds).map λr=>vs++r else none else none
 |_,_,_=>none
def DV {H:Type}(P:Program):Nat->TypeId->DataW H->Option (List V)
 |0,_,_=>none
 |k+1,t,d =>
  match P.underlying t,d with
  |some .bool,.lit (.bool b)=>some [.bool b]
  |some (.int k),.lit (.int k' n)=>if k=k' then some [.int k n]else none
  |some .string,.lit (.string s)=>some [.str s]
  |some (.interface _),.iface _ _=>some [.any]
  |some (.pointer _),.nil=>some [.nilptr]
  |some (.pointer e),.ptr d=>(DV P k e d).bind λvs=>if vs.length=P.cellsOf e then some [.rptr vs]else none
  |some (.slice _),.nil=>some [.nilsl]
  |some (.slice e),.slice els _=>(catE (DV P k e) (P.cellsOf e) els).map λvs=>[.row vs els.length .unk]
  |some (.struct fs),.agg ds=>(catF (DV P k) P.cellsOf 0 fs.toList ds).bind λvs=>if vs.length=P.cellsOf t then some vs else none
  |some (.array n e),.agg ds=>if ds.length=n then(catE (DV P k e) (P.cellsOf e) ds).bind λvs=>if vs.length=P.cellsOf t then some vs else none else none
  |_,_=>none
section
variable {H:Type}{P:Program}{w:World}{enc:TypeId × Value->H}{sp:Nat->Bool}{held:Bool}
theorem jfL {α β:Type}{f:α->Option β}:∀{l:List α} {r:List β},l.mapM f=some r->r.length=l.length/\∀i (h:i<l.length) (h2:i<r.length),f l[i]=some r[i]
 | [],r,h=>by simp at h;subst h;exact⟨rfl,λi h=>by simp at h⟩
 | a::l,r,h=>by
  rw[Xx]at h;cases ha:f a with
  |none=>rw[ha]at h;simp at h
  | some b =>
   rw[ha]at h;cases hl:l.mapM f with
   |none=>rw[hl]at h;simp at h
   |some r' =>
    rw[hl]at h;simp at h;subst h;obtain⟨h1,h2⟩:=jfL hl;refine⟨by simp[h1],λi h3 h4 => ?_⟩;cases i with
    |zero=>exact ha
    |succ i=>exact h2 i (by simpa using h3) (by simpa using h4)
theorem jfM {a:Addr}{n:Nat}{cs:List Value}(h:w.cells? 0 a n=some cs):cs.length=n/\∀i (hi:i<cs.length),a.spot=none/\(Ctx.top w).pin a.block (a.off+i)=some cs[i]:=by
 unfold World.cells? at h;rw[Kg (Qm _)]at h;obtain⟨h1,h2⟩:=jfL h;refine⟨by simpa using h1,λi hi => ?_⟩;have hc:=h2 i (by rw[h1]at hi;simpa using hi) hi;simp only[Ut]at hc
 have hs:a.spot=none:=by
  have h0:=h2 0 (by rw[h1]at hi;simp at hi ⊢;omega) aa;simp only[Ut]at h0;have:=World.cell?_spot h0;simpa[Addr.add]using this
 refine⟨hs,?_⟩;rw[jaW hs]at hc;exact hc
theorem jom {α:Type}{f:α->Option (List V)}{s:Nat}:∀{ds:List α} {vs:List V},catE f s ds=some vs->∃vss:List (List V),vss.length=ds.length/\vs=vss.flatten/\∀i (h:i<ds.length) (h2:i<vss.length),f ds[i]=some vss[i]/\vss[i].length=s
 | [],vs,h=>by simp[catE]at h;subst h;exact⟨[],rfl,rfl,λi h=>by simp at h⟩
 | d::ds,vs,h=>by
  simp only[catE,Ko]at h;obtain⟨v,hv,h⟩:=h;split at h
  ·rename_i hl;simp only[Kv]at h;obtain⟨r,hr,rfl⟩:=h;obtain⟨vss,h1,rfl,h3⟩:=jom hr;refine⟨v::vss,by simp[h1],ae,λi h4 h5 => ?_⟩;cases i with
   |zero=>exact⟨hv,hl⟩
   |succ i=>exact h3 i (by simpa using h4) (by simpa using h5)
  ·simp at h
theorem jeQ {s:Nat}:∀{vss:List (List V)} (hs:∀x∈vss,x.length=s) (i:Nat) (hi:i<vss.flatten.length),0<s/\i/s<vss.length/\∃(h1:i/s<vss.length) (h2:i % s<vss[i/s].length),vss.flatten[i]=vss[i/s][i % s]
 | [],hs,i,hi=>by simp at hi
 | x::vss,hs,i,hi=>by
  have hx:=hs x ae;simp only[Vj,Kk]at hi;by_cases h:i<x.length
  ·have hpos:0<s:=by omega
   have e1:i/s=0:=Nat.div_eq_of_lt aa;have e2:i % s=i:=Nat.mod_eq_of_lt aa;refine⟨hpos,by rw[e1];simp,by rw[e1];simp,?_,?_⟩
   ·simp only[e1,X8,e2];exact h
   ·simp only[Vj,e1,X8,e2];rw[Ur h]
  ·obtain⟨hpos,h1,h1',h2,h3⟩:=jeQ (vss:=vss) (λy hy=>hs y (by simp[hy])) (i-x.length) aa
   have e1:i/s=(i-x.length)/s+1:=by
    rw[hx];have:i=(i-s)+s:=aa
    conv=>lhs;rw[this]
    rw[Nat.add_div_right _ hpos]
   have e2:i % s=(i-x.length) % s:=by
    rw[hx];have:i=(i-s)+s:=aa
    conv=>lhs;rw[this]
    rw[Nat.add_mod_right]
   refine⟨hpos,by simp only[Qh];omega,by simp only[Qh];omega,?_,?_⟩
   ·simp only[e1,Xb,e2];exact h2
   ·simp only[Vj,e1,Xb,e2];rw[Up aa];exact h3
theorem jvd {a:Addr}{s n c:Nat}{vss:List (List V)}(hn:vss.length=n)(hc:n<=c)(hs:∀x∈vss,x.length=s)
  (h:∀i (hi:i<vss.length),∃cs,w.cells? 0 (a.add (i*s)) s=some cs/\CRel (Ctx.top w) vss[i] cs):VRel (Ctx.top w) (.row vss.flatten n .unk) (.slice (some a) n c):=by
 have hspot:∀i,i<vss.flatten.length->a.spot=none:=by
  intro i hi;obtain⟨hpos,h0,_,_,_⟩:=jeQ hs i hi;obtain⟨cs,hcs,hr⟩:=h 0 (Nat.lt_of_le_of_lt (Qm _) h0);obtain⟨hl,hp⟩:=jfM hcs;have:=(hp 0 aa).1;simpa[Addr.add]using this
 refine .row _ _ _ _ _ (λi=>(w.cell? ⟨a.block,a.off+i,none⟩).getD undef) (λi hi => ?_) (λi hi => ?_) hc
 ·obtain⟨hpos,_,h1,h2,h3⟩:=jeQ hs i hi;obtain⟨cs,hcs,hr⟩:=h (i/s) h1;obtain⟨hl,hp⟩:=jfM hcs;have hlt:i % s<cs.length:=by rw[hl];exact Uu _ hpos
  have:=(hp (i % s) hlt).2;rw[jaW (hspot i hi)]at this;simp only at this;have e:a.off+i/s*s+i % s=a.off+i:=by rw[Nat.mul_comm];have:=Nat.div_add_mod i s;omega
  rw[e]at this;refine⟨hspot i hi,?_⟩;have t2:w.cell? ⟨a.block,a.off+i,none⟩=some cs[i % s]:=this;simp only[Ctx.top,t2,Kr]
 ·obtain⟨hpos,_,h1,h2,h3⟩:=jeQ hs i hi;obtain⟨cs,hcs,hr⟩:=h (i/s) h1;obtain⟨hl,hp⟩:=jfM hcs;have hlt:i % s<cs.length:=by rw[hl];exact Uu _ hpos
  have:=(hp (i % s) hlt).2;rw[jaW (hspot i hi)]at this;simp only at this;have e:a.off+i/s*s+i % s=a.off+i:=by rw[Nat.mul_comm];have:=Nat.div_add_mod i s;omega
  rw[e]at this;have t2:w.cell? ⟨a.block,a.off+i,none⟩=some cs[i % s]:=this;simp only[h3,t2,Kr];exact hr.rel _ h2 hlt
theorem jon {f:TypeId->DataW H->Option (List V)}{s:TypeId->Nat}{g:Field->Option (DataW H × List MemPlace)}{cs:List Value}:∀{fs:List Field} {xs:List (DataW H × List MemPlace)} {pos:Nat} {vs:List V},
  fs.mapM g=some xs->catF f s pos fs (xs.map (·.1))=some vs ->
  (∀fd x us,g fd=some x->f fd.type x.1=some us->CRel (Ctx.top w) us ((cs.drop fd.offset).take (s fd.type)))->vs.length<=cs.length-pos->CRel (Ctx.top w) vs ((cs.drop pos).take vs.length)
 | [],xs,pos,vs,hm,hc,hr,hl=>by
  simp at hm;subst hm;simp[catF]at hc;subst hc;simpa using CRel.nil _
 | fd::fs,xs,pos,vs,hm,hc,hr,hl=>by
  rw[Xx]at hm;cases hg:g fd with
  |none=>rw[hg]at hm;simp at hm
  | some x =>
   rw[hg]at hm;cases hm2:fs.mapM g with
   |none=>rw[hm2]at hm;simp at hm
   | some xs' =>
    rw[hm2]at hm;simp at hm;subst hm;simp only[K6,catF]at hc;split at hc
    ·rename_i hoff;simp only[Ko]at hc;obtain⟨us,hus,hc⟩:=hc;split at hc
     ·rename_i hlen;simp only[Kv]at hc;obtain⟨r,hrr,rfl⟩:=hc;have h1:=hr fd x us hg hus;rw[hoff,<- hlen]at h1;rw[Kk]at hl;have h2:=jon hm2 hrr hr aa;have h3:=h1.append h2
      have e:(cs.drop pos).take us.length++(cs.drop (pos+us.length)).take r.length=(cs.drop pos).take (us++r).length:=by
       rw[Kk,List.take_add,List.drop_drop]
      rw[e]at h3;exact h3
     ·simp at hc
    ·simp at hc
theorem joo {f:DataW H->Option (List V)}{s:Nat}{g:Nat->Option (DataW H × List MemPlace)}{cs:List Value}:∀{n pos:Nat} {xs:List (DataW H × List MemPlace)} {vs:List V},
  (List.range' pos n).mapM g=some xs->catE f s (xs.map (·.1))=some vs ->
  (∀i x us,g i=some x->f x.1=some us->CRel (Ctx.top w) us ((cs.drop (i*s)).take s))->CRel (Ctx.top w) vs ((cs.drop (pos*s)).take (n*s))
 |0,pos,xs,vs,hm,hc,hr=>by
  simp at hm;subst hm;simp[catE]at hc;subst hc;simpa using CRel.nil _
 | n+1,pos,xs,vs,hm,hc,hr=>by
  rw[List.range'_succ,Xx]at hm;cases hg:g pos with
  |none=>rw[hg]at hm;simp at hm
  | some x =>
   rw[hg]at hm;cases hm2:(List.range' (pos+1) n).mapM g with
   |none=>rw[hm2]at hm;simp at hm
   | some xs' =>
    rw[hm2]at hm;simp at hm;subst hm;simp only[K6,catE,Ko]at hc;obtain⟨us,hus,hc⟩:=hc;split at hc
    ·rename_i hlen;simp only[Kv]at hc;obtain⟨r,hrr,rfl⟩:=hc;have h1:=hr pos x us hg hus;have h2:=joo hm2 hrr hr;have h3:=h1.append h2
     have e:(cs.drop (pos*s)).take s++(cs.drop ((pos+1)*s)).take (n*s)=(cs.drop (pos*s)).take ((n+1)*s):=by
      rw[Jz n,Ub,Tg (n*s),List.take_add,List.drop_drop,Jz,Ub]
     rw[e]at h3;exact h3
    ·simp at hc
theorem jfN:∀(k fuel:Nat) (t:TypeId) (cs:List Value) (d:DataW H) (ps:List MemPlace) (vs:List V),DataW.trod enc P w 0 sp held fuel t cs=some (d,ps)->DV P k t d=some vs->CRel (Ctx.top w) vs cs
 |0,_,_,_,_,_,_,_,h=>by simp[DV]at h
 |_+1,0,_,_,_,_,_,h,_=>by simp[DataW.trod]at h
 | k+1,fuel+1,t,cs,d,ps,vs,h,hv=>by
  simp only[DataW.trod]at h;simp only[DV]at hv;split at h
  ·-- bool
   rename_i b hu;simp only[Ki,Qg]at h;obtain⟨rfl,rfl⟩:=h;simp only[hu,Ki]at hv;subst hv;exact CRel.one (.bool b)
  ·-- int
   rename_i kk k' n hu;split at h
   ·rename_i hk;obtain⟨rfl,_⟩:=hk;simp only[Ki,Qg]at h;obtain⟨rfl,rfl⟩:=h;simp only[hu,Kl,Ki]at hv;subst hv;exact CRel.one (.int _ _)
   ·simp at h
  ·rename_i hu;split at h
   ·simp only[Ki,Qg]at h;obtain⟨rfl,rfl⟩:=h;simp[hu]at hv
   ·simp at h
  ·-- string
   rename_i s hu;split at h
   ·simp only[Ki,Qg]at h;obtain⟨rfl,rfl⟩:=h;simp only[hu,Ki]at hv;subst hv;exact CRel.one (.str s)
   ·simp at h
  ·-- nil pointer
   rename_i hu;simp only[Ki,Qg]at h;obtain⟨rfl,rfl⟩:=h;simp only[hu,Ki]at hv;subst hv;exact CRel.one .nilptr
  ·-- pointer
   rename_i e a hu;simp only[Kv,Ko]at h;obtain⟨⟨d',p'⟩,⟨cells,hc,ht⟩,h⟩:=h;simp only[Qg]at h;obtain⟨rfl,rfl⟩:=h;simp only[hu,Ko]at hv;obtain⟨us,hus,hv⟩:=hv;split at hv
   ·rename_i hl;simp only[Ki]at hv;subst hv;have hr:=jfN k fuel e cells d' p' us ht hus;obtain⟨h1,h2⟩:=jfM hc;refine CRel.one (.rptr us a (λi=>cells.getD i undef) (λi hi => ?_) (λi hi => ?_))
    ·have hi2:i<cells.length:=by rw[<- hr.len];exact hi
     have:=h2 i hi2;simp only[List.getD,Kz hi2,Kr];exact this
    ·have hi2:i<cells.length:=by rw[<- hr.len];exact hi
     simp only[List.getD,Kz hi2,Kr];exact hr.rel i hi hi2
   ·simp at hv
  ·-- nil slice
   rename_i hu;simp only[Ki,Qg]at h;obtain⟨rfl,rfl⟩:=h;simp only[hu,Ki]at hv;subst hv;exact CRel.one .nilsl
  ·-- slice
   rename_i e a len cap hu;split at h
   ·rename_i hb;simp only[Ko,Kv]at h;obtain⟨elems,hel,rest,hrest,h⟩:=h;simp only[Qg]at h;obtain⟨rfl,rfl⟩:=h;simp only[hu,Kv]at hv;obtain⟨us,hus,rfl⟩:=hv;obtain⟨m1,m2⟩:=jfL hel;obtain⟨vss,c1,rfl,c3⟩:=jom hus;simp only[Qw]at c1 c3;simp only[Uw]at m1
    have hs:∀x∈vss,x.length=P.cellsOf e:=by
     intro x hx;obtain⟨i,hi,rfl⟩:=Xv.1 hx;exact(c3 i aa hi).2
    rw[Qw,m1];refine CRel.one (jvd aa hb.2.1 hs λi hi => ?_);have h1:=m2 i (by simp;omega) aa;simp only[Ut,Ko]at h1;obtain⟨cells,hc,ht⟩:=h1;have h3:=(c3 i aa hi).1;simp only[U5]at h3;exact⟨cells,hc,jfN k fuel e cells _ _ _ ht h3⟩
   ·simp at h
  ·-- struct
   rename_i cs _ _ fs hu;split at h
   ·rename_i hl;simp only[Kv]at h;obtain⟨xs,hxs,h⟩:=h;simp only[Qg]at h;obtain⟨rfl,rfl⟩:=h;simp only[hu,Ko]at hv;obtain⟨us,hus,hv⟩:=hv;split at hv
    ·rename_i hl2;simp only[Ki]at hv;subst hv;have:=jon (w:=w) (cs:=cs) hxs hus (λfd x vs' hg hf=>jfN k fuel _ _ x.1 x.2 vs' hg hf) aa;rw[hl2,<- hl]at this;simpa using this
    ·simp at hv
   ·simp at h
  ·-- array
   rename_i cs _ _ n e hu;split at h
   ·rename_i hl;simp only[Kv]at h;obtain⟨xs,hxs,h⟩:=h;simp only[Qg]at h;obtain⟨rfl,rfl⟩:=h;simp only[hu,Qw]at hv;split at hv
    ·rename_i hl2;simp only[Ko]at hv;obtain⟨us,hus,hv⟩:=hv;split at hv
     ·rename_i hl3;simp only[Ki]at hv;subst hv;have hxs':=hxs;rw[Tc]at hxs';have:=joo (w:=w) (cs:=cs) hxs' hus (λi x us hg hf=>jfN k fuel _ _ x.1 x.2 us hg hf);simp only[Nat.zero_mul,Qz]at this;have h1:=this.len;rw[Qx]at h1;rw[Qu aa]at this;exact this
     ·simp at hv
    ·simp at hv
   ·simp at h
  all_goals first
   |(simp at h;done)
   |(rename_i hu;simp only[hu]at hv;cases d<;>first|(simp at hv;done)|(simp at h;done)|(simp only[Ki]at hv;subst hv;exact CRel.one (.any _ rfl)))
end
theorem jop {P:Program}{w:World}:∀{l:List (String × DataW Unit)} {ps:List MemPlace} {n:String} {d:DataW Unit},DataW.LaidVars P w l ps->(n,d)∈l ->
  ∃g t cs fuel p,P.globalNamed n=some g/\(P.globals[g]?).map (·.type)=some t/\w.var? P n=some cs/\DataW.trod (λ_=>()) P w 0 (λ_=>true) false fuel t cs.toList=some (d,p)
 | [],ps,n,d,h,hm=>by simp at hm
 |(m,e)::r,ps,n,d,h,hm=>by
  obtain⟨g,t,cs,fuel,p,q,h1,h2,h3,h4,h5,h6⟩:=h
  rcases Jg.1 hm with he|hm
  ·cases he;exact⟨g,t,cs,fuel,p,h1,h2,h3,h4⟩
  ·exact jop h5 hm
theorem jjI {P:Program}{w:World}{l:List (String × DataW Unit)}{n:String}{d:DataW Unit}{g:Nat}{t:TypeId}{k:Nat}{vs:List V}(h:laidMetH P l w)(hp:(l.all λx=>x.2.handleName?.isNone)=true)(hm:(n,d)∈l)
  (hg:P.globalNamed n=some g) (ht:(P.globals[g]?).map (·.type)=some t) (hv:DV P k t d=some vs):VRel (Ctx.top w) (.rptr vs) (.pointer (some ⟨g,0,none⟩)):=by
 rw[MakeChecks.laidMetH_plain _ _ _ hp]at h;obtain⟨ps,hl,_⟩:=h;obtain⟨g',t',cs,fuel,p,h1,h2,h3,h4⟩:=jop hl hm;rw[hg]at h1;cases h1;rw[ht]at h2;cases h2;have hr:=jfN k fuel t cs.toList d p vs h4 hv;have hl2:vs.length=cs.size:=by rw[<- Jm];exact hr.len
 refine .rptr vs ⟨g,0,none⟩ (λi=>cs.getD i undef) (λi hi=>⟨rfl,?_⟩) (λi hi => ?_)
 ·have hi2:i<cs.size:=hl2 ▸ hi;have:=World.var?_cell hg h3 i;simp only[Jk,Ctx.top,this];simp[Array.getD,hi2]
 ·have hi2:i<cs.size:=hl2 ▸ hi;have:=hr.rel i hi (by simpa using hi2);simp only[Array.getD,hi2,dif_pos];simpa using this
def TydF(f:TypeId->List V->Prop):List Field->List V->Prop
 | [],vs=>vs=[]
 |fd::fs,vs=>∃a b,vs=a++b/\f fd.type a/\TydF f fs b
def Tyd(P:Program):Nat->TypeId->List V->Prop
 |0,_,_=>False
 |k+1,t,vs =>
  match P.underlying t with
  |some .bool=>∃b,vs=[.bool b]
  |some (.int kk)=>∃n,vs=[.int kk n]/\kk.min<=n/\n<=kk.max
  |some .string=>∃s:List UInt8,vs=[.str s]/\s.length<=maxLen
  |some (.slice e)=>vs=[.nilsl]\/∃vss:List (List V),vs=[.row vss.flatten vss.length .unk]/\vss.length<=maxLen/\(∀x∈vss,x.length=P.cellsOf e)/\∀x∈vss,Tyd P k e x
  |some (.struct fs)=>TydF (Tyd P k) fs.toList vs
  |some (.array n e)=>∃vss:List (List V),vs=vss.flatten/\vss.length=n/\∀x∈vss,Tyd P k e x
  |_=>False
def joq(f:TypeId->Bool)(s:TypeId->Nat):Nat->List Field->Bool
 |_,[]=>true
 |pos,fd::fs=>fd.offset==pos && f fd.type && joq f s (pos+s fd.type) fs
def sumF(s:TypeId->Nat):List Field->Nat
 | []=>0
 |fd::fs=>s fd.type+sumF s fs
def jc3(P:Program):Nat->TypeId->Bool
 |0,_=>false
 |k+1,t =>
  match P.underlying t with
  |some .bool=>P.cellsOf t==1
  |some (.int _)=>P.cellsOf t==1
  |some .string=>P.cellsOf t==1
  |some (.slice e)=>jc3 P k e && P.cellsOf t==1
  |some (.struct fs)=>joq (jc3 P k) P.cellsOf 0 fs.toList && P.cellsOf t==sumF P.cellsOf fs.toList
  |some (.array n e)=>jc3 P k e && P.cellsOf t==n*P.cellsOf e
  |_=>false
section
variable {H:Type}{P:Program}{w:World}{enc:TypeId × Value->H}{sp:Nat->Bool}{held:Bool}
theorem jm9 {α:Type}{f:α->Option (List V)}{s:Nat}{Q:List V->Prop}:∀{ds:List α},(∀d∈ds,∃vs,f d=some vs/\vs.length=s/\Q vs) ->
  ∃vss:List (List V),catE f s ds=some vss.flatten/\vss.length=ds.length/\(∀x∈vss,x.length=s)/\∀x∈vss,Q x
 | [],h=>⟨[],rfl,rfl,λx hx=>by simp at hx,λx hx=>by simp at hx⟩
 | d::ds,h=>by
  obtain⟨vs,h1,h2,h3⟩:=h d ae;obtain⟨vss,g1,g2,g3,g4⟩:=jm9 (ds:=ds) (λd hd=>h d (by simp[hd]));refine⟨vs::vss,by simp[catE,h1,h2,g1],by simp[g2],λx hx => ?_,λx hx => ?_⟩
  ·rcases Jg.1 hx with rfl|hx
   ·exact h2
   ·exact g3 x hx
  ·rcases Jg.1 hx with rfl|hx
   ·exact h3
   ·exact g4 x hx
theorem jqU {f:TypeId->DataW H->Option (List V)}{s:TypeId->Nat}{Q:TypeId->List V->Prop}{pl:TypeId->Bool}{g:Field->Option (DataW H × List MemPlace)} :
  ∀{fs:List Field} {xs:List (DataW H × List MemPlace)} {pos:Nat},fs.mapM g=some xs->joq pl s pos fs=true ->
  (∀fd x,pl fd.type=true->g fd=some x->∃vs,f fd.type x.1=some vs/\vs.length=s fd.type/\Q fd.type vs) ->
  ∃vs,catF f s pos fs (xs.map (·.1))=some vs/\vs.length=sumF s fs/\TydF Q fs vs
 | [],xs,pos,hm,hp,h=>by
  simp at hm;subst hm;exact⟨[],rfl,rfl,rfl⟩
 | fd::fs,xs,pos,hm,hp,h=>by
  rw[Xx]at hm;simp only[joq,Qt,beq_iff_eq]at hp;obtain⟨⟨h1,h2⟩,h3⟩:=hp;cases hg:g fd with
  |none=>rw[hg]at hm;simp at hm
  | some x =>
   rw[hg]at hm;cases hm2:fs.mapM g with
   |none=>rw[hm2]at hm;simp at hm
   |some xs' =>
    rw[hm2]at hm;simp at hm;subst hm;obtain⟨vs,a1,a2,a3⟩:=h fd x h2 hg;rw[<- a2]at h3;obtain⟨us,b1,b2,b3⟩:=jqU hm2 h3 h;refine⟨vs++us,?_,by simp[sumF,a2,b2],vs,us,rfl,a3,b3⟩;simp only[K6,catF,h1,Kl,a1,Kq,a2,Kl];rw[a2]at b1;rw[b1];rfl
theorem jew {a:Addr}{n:Nat}{cs:List Value}{base:Nat}(h:w.cells? base a n=some cs):cs.length=n:=by
 unfold World.cells? at h;split at h
 ·have:=(jfL h).1;simpa using this
 ·simp at h
theorem jfO:∀(k fuel:Nat) (t:TypeId) (cs:List Value) (d:DataW H) (ps:List MemPlace),jc3 P k t=true->DataW.trod enc P w 0 sp held fuel t cs=some (d,ps) ->
  ∃vs,DV P k t d=some vs/\vs.length=P.cellsOf t/\Tyd P k t vs
 |0,_,_,_,_,_,h,_=>by simp[jc3]at h
 |_+1,0,_,_,_,_,_,h=>by simp[DataW.trod]at h
 | k+1,fuel+1,t,cs,d,ps,hp,h=>by
  simp only[DataW.trod]at h;split at h
  ·rename_i b hu;simp only[Ki,Qg]at h;obtain⟨rfl,rfl⟩:=h;simp only[jc3,hu,beq_iff_eq]at hp;exact⟨[.bool b],by simp only[DV,hu],hp.symm,by simp only[Tyd,hu];exact⟨b,rfl⟩⟩
  ·rename_i kk k' n hu;split at h
   ·rename_i hk;obtain⟨rfl,hwf⟩:=hk;simp only[Ki,Qg]at h;obtain⟨rfl,rfl⟩:=h;simp only[jc3,hu,beq_iff_eq]at hp;simp only[Lit.wf,Qt,Jq]at hwf;exact⟨[.int k' n],by simp only[DV,hu,Kl],hp.symm,by simp only[Tyd,hu];exact⟨n,rfl,hwf.1,hwf.2⟩⟩
   ·simp at h
  ·rename_i hu;simp[jc3,hu]at hp
  ·rename_i s hu;split at h
   ·rename_i hs;simp only[Ki,Qg]at h;obtain⟨rfl,rfl⟩:=h;simp only[jc3,hu,beq_iff_eq]at hp;exact⟨[.str s.data.toList],by simp only[DV,hu],hp.symm,by simp only[Tyd,hu];exact⟨_,rfl,by rw[Jm];exact hs⟩⟩
   ·simp at h
  ·rename_i hu;simp[jc3,hu]at hp
  ·rename_i e a hu;simp[jc3,hu]at hp
  ·rename_i hu;simp only[Ki,Qg]at h;obtain⟨rfl,rfl⟩:=h;simp only[jc3,hu,Qt,beq_iff_eq]at hp;exact⟨[.nilsl],by simp only[DV,hu],hp.2.symm,by simp only[Tyd,hu];exact .inl trivial⟩
  ·rename_i e a len cap hu;split at h
   ·rename_i hb;simp only[Ko,Kv]at h;obtain⟨elems,hel,rest,hrest,h⟩:=h;simp only[Qg]at h;obtain⟨rfl,rfl⟩:=h;simp only[jc3,hu,Qt,beq_iff_eq]at hp;obtain⟨m1,m2⟩:=jfL hel;simp only[Uw]at m1
    have key:∀d∈elems.map (·.1),∃vs,DV P k e d=some vs/\vs.length=P.cellsOf e/\Tyd P k e vs:=by
     intro d hd;obtain⟨x,hx,rfl⟩:=Jd.1 hd;obtain⟨i,hi,rfl⟩:=Xv.1 hx;have h1:=m2 i (by simp;omega) hi;simp only[Ut,Ko]at h1;obtain⟨cells,hc,ht⟩:=h1;exact jfO k fuel e cells _ _ hp.1 ht
    obtain⟨vss,c1,c2,c3,c4⟩:=jm9 key;refine⟨[.row vss.flatten vss.length .unk],?_,hp.2.symm,?_⟩
    ·simp only[DV,hu,c1,K9,c2]
    ·simp only[Tyd,hu];refine .inr ⟨vss,rfl,?_,c3,c4⟩;rw[c2,Qw,m1];omega
   ·simp at h
  ·rename_i cs _ _ fs hu;split at h
   ·rename_i hl;simp only[Kv]at h;obtain⟨xs,hxs,h⟩:=h;simp only[Qg]at h;obtain⟨rfl,rfl⟩:=h;simp only[jc3,hu,Qt,beq_iff_eq]at hp;obtain⟨vs,c1,c2,c3⟩:=jqU (Q:=Tyd P k) (f:=DV P k) hxs hp.1 (λfd x hpl hg=>jfO k fuel fd.type _ x.1 x.2 hpl hg);refine⟨vs,?_,by rw[c2,hp.2],by simp only[Tyd,hu];exact c3⟩;simp only[DV,hu,c1,Kq];rw[Kg (by rw[c2,hp.2])]
   ·simp at h
  ·rename_i cs _ _ n e hu;split at h
   ·rename_i hl;simp only[Kv]at h;obtain⟨xs,hxs,h⟩:=h;simp only[Qg]at h;obtain⟨rfl,rfl⟩:=h;simp only[jc3,hu,Qt,beq_iff_eq]at hp;obtain⟨m1,m2⟩:=jfL hxs;simp only[Uw]at m1
    have key:∀d∈xs.map (·.1),∃vs,DV P k e d=some vs/\vs.length=P.cellsOf e/\Tyd P k e vs:=by
     intro d hd;obtain⟨x,hx,rfl⟩:=Jd.1 hd;obtain⟨i,hi,rfl⟩:=Xv.1 hx;have h1:=m2 i (by simp;omega) hi;exact jfO k fuel e _ _ _ hp.1 h1
    obtain⟨vss,c1,c2,c3,c4⟩:=jm9 key;rw[Qw,m1]at c2
    have hlen:vss.flatten.length=n*P.cellsOf e:=by
     rw[List.length_flatten]
     have:vss.map List.length=List.replicate vss.length (P.cellsOf e):=List.eq_replicate_iff.2 ⟨ae,λb hb=>by
      obtain⟨x,hx,rfl⟩:=Jd.1 hb;exact c3 x hx⟩
     rw[this,List.sum_replicate_nat,c2]
    refine⟨vss.flatten,?_,by rw[hlen,hp.2],by simp only[Tyd,hu];exact⟨vss,rfl,c2,c4⟩⟩;simp only[DV,hu,Qw,m1,Kl,c1,Kq];rw[Kg (by rw[hlen,hp.2])]
   ·simp at h
  all_goals first
   |(simp at h;done)
   |(rename_i hu;simp[jc3,hu]at hp;done)
   |(rename_i hu _;simp[jc3,hu]at hp;done)
theorem jqV {k fuel:Nat}{t:TypeId}{x:Value}{d:DataW H}{ps:List MemPlace}(hp:jc3 P k t=true)(h:DataW.trod enc P w 0 sp held fuel t x.cells.toList=some (d,ps)) :
  ∃vs,Tyd P k t vs/\CRel (Ctx.top w) vs x.cells.toList:=by
 obtain⟨vs,h1,_,h3⟩:=jfO k fuel t _ d ps hp h;exact⟨vs,h3,jfN k fuel t _ d ps vs h h1⟩
end
theorem jqW {P:Program}{k:Nat}{t:TypeId}{vs:List V}{kk:IntKind}(h:Tyd P (k+1) t vs)(hu:P.underlying t=some (.int kk)):∃n,vs=[.int kk n]/\kk.min<=n/\n<=kk.max:=by
 simp only[Tyd,hu]at h;exact h
theorem jqX {P:Program}{k:Nat}{t e:TypeId}{vs:List V}(h:Tyd P (k+1) t vs)(hu:P.underlying t=some (.slice e)) :
  vs=[.nilsl]\/∃vss:List (List V),vs=[.row vss.flatten vss.length .unk]/\vss.length<=maxLen/\(∀x∈vss,x.length=P.cellsOf e)/\∀x∈vss,Tyd P k e x:=by
 simp only[Tyd,hu]at h;exact h
theorem jqY {α:Type}{P:Program}{k:Nat}{e:TypeId}{f:α->List V}(hs:∀x,Tyd P k e x->∃a,x=f a):∀{vss:List (List V)},(∀x∈vss,Tyd P k e x)->∃as:List α,vss=as.map f
 | [],h=>⟨[],rfl⟩
 |x::vss,h=>by
  obtain⟨a,rfl⟩:=hs x (h x ae);obtain⟨as,rfl⟩:=jqY hs (vss:=vss) (λy hy=>h y (by simp[hy]));exact⟨a::as,rfl⟩
theorem jtm {O:Ctx}{v:V}{x:Value}(h:CRel O [v] x.cells.toList)(hx:x.cells = #[x]):VRel O v x:=by
 rw[hx]at h;exact h.get
section
variable {H:Type}{P:Program}{w:World}{enc:TypeId × Value->H}{sp:Nat->Bool}{held:Bool}
theorem arg_cell {k:Nat}{t:TypeId}{x:Value}{d:DataW H}{ps:List MemPlace}(hp:jc3 P k t=true)(h:DataW.Trod enc P w 0 sp held t x d ps)(hx:x.cells = #[x]):∃u,Tyd P k t [u]/\VRel (Ctx.top w) u x:=by
 obtain⟨fuel,h⟩:=h;obtain⟨us,h1,h2⟩:=jqV hp h;have hl:=h2.len;rw[hx]at hl
 match us,hl with
 | [u],_=>exact⟨u,h1,jtm h2 hx⟩
end
end Go.Ab
