/- Proved here: that its other operations, its calls and its drawn regions are sound. Conditions: each theorem's own. -/
import Derived.Test.YtajaampgajieeaaGreatDoorAbA
import Derived.Laws.LoneSync
import Derived.AtR
set_option linter.unusedSimpArgs false
namespace Go.Ab
open Go.RowKit (Below)
section
variable {O:Ctx}{U:S}{w:World}
theorem jqJ {v:V}{x:Value}{m:Nat}(hx:VRel O v x)(h:vLen v=some m){P:Program}:(Builtin.lenOf x).run P w=.ok m w:=by
 cases hx<;>simp only[vLen,Ki,reduceCtorEq]at h<;>subst h<;>simp[Builtin.lenOf]
theorem jbm(h:WRel O U w){s n:Nat}{v:V}{x:Value}{cs:List V}(hx:VRel O v x)(hc:jaV U.heap s n v=some cs){P:Program} :
  ∃ys,(Builtin.firstCells s n x).run P w=.ok ys w/\LRel O cs ys:=by
 unfold jaV at hc;split at hc
 ·rename_i cells len cap;split at hc
  ·rename_i hn;simp at hc;subst hc;obtain⟨a,c,rfl,_⟩:=hx.row_inv;cases hx with
   |row _ _ _ _ _ xs hp hr hcap =>
    have hl:jab U.heap (n*s) (.rptr cells)=some (cells.take (n*s)):=by simp[jab,hn.2]
    obtain⟨a',xs',e,h1,h2,_⟩:=jc0 h (.rptr cells a xs hp hr) hl (P:=P);cases e;exact⟨xs',by simp[Builtin.firstCells,h1],h2⟩
  ·simp at hc
 ·rename_i b off len cap ex;split at hc
  ·rename_i cs0 t hb;split at hc
   ·rename_i hn;simp at hc;subst hc;cases hx with
    |hsl _ _ _ _ _ c c' hblk hcap =>
     have hl:jab U.heap (n*s) (.ptr b off)=some ((cs0.drop off).take (n*s)):=by simp[jab,hb,hn.2]
     obtain⟨a',xs',e,h1,h2,_⟩:=jc0 h (.ptr b off c hblk) hl (P:=P);cases e;exact⟨xs',by simp[Builtin.firstCells,h1],h2⟩
   ·simp at hc
  ·rename_i cs0 t hb;split at hc
   ·rename_i hn;simp at hc;subst hc;cases hx with
    |hsl _ _ _ _ _ c c' hblk hcap =>
     have hl:jab U.heap (n*s) (.ptr b off)=some ((cs0.drop off).take (n*s)):=by simp[jab,hb,hn.2]
     obtain⟨a',xs',e,h1,h2,_⟩:=jc0 h (.ptr b off c hblk) hl (P:=P);cases e;exact⟨xs',by simp[Builtin.firstCells,h1],h2⟩
   ·simp at hc
  ·simp at hc
 ·split at hc
  ·rename_i hn;simp at hc;subst hc;subst hn;cases hx;exact⟨#[],by simp[Builtin.firstCells],LRel.nil O⟩
  ·simp at hc
 ·rename_i b;split at hc
  ·rename_i hn;simp only[Ki]at hc;subst hc;obtain⟨x1,rfl,h1⟩:=hx.str_inv;refine⟨(x1.extract 0 n).data.map λb=>Value.int .u8 b.toNat,rfl,?_⟩
   have e:((x1.extract 0 n).data.map λb=>Value.int .u8 b.toNat)=((b.take n).map λb=>Value.int .u8 b.toNat).toArray:=by
    apply Array.toList_inj.1;rw[Array.toList_map,Lib.extract_data,h1];simp
   rw[e];refine LRel.mkList ae (λi a b => ?_);simp only[U5];exact .int _ _
  ·simp at hc
 ·simp at hc
theorem jku {new:List V}{ys:Array Value}(h:LRel O new ys)(ha:new.all V.isCell=true):∀v∈ys.toList,v.oneCell'=true:=by
 intro v hv;obtain⟨i,hi,rfl⟩:=Jr hv;have h2:i<new.length:=by rw[h.len];simpa using hi
 have hr:=h.rel i h2 (by simpa using hi);have:=hr.isCell;simp at this ⊢;rw[this];exact Qq.1 ha _ (J7 h2)
theorem jf8(h:WRel O U w){new:List V}{p:V}{x:Value}{ys:Array Value}{U':S}(hp:VRel O p x)(hn:LRel O new ys)(hc:jcg U new p=some U'){P:Program} :
  ∃a w',x=.pointer (some a)/\(storeCells a ys.toList).run P w=.ok () w'/\Moved O O U' w w':=by
 unfold jcg at hc;split at hc
 ·rename_i b off;split at hc
  ·rename_i cs t hb;split at hc
   ·rename_i hcond;simp at hc;subst hc;cases hp with
    | ptr _ _ c hblk =>
     obtain⟨ob,h1,h2,h3,h4⟩:=h.at hblk hb;cases ob<;>simp only[ORel]at h2;rename_i xs t' fr;obtain⟨rfl,rfl,hl,hr⟩:=h2;have hlen:=hn.len;have hrun:=run_storeCells_at (P:=P) c off t ys.toList 0 xs w h1 (by simp;omega) (jku hn hcond.2);simp only[Vo]at hrun;refine⟨_,_,rfl,hrun,h.upd (Upd.setRow h1) hblk hb rfl ?_ (λ_ xs' t' f' e=>by rw[h1]at e;cases e;exact⟨_,_,_,rfl,by simp;omega⟩)⟩;simp only[ORel,jaa];refine⟨trivial,trivial,by simp;omega,λi a b => ?_⟩;simp only[Vm,Kk,Qx,Jm,Xu];simp only[Kk,Qx,Jy]at a;have m1:min off cs.length=off:=aa;have m2:min off xs.size=off:=aa;by_cases k1:i<off
     ·rw[dif_pos aa,dif_pos aa,dif_pos aa,dif_pos aa];simpa using hr i aa aa
     ·by_cases k2:i<off+new.length
      ·rw[dif_pos aa,dif_neg aa,dif_pos aa,dif_neg aa];have:=hn.rel (i-off) aa aa;simpa[m1,m2]using this
      ·rw[dif_neg aa,dif_neg aa];have:=hr (off+new.length+(i-(off+new.length))) aa aa;simpa[m1,m2,<- hlen,List.getElem_drop]using this
   ·simp at hc
  ·simp at hc
 ·simp at hc
theorem jer {E:Env}{t:TypeId}{z:V}(h:jba E t=some z):∃zv,(zeroValue t).run E.P w=.ok zv w/\VRel O z zv:=by
 unfold jba at h;cases hi:(E.P.info? t).bind (·.zero)with
 |none=>simp[hi]at h
 |some zv =>
  rw[hi]at h;refine⟨zv,?_,jie h⟩;cases hj:E.P.info? t with
  |none=>simp[hj]at hi
  |some i=>rw[hj]at hi;simp at hi;simp[zeroValue,typeInfo,hj,hi]
theorem jcN {α:Type}(l:List α):∀(c i:Nat),i<c*l.length->((List.replicate c l).flatten)[i]? = l[i % l.length]?
 |0,i,h=>by simp at h
 | c+1,i,h=>by
  rw[Vn,Vj,Vx];split
  ·rw[Nat.mod_eq_of_lt ‹_›]
  ·rename_i hge;rw[jcN l c (i-l.length) (by rw[Jz,Ub]at h;omega)];rw[<- Nat.mod_eq_sub_mod aa]
theorem jik {z:V}{zv:Value}(hz:VRel O z zv)(c n:Nat)(hn:n=c*z.cells.length) :
  LRel O (List.replicate c z.cells).flatten ((Array.range n).map (zv.cells[· % zv.cells.size]!)):=by
 have hl:=hz.cells.len;have hlen:(List.replicate c z.cells).flatten.length=n:=by simp[hn]
 refine⟨by simp[hlen],λi a b => ?_⟩
 have hpos:0<z.cells.length:=by
  rcases Nat.eq_zero_or_pos z.cells.length with h0|h0
  ·rw[h0]at hn;omega
  ·exact h0
 have hm:i % z.cells.length<z.cells.length:=Uu _ hpos
 have e1:((List.replicate c z.cells).flatten)[i]=z.cells[i % z.cells.length]:=by
  have:=jcN z.cells c i aa;rw[Kz a,Kz hm]at this;simpa using this
 have e2:((Array.range n).map (zv.cells[· % zv.cells.size]!))[i]=zv.cells[i % z.cells.length]:=by
  simp only[Array.getElem_map,Array.getElem_range,<- hl];exact getElem!_pos _ _ _
 rw[e1,e2];exact hz.cells.rel _ _ _
end
theorem jlp(n:Nat):∀(r c:Nat),Builtin.growBy n r c<=max c (n+(n+768)/4)
 |0,c=>by simp[Builtin.growBy];omega
 | r+1,c=>by
  unfold Builtin.growBy;split
  ·omega
  ·have:=jlp n r (c+(c+768)/4);omega
theorem jfg {n c:Nat}(h:c<n):Builtin.nextslicecap n c<=2*n+192:=by
 unfold Builtin.nextslicecap;split
 ·omega
 ·split
  ·omega
  ·have:=jlp n 4 c;omega
section
variable {O:Ctx}{U:S}{w:World}
theorem jmU {P:Program}{t t2 e:TypeId}{d:TypeDesc}{s len cap m:Nat}{base:Option Addr}{y:Value}{ats:Array TypeId}{ty:TypeId}{ys:Array Value}{w':World}
  (h1:ats[0]? = some t) (hu:P.underlying t=some (.slice e)) (hs:(P.info? e).map (·.size)=some s) (h2:ats[1]? = some t2) (hu2:P.underlying t2=some d) (hd:∀k,d ≠ .int k)
  (hm:(Builtin.lenOf y).run P w=.ok m w) (hys:(Builtin.firstCells s m y).run P w=.ok ys w) (hfit:len+m<=cap)
  (hst:∀a,base=some a->(storeCells (a.add (len*s)) ys.toList).run P w=.ok () w') (hnil:base=none->w'=w) :
  (Builtin.append_ ats ty #[.slice base len cap,y]).run P w=.ok (.slice base (len+m) cap) w':=by
 simp only[Builtin.append_,h1,Xm,Q9,Q7,Sem.run_bind,jag hu,Result.andThen_ok,jaQ hs,h2,jag hu2,Sem.run_pure,Ku,Kn,hm,Kg hfit,Ji,Kl,hys];cases base with
 |none=>simp[hnil rfl]
 |some a=>simp[hst a rfl]
theorem jlq {P:Program}{t t2 e:TypeId}{d:TypeDesc}{s len cap m by' zn:Nat}{base:Option Addr}{y:Value}{ats:Array TypeId}{ty:TypeId}{old ys:Array Value}{zv:Value}
  (h1:ats[0]? = some t) (hu:P.underlying t=some (.slice e)) (hs:(P.info? e).map (·.size)=some s) (h2:ats[1]? = some t2) (hu2:P.underlying t2=some d) (hd:∀k,d ≠ .int k)
  (hb:(P.info? e).map (·.bytes)=some by')
  (hm:(Builtin.lenOf y).run P w=.ok m w) (hys:(Builtin.firstCells s m y).run P { w with drawn:=w.drawn+1 }=.ok ys { w with drawn:=w.drawn+1 })
  (hold:(Builtin.firstCells s len (.slice base len cap)).run P { w with drawn:=w.drawn+1 }=.ok old { w with drawn:=w.drawn+1 })
  (hz:∀w1:World,(zeroValue e).run P w1=.ok zv w1) (hzn:zv.cells.size=zn)
  (hgrow:¬len+m<=cap) (hl1:len+m<=lim) (hl2:(len+m)*by'<=lim) :
  ∃ cap',len+m<=cap'/\cap'<=maxLen/\∃rest:Array Value,rest.size=(cap'-(len+m))*zn /\
   (Builtin.append_ ats ty #[.slice base len cap,y]).run P w=.ok (.slice (some ⟨w.heap.size,0,none⟩) (len+m) cap')
    { w with drawn:=w.drawn+1,heap:=w.heap.push (.cells (old++ys++rest) e (0,0)) }:=by
 have hinfo:∃i,P.info? e=some i/\i.bytes=by':=by
  cases hi:P.info? e with
  |none=>simp[hi]at hb
  |some i=>rw[hi]at hb;simp at hb;exact⟨i,rfl,hb⟩
 obtain⟨i,hi,hby⟩:=hinfo;have hti:∀w1:World,(typeInfo e).run P w1=.ok i w1:=λw1=>by simp[typeInfo,hi]
 have hn1:¬((((len+m:Nat):Int)>IntKind.i64.max)/\(false=true\/i.bytes=0)):=by
  have e:IntKind.i64.max=9223372036854775807:=af;rw[e];unfold lim at hl1;omega
 have hn2:¬(Builtin.nextslicecap (len+m) cap*i.bytes>2^48):=by
  have hle:=jfg (n:=len+m) (c:=cap) aa;have hpos:1<=len+m:=aa
  have hb2:by'<=lim:=by
   have:1*by'<=(len+m)*by':=Jc _ hpos
   omega
  have h3:Builtin.nextslicecap (len+m) cap*by'<=(2*(len+m)+192)*by':=Jc _ hle
  have h4:(2*(len+m)+192)*by'=2*((len+m)*by')+192*by':=by rw[Jz,Nat.mul_assoc]
  rw[hby];unfold lim at hl2 hb2;omega
 let q:Question:=.appendCap (len+m) cap e
 let cap':=q.cut (w.tape w.drawn q)
 have hcap:len+m<=cap':=by show len+m<=(len+m)+_;omega
 have hcap2:cap'<=maxLen:=by
  have hlt:=Uu (w.tape w.drawn q) (show 0<2^63-(len+m) by unfold lim at hl1;omega);unfold lim at hl1;simp only[cap',q,Question.cut,maxLen]at hlt ⊢;omega
 refine⟨cap',hcap,hcap2,Builtin.zeroCells zv.cells (cap'-(len+m)),by simp[Builtin.zeroCells,hzn],?_⟩;have hf:q.forced=false:=rfl
 have hch:(choose q).run P w=.ok cap' { w with drawn:=w.drawn+1 }:=by
  rw[run_choose,hf];rfl
 simp only[Builtin.append_,h1,Xm,Q9,Q7,Sem.run_bind,jag hu,Result.andThen_ok,jaQ hs,h2,jag hu2,Sem.run_pure,Ku,Kn,hm,Ke hgrow,Ji,Kl,hti];have hn1':¬((((len+m:Nat):Int)>IntKind.i64.max)/\(False\/i.bytes=0)):=by simpa using hn1
 rw[Ke hn1'];simp only[Sem.run_bind,hti,Result.andThen_ok];rw[Ke hn2];have hch':(choose (Question.appendCap (len+m) cap e)).run P w=.ok cap' { w with drawn:=w.drawn+1 }:=hch;simp only[Sem.run_bind,hch',hti,Result.andThen_ok,run_askRoom,hold,hys,hz,newRow,run_newObj,Sem.run_pure]
theorem jlr {P:Program}{t t2 e:TypeId}{kk kk2:IntKind}{s by' n:Nat}{ats:Array TypeId}{ty:TypeId}{zv:Value}
  (h1:ats[0]? = some t) (hu:P.underlying t=some (.slice e)) (hs:(P.info? e).map (·.size)=some s) (h2:ats[1]? = some t2) (hu2:P.underlying t2=some (.int kk))
  (hb:(P.info? e).map (·.bytes)=some by') (hz:∀w1:World,(zeroValue e).run P w1=.ok zv w1) (hzn:zv.cells.size=s) (hs0:0<s) (hn0:0<n) (hl1:n<=lim) (hl2:n*by'<=lim) :
  ∃ cap',n<=cap'/\cap'<=maxLen/\∃rest:Array Value,rest.size=(cap'-n)*s /\
   (Builtin.append_ ats ty #[.slice none 0 0,.int kk2 n]).run P w=.ok (.slice (some ⟨w.heap.size,0,none⟩) n cap')
    { w with drawn:=w.drawn+1,heap:=w.heap.push (.cells (Builtin.zeroCells zv.cells n++rest) e (0,0)) }:=by
 have hinfo:∃i,P.info? e=some i/\i.bytes=by':=by
  cases hi:P.info? e with
  |none=>simp[hi]at hb
  |some i=>rw[hi]at hb;simp at hb;exact⟨i,rfl,hb⟩
 obtain⟨i,hi,hby⟩:=hinfo;have hti:∀w1:World,(typeInfo e).run P w1=.ok i w1:=λw1=>by simp[typeInfo,hi]
 have hn2:¬(Builtin.nextslicecap n 0*i.bytes>2^48):=by
  have hle:=jfg (n:=n) (c:=0) aa
  have hb2:by'<=lim:=by
   have:1*by'<=n*by':=Jc _ hn0
   omega
  have h3:Builtin.nextslicecap n 0*by'<=(2*n+192)*by':=Jc _ hle
  have h4:(2*n+192)*by'=2*(n*by')+192*by':=by rw[Jz,Nat.mul_assoc]
  rw[hby];unfold lim at hl2 hb2;omega
 let q:Question:=.appendCap n 0 e
 let cap':=q.cut (w.tape w.drawn q)
 have hcap:n<=cap':=by show n<=n+_;omega
 have hcap2:cap'<=maxLen:=by
  have hlt:=Uu (w.tape w.drawn q) (show 0<2^63-n by unfold lim at hl1;omega);unfold lim at hl1;simp only[cap',q,Question.cut,maxLen]at hlt ⊢;omega
 refine⟨cap',hcap,hcap2,Builtin.zeroCells zv.cells (cap'-n),by simp[Builtin.zeroCells,hzn],?_⟩
 have hch:(choose q).run P w=.ok cap' { w with drawn:=w.drawn+1 }:=by
  rw[run_choose,show q.forced=false from rfl];rfl
 have hch':(choose (Question.appendCap n 0 e)).run P w=.ok cap' { w with drawn:=w.drawn+1 }:=hch;have hwr:IntKind.i64.wrap (n:Int)=(n:Int):=by rw[IntKind.wrap_i64];unfold lim at hl1;omega
 have c1:¬((n:Int)<0):=aa
 have c2:¬((n:Int)*(i.bytes:Int)>2^48):=by
  rw[hby];have:(n:Int)*(by':Int)=((n*by':Nat):Int):=ae;rw[this];unfold lim at hl2;omega
 have c3:¬(0+n<=0):=aa
 have c4:¬((((0+n:Nat):Int)>IntKind.i64.max)/\(true=true\/i.bytes=0)):=by
  have e:IntKind.i64.max=9223372036854775807:=af;rw[e];unfold lim at hl1;omega
 have c5:¬(n*s=0):=by
  have:=Nat.mul_pos hn0 hs0;omega
 simp only[Builtin.append_,h1,Xm,Q9,Q7,Sem.run_bind,jag hu,Result.andThen_ok,jaQ hs,h2,jag hu2,Sem.run_pure,Kl,asInt,asIntOf,hwr];rw[Ke c1];simp only[Sem.run_bind,hti,Result.andThen_ok];rw[Ke c2];simp only[Sem.run_bind,Sem.run_pure,Result.andThen_ok,Qj];rw[Ke c3];simp only[Sem.run_bind,hti,Result.andThen_ok];have c4':¬((((0+n:Nat):Int)>IntKind.i64.max)/\(True\/i.bytes=0)):=by simpa using c4
 rw[Ke c4'];simp only[Sem.run_bind,hti,Result.andThen_ok,Jk];rw[Ke hn2];have hch2:(choose (Question.appendCap n 0 e)).run P w=.ok cap' { w with drawn:=w.drawn+1 }:=hch;simp only[Sem.run_bind,hch2,Result.andThen_ok,hti,run_askRoom,Builtin.firstCells,Sem.run_pure,Q8,Ku,Kn,Ke c5,hz,newRow,run_newObj,Array.empty_append]
end
section
variable {O:Ctx}{U:S}{w:World}
theorem jg0 {h:List AObj}{s n:Nat}{v:V}{cs:List V}(hc:jaV h s n v=some cs):cs.length=n*s:=by
 unfold jaV at hc;split at hc
 ·split at hc
  ·simp at hc;subst hc;simp;omega
  ·simp at hc
 ·split at hc
  ·split at hc
   ·simp at hc;subst hc;simp;omega
   ·simp at hc
  ·split at hc
   ·simp at hc;subst hc;simp;omega
   ·simp at hc
  ·simp at hc
 ·split at hc
  ·simp at hc;subst hc;rename_i hn;simp[hn]
  ·simp at hc
 ·split at hc
  ·rename_i hn;simp only[Ki]at hc;subst hc;simp[hn.2,Xt hn.1]
  ·simp at hc
 ·simp at hc
theorem jes {O':Ctx}{cells:List V}{len c b:Nat}{cap:RCap}{xs:Array Value}(hl:cells.length<=xs.size)(hr:∀i (h:i<cells.length) (h2:i<xs.size),VRel O cells[i] xs[i])(hle:O.le O')
  (hp:∀i,i<cells.length->O'.pin b i=xs[i]?) (hc:jcs O' cap ⟨b,0,none⟩ len c):VRel O' (.row cells len cap) (.slice (some ⟨b,0,none⟩) len c):=by
 refine .row _ _ _ _ _ (λi=>xs.getD i undef) (λi hi=>⟨rfl,?_⟩) (λi hi => ?_) hc
 ·have h2:i<xs.size:=by omega
  rw[Jk,hp i hi];simp[Array.getD,h2]
 ·have h2:i<xs.size:=by omega
  have e:xs.getD i undef=xs[i]:=by simp[Array.getD,h2]
  rw[e];exact(hr i hi h2).mono hle
theorem jgy {a b:List V}{xs ys rest:Array Value}(h1:LRel O a xs)(h2:LRel O b ys):(a++b).length<=(xs++ys++rest).size /\
  ∀i (h:i<(a++b).length) (h2:i<(xs++ys++rest).size),VRel O (a++b)[i] (xs++ys++rest)[i]:=by
 have h:=h1.append h2;have hl:=h.len;refine⟨by simp at hl ⊢;omega,λi hi hi2 => ?_⟩;rw[Uo aa];exact h.rel i hi aa
theorem jgz(h:WRel O U w){cells:List V}{xs:Array Value}{t:TypeId}{len c s:Nat}(hl:cells.length<=xs.size)(hr:∀i (h:i<cells.length) (h2:i<xs.size),VRel O cells[i] xs[i])
  (hcl:cells.length=len*s) (hc:len<=c) (hsz:xs.size=len*s+(c-len)*s) :
  ∃O',Moved O O' ⟨U.heap,U.toks++[0]⟩ w { w with drawn:=w.drawn+1,heap:=w.heap.push (.cells xs t (0,0)) }/\VRel O' (.row cells len (.tok U.toks.length 0 s)) (.slice (some ⟨w.heap.size,0,none⟩) len c):=by
 have hs:=h.same (w':={ w with drawn:=w.drawn+1 }) rfl;have m1:=hs.pinRow (n:=cells.length) (xs:=xs) (t:=t)
 have m2:=m1.rel.newTok (b:=w.heap.size) (pos:=len*s) (spare:=c-len) (s:=s) (xs:=xs) (t:=t) ae hsz h.size
  (λi hi=>by simp only[Ctx.pinRow];rw[Kg trivial,Ke aa]) (λa ha=>by have:=h.lt (a:=a) (c:=w.heap.size) ha;omega)
  (λk e p q he ht=>by have:=h.toklt (p:=q.1) (q:=q.2) he ht;omega)
 refine⟨_,⟨m1.le.trans m2.le,m2.rel,?_⟩,?_⟩
 ·have hb:Below O.base w { w with drawn:=w.drawn+1 }:=⟨rfl,rfl,rfl,Kw _,λ_ _=>rfl⟩;exact hb.trans (m1.below.trans m2.below)
 ·refine jes (xs:=xs) hl hr (m1.le.trans m2.le) (λi hi => ?_) ?_
  ·simp only[Ctx.setTok,Ctx.pinRow];rw[Kg trivial,Kg hi]
  ·refine⟨w.heap.size,len*s,c-len,by simp[Ctx.setTok],aa,.inr ⟨?_,Kw _⟩⟩;simp
theorem jfh(h:WRel O U w){cells:List V}{xs:Array Value}{t:TypeId}{len c s:Nat}(hl:cells.length<=xs.size)(hr:∀i (h:i<cells.length) (h2:i<xs.size),VRel O cells[i] xs[i])
  (hc:len<=c) (hcm:c<=maxLen) (hsz:xs.size=len*s+(c-len)*s) :
  ∃O',Moved O O' (U.push (.cells cells t)) w { w with drawn:=w.drawn+1,heap:=w.heap.push (.cells xs t (0,0)) }/\VRel O' (.hsl U.heap.length 0 len len (.grow s)) (.slice (some ⟨w.heap.size,0,none⟩) len c):=by
 have hs:=h.same (w':={ w with drawn:=w.drawn+1 }) rfl;have m1:=hs.push (o:=.cells cells t) (ob:=.cells xs t (0,0)) ⟨rfl,rfl,hl,hr⟩;have m2:=m1.rel.setSiz (c:=w.heap.size) (xs:=xs) (t:=t) (f:=(0,0)) ae rfl;have m3:=m1.trans m2;refine⟨_,⟨m3.le,m3.rel,?_⟩,?_⟩
 ·have hb:Below O.base w { w with drawn:=w.drawn+1 }:=⟨rfl,rfl,rfl,Kw _,λ_ _=>rfl⟩;exact hb.trans m3.below
 ·refine .hsl _ _ _ _ _ w.heap.size _ (by simp[Ctx.push,Ctx.setSiz]) ⟨hc,?_⟩;simp only[HRel,Ctx.setSiz,Kl,Jk];rw[hsz,<- Jz,Nat.add_sub_cancel' hc];exact⟨⟨_,rfl,Kw _⟩,hcm⟩
theorem jmV {E:Env}(h:WRel O U w){mutb:Bool}{s by' m:Nat}{t t2 e:TypeId}{d:TypeDesc}{ats:Array TypeId}{ty:TypeId}{x y v:V}{xv yv:Value}{new:List V}{U':S}
  (hx:VRel O x xv) (hy:VRel O y yv) (h1:ats[0]? = some t) (hu:E.P.underlying t=some (.slice e)) (hs:sz E e=some s) (hb:bys E e=some by') (hz:jhG E e=some s)
  (h2:ats[1]? = some t2) (hu2:E.P.underlying t2=some d) (hd:∀k,d ≠ .int k) (hm:vLen y=some m) (hn:jaV U.heap s m y=some new) (ha:jbk mutb s by' m e new x U=some (v,U')) :
  ∃O' w' r,(Builtin.append_ ats ty #[xv,yv]).run E.P w=.ok r w'/\Moved O O' U' w w'/\VRel O' v r:=by
 have hmr:=jqJ (w:=w) hy hm (P:=E.P);obtain⟨ys,hys,hyr⟩:=jbm h hy hn (P:=E.P);have hsw:=h.same (w':={ w with drawn:=w.drawn+1 }) rfl;obtain⟨ys2,hys2,hyr2⟩:=jbm hsw hy hn (P:=E.P);have hnl:=jg0 hn
 have hzv:∃zv,(∀w1:World,(zeroValue e).run E.P w1=.ok zv w1)/\zv.cells.size=s:=by
  unfold jhG at hz;simp only[Kv]at hz;obtain⟨zv,hi,hsz⟩:=hz;refine⟨zv,λw1 => ?_,hsz⟩;cases hj:E.P.info? e with
  |none=>simp[hj]at hi
  |some i=>rw[hj]at hi;simp at hi;simp[zeroValue,typeInfo,hj,hi]
 obtain⟨zv,hz1,hz2⟩:=hzv;have fits:=λ(len cap:Nat) (base:Option Addr) (w':World)=>jmU (P:=E.P) (w:=w) (w':=w') (len:=len) (cap:=cap) (base:=base) (ty:=ty) h1 hu hs h2 hu2 hd hmr hys
 have grows:=λ(len cap:Nat) (base:Option Addr) (old:Array Value) ho=>jlq (P:=E.P) (w:=w) (len:=len) (cap:=cap) (base:=base) (old:=old) (ty:=ty) h1 hu hs h2 hu2 hd hb hmr hys2 ho hz1 hz2
 have hys0:m=0->ys.toList=[]:=by
  intro hm0;have:=hyr.len;rw[hnl,hm0]at this;simp at this;apply Q6;simpa using this.symm
 unfold jbk at ha;split at ha
 ·-- nil
  cases hx;split at ha
  ·rename_i hm0;simp at ha;obtain⟨rfl,rfl⟩:=ha;have:=fits 0 0 none w aa (λa e=>by cases e) (λ_=>rfl);rw[hm0]at this;exact⟨O,w,_,this,Moved.refl h,.nilsl⟩
  ·rename_i hm0;split at ha
   ·rename_i hl;obtain⟨cap',hc1,hcm1,rest,hr1,hrun⟩:=grows 0 0 none #[] (by simp[Builtin.firstCells]) aa aa (by simpa using hl.1);have hf:=jgy (rest:=rest) (LRel.nil O) hyr2;simp only[Ja]at hf;have hlen:=hyr2.len;split at ha
    ·simp at ha;obtain⟨rfl,rfl⟩:=ha;obtain⟨O',m1,m2⟩:=jfh h (t:=e) hf.1 hf.2 (len:=m) (c:=cap') (s:=s) aa hcm1 (by simp[hr1,<- hlen,hnl]);exact⟨O',_,_,hrun,m1,by simpa using m2⟩
    ·simp at ha;obtain⟨rfl,rfl⟩:=ha;obtain⟨O',m1,m2⟩:=jgz h (t:=e) hf.1 hf.2 (len:=m) (c:=cap') (s:=s) hnl aa (by simp[hr1,<- hlen,hnl]);exact⟨O',_,_,hrun,m1,by simpa using m2⟩
   ·simp at ha
 ·-- a row
  rename_i cells len cap;obtain⟨a,c,rfl,hcap,hlc⟩:=hx.row_inv;split at ha
  ·rename_i hm0;simp at ha;obtain⟨rfl,rfl⟩:=ha;have:=fits len c (some a) w aa (λa' _=>by rw[hys0 hm0];rfl) (λe=>by cases e);rw[hm0]at this;exact⟨O,w,_,this,Moved.refl h,hx⟩
  ·rename_i hm0;split at ha
   ·rename_i hl;obtain⟨hl1,hl2,hl3,hl4⟩:=hl
    have hvc:jaV U.heap s len (.row cells len cap)=some cells:=by
     have:cells.take (len*s)=cells:=by rw[<- hl3];exact Jh
     simp[jaV,hl3,this]
    obtain⟨old,hold,holdr⟩:=jbm hsw hx hvc (P:=E.P);have hf:=λrest=>jgy (rest:=rest) holdr hyr2
    have ho:=holdr.len;have hy2:=hyr2.len;have hcl:(cells++new).length=(len+m)*s:=by simp[hl3,hnl,Jz]
    cases cap with
    | full =>
     simp only[jcs]at hcap;obtain rfl:len=c:=hcap.symm;obtain⟨cap',hc1,hcm1,rest,hr1,hrun⟩:=grows len len (some a) old hold aa hl2 hl1;simp only at ha;split at ha
     ·simp at ha;obtain⟨rfl,rfl⟩:=ha;obtain⟨O',m1,m2⟩:=jfh h (t:=e) (hf rest).1 (hf rest).2 (len:=len+m) (c:=cap') (s:=s) aa hcm1 (by simp[hr1,<- ho,<- hy2,hl3,hnl,Jz,Vk]);exact⟨O',_,_,hrun,m1,m2⟩
     ·simp at ha;obtain⟨rfl,rfl⟩:=ha;obtain⟨O',m1,m2⟩:=jgz h (t:=e) (hf rest).1 (hf rest).2 (len:=len+m) (c:=cap') (s:=s) hcl aa (by simp[hr1,<- ho,<- hy2,hl3,hnl,Jz,Vk]);exact⟨O',_,_,hrun,m1,m2⟩
    |unk=>simp at ha
    | tok k ev s' =>
     simp only at ha;split at ha
     ·rename_i hk;obtain⟨hk,rfl⟩:=hk;simp at ha;obtain⟨rfl,rfl⟩:=ha;obtain⟨b,pos,spare,ht,hc2,hc3⟩:=hcap;obtain⟨b1,pos1,spare1,s1,t1,xs1,g1,g2,g3,g4,g5,g6⟩:=h.toks k ev hk;rw[ht]at g1;cases g1;by_cases hfit:m<=spare
      ·-- the room serves
       have hsp:spare ≠ 0:=aa
       rcases hc3 with hc3|⟨hc3,hc4⟩
       ·exact absurd hc3 hsp
       have hms:m*s'<=spare*s':=Jc _ hfit;have hyl:ys.toList.length=m*s':=by have:=hyr.len;simp;omega
       have hst:=run_storeCells_at (P:=E.P) b pos t1 ys.toList 0 xs1 w g2 aa (jku hyr hl4);simp only[Vo]at hst;have m1:=h.growTok hk ht (m:=m) (ys:=ys.toList) hfit hyl g2;refine⟨_,_,_,fits len c (some a) _ aa (λa' ea => ?_) (λe=>by cases e),m1,?_⟩
       ·cases ea;rw[hc3,jaW rfl];have:pos-len*s'+len*s'=pos:=aa;rw[this];exact hst
       ·cases hx with
        | row _ _ _ _ _ xs hp hr _ =>
         refine .row _ _ _ _ _ (λi=>if i<cells.length then xs i else ys.getD (i-cells.length) undef) (λi hi => ?_) (λi hi => ?_) ?_
         ·refine⟨by rw[hc3],?_⟩;simp only[Kk]at hi;by_cases hi2:i<cells.length
          ·rw[Kg hi2];exact m1.le.pin _ _ _ (hp i hi2).2
          ·rw[Ke hi2,hc3];simp only[Ctx.setTok,Ctx.pinAt];rw[Kg ⟨trivial,aa,aa⟩];have e1:pos-len*s'+i-pos=i-cells.length:=aa;have e2:i-cells.length<ys.size:=by have:=hyr.len;omega
           rw[e1];simp[Array.getD,e2]
         ·simp only[Kk]at hi;by_cases hi2:i<cells.length
          ·rw[Kg hi2,Ur hi2];exact(hr i hi2).mono m1.le
          ·rw[Ke hi2,Up aa];have e2:i-cells.length<ys.size:=by have:=hyr.len;omega
           have e3:ys.getD (i-cells.length) undef=ys[i-cells.length]:=by simp[Array.getD,e2]
           rw[e3];exact(hyr.rel _ aa e2).mono m1.le
         ·refine⟨b,pos+m*s',spare-m,by simp[Ctx.setTok],aa,.inr ⟨?_,?_⟩⟩
          ·rw[hc3,Addr.mk.injEq];refine⟨rfl,?_,rfl⟩;rw[Jz];omega
          ·rw[Jz];omega
      ·-- new room
       obtain⟨cap',hc1,hcm1,rest,hr1,hrun⟩:=grows len c (some a) old hold aa hl2 hl1;have m1:=hsw.pinRow (n:=(cells++new).length) (xs:=old++ys2++rest) (t:=e);have hszx:(old++ys2++rest).size=(len+m)*s'+(cap'-(len+m))*s':=by simp[hr1,<- ho,<- hy2,hl3,hnl,Jz,Vk]
       have m2:=m1.rel.moveTok hk (b:=w.heap.size) (pos:=(len+m)*s') (spare:=cap'-(len+m)) (s:=s') (xs:=old++ys2++rest) (t:=e) ae hszx h.size
        (λi hi=>by simp only[Ctx.pinRow];rw[Kg trivial,Ke aa]) (λa ha=>by have:=h.lt (a:=a) (c:=w.heap.size) ha;omega)
        (λk' e' p q _ he' ht'=>by have:=h.toklt (p:=q.1) (q:=q.2) he' ht';omega)
       refine⟨_,_,_,hrun,⟨m1.le.trans m2.le,m2.rel,?_⟩,?_⟩
       ·have hb:Below O.base w { w with drawn:=w.drawn+1 }:=⟨rfl,rfl,rfl,Kw _,λ_ _=>rfl⟩;exact hb.trans (m1.below.trans m2.below)
       ·refine jes (xs:=old++ys2++rest) (hf rest).1 (hf rest).2 (m1.le.trans m2.le) (λi hi => ?_) ?_
        ·simp only[Ctx.setTok,Ctx.pinRow];rw[Kg trivial,Kg hi]
        ·refine⟨w.heap.size,(len+m)*s',cap'-(len+m),by simp[Ctx.setTok],aa,.inr ⟨?_,Kw _⟩⟩;simp
     ·simp at ha
   ·simp at ha
 ·-- memory of the call's own
  rename_i b off len cap ex;cases hx with
  | hsl _ _ _ _ _ c c' hblk hcc =>
   split at ha
   ·rename_i hfit;split at ha
    ·rename_i hm0;simp at ha;obtain⟨rfl,rfl⟩:=ha;have:=fits len c' (some ⟨c,off,none⟩) w aa (λa' _=>by rw[hys0 hm0];rfl) (λe=>by cases e);rw[hm0]at this;exact⟨O,w,_,this,Moved.refl h,.hsl _ _ _ _ _ c c' hblk hcc⟩
    ·simp only[Kv]at ha;obtain⟨U2,hst,ha⟩:=ha;simp at ha;obtain⟨rfl,rfl⟩:=ha;obtain⟨a,w',e1,hrun,m1⟩:=jf8 h (.ptr b (off+len*s) c hblk) hyr hst (P:=E.P);cases e1;refine⟨O,w',_,fits len c' (some ⟨c,off,none⟩) w' aa (λa' ea => ?_) (λe=>by cases e),m1,.hsl _ _ _ _ _ c c' hblk hcc⟩;cases ea;rw[jaW rfl];exact hrun
   ·rename_i hfit;split at ha
    ·rename_i hl;obtain⟨hex,hl1,hl2⟩:=hl;subst hex;obtain rfl:c'=cap:=hcc.2;simp only[Kv]at ha;obtain⟨oldv,hov,ha⟩:=ha;have hx':VRel O (.hsl b off len c' .exact) (.slice (some ⟨c,off,none⟩) len c'):=.hsl _ _ _ _ _ c c' hblk hcc;obtain⟨old,hold,holdr⟩:=jbm hsw hx' hov (P:=E.P);have hf:=λrest=>jgy (rest:=rest) holdr hyr2
     have ho:=holdr.len;have hy2:=hyr2.len;have hol:=jg0 hov;have hcl:(oldv++new).length=(len+m)*s:=by simp[hol,hnl,Jz]
     obtain⟨cap',hc1,hcm1,rest,hr1,hrun⟩:=grows len c' (some ⟨c,off,none⟩) old hold hfit hl2 hl1;split at ha
     ·simp at ha;obtain⟨rfl,rfl⟩:=ha;obtain⟨O',m1,m2⟩:=jfh h (t:=e) (hf rest).1 (hf rest).2 (len:=len+m) (c:=cap') (s:=s) aa hcm1 (by simp[hr1,<- ho,<- hy2,hol,hnl,Jz,Vk]);exact⟨O',_,_,hrun,m1,m2⟩
     ·simp at ha;obtain⟨rfl,rfl⟩:=ha;obtain⟨O',m1,m2⟩:=jgz h (t:=e) (hf rest).1 (hf rest).2 (len:=len+m) (c:=cap') (s:=s) hcl aa (by simp[hr1,<- ho,<- hy2,hol,hnl,Jz,Vk]);exact⟨O',_,_,hrun,m1,m2⟩
    ·split at ha
     ·rename_i hl;obtain⟨rfl,rfl,hl1,hl2,hall⟩:=hl;split at ha
      ·rename_i cs t0 hb0;split at ha
       ·rename_i hcond;obtain⟨rfl,hlc⟩:=hcond;simp only[Ki,Qg]at ha;obtain⟨rfl,rfl⟩:=ha;obtain⟨ob,g1,g2,g3,g4⟩:=h.at hblk hb0;cases ob<;>simp only[ORel]at g2;rename_i xs t' fr;obtain⟨rfl,rfl,hlx,hrx⟩:=g2
        have hsiz:c'*s<=xs.size:=by
         obtain⟨n2,hs2,hn2⟩:=hcc.2.1;obtain⟨xs2,t2,f2,k1,k2⟩:=h.sizes _ _ hs2;rw[g1]at k1;cases k1;omega
        have hyl:=hyr.len;by_cases hfc:len+m<=c'
        ·have hb1:(len+m)*s<=c'*s:=Jc s hfc;rw[Jz]at hb1;have hrun:=run_storeCells_at (P:=E.P) c (0+len*s) t0 ys.toList 0 xs w g1 (by simp;omega) (jku hyr hall);simp only[Vo]at hrun;have hu:=Upd.setRow (ys:=(xs.toList.take (0+len*s)++ys.toList++xs.toList.drop (0+len*s+ys.toList.length)).toArray) g1;have hsz2:(xs.toList.take (0+len*s)++ys.toList++xs.toList.drop (0+len*s+ys.toList.length)).toArray.size=xs.size:=by simp;omega
         have hor:ORel O (.cells (cs.take (len*s)++new) t0) (.cells (xs.toList.take (0+len*s)++ys.toList++xs.toList.drop (0+len*s+ys.toList.length)).toArray t0 (0,0)) := ?_;have m1:=h.rename (o:=.cells (cs.take (len*s)++new) t0) hu hblk hb0 rfl hor (λxs' t' f' e=>by rw[g1]at e;cases e;exact⟨_,_,_,rfl,hsz2⟩)
         ·refine⟨_,_,_,fits len c' (some ⟨c,0,none⟩) _ hfc (λa' ea => ?_) (λe=>by cases e),m1,.hsl _ _ _ _ _ c c' (by simp[Ctx.push]) ⟨hfc,hcc.2⟩⟩;cases ea;rw[jaW rfl];exact hrun
         ·simp only[ORel];refine⟨trivial,trivial,by simp;omega,λi a b => ?_⟩;simp only[Vm,Kk,Qx,Jm,Xu];simp only[Kk,Qx]at a;have e1:min (len*s) cs.length=len*s:=aa;have e2:min (0+len*s) xs.size=len*s:=aa;by_cases k1:i<len*s
          ·rw[dif_pos aa,dif_pos aa,dif_pos aa];simpa using hrx i aa aa
          ·rw[dif_neg aa,dif_pos aa,dif_neg aa];have:=hyr.rel (i-len*s) aa aa;have e3:min (len*s) xs.size=len*s:=aa;simpa[e1,e2,e3]using this
        ·have hov:jaV U.heap s len (.hsl b 0 len cap (.grow s))=some (cs.take (len*s)):=by
          simp[jaV,hb0,hlc]
         have hx':VRel O (.hsl b 0 len cap (.grow s)) (.slice (some ⟨c,0,none⟩) len c'):=.hsl _ _ _ _ _ c c' hblk hcc;obtain⟨old,hold,holdr⟩:=jbm hsw hx' hov (P:=E.P);have hf:=λrest=>jgy (rest:=rest) holdr hyr2
         have ho:=holdr.len;have hy2:=hyr2.len;have hol:=jg0 hov;obtain⟨cap',hc1,hcm1,rest,hr1,hrun⟩:=grows len c' (some ⟨c,0,none⟩) old hold hfc hl2 hl1;have m0:=h.upd (o:=.dead) (Upd.refl g1) hblk hb0 rfl trivial (λ_ xs' t' f' e=>by rw[g1]at e;cases e;exact⟨_,_,_,rfl,rfl⟩);obtain⟨O',m1,m2⟩:=jfh m0.rel (t:=t0) (hf rest).1 (hf rest).2 (len:=len+m) (c:=cap') (s:=s) aa hcm1 (by simp[hr1,<- ho,<- hy2,hol,hnl,Jz,Vk]);have e:(U.set b .dead).heap.length=U.heap.length:=by simp[S.set]
         rw[e]at m2;exact⟨O',_,_,hrun,m0.trans m1,m2⟩
       ·simp at ha
      ·simp at ha
     ·simp at ha
 ·simp at ha
end
section
variable {O:Ctx}{U:S}{w:World}{E:Env}
theorem jfi {d:Nat}{t:TypeId}{v:V}(h:jcY E d t v=true):∃ud,E.P.underlying t=some ud:=by
 cases d with
 |zero=>simp[jcY]at h
 |succ d =>
  simp only[jcY]at h;cases hu:E.P.underlying t with
  |none=>rw[hu]at h;simp at h
  |some ud=>exact⟨ud,rfl⟩
theorem jet {P:Program}{c:Nat}{xs:Array MapEntry}{clock:Nat}(h:w.heap[c]? = some (.map xs clock)):(getObj c).run P w=.ok (.map xs clock) w:=by
 simp[getObj,Sem.run,h]
theorem jjB {P:Program}{c:Nat}{o:Obj}{xs:Array MapEntry}{clock:Nat}(h:w.heap[c]? = some (.map xs clock)):(setObj c o).run P w=.ok () { w with heap:=w.heap.setIfInBounds c o }:=by
 simp[setObj,Sem.run,h]
theorem jjC(h:WRel O U w){t kt et:TypeId}{b clock:Nat}{kv xv:V}{mv' kv' xv':Value}{es:List (V × V × Nat)}(hu:E.P.underlying t=some (.map kt et))(hm:VRel O (.map b) mv')(hk:VRel O kv kv')(hx:VRel O xv xv')
  (ho:U.heap[b]? = some (.map es clock)) (hc:jcY E 8 kt kv=true) (hf:jcj E kt kv es 0=some none) :
  ∃w',(Instr.mapUpdate t mv' kv' xv').run E.P w=.ok () w'/\Moved O O (U.set b (.map (es++[(kv,xv,clock)]) (clock+1))) w w':=by
 cases hm with
 |map _ c hb =>
 obtain⟨ud,hud⟩:=jfi hc;obtain⟨ob,g1,g2,g3,g4⟩:=h.at hb ho;cases ob<;>simp only[ORel]at g2;rename_i xs clock';obtain⟨rfl,hl,hr⟩:=g2;have hlt:=(Qi.1 g1).1;have her:ERel O es xs.toList:=⟨by simpa using hl,λi a b=>by have:=hr i a (by simpa using b);simpa using this⟩;obtain⟨r',q1,q2,_⟩:=jgi (w:=w) hud hk her hf;rw[q2 rfl]at q1;have hck:=jgY (w:=w) false 8 10000 kt kv kv' aa hk hc;refine⟨_,?_,h.upd (Upd.putObj (ob:=.map (xs.push { key:=kv',val:=xv',born:=clock }) (clock+1)) hlt) hb ho rfl ?_⟩
 ·simp only[Instr.mapUpdate,Sem.run_bind,jag hu,Result.andThen_ok,jet g1,hck,q1,jjB g1]
 ·refine⟨rfl,by simp[hl],λi a b => ?_⟩;simp only[Kk,Qh,Qr]at a;by_cases hi:i<es.length
  ·have:=hr i hi aa;rw[Ur hi,Array.getElem_push_lt aa];exact this
  ·have e:i=es.length:=by omega
   subst e;rw[Up (Kw _)]
   have:(xs.push { key:=kv',val:=xv',born:=clock })[es.length]'b={ key:=kv',val:=xv',born:=clock }:=by
    simp[hl]
   rw[this];simp only[Xn,X8];exact⟨hk,hx,trivial⟩
theorem jjD(h:WRel O U w){t kt et:TypeId}{b clock j:Nat}{kv xv:V}{mv' kv' xv':Value}{es:List (V × V × Nat)}{e:V × V × Nat}(hu:E.P.underlying t=some (.map kt et))(hm:VRel O (.map b) mv')(hk:VRel O kv kv')(hx:VRel O xv xv')
  (ho:U.heap[b]? = some (.map es clock)) (hc:jcY E 8 kt kv=true) (hf:jcj E kt kv es 0=some (some j)) (he:es[j]? = some e) (hs:jhH 8 e.1 kv=true) :
  ∃w',(Instr.mapUpdate t mv' kv' xv').run E.P w=.ok () w'/\Moved O O (U.set b (.map (es.set j (kv,xv,e.2.2)) clock)) w w':=by
 cases hm with
 |map _ c hb =>
 obtain⟨ud,hud⟩:=jfi hc;obtain⟨ob,g1,g2,g3,g4⟩:=h.at hb ho;cases ob<;>simp only[ORel]at g2;rename_i xs clock';obtain⟨rfl,hl,hr⟩:=g2;have hlt:=(Qi.1 g1).1;have her:ERel O es xs.toList:=⟨by simpa using hl,λi a b=>by have:=hr i a (by simpa using b);simpa using this⟩;obtain⟨r',q1,_,q2⟩:=jgi (w:=w) hud hk her hf;obtain⟨hj,e',x,c1,c2,rfl⟩:=q2 j rfl;rw[he]at c1;cases c1;have hj2:j<xs.size:=aa;have hxj:xs[j]? = some x:=by simpa using c2
 have hxe:xs[j]=x:=by simpa[hj2]using hxj
 have hrj:=hr j hj hj2;have hej:es[j]=e:=by simpa[hj]using he
 rw[hej,hxe]at hrj;have hck:=jgY (w:=w) false 8 10000 kt kv kv' aa hk hc;have hsb:=jqI 8 10000 e.1 kv x.key kv' aa hrj.1 hk hs
 have hkts:(Instr.keyThatStays (((xs[j]?).map (·.key)).getD kv') kv').run E.P w=.ok kv' w:=by
  simp[Instr.keyThatStays,hxj,hsb]
 refine⟨_,?_,h.upd (Upd.putObj (ob:=.map (xs.modify j λe=>{ e with key:=kv',val:=xv' }) clock) hlt) hb ho rfl ?_⟩
 ·simp only[Instr.mapUpdate,Sem.run_bind,jag hu,Result.andThen_ok,jet g1,hck,q1,hkts,jjB g1]
 ·refine⟨rfl,by simp[hl],λi a b => ?_⟩;rw[V8]at a;rw[List.getElem_set,Td];by_cases hi:j=i
  ·subst hi;simp only[Kl,hxe];exact⟨hk,hx,hrj.2.2⟩
  ·simp only[hi,Kn];exact hr i a aa
theorem jps(h:WRel O U w){t kt et:TypeId}{b clock:Nat}{kv z:V}{mv' kv':Value}{ok:Bool}{es:List (V × V × Nat)}{r:Option Nat}(hu:E.P.underlying t=some (.map kt et))(hm:VRel O (.map b) mv')(hk:VRel O kv kv')
  (ho:U.heap[b]? = some (.map es clock)) (hc:jcY E 8 kt kv=true) (hf:jcj E kt kv es 0=some r) (hz:jba E et=some z) :
  ∃y,(Instr.lookup t mv' kv' ok).run E.P w=.ok y w/\VRel O (jqA ok es z r) y:=by
 cases hm with
 |map _ c hb =>
 obtain⟨ud,hud⟩:=jfi hc;obtain⟨ob,g1,g2,g3,g4⟩:=h.at hb ho;cases ob<;>simp only[ORel]at g2;rename_i xs clock';obtain⟨rfl,hl,hr⟩:=g2;have her:ERel O es xs.toList:=⟨by simpa using hl,λi a b=>by have:=hr i a (by simpa using b);simpa using this⟩;obtain⟨r',q1,q2,q3⟩:=jgi (w:=w) hud hk her hf;have hck:=jgY (w:=w) xs.isEmpty 8 10000 kt kv kv' aa hk hc;obtain⟨zv,hzv,hzr⟩:=jer (O:=O) (w:=w) hz;cases r with
 | none =>
  have q2:=q2 rfl;subst q2;refine⟨if ok then .tuple #[zv,.bool false]else zv,?_,?_⟩
  ·simp only[Instr.lookup,Sem.run_bind,jag hu,Result.andThen_ok,jet g1,Sem.run_pure,hck,q1,hzv]
  ·cases ok
   ·exact hzr
   ·exact VRel.mkTup (by simpa using LRel.cons hzr (LRel.one (.bool false)))
 | some j =>
  obtain⟨hj,e,x,c1,c2,rfl⟩:=q3 j rfl;have hj2:j<xs.size:=aa
  have hxj:xs[j]=x:=by
   have:xs[j]? = some x:=by simpa using c2
   simpa[hj2]using this
  have hej:es[j]=e:=by simpa[hj]using c1
  have hrj:=hr j hj hj2;rw[hej,hxj]at hrj;refine⟨if ok then .tuple #[x.val,.bool true]else x.val,?_,?_⟩
  ·simp only[Instr.lookup,Sem.run_bind,jag hu,Result.andThen_ok,jet g1,Sem.run_pure,hck,q1]
  ·simp only[jqA,c1,K9,Kr];cases ok
   ·exact hrj.2.1
   ·exact VRel.mkTup (by simpa using LRel.cons hrj.2.1 (LRel.one (.bool true)))
end
section
variable {O:Ctx}{U:S}{w:World}
theorem jil {P:Program}{f:Value->ByteArray->Sem (ForInStep ByteArray)}(hf:∀n s,f (.int .u8 n) s=pure (ForInStep.yield (s.push (UInt8.ofNat n.toNat)))):∀(cs:List V) (l:List UInt8) (xs:List Value) (acc:ByteArray),LRel O cs xs.toArray->jeJ cs=some l ->
  ∃out:ByteArray,(forIn xs acc f).run P w=.ok out w/\out.data.toList=acc.data.toList++l
 | [],l,xs,acc,hr,h=>by
  have:xs=[]:=by have:=hr.len;simpa using this.symm
  subst this;simp[jeJ]at h;subst h;exact⟨acc,ae,ae⟩
 |v::cs,l,[],acc,hr,h=>by have:=hr.len;simp at this
 | v::cs,l,x::xs,acc,hr,h=>by
  have h0:=hr.rel 0 ae ae;simp at h0;have ht:LRel O cs xs.toArray:=LRel.mkList (by have:=hr.len;simpa using this) (λi a b=>by have:=hr.rel (i+1) (by simp;omega) (by simp;omega);simpa only[Xb,Xu]using this);unfold jeJ at h;split at h
  ·rename_i e;simp at e
  ·rename_i n r e;simp only[Ve]at e;obtain⟨rfl,rfl⟩:=e;simp only[Kv]at h;obtain⟨l',hl',rfl⟩:=h;obtain rfl:=h0.int_inv;obtain⟨out,h1,h2⟩:=jil (P:=P) hf _ l' xs (acc.push (UInt8.ofNat n.toNat)) ht hl';refine⟨out,?_,?_⟩
   ·simp only[Vd,hf,Sem.run_bind,Sem.run_pure,Result.andThen_ok,h1]
   ·rw[h2];simp
  ·simp at h
theorem jpt {E:Env}(h:WRel O U w){src dst:TypeId}{us ud:TypeDesc}{a v:V}{x:Value}(hr:VRel O a x)(hu1:E.P.underlying src=some us)(hu2:E.P.underlying dst=some ud)(ha:jib E U.heap us ud a=some v) :
  ∃y,(convert src dst x).run E.P w=.ok y w/\VRel O v y:=by
 unfold jib at ha;split at ha
 ·rename_i t b off;split at ha
  ·rename_i cs e ho;split at ha
   ·rename_i hc;simp only[Ki]at ha;subst ha;cases hr with
    | ptr _ _ c hb =>
     obtain⟨ob,g1,g2,g3,g4⟩:=h.at hb ho;cases ob<;>simp only[ORel]at g2;rename_i xs t' fr;obtain⟨rfl,rfl,hl,hrr⟩:=g2;have hlt:off<xs.size:=aa;have hcell:w.cell? ⟨c,off,none⟩=some xs[off]:=by simp[World.cell?,g1,hlt]
     have hs:(E.P.info? t).map (λi=>decide (i.size=0))=some false:=by
      have:=hc.2;simp only[sz,Option.map_map]at this;exact this
     exact⟨_,run_convert_to_unsafe hu1 hu2 hs hcell,.ptr b off c hb⟩
   ·simp at ha
  ·simp at ha
 ·rename_i u b off;split at ha
  ·rename_i cs e ho;split at ha
   ·rename_i hc;obtain⟨rfl,rfl,hc1,hc2⟩:=hc;simp only[Ki]at ha;subst ha;cases hr with
    | ptr _ _ c hb =>
     obtain⟨ob,g1,g2,g3,g4⟩:=h.at hb ho;cases ob<;>simp only[ORel]at g2;rename_i xs t' fr;obtain⟨rfl,rfl,hl,hrr⟩:=g2;refine⟨_,?_,.ptr b 0 c hb⟩;have hsh:w.shape? c=some (e,xs.size):=by simp[World.shape?,g1]
     have hn:1<=xs.size/E.P.cellsOf e:=(Nat.le_div_iff_mul_le hc1).2 aa
     have hlies:liesAt E.P E.P.depth e (xs.size/E.P.cellsOf e) 0 e 1=true:=by
      have hd:E.P.depth=(2*(E.P.types.size+Made.depth)+1)+1:=rfl;rw[hd];simp only[liesAt,Xe];left;rw[hd];have h0:E.P.cellsOf e ≠ 0:=aa;simp[rowAt,h0,hn,sameLayout]
     have hsz:∃i,E.P.info? e=some i:=by
      unfold Program.cellsOf at hc1;cases hi:E.P.info? e with
      |none=>rw[hi]at hc1;simp at hc1
      |some i=>exact⟨i,rfl⟩
     obtain⟨i,hi⟩:=hsz;simp[convert,Conv.unsafePointer,Conv.seenAt,viewAt,sizeOf,typeInfo,jag hu1,jag hu2,hi,hsh,variablesAt,hlies,Result.andThen]
   ·simp at ha
  ·simp at ha
 ·simp at ha
theorem jmW {E:Env}(h:WRel O U w){ρ:Operand->Option V}{ρ':Operand->Value}(hρ:jlk O ρ ρ')(o:Oper){v:V}(ha:jbh E ρ U o.op=some v) :
  ∃y,(execOp ρ' o).run E.P w=.ok (.value y) w/\VRel O v y:=by
 obtain⟨dst,op,type,pos,after,guard⟩:=o;simp only at ha;cases op<;>simp only[jbh,Ko,reduceCtorEq]at ha
 case load t x =>
  obtain⟨p,hp,ha⟩:=ha;exact jdN rfl (jlo h (hρ _ _ hp) ha)
 case lookup t m k ok =>
  obtain⟨mv,hm,kv,hk,ha⟩:=ha;split at ha
  ·rename_i kt et b hu;split at ha
   ·rename_i es clock ho;split at ha
    ·rename_i hc;simp only[Ko,Kv]at ha;obtain⟨z,hz,r,hf,rfl⟩:=ha;exact jdN rfl (jps h hu (hρ _ _ hm) (hρ _ _ hk) ho hc hf hz)
    ·simp at ha
   ·simp at ha
  ·simp at ha
 case convert src dst x =>
  obtain⟨a,hx,ha⟩:=ha;refine jdN rfl ?_;have hr:=hρ _ _ hx;split at ha
  ·rename_i e hu1 hu2
   have key:∀base len c cs l,E.P.underlying e=some (.int .u8)->(Builtin.firstCells 1 len (.slice (some base) len c)).run E.P w=.ok cs w->LRel O l cs->∀out,jeJ l=some out ->
     ∃y,(convert src dst (.slice (some base) len c)).run E.P w=.ok y w/\VRel O (.str out) y:=by
    intro base len c cs l hu3 h1 h2 out hl;simp only[Builtin.firstCells,Xc]at h1
    have key3:∀f:Value->ByteArray->Sem (ForInStep ByteArray),(∀n s,f (.int .u8 n) s=pure (ForInStep.yield (s.push (UInt8.ofNat n.toNat)))) ->
      ∃y,((Sem.run E.P (forIn cs.toList ByteArray.empty f) w).andThen λa w'=>Sem.run E.P (pure (Value.string a)) w')=.ok y w/\VRel O (.str out) y:=by
     intro f hf;obtain⟨ob,ho1,ho2⟩:=jil (P:=E.P) (w:=w) hf l out cs.toList ByteArray.empty (by simpa using h2) hl;exact⟨.string ob,by rw[ho1];rfl,VRel.mkStr (by simpa using ho2)⟩
    simp only[convert,jag hu1,jag hu2,jag hu3,Conv.bytesToString,Sem.run_bind,Result.andThen_ok,h1,<- Array.forIn_toList];exact key3 _ (λn s=>rfl)
   split at ha
   ·rename_i cells len cap hu3;simp only[Ko,Kv]at ha;obtain⟨cs,hcs,l,hl,rfl⟩:=ha;obtain⟨ys,h1,h2⟩:=jbm h hr hcs (P:=E.P);obtain⟨ad,c,hx',_⟩:=hr.row_inv;rw[hx']at h1 ⊢;exact key ad len c ys cs hu3 h1 h2 l hl
   ·rename_i b off len cap ex hu3;simp only[Ko,Kv]at ha;obtain⟨cs,hcs,l,hl,rfl⟩:=ha;obtain⟨ys,h1,h2⟩:=jbm h hr hcs (P:=E.P);generalize hxe:ρ' x=xv at hr h1 ⊢;cases hr with
    |hsl _ _ _ _ _ c c' hblk hcc=>exact key ⟨c,off,none⟩ len c' ys cs hu3 h1 h2 l hl
   ·rename_i hu3;simp at ha;subst ha;generalize hxe:ρ' x=xv at hr ⊢;cases hr;refine⟨.string ByteArray.empty,?_,VRel.mkStr rfl⟩;simp only[convert,jag hu1,jag hu2,jag hu3,Conv.bytesToString,Sem.run_bind,Result.andThen_ok,Sem.run_pure]
   ·simp at ha
  ·rename_i us ud hne hu1 hu2;exact jpt h hr hu1 hu2 ha
  ·simp at ha
theorem jmX {E:Env}(h:WRel O U w)(e:TypeId)(x:ByteArray):∃cap w' O',(Conv.stringToBytes e x).run E.P w=.ok (.slice (some ⟨w.heap.size,0,none⟩) x.size cap) w'/\Moved O O' U w w' /\
  VRel O' (.row (jdv x.data.toList) x.data.toList.length .unk) (.slice (some ⟨w.heap.size,0,none⟩) x.size cap):=by
 let q:Question:=.appendCap x.size 0 e
 let cap:=q.cut (w.tape w.drawn q)
 have hcap:x.size<=cap:=by show x.size<=x.size+_;omega
 have hch:(choose q).run E.P w=.ok cap { w with drawn:=w.drawn+1 }:=by
  rw[run_choose,show q.forced=false from rfl];rfl
 have hch':(choose (Question.appendCap x.size 0 e)).run E.P w=.ok cap { w with drawn:=w.drawn+1 }:=hch
 let xs:Array Value:=(x.data.map λb=>Value.int .u8 b.toNat)++Array.replicate (cap-x.size) (.int .u8 0)
 have hs:=h.same (w':={ w with drawn:=w.drawn+1 }) rfl;have m:=hs.pinRowF (n:=x.size) (xs:=xs) (t:=e) (xs.size,xs.size+1);have hb:Below O.base w { w with drawn:=w.drawn+1 }:=⟨rfl,rfl,rfl,Kw _,λ_ _=>rfl⟩;have hlen:x.data.toList.length=x.size:=by rw[Jm];rfl
 refine⟨cap,_,_,?_,⟨m.le,m.rel,hb.trans m.below⟩,?_⟩
 ·simp only[Conv.stringToBytes,Sem.run_bind,hch',Result.andThen_ok,newRow,run_newObj,Sem.run_pure,markStringish];simp[shape,World.shape?,freeze,World.freeze,Sem.run];have hsz:x.size+(cap-x.size)=xs.size:=by simp[xs]
  rw[hsz];apply Array.ext ae;intro i h1 h2;rw[Td,Array.getElem_push,Array.getElem_push];by_cases hi:i<w.heap.size
  ·rw[Ke aa];simp[hi]
  ·have:i=w.heap.size:=by simp at h2;omega
   subst this;simp[xs]
 ·refine .row _ _ _ _ _ (λi=>xs[i]!) (λi hi => ?_) (λi hi => ?_) (by simp only[jcs];omega)
  ·have hi2:i<x.size:=by simpa[jdv,hlen]using hi
   have hi3:i<xs.size:=by simp[xs];have:x.data.size=x.size:=rfl;omega
   refine⟨rfl,?_⟩;simp only[Ctx.pinRow,Jk];rw[Kg trivial,Kg hi2];simp[hi3]
  ·have hi2:i<x.size:=by simpa[jdv,hlen]using hi
   have hi4:i<x.data.size:=hi2
   have e1:xs[i]! = .int .u8 (x.data[i]).toNat:=by
    have hi5:i<xs.size:=by simp[xs];have:x.data.size=x.size:=rfl;omega
    rw[show xs[i]! = xs[i] by simp[hi5]];simp only[xs];rw[Uo (by simpa using hi4)];simp
   rw[e1];have e2:(jdv x.data.toList)[i]=.int .u8 (x.data[i]).toNat:=by simp[jdv]
   rw[e2];exact .int _ _
def jwv(P:Program)(s:Sem Next)(w:World)(x:Value)(w':World):Prop:=s.run P w=.ok (.value x) w'\/(s.run P w=.ok .skip w'/\x=undef)
theorem jc1(O:Ctx):VRel O (.tup []) undef:=.tup [] #[] rfl (λi h=>absurd h ae)
theorem jfJ {E:Env}{t e:TypeId}(h:jf1 E t=some e):E.P.underlying t=some (.slice e):=by
 unfold jf1 at h;split at h
 ·simp at h;subst h;assumption
 ·simp at h
theorem jqK {E:Env}(h:WRel O U w){mutb:Bool}{s by':Nat}{t t2 e:TypeId}{kk:IntKind}{ats:Array TypeId}{ty:TypeId}{x y v:V}{xv yv:Value}{U':S}
  (hx:VRel O x xv) (hy:VRel O y yv) (h1:ats[0]? = some t) (hu:E.P.underlying t=some (.slice e)) (hs:sz E e=some s) (hb:bys E e=some by') (h2:ats[1]? = some t2) (hu2:E.P.underlying t2=some (.int kk))
  (ha:jqB E mutb s by' e x y U=some (v,U')):∃O' w' r,(Builtin.append_ ats ty #[xv,yv]).run E.P w=.ok r w'/\Moved O O' U' w w'/\VRel O' v r:=by
 unfold jqB at ha;split at ha
 ·rename_i k2 n;cases hx;obtain rfl:=hy.int_inv;split at ha
  ·rename_i hn;subst hn;simp only[Ki,Qg]at ha;obtain⟨rfl,rfl⟩:=ha
   have hinfo:∃i,E.P.info? e=some i:=by
    unfold sz at hs;cases hi:E.P.info? e with
    |none=>simp[hi]at hs
    |some i=>exact⟨i,rfl⟩
   obtain⟨i,hi⟩:=hinfo;have hti:∀w1:World,(typeInfo e).run E.P w1=.ok i w1:=λw1=>by simp[typeInfo,hi]
   refine⟨O,w,.slice none 0 0,?_,Moved.refl h,.nilsl⟩;have hw0:IntKind.i64.wrap 0=0:=af;simp only[Builtin.append_,h1,Xm,Q9,Q7,Sem.run_bind,jag hu,Result.andThen_ok,jaQ hs,h2,jag hu2,Sem.run_pure,Kl,asInt,asIntOf,hw0];rw[Ke af];simp only[Sem.run_bind,hti,Result.andThen_ok];rw[Ke ae];simp
  ·rename_i hn0;split at ha
   ·rename_i hc;obtain⟨hn,hl1,hl2,hs0⟩:=hc;simp only[Ko]at ha;obtain⟨z,hz,ha⟩:=ha;split at ha
    ·rename_i hzl;obtain⟨zv,_,hzr⟩:=jer (O:=O) (w:=w) hz
     have hzv:∀w1:World,(zeroValue e).run E.P w1=.ok zv w1:=by
      rename_i hz0;intro w1;unfold jba at hz;cases hi:(E.P.info? e).bind (·.zero)with
      |none=>simp[hi]at hz
      | some zv' =>
       have e2:∀w2:World,(zeroValue e).run E.P w2=.ok zv' w2:=λw2=>by
        cases hj:E.P.info? e with
        |none=>simp[hj]at hi
        |some i=>rw[hj]at hi;simp at hi;simp[zeroValue,typeInfo,hj,hi]
       have:=e2 w;rw[hz0]at this;cases this;exact e2 w1
     have hcl:=hzr.cells.len;obtain⟨m,hm⟩:∃m:Nat,n=m:=⟨n.toNat,aa⟩;subst hm;simp only[Qj]at ha;obtain⟨cap',hc1,hcm1,rest,hr1,hrun⟩:=jlr (w:=w) (ats:=ats) (ty:=ty) (kk2:=k2) (n:=m) h1 hu hs h2 hu2 hb hzv aa hs0 aa aa (by exact_mod_cast hl2);have hzz:=jik (O:=O) hzr m (m*s) (by rw[hzl])
     have hze:Builtin.zeroCells zv.cells m=(Array.range (m*s)).map (zv.cells[· % zv.cells.size]!):=by
      unfold Builtin.zeroCells;rw[<- hcl,hzl]
     rw[<- hze]at hzz;have hlen:=hzz.len;have hlen2:(List.replicate m z.cells).flatten.length=m*s:=by simp[hzl]
     have hf1:(List.replicate m z.cells).flatten.length<=(Builtin.zeroCells zv.cells m++rest).size:=by rw[Array.size_append];omega
     have hf2:∀i (hi:i<(List.replicate m z.cells).flatten.length) (hi2:i<(Builtin.zeroCells zv.cells m++rest).size),VRel O (List.replicate m z.cells).flatten[i] (Builtin.zeroCells zv.cells m++rest)[i]:=by
      intro i hi hi2;rw[Uo aa];exact hzz.rel i hi aa
     split at ha
     ·simp only[Ki,Qg]at ha;obtain⟨rfl,rfl⟩:=ha;obtain⟨O',m1,m2⟩:=jfh h (t:=e) hf1 hf2 (len:=m) (c:=cap') (s:=s) hc1 hcm1 (by rw[Array.size_append,hr1,<- hlen,hlen2]);exact⟨O',_,_,hrun,m1,m2⟩
     ·simp only[Ki,Qg]at ha;obtain⟨rfl,rfl⟩:=ha;obtain⟨O',m1,m2⟩:=jgz h (t:=e) hf1 hf2 (len:=m) (c:=cap') (s:=s) hlen2 hc1 (by rw[Array.size_append,hr1,<- hlen,hlen2]);exact⟨O',_,_,hrun,m1,m2⟩
    ·simp at ha
   ·simp at ha
 ·simp at ha
theorem jls {E:Env}(h:WRel O U w){ρ:Operand->Option V}{ρ':Operand->Value}(hρ:jlk O ρ ρ')(o:Oper){mutb:Bool}{v:V}{U':S}(ha:jbG E mutb ρ U o.op=some (v,U')) :
  ∃O' w' y,jwv E.P (execOp ρ' o) w y w'/\Moved O O' U' w w'/\VRel O' v y:=by
 obtain⟨dst,op,type,pos,after,guard⟩:=o;simp only at ha;cases op<;>simp only[jbG,Ko,Kv,reduceCtorEq]at ha
 case alloc t =>
  obtain⟨z,hz,ha⟩:=ha;simp only[Qg]at ha;obtain⟨rfl,rfl⟩:=ha;obtain⟨zv,hzv,hzr⟩:=jer (O:=O) (w:=w) hz;have m:=h.push (o:=.cells z.cells t) (ob:=.cells zv.cells t (0,0)) ⟨rfl,rfl,Vc hzr.cells.len,hzr.cells.rel⟩;refine⟨_,_,_,.inl ?_,m,.ptr _ _ w.heap.size (by simp[Ctx.push])⟩;simp only[execOp,Instr.alloc,Sem.run_bind,hzv,Result.andThen_ok,newVar,newRow,run_newObj,Sem.run_pure]
 case convert src dst x =>
  obtain⟨a,hx,ha⟩:=ha;have hr:=hρ _ _ hx;split at ha
  ·rename_i d1 e s hu1 hu2;split at ha
   ·rename_i hu3;simp only[Ki,Qg]at ha;obtain⟨rfl,rfl⟩:=ha;obtain⟨x1,hx1,hs⟩:=hr.str_inv;obtain⟨cap,w',O',hrun,m,hy⟩:=jmX (E:=E) h e x1;rw[hs]at hy;refine⟨O',w',_,.inl ?_,m,hy⟩
    have hrun2:(convert src dst (.string x1)).run E.P w=.ok (.slice (some ⟨w.heap.size,0,none⟩) x1.size cap) w':=by
     cases d1<;>simp[convert,jag hu1,jag hu2,jag hu3,hrun]
    simp only[execOp,hx1,Sem.run_bind,hrun2,Result.andThen_ok,Sem.run_pure]
   ·simp at ha
  ·rename_i e1 e b off len cap ex hu1 hu2;split at ha
   ·rename_i hsd;split at ha
    ·rename_i cs t hu3 ho;split at ha
     ·rename_i hc;simp only[Ki,Qg]at ha;obtain⟨rfl,rfl⟩:=ha;subst hsd;rw[hu1]at hu2;cases hu2;generalize hxe:ρ' x=xv at hr;cases hr with
      | hsl _ _ _ _ _ c c' hblk hcc =>
       obtain⟨ob,g1,g2,g3,g4⟩:=h.at hblk ho;cases ob<;>simp only[ORel]at g2;rename_i xs t' fr;obtain⟨rfl,rfl,hl,hrr⟩:=g2;have hlt:=(Qi.1 g1).1;have hu:=Upd.putObj (w:=w) (ob:=.cells xs t (xs.size,xs.size+1)) hlt;have m:=h.freezeF hblk ho g1 hu;refine⟨_,_,.slice (some ⟨c,off,none⟩) len c',.inl ?_,m,?_⟩
       ·have hmark:(markStringish ⟨c,off,none⟩).run E.P w=.ok () { w with heap:=w.heap.setIfInBounds c (.cells xs t (xs.size,xs.size+1)) }:=by
         simp[markStringish,shape,World.shape?,g1,freeze,World.freeze,Sem.run];apply Array.ext ae;intro i h1 h2;rw[Td,Array.getElem_setIfInBounds (by simpa using h2)];by_cases hi:c=i
         ·subst hi
          have:w.heap[c]=.cells xs t (0,0):=by
           have:=J6 hlt;rw[this]at g1;simpa using g1
          simp[this]
         ·simp[hi]
        simp[execOp,hxe,convert,jag hu1,jag hu3,hmark]
       ·refine .row _ _ _ _ _ (λi=>xs.getD (off+i) undef) (λi hi=>⟨rfl,?_⟩) (λi hi => ?_) (by show len<=c';omega)
        ·simp only[Qx,Jy]at hi;simp only[Ctx.freeze,Kl,World.cell?,g1];have:off+i<xs.size:=aa;simp[Array.getD,this]
        ·simp only[Qx,Jy]at hi;have h3:off+i<xs.size:=aa;have e:xs.getD (off+i) undef=xs[off+i]:=by simp[Array.getD,h3]
         rw[e,List.getElem_take,List.getElem_drop];exact(hrr (off+i) aa h3).mono m.le
     ·simp at ha
    ·simp at ha
   ·simp at ha
  ·simp at ha
 case makeMap t r =>
  cases r with
  |some _=>simp at ha
  | none =>
   simp only at ha;split at ha
   ·simp only[Ki,Qg]at ha;obtain⟨rfl,rfl⟩:=ha;have m:=h.push (o:=.map [] 0) (ob:=.map #[] 0) ⟨rfl,rfl,λi a=>by simp at a⟩;refine⟨_,_,_,.inl ?_,m,.map _ w.heap.size (by simp[Ctx.push])⟩;simp only[execOp,Instr.makeMap,Te,Sem.run_bind,run_newObj,Result.andThen_ok,Sem.run_pure]
   ·simp at ha
 case insert t m k x =>
  obtain⟨mv,hm,kv,hk,xv,hx,ha⟩:=ha;split at ha
  ·rename_i kt et b hu;split at ha
   ·rename_i es clock ho;split at ha
    ·rename_i hc;split at ha
     ·rename_i hf;simp only[Ki,Qg]at ha;obtain⟨rfl,rfl⟩:=ha;obtain⟨w',hrun,m⟩:=jjC h hu (hρ _ _ hm) (hρ _ _ hk) (hρ _ _ hx) ho hc hf;exact⟨_,w',_,.inr ⟨by simp[execOp,hrun],rfl⟩,m,jc1 _⟩
     ·rename_i j hf;split at ha
      ·rename_i e he;split at ha
       ·rename_i hs;simp only[Ki,Qg]at ha;obtain⟨rfl,rfl⟩:=ha;obtain⟨w',hrun,m⟩:=jjD h hu (hρ _ _ hm) (hρ _ _ hk) (hρ _ _ hx) ho hc hf he hs;exact⟨_,w',_,.inr ⟨by simp[execOp,hrun],rfl⟩,m,jc1 _⟩
       ·simp at ha
      ·simp at ha
     ·simp at ha
    ·simp at ha
   ·simp at ha
  ·simp at ha
 case mapUpdate t m k x =>
  obtain⟨mv,hm,kv,hk,xv,hx,ha⟩:=ha;split at ha
  ·rename_i kt et b hu;split at ha
   ·rename_i es clock ho;split at ha
    ·rename_i hc;split at ha
     ·rename_i hf;simp only[Ki,Qg]at ha;obtain⟨rfl,rfl⟩:=ha;obtain⟨w',hrun,m⟩:=jjC h hu (hρ _ _ hm) (hρ _ _ hk) (hρ _ _ hx) ho hc hf;exact⟨_,w',_,.inr ⟨by simp[execOp,hrun],rfl⟩,m,jc1 _⟩
     ·rename_i j hf;split at ha
      ·rename_i e he;split at ha
       ·rename_i hs;simp only[Ki,Qg]at ha;obtain⟨rfl,rfl⟩:=ha;obtain⟨w',hrun,m⟩:=jjD h hu (hρ _ _ hm) (hρ _ _ hk) (hρ _ _ hx) ho hc hf he hs;exact⟨_,w',_,.inr ⟨by simp[execOp,hrun],rfl⟩,m,jc1 _⟩
       ·simp at ha
      ·simp at ha
     ·simp at ha
    ·simp at ha
   ·simp at ha
  ·simp at ha
 case box t x =>
  obtain⟨u,hu,ha⟩:=ha;simp only[Qg]at ha;obtain⟨rfl,rfl⟩:=ha;have hr:=hρ _ _ hu;have m:=h.push (o:=.cells u.cells t) (ob:=.cells (ρ' x).cells t (0,0)) ⟨rfl,rfl,Vc hr.cells.len,hr.cells.rel⟩;refine⟨_,_,_,.inl ?_,m,.ptr _ _ w.heap.size (by simp[Ctx.push])⟩;simp only[execOp,Instr.box,Sem.run_bind,Result.andThen_ok,newVar,newRow,run_newObj,Sem.run_pure]
 case buildSlice t len parts =>
  obtain⟨ps,hp,e,he,s,hs,z,hz,ha⟩:=ha;have hu:=jfJ he;split at ha
  ·rename_i hlim;simp only[Kv]at ha;obtain⟨cs,hf,ha⟩:=ha
   have hzz:∃zc:Array Value,((len*s=0->zc = #[])/\(len*s ≠ 0->∃zv,(zeroValue e).run E.P w=.ok zv w/\zc=zv.cells))/\LRel O (List.replicate len z.cells).flatten ((Array.range (len*s)).map (zc[· % zc.size]!)):=by
    by_cases h0:len*s=0
    ·rw[Kg h0]at hz;simp at hz;subst hz;refine⟨#[],⟨λ_=>rfl,λh=>absurd h0 h⟩,?_⟩;simp only[V.cells,h0];refine⟨ae,λi a b => ?_⟩;simp at a
    ·rw[Ke h0]at hz;obtain⟨zv,hzv,hzr⟩:=jer (O:=O) (w:=w) hz;refine⟨zv.cells,⟨λh=>absurd h h0,λ_=>⟨zv,hzv,rfl⟩⟩,?_⟩;exact jik hzr len (len*s) (by rw[hlim.2.resolve_right h0])
   obtain⟨zc,hz1,hz2⟩:=hzz;obtain⟨h1,h2⟩:=jgW hρ hp;obtain⟨out,hout,hrel⟩:=joh (O:=O) (qs:=(parts.map λ(x:Nat × Operand)=>(x.1,ρ' x.2)).toList) (by simpa using h1) (λi a b=>by have:=h2 i a (by simpa using b);simpa using this) hz2 hf;have hle:¬(len*s>2^24):=aa
   have hrun:(Instr.buildSlice t len (parts.map λ(x:Nat × Operand)=>(x.1,ρ' x.2))).run E.P w=.ok (.slice (some ⟨w.heap.size,0,none⟩) len len) { w with heap:=w.heap.push (.cells out e (0,0)) }:=by
    simp only[Instr.buildSlice,Sem.run_bind,jag hu,jaQ hs,Result.andThen_ok,Sem.run_ite,Ke hle,Sem.run_pure];by_cases h0:len*s=0
    ·rw[Kg h0];have:=hz1.1 h0;subst this;simp only[hout,Sem.run_bind,newRow,run_newObj,Result.andThen_ok,Sem.run_pure]
    ·rw[Ke h0];obtain⟨zv,hzv,rfl⟩:=hz1.2 h0;simp only[hzv,hout,Sem.run_bind,newRow,run_newObj,Result.andThen_ok,Sem.run_pure]
   generalize (mutb && !E.rowB)=mb at ha;cases mb with
   |true =>
    simp at ha;obtain⟨rfl,rfl⟩:=ha;have m:=h.push (o:=.cells cs e) (ob:=.cells out e (0,0)) ⟨rfl,rfl,Vc hrel.len,hrel.rel⟩;refine⟨_,_,_,.inl ?_,m,.hsl _ _ _ _ _ w.heap.size _ (by simp[Ctx.push]) ⟨Kw _,rfl⟩⟩;simp only[execOp,Sem.run_bind,hrun,Result.andThen_ok,Sem.run_pure]
   |false =>
    simp at ha;obtain⟨rfl,rfl⟩:=ha;have m:=h.pinRow (n:=cs.length) (xs:=out) (t:=e);refine⟨_,_,.slice (some ⟨w.heap.size,0,none⟩) len len,.inl ?_,m,jes (b:=w.heap.size) (xs:=out) (Vc hrel.len) hrel.rel m.le (λi hi=>by simp only[Ctx.pinRow];rw[Kg trivial,Kg hi]) rfl⟩;simp only[execOp,Sem.run_bind,hrun,Result.andThen_ok,Sem.run_pure]
  ·simp at ha
 case makeSlice t l c =>
  obtain⟨lv,hl,cv,hc,e,he,s,hs,by',hb,ha⟩:=ha;have hu:=jfJ he;split at ha
  ·rename_i l' c';split at ha
   ·rename_i hcond;simp only[Ko]at ha;obtain⟨z,hz,ha⟩:=ha;split at ha
    ·rename_i hzl;have hl':=(hρ _ _ hl).int_inv;have hc':=(hρ _ _ hc).int_inv
     have hzz:∃zc:Array Value,((c'.toNat*s=0->zc = #[])/\(c'.toNat*s ≠ 0->∃zv,(zeroValue e).run E.P w=.ok zv w/\zc=zv.cells))/\LRel O (List.replicate c'.toNat z.cells).flatten ((Array.range (c'.toNat*s)).map (zc[· % zc.size]!)):=by
      by_cases h0:c'.toNat*s=0
      ·rw[Kg h0]at hz;simp at hz;subst hz;refine⟨#[],⟨λ_=>rfl,λh=>absurd h0 h⟩,?_⟩;simp only[V.cells,h0];refine⟨ae,λi a b => ?_⟩;simp at a
      ·rw[Ke h0]at hz;obtain⟨zv,hzv,hzr⟩:=jer (O:=O) (w:=w) hz;refine⟨zv.cells,⟨λh=>absurd h h0,λ_=>⟨zv,hzv,rfl⟩⟩,?_⟩;exact jik hzr c'.toNat (c'.toNat*s) (by rw[hzl.resolve_right h0])
     obtain⟨zc,hz1,hz2⟩:=hzz
     have hrun:(execOp ρ' { dst:=dst,op:=.makeSlice t l c,type:=type,pos:=pos,after:=after,guard:=guard }).run E.P w=.ok (.value (.slice (some ⟨w.heap.size,0,none⟩) l'.toNat c'.toNat)) { w with heap:=w.heap.push (.cells ((Array.range (c'.toNat*s)).map (zc[· % zc.size]!)) e (0,0)) }:=by
      have hinfo:∃i,E.P.info? e=some i/\i.bytes=by':=by
       cases hi:E.P.info? e with
       |none=>simp[bys,hi]at hb
       |some i=>simp[bys,hi]at hb;exact⟨i,rfl,hb⟩
      obtain⟨i,hi,hby⟩:=hinfo;have hti:∀w1:World,(typeInfo e).run E.P w1=.ok i w1:=λw1=>by simp[typeInfo,hi]
      have wl:∀n:Int,0<=n->n<=lim->IntKind.i64.wrap n=n:=λn h0 h1=>by
       unfold lim at h1;have e1:n % 18446744073709551616=n:=Ug h0 aa;simp[IntKind.wrap,IntKind.bits,IntKind.signed,e1];omega
      obtain⟨c1,c2,c3,c4⟩:=hcond;simp only[execOp,Instr.makeSlice,hl',hc',asInt,asIntOf,Sem.run_bind,jag hu,Result.andThen_ok,Sem.run_pure,hti,wl l' c1 aa,wl c' aa c3];have hb4:(by':Int)*c'<=lim:=by rw[Int.mul_comm];exact c4
      have hno:(decide (c'<0) ||decide ((i.bytes:Int)*c'>2^48) ||decide (l'<0) ||decide (l'>c'))=false:=by
       rw[hby];unfold lim at hb4;simp;omega
      rw[Ke (by rw[hno];simp)];simp only[Sem.run_bind,run_askRoom,Result.andThen_ok,jaQ hs];by_cases h0:c'.toNat*s=0
      ·rw[Kg h0];have:=hz1.1 h0;subst this;simp only[Sem.run_bind,newRow,run_newObj,Result.andThen_ok,Sem.run_pure]
      ·rw[Ke h0];obtain⟨zv,hzv,rfl⟩:=hz1.2 h0;simp only[hzv,Sem.run_bind,newRow,run_newObj,Result.andThen_ok,Sem.run_pure]
     obtain⟨c1,c2,c3,c4⟩:=hcond
     have hfl:(List.replicate c'.toNat z.cells).flatten.length=c'.toNat*s:=by
      have:=hz2.len;simpa using this
     have hlc:l'.toNat<=c'.toNat:=aa;have hmul:l'.toNat*s<=c'.toNat*s:=Jc _ hlc;split at ha
     ·simp at ha;obtain⟨rfl,rfl⟩:=ha;have m:=h.push (o:=.cells (List.replicate c'.toNat z.cells).flatten e) (ob:=.cells ((Array.range (c'.toNat*s)).map (zc[· % zc.size]!)) e (0,0)) ⟨rfl,rfl,Vc hz2.len,hz2.rel⟩;exact⟨_,_,.slice (some ⟨w.heap.size,0,none⟩) l'.toNat c'.toNat,.inl hrun,m,.hsl _ _ _ _ _ w.heap.size _ (by simp[Ctx.push]) ⟨Kw _,rfl⟩⟩
     ·split at ha
      ·rename_i hlc';simp at ha;obtain⟨rfl,rfl⟩:=ha;subst hlc';have m:=h.pinRow (n:=(List.replicate l'.toNat z.cells).flatten.length) (xs:=(Array.range (l'.toNat*s)).map (zc[· % zc.size]!)) (t:=e);exact⟨_,_,.slice (some ⟨w.heap.size,0,none⟩) l'.toNat l'.toNat,.inl hrun,m,jes (b:=w.heap.size) (Vc hz2.len) hz2.rel m.le (λi hi=>by simp only[Ctx.pinRow];rw[Kg trivial,Kg hi]) rfl⟩
      ·simp at ha;obtain⟨rfl,rfl⟩:=ha
       have htl:((List.replicate c'.toNat z.cells).flatten.take (l'.toNat*s)).length=l'.toNat*s:=by
        rw[Qx,hfl];omega
       have m1:=h.pinRow (n:=l'.toNat*s) (xs:=(Array.range (c'.toNat*s)).map (zc[· % zc.size]!)) (t:=e)
       have m2:=m1.rel.newTok (b:=w.heap.size) (pos:=l'.toNat*s) (spare:=c'.toNat-l'.toNat) (s:=s) (xs:=(Array.range (c'.toNat*s)).map (zc[· % zc.size]!)) (t:=e) ae (by simp;rw[Um];omega) h.size
        (λi hi=>by simp only[Ctx.pinRow];rw[Kg trivial,Ke aa]) (λa ha=>by have:=h.lt (a:=a) (c:=w.heap.size) ha;omega)
        (λk e p q he ht=>by have:=h.toklt (p:=q.1) (q:=q.2) he ht;omega)
       refine⟨_,_,.slice (some ⟨w.heap.size,0,none⟩) l'.toNat c'.toNat,.inl hrun,m1.trans m2,jes (b:=w.heap.size) (xs:=(Array.range (c'.toNat*s)).map (zc[· % zc.size]!)) (by rw[htl];simp;omega) (λi hi hi2 => ?_) (m1.le.trans m2.le) (λi hi => ?_) ?_⟩
       ·rw[List.getElem_take];exact hz2.rel i (by rw[hfl];omega) hi2
       ·simp only[Ctx.setTok,Ctx.pinRow];rw[Kg trivial,Kg aa]
       ·refine⟨w.heap.size,l'.toNat*s,c'.toNat-l'.toNat,by simp[Ctx.setTok],aa,.inr ⟨?_,Kw _⟩⟩;simp
    ·simp at ha
   ·simp at ha
  ·simp at ha
 case store t a x =>
  obtain⟨p,hp,u,hu,s,hs,ha⟩:=ha;split at ha
  ·rename_i hlen;simp only[Kv]at ha;obtain⟨U2,hst,ha⟩:=ha;simp at ha;obtain⟨rfl,rfl⟩:=ha;have hru:=hρ _ _ hu;obtain⟨ad,w',e1,hrun,m⟩:=jf8 h (hρ _ _ hp) hru.cells hst (P:=E.P);refine⟨O,w',undef,.inr ⟨?_,rfl⟩,m,jc1 O⟩;have hn:¬((ρ' x).cells.size ≠ s):=by rw[<- hru.cells.len,hlen];simp
   simp only[execOp,Instr.storeAt,e1,Instr.sureAddr,storeVar,Sem.run_bind,Sem.run_pure,Result.andThen_ok,jaQ hs,Ke hn,hrun]
  ·simp at ha
 case call c =>
  obtain⟨callee,args,argTypes⟩:=c;cases callee<;>simp only[reduceCtorEq]at ha;rename_i b;cases b<;>simp only[reduceCtorEq,Ko]at ha
  case append =>
   obtain⟨vs,hv,ha⟩:=ha;have hl:=jcq hρ hv
   match vs,ha with
   | [x,y],ha =>
    simp only[Ko]at ha;obtain⟨t,ht,e,he,s,hs,by',hb,ha⟩:=ha;have hsz:(args.map ρ').size=2:=by have:=hl.len;simpa using this.symm
    have he2:args.map ρ' = #[(args.map ρ')[0],(args.map ρ')[1]]:=by
     apply Array.ext (by simpa using hsz);intro i a b;have:i=0\/i=1:=by simp at b;omega
     rcases this with rfl|rfl<;>rfl
    have h0:=hl.rel 0 ae aa;have h1:=hl.rel 1 ae aa;split at ha
    ·rename_i t2 ht2;split at ha
     ·rename_i kk hu2;obtain⟨O',w',r,hrun,mv,hr⟩:=jqK (ats:=argTypes) (ty:=type) h h0 h1 ht (jfJ he) hs hb ht2 hu2 ha;refine⟨O',w',r,.inl ?_,mv,hr⟩;simp only[execOp,resolve,invoke,builtin,Sem.run_bind,Sem.run_pure,Result.andThen_ok];rw[he2,hrun];rfl
     ·rename_i d hd hu2;simp only[Ko]at ha;obtain⟨m,hm,new,hn,ha⟩:=ha;split at ha
      ·rename_i hz;obtain⟨O',w',r,hrun,mv,hr⟩:=jmV (ats:=argTypes) (ty:=type) h h0 h1 ht (jfJ he) hs hb hz ht2 hu2 (λk e=>hd k (by rw[e])) hm hn ha;refine⟨O',w',r,.inl ?_,mv,hr⟩;simp only[execOp,resolve,invoke,builtin,Sem.run_bind,Sem.run_pure,Result.andThen_ok];rw[he2,hrun];rfl
      ·simp at ha
     ·simp at ha
    ·simp at ha
  case len =>
   obtain⟨vs,hv,ha⟩:=ha;have hl:=jcq hρ hv
   match vs,ha with
   | [v0],ha =>
    simp only[Ko]at ha;obtain⟨t,ht,ha⟩:=ha;have hsz:(args.map ρ').size=1:=by have:=hl.len;simpa using this.symm
    have he:args.map ρ' = #[(args.map ρ')[0]]:=by
     apply Array.ext (by simpa using hsz);intro i a b;have:i=0:=by simp at b;omega
     subst this;rfl
    have h0:=hl.rel 0 ae aa;simp only[X8]at h0
    have fin:∀r,(Builtin.len_ argTypes type #[(args.map ρ')[0]]).run E.P w=.ok r w->(execOp ρ' { dst:=dst,op:=.call { callee:=.builtin .len,args:=args,argTypes:=argTypes },type:=type,pos:=pos,after:=after,guard:=guard }).run E.P w=.ok (.value r) w:=by
     intro r hrun;simp only[execOp,resolve,invoke,builtin,Sem.run_bind,Sem.run_pure,Result.andThen_ok];rw[he,hrun];rfl
    generalize hx0:(args.map ρ')[0]=x0 at *;split at ha
    ·rename_i hu;simp only[Ki,Qg]at ha;obtain⟨rfl,rfl⟩:=ha;cases h0;exact⟨O,w,_,.inl (fin _ (by simp[Builtin.len_,ht,jag hu,goInt])),Moved.refl h,.int _ _⟩
    ·rename_i b hu;split at ha
     ·rename_i es clock ho;simp only[Ki,Qg]at ha;obtain⟨rfl,rfl⟩:=ha;cases h0 with
      |map _ c hb =>
       obtain⟨ob,g1,g2,_⟩:=h.at hb ho;cases ob<;>simp only[ORel]at g2;rename_i xs clock';refine⟨O,w,.int .i64 xs.size,.inl (fin _ ?_),Moved.refl h,by rw[<- g2.2.1];exact .int _ _⟩;simp[Builtin.len_,ht,jag hu,goInt,jet g1]
     ·simp at ha
    ·simp at ha
end
theorem jcR:∀{cs:List V},V.closed.closedL cs=true->∀i (h:i<cs.length),cs[i].closed=true
 | [],_,i,h=>absurd h ae
 |v::r,hc,i,h=>by
  simp only[V.closed.closedL,Qt]at hc;cases i with
  |zero=>exact hc.1
  |succ i=>exact jcR hc.2 i (by simpa using h)
theorem jf9 {cs:List V}(hc:cs.all V.closed=true)(i:Nat)(h:i<cs.length):cs[i].closed=true :=
 Qq.1 hc _ (J7 h)
theorem VRel.of_closed {O O':Ctx}(hp:∀b i x,O.pin b i=some x->O'.pin b i=some x){v:V}{x:Value}(h:VRel O v x):v.closed=true->VRel O' v x:=by
 induction h with
 |bool b=>intro _;exact .bool b
 |int k n=>intro _;exact .int k n
 |str x=>intro _;exact .str x
 |ptr b off c h=>intro hc;simp[V.closed]at hc
 |nilptr=>intro _;exact .nilptr
 |rptr cells a xs hq hr ih =>
  intro hc;simp only[V.closed]at hc;exact .rptr cells a xs (λi h=>⟨(hq i h).1,hp _ _ _ (hq i h).2⟩) (λi h=>ih i h (jcR hc i h))
 |hsl b off len cap ex c c' h hcc=>intro hc;simp[V.closed]at hc
 |row cells len cap a c xs hq hr hcap ih =>
  intro hc;simp only[V.closed,Qt]at hc;refine .row cells len cap a c xs (λi h=>⟨(hq i h).1,hp _ _ _ (hq i h).2⟩) (λi h=>ih i h (jcR hc.2 i h)) ?_;cases cap with
  |full=>exact hcap
  |unk=>exact hcap
  |tok k e s=>simp at hc
 |nilsl=>intro _;exact .nilsl
 |func f fs cs xs ys hx hxr hy hyr ih1 ih2 =>
  intro hc;simp only[V.closed,Qt]at hc;exact .func f fs cs xs ys hx (λi h h2=>ih1 i h h2 (jcR hc.1 i h)) hy (λi h h2=>ih2 i h h2 (jcR hc.2 i h))
 |yld l c h=>intro hc;simp[V.closed]at hc
 |any x h=>intro _;exact .any x h
 |nilfn=>intro _;exact .nilfn
 |iface t v x h ih=>intro hc;simp only[V.closed]at hc;exact .iface t v x (ih hc)
 |nilif=>intro _;exact .nilif
 |agg cs xs hl hr ih=>intro hc;simp only[V.closed]at hc;exact .agg cs xs hl (λi h h2=>ih i h h2 (jcR hc i h))
 |tup cs xs hl hr ih=>intro hc;simp only[V.closed]at hc;exact .tup cs xs hl (λi h h2=>ih i h h2 (jcR hc i h))
 |nilmap=>intro _;exact .nilmap
 |map b c h=>intro hc;simp[V.closed]at hc
 |meth t v x h ih=>intro hc;simp only[V.closed]at hc;exact .meth t v x (ih hc)
def Ctx.own(O:Ctx)(n:Nat):Ctx:={ base:=n,blk:=λ_=>none,pin:=O.pin,tok:=λ_ _=>none,siz:=λ_=>none }
theorem WRel.own {O:Ctx}{U:S}{w:World}(h:WRel O U w):WRel (O.own w.heap.size) S.empty w :=
  ⟨Kw _,h.pins,λa o ho=>by simp[S.empty]at ho,λa c hc=>by simp[Ctx.own]at hc,λa a' c hc=>by simp[Ctx.own]at hc,
   λk e he=>by simp[S.empty]at he,λk e x hx=>by simp[Ctx.own]at hx,λk k' e e' b p q he=>by simp[S.empty]at he,λc n hc=>by simp[Ctx.own]at hc⟩
def Ctx.after(O:Ctx)(n:Nat)(w':World):Ctx:={ O with pin:=λc i=>if c<n then O.pin c i else w'.cell? ⟨c,i,none⟩ }
theorem WRel.after {O:Ctx}{U:S}{w w':World}(h:WRel O U w)(hb:Below w.heap.size w w'):Moved O (O.after w.heap.size w') U w w':=by
 have hle:O.le (O.after w.heap.size w'):=by
  refine⟨rfl,λ_ _ h=>h,λb i x hx => ?_,λ_ _ _ h=>h,λb i x hx => ?_,λ_ _ h=>h⟩
  ·have:=jdl (h.pins _ _ _ hx);simp only[Ctx.after];rw[Kg this];exact hx
  ·simp only[Ctx.after]at hx;split at hx
   ·exact .inl hx
   ·have:=h.size;exact .inr aa
 have hh:∀k,k<w.heap.size->w'.heap[k]? = w.heap[k]? := hb.block
 have hsz:∀c n,O.siz c=some n->∃xs t f,w'.heap[c]? = some (.cells xs t f)/\xs.size=n:=by
  intro c n hc;obtain⟨xs,t,f,h1,h2⟩:=h.sizes c n hc;exact⟨xs,t,f,by rw[hh c (Qi.1 h1).1];exact h1,h2⟩
 refine⟨hle,⟨?_,?_,?_,h.dom,h.inj,?_,h.tokdom,h.tokinj,hsz⟩,hb.mono h.size⟩
 ·have:=h.size;have:=hb.size;simp[Ctx.after];omega
 ·intro b i x hx;simp only[Ctx.after]at hx;split at hx
  ·rw[jcd (hh b ‹_›)];exact h.pins b i x hx
  ·exact hx
 ·intro a o ho
  rcases h.live a o ho with hrv|⟨c,ob,h1,h2,h3,h4,h5⟩
  ·exact .inl hrv
  have hlt:=(Qi.1 h2).1;refine .inr ⟨c,ob,h1,by rw[hh c hlt];exact h2,h3.mono hle,h4,λhr i => ?_⟩;simp only[Ctx.after];rw[Kg hlt];exact h5 hr i
 ·intro k e he;obtain⟨b,pos,spare,s,t,xs,h1,h2,h3,h4,h5,h6⟩:=h.toks k e he;have hlt:=(Qi.1 h2).1;refine⟨b,pos,spare,s,t,xs,h1,by rw[hh b hlt];exact h2,h3,h4,λi hi => ?_,h6⟩;simp only[Ctx.after];rw[Kg hlt];exact h5 i hi
theorem jb4:∀cs:List V,(V.weak.weakL cs).length=cs.length
 | []=>rfl
 |v::r=>by simp only[V.weak.weakL,Qh,jb4 r]
theorem jlt:∀cs:List V,V.weak.weakL cs=cs.map V.weak
 | []=>rfl
 |v::r=>by simp only[V.weak.weakL,K6,jlt r]
theorem jeu {cs:List V}{i:Nat}(h:i<(V.weak.weakL cs).length)(h2:i<cs.length):(V.weak.weakL cs)[i]=cs[i].weak:=by
 simp only[jlt,U5]
theorem jcs.weak {O:Ctx}{cap:RCap}{a:Addr}{len c:Nat}(h:jcs O cap a len c):jcs O cap.weak a len c:=by
 cases cap with
 |full=>exact h
 |unk=>exact h
 |tok k e s=>obtain⟨b,pos,spare,h1,h2,h3⟩:=h;show len<=c;omega
theorem VRel.weak {O:Ctx}{v:V}{x:Value}(h:VRel O v x):VRel O v.weak x:=by
 induction h with
 |bool b=>exact .bool b
 |int k n=>exact .int k n
 |str x=>exact .str x
 |ptr b off c h=>exact .ptr b off c h
 |nilptr=>exact .nilptr
 |rptr cells a xs hp hr ih =>
  exact .rptr _ a xs (λi h=>hp i (by rw[jb4]at h;exact h)) (λi h=>by rw[jeu h (by rw[jb4]at h;exact h)];exact ih i _)
 |hsl b off len cap ex c c' h hc=>exact .hsl b off len cap ex c c' h hc
 |row cells len cap a c xs hp hr hc ih =>
  exact .row _ len _ a c xs (λi h=>hp i (by rw[jb4]at h;exact h)) (λi h=>by rw[jeu h (by rw[jb4]at h;exact h)];exact ih i _) hc.weak
 |nilsl=>exact .nilsl
 | func f fs cs xs ys hx hxr hy hyr ih1 ih2 =>
  exact .func f _ _ xs ys (by rw[jb4];exact hx) (λi h h2=>by rw[jeu h (by rw[jb4]at h;exact h)];exact ih1 i _ h2)
   (by rw[jb4];exact hy) (λi h h2=>by rw[jeu h (by rw[jb4]at h;exact h)];exact ih2 i _ h2)
 |yld l c h=>exact .yld l c h
 |nilfn=>exact .nilfn
 |iface t v x h ih=>exact .iface t _ x ih
 |nilif=>exact .nilif
 |agg cs xs hl hr ih=>exact .agg _ xs (by rw[jb4];exact hl) (λi h h2=>by rw[jeu h (by rw[jb4]at h;exact h)];exact ih i _ h2)
 |tup cs xs hl hr ih=>exact .tup _ xs (by rw[jb4];exact hl) (λi h h2=>by rw[jeu h (by rw[jb4]at h;exact h)];exact ih i _ h2)
 |nilmap=>exact .nilmap
 |map b c h=>exact .map b c h
 |meth t v x h ih=>exact .meth t _ x ih
 |any x h=>exact .any x h
theorem LRel.wargs {O:Ctx}{args:List V}{xs:Array Value}(h:LRel O args xs):LRel O (wargs args) xs:=by
 unfold Go.Ab.wargs;split
 ·exact h
 ·exact⟨by rw[Qw];exact h.len,λi a b=>by rw[U5];exact(h.rel i (by simpa using a) b).weak⟩
theorem jdw {f:V->Option V}:∀{cs out:List V},cs.mapM f=some out->out.length=cs.length/\∀i (h:i<cs.length) (h2:i<out.length),f cs[i]=some out[i]
 | [],out,h=>by simp at h;subst h;simp
 |v::cs,out,h=>by
  simp only[Xx,Option.bind_eq_bind,Ko,Option.pure_def,Ki]at h;obtain⟨u,hu,us,hus,rfl⟩:=h;obtain⟨h1,h2⟩:=jdw hus;refine⟨by simp[h1],λi a b => ?_⟩;cases i with
  |zero=>exact hu
  |succ i=>exact h2 i (by simpa using a) (by simpa using b)
theorem joi {O O':Ctx}{U':S}{w w':World}(hpin:∀b i x,O.pin b i=some x->b<w.heap.size)(hm:Moved (O.own w.heap.size) O' U' w w') :
  ∀(d:Nat) {v v':V} {x:Value},VRel O' v x->jaK U'.heap d v=some v'->VRel (O.after w.heap.size w') v' x:=by
 have hp:∀b i x,O'.pin b i=some x->(O.after w.heap.size w').pin b i=some x:=by
  intro b i x hx;simp only[Ctx.after]
  rcases hm.le.newpin b i x hx with h1|h1
  ·have:=hpin b i x h1;rw[Kg this];exact h1
  ·have h1':w.heap.size<=b:=h1;rw[Ke aa];exact hm.rel.pins b i x hx
 intro d
 induction d with
 |zero=>intro v v' x h hs;simp[jaK]at hs
 | succ d ih =>
  intro v v' x h hs;cases h with
  | row cells len cap a c xs hq hr hcap =>
   simp only[jaK,Kv]at hs;obtain⟨cs,hcs,rfl⟩:=hs;obtain⟨h1,h2⟩:=jdw hcs
   have hlc:len<=c:=by
    obtain⟨_,_,e,_,h3⟩:=(VRel.row cells len cap a c xs hq hr hcap:VRel O' _ _).row_inv;cases e;exact h3
   exact .row _ _ _ a c xs (λi hi=>⟨(hq i aa).1,hp _ _ _ (hq i aa).2⟩) (λi hi=>ih (hr i aa) (h2 i aa hi)) hlc
  | hsl b off len cap ex c c' hblk hcc =>
   simp only[jaK]at hs;split at hs
   ·rename_i cs t hb;split at hs
    ·rename_i hlen;simp only[Kv]at hs;obtain⟨cs',hcs,rfl⟩:=hs;obtain⟨h1,h2⟩:=jdw hcs;obtain⟨ob,g1,g2,g3,g4⟩:=hm.rel.at hblk hb;cases ob<;>simp only[ORel]at g2;rename_i xs t' fr;obtain⟨rfl,rfl,hl,hr⟩:=g2;have hbase:w.heap.size<=c:=by rw[hm.le.base]at g3;exact g3
     simp only[Jy]at h1;refine .row _ _ _ ⟨c,off,none⟩ c' (λi=>xs.getD (off+i) undef) (λi hi=>⟨rfl,?_⟩) (λi hi => ?_) ?_
     ·simp only[Ctx.after];rw[Ke aa,World.cell?,g1];have:off+i<xs.size:=aa;simp[Array.getD,this]
     ·have h3:off+i<xs.size:=by omega
      have e:xs.getD (off+i) undef=xs[off+i]:=by simp[Array.getD,h3]
      rw[e];refine ih (hr (off+i) aa h3) ?_;have:=h2 i (by simp;omega) hi;simpa using this
     ·simp only[jcs];omega
    ·simp at hs
   ·simp at hs
  |tup cs xs hl hr =>
   simp only[jaK,Kv]at hs;obtain⟨cs',hcs,rfl⟩:=hs;obtain⟨h1,h2⟩:=jdw hcs;exact .tup _ _ aa (λi hi hi2=>ih (hr i aa hi2) (h2 i aa hi))
  |agg cs xs hl hr =>
   simp only[jaK,Kv]at hs;obtain⟨cs',hcs,rfl⟩:=hs;obtain⟨h1,h2⟩:=jdw hcs;exact .agg _ _ aa (λi hi hi2=>ih (hr i aa hi2) (h2 i aa hi))
  |iface t u x h =>
   simp only[jaK,Kv]at hs;obtain⟨u',hu,rfl⟩:=hs;exact .iface _ _ _ (ih h hu)
  |bool b=>simp[jaK,V.closed]at hs;subst hs;exact .bool _
  |int k n=>simp[jaK,V.closed]at hs;subst hs;exact .int _ _
  |str x=>simp[jaK,V.closed]at hs;subst hs;exact .str _
  |ptr b off c h=>simp[jaK,V.closed]at hs;subst hs;exact .any _ rfl
  |any x h=>simp[jaK,V.closed]at hs;subst hs;exact .any x h
  |nilptr=>simp[jaK,V.closed]at hs;subst hs;exact .nilptr
  |rptr cells a xs hq hr =>
   have h0:VRel O' (.rptr cells) (.pointer (some a)):=.rptr cells a xs hq hr;simp only[jaK,Ki]at hs;split at hs
   ·subst hs;exact h0.of_closed hp ‹_›
   ·subst hs;exact .any _ rfl
  |nilsl=>simp[jaK,V.closed]at hs;subst hs;exact .nilsl
  |func f fs cs xs ys a b c e =>
   have h0:VRel O' (.func f fs cs) _:=.func f fs cs xs ys a b c e;simp only[jaK,Ki]at hs;split at hs
   ·subst hs;exact h0.of_closed hp ‹_›
   ·subst hs;exact .any _ rfl
  |yld l c h=>simp[jaK,V.closed]at hs;subst hs;exact .any _ rfl
  |nilfn=>simp[jaK,V.closed]at hs;subst hs;exact .nilfn
  |nilif=>simp[jaK,V.closed]at hs;subst hs;exact .nilif
  |nilmap=>simp[jaK,V.closed]at hs;subst hs;exact .nilmap
  |map b c h=>simp[jaK,V.closed]at hs;subst hs;exact .any _ rfl
  |meth n v x a =>
   have h0:VRel O' (.meth n v) _:=.meth n v x a;simp only[jaK,Ki]at hs;split at hs
   ·subst hs;exact h0.of_closed hp ‹_›
   ·subst hs;exact .any _ rfl
def DRel(O:Ctx):List DE->List Deferred->Prop
 | [],[]=>True
 | .mark a::r,d::s=>(∃c,O.blk a=some c/\d={ target:=.collected c,args := #[] })/\DRel O r s
 |_,_=>False
theorem DRel.mono {O O':Ctx}(hle:O.le O'):∀{l:List DE} {d:List Deferred},DRel O l d->DRel O' l d
 | [],[],_=>trivial
 | [],_::_,h=>h.elim
 | .mark _::_,[],h=>h.elim
 | .mark _::_,_::_,⟨⟨c,h1,h2⟩,h3⟩=>⟨⟨c,hle.blk _ _ h1,h2⟩,h3.mono hle⟩
def RRel(O:Ctx)(rnd:Option Nat)(ro:Option Nat):Prop :=
 match rnd with
 |none=>ro=none
 |some l=>∃c,ro=some c/\O.blk l=some c
theorem RRel.mono {O O':Ctx}(hle:O.le O'){a b:Option Nat}(h:RRel O a b):RRel O' a b:=by
 cases a with
 |none=>exact h
 |some l=>obtain⟨c,h1,h2⟩:=h;exact⟨c,h1,hle.blk _ _ h2⟩
def GOK(E:Env)(O:Ctx):Prop:=∀g v,E.gl g=some v->VRel O v (.pointer (some ⟨g,0,none⟩))
theorem GOK.mono {E:Env}{O O':Ctx}(hle:O.le O')(h:GOK E O):GOK E O':=λg v hv=>(h g v hv).mono hle
def joj(P:Program)(f:FuncId)(xs:Array Value)(w:World)(y:Value)(w':World):Prop :=
 (callFunc f xs).run P w=.ok (.value y) w' \/
 ((callFunc f xs).run P w=.ok (.enter f xs) w/\∀cs,∃fr,Steps P (lone (Frame.enter P f xs .normal) cs w) (lone fr cs w')/\fr.leaving P w' (.returned y))
structure Env.Ok (E:Env):Prop where
 mixed:E.P.follows .mixedOrders=true
 glc:∀g v,E.gl g=some v->v.closed=true
 hook:∀f g,E.hook f=some g->∀args v,g args=some v->∀O U w xs,WRel O U w->GOK E O->LRel O args xs->∃O' w' y,Moved O O' U w w'/\VRel O' v y/\joj E.P f xs w y w'
theorem GOK.own {E:Env}(hE:E.Ok){O:Ctx}{n:Nat}(h:GOK E O):GOK E (O.own n) :=
 λg v hv=>VRel.of_closed (O:=O) (O':=O.own n) (λ_ _ _ h=>h) (h g v hv) (hE.glc g v hv)
def ArrL(P:Program)(m:Machine)(b:Frame)(k:List Item)(cs:List Frame)(ex:Ex)(a:Act)(w:World):Prop :=
 match ex with
 | .normal=>False
 | .exit id=>∃k1,exitTo id k1=exitTo id k/\Steps P m (lone (b.atR a (.code (.exit id)::k1)) cs w)
 | .ret=>∃k1,Steps P m (lone (b.atR a (.code .ret::k1)) cs w)
def jfj(E:Env)(t:Task)(r:Res):Prop :=
 match t with
 | .call f args U=>∀v,r=⟨.ret,[v],[],r.st⟩->∀O w xs,WRel O U w->GOK E O->LRel O args xs->∃O' w' y,Moved O O' r.st w w'/\VRel O' v y /\
   (callFunc f xs).run E.P w=.ok (.enter f xs) w/\∀cs,∃fr,Steps E.P (lone (Frame.enter E.P f xs .normal) cs w) (lone fr cs w')/\fr.fn=f/\fr.leaving E.P w' (.returned y)
 | .round l args U=>∀v,r=⟨.ret,[v],[],r.st⟩->∀O w xs,WRel O U w->GOK E O->LRel O args xs->∃O' w' y lc f tmps asg body,Moved O O' r.st w w'/\VRel O' v y/\O.blk l=some lc /\
   (Instr.yield lc xs).run E.P w=.ok (.round lc f tmps asg body) w/\∀c cs,Steps E.P (lone (Frame.round lc f tmps asg body .normal) (c::cs) w) (lone (c.finish y) cs w')
 | .loop fn rnd c tmps dfs U=>∀O w (a:Act) (b:Frame),WRel O U w->GOK E O->LRel O tmps a.tmps->DRel O dfs a.defers->b.fn=fn->RRel O rnd b.roundOf->∃O' w' a',Moved O O' r.st w w'/\LRel O' r.vals a'.tmps/\DRel O' r.dfs a'.defers /\
   ∀k cs,ArrL E.P (lone (b.atR a (.code c::.inLoop c::k)) cs w) b k cs r.ex a' w'
section
variable {E:Env}{O:Ctx}{U:S}{w:World}
theorem jgA(hg:GOK E O){tmps:List V}{a:Act}(h:LRel O tmps a.tmps):jlk O (jbv E tmps) a.eval:=by
 intro x v hx;cases x<;>simp only[jbv]at hx
 case tmp t=>simp at hx;subst hx;exact h.getD t
 case const c=>exact jie hx
 case global g=>exact hg g v hx
 case func f=>simp at hx;subst hx;exact .func f [] [] #[] #[] rfl (λi h=>absurd h ae) rfl (λi h=>absurd h ae)
theorem jfk(hE:E.Ok){rec:Task->Option Res}(hrec:∀t r,rec t=some r->jfj E t r){f:FuncId}{args:List V}{v:V}{U':S}(h:jah E rec f args U=some (v,U'))
  (hw:WRel O U w) (hg:GOK E O) {xs:Array Value} (hx:LRel O args xs):∃O' w' y,Moved O O' U' w w'/\VRel O' v y/\joj E.P f xs w y w':=by
 unfold jah at h;split at h
 ·rename_i g hh;simp only[Kv,Qg]at h;obtain⟨v',hv,rfl,rfl⟩:=h;exact hE.hook f g hh args v' hv O U w xs hw hg hx
 ·split at h
  ·split at h
   ·rename_i hcl;split at h
    ·rename_i v0 U0 hr;simp only[Kv,Qg]at h;obtain⟨v',hs,rfl,rfl⟩:=h;have hx':LRel (O.own w.heap.size) (wargs args) xs:=⟨hx.wargs.len,λi a b=>VRel.of_closed (O:=O) (O':=O.own w.heap.size) (λ_ _ _ h=>h) (hx.wargs.rel i a b) (jf9 hcl i a)⟩;obtain⟨O',w',y,m,hy,h1,h2⟩:=hrec _ _ hr v0 rfl (O.own w.heap.size) w xs hw.own (hg.own hE) hx';have hpin:∀b i x,O.pin b i=some x->b<w.heap.size:=λb i x hp=>jdl (hw.pins b i x hp)
     exact⟨_,w',y,hw.after m.below,joi hpin m _ hy hs,.inr ⟨h1,λcs=>let⟨fr,a,_,b⟩:=h2 cs;⟨fr,a,b⟩⟩⟩
    ·simp at h
   ·simp at h
  ·split at h
   ·rename_i v0 U0 hr;simp only[Ki,Qg]at h;obtain⟨rfl,rfl⟩:=h;obtain⟨O',w',y,m,hy,h1,h2⟩:=hrec _ _ hr v0 rfl O w xs hw hg hx;exact⟨O',w',y,m,hy,.inr ⟨h1,λcs=>let⟨fr,a,_,b⟩:=h2 cs;⟨fr,a,b⟩⟩⟩
   ·simp at h
theorem jdm {P:Program}{b:Frame}{a:Act}{k:List Item}{cs:List Frame}{w w':World}{ops:Array Oper}{i:Nat}{rest:List Nat}{o:Oper}{y:Value}
  (ho:ops[i]? = some o) (hw:Region.wanted o (yielded ops a.tmps)=true) (hd:∀c,o.op ≠ .defer c) (h:jwv P (execOp a.eval o) w y w') :
  step P (lone (b.atR a (.inRegion ops (i::rest)::k)) cs w)=.next (lone (b.atR (a.put o.dst y) (.inRegion ops rest::k)) cs w'):=by
 have hg:=stepGR_op (P:=P) (b:=b) (a:=a) (k:=k) (cs:=cs) (w:=w) (rest:=rest) ho hw;rw[Oper.semAt_eq _ _ _ hd]at hg
 have hfin:∀v,(b.atR a (.inRegion ops (i::rest)::k)).finish v=b.atR (a.put o.dst v) (.inRegion ops rest::k):=by
  intro v;rw[Frame.finish_atR,ho];rfl
 rcases h with h|⟨h,rfl⟩
 ·refine step_lone_go ?_;rw[hg,<- hfin];simp[stepG.apply,h]
 ·refine step_lone_go ?_;rw[hg,<- hfin];simp[stepG.apply,h]
theorem jim {P:Program}{b:Frame}{a:Act}{k:List Item}{cs:List Frame}{w w1:World}{ops:Array Oper}{i:Nat}{rest:List Nat}{o:Oper}{f:FuncId}{xs:Array Value}
  (ho:ops[i]? = some o) (hw:Region.wanted o (yielded ops a.tmps)=true) (hd:∀c,o.op ≠ .defer c) (h:(execOp a.eval o).run P w=.ok (.enter f xs) w1) :
  step P (lone (b.atR a (.inRegion ops (i::rest)::k)) cs w)=.next (lone (Frame.enter P f xs .normal) (b.atR a (.inRegion ops (i::rest)::k)::cs) w1):=by
 have hg:=stepGR_op (P:=P) (b:=b) (a:=a) (k:=k) (cs:=cs) (w:=w) (rest:=rest) ho hw;rw[Oper.semAt_eq _ _ _ hd]at hg;refine step_lone_go ?_;rw[hg];simp[stepG.apply,h,Frame.atR]
theorem jmY {P:Program}{b:Frame}{a:Act}{k:List Item}{cs:List Frame}{w w1:World}{ops:Array Oper}{i:Nat}{rest:List Nat}{o:Oper}{l f:Nat}{tmps:Array Value}{asg body:Code}
  (ho:ops[i]? = some o) (hw:Region.wanted o (yielded ops a.tmps)=true) (hd:∀c,o.op ≠ .defer c) (h:(execOp a.eval o).run P w=.ok (.round l f tmps asg body) w1) :
  step P (lone (b.atR a (.inRegion ops (i::rest)::k)) cs w)=.next (lone (Frame.round l f tmps asg body .normal) (b.atR a (.inRegion ops (i::rest)::k)::cs) w1):=by
 have hg:=stepGR_op (P:=P) (b:=b) (a:=a) (k:=k) (cs:=cs) (w:=w) (rest:=rest) ho hw;rw[Oper.semAt_eq _ _ _ hd]at hg;refine step_lone_go ?_;rw[hg];simp[stepG.apply,h]
theorem jmZ {P:Program}:(program).run P w=.ok P w:=rfl
theorem jqL {v:V}{x:Value}{name:String}{f:FuncId}{r:V}(hx:VRel O v x)(h:jgV E v name=some (f,r)) :
  ∃t x',x=.iface t x'/\(∀n,(method (n+Made.depth) t x' name).run E.P w=.ok (f,x') w)/\VRel O r x':=by
 unfold jgV at h;cases v<;>simp only[reduceCtorEq]at h;rename_i t u;cases hx with
 | iface _ _ x' hx' =>
  simp only[Ko]at h;obtain⟨m,⟨i,hi,hf⟩,h⟩:=h;split at h
  ·rename_i hp;have hp2:m.path.toList=[]:=by simpa using hp
   have hti:(typeInfo t).run E.P w=.ok i w:=by simp[typeInfo,hi]
   refine⟨t,x',rfl,?_,?_⟩
   ·intro n;have hd:∃k,n+Made.depth=k+1:=⟨n+Made.depth-1,by unfold Made.depth;omega⟩;obtain⟨k,hk⟩:=hd;rw[hk];split at h
    ·rename_i g e hm hu;simp only[Ki,Qg]at h;obtain⟨rfl,rfl⟩:=h;simp[method,hti,hf,hp2,follow,hm,receiverAt,jag hu,Place.get]
    ·simp at h
    ·rename_i g d hd hm hu;simp only[Ki,Qg]at h;obtain⟨rfl,rfl⟩:=h;simp only[method,Sem.run_bind,hti,Result.andThen_ok,hf,hp2,follow,Sem.run_pure,hm,receiverAt,jag hu];cases d<;>first|exact absurd hu (hd _)|simp[Place.get]
    ·simp at h
   ·split at h
    ·simp only[Ki,Qg]at h;obtain⟨rfl,rfl⟩:=h;exact hx'
    ·simp at h
    ·simp only[Ki,Qg]at h;obtain⟨rfl,rfl⟩:=h;exact hx'
    ·simp at h
  ·simp at h
theorem jin(hE:E.Ok){rec:Task->Option Res}(hrec:∀t r,rec t=some r->jfj E t r){mutb:Bool}{tmps:List V}{o:Oper}{v:V}{U':S}(h:opV E rec mutb tmps U o.op=some (v,U'))
  (hw:WRel O U w) (hg:GOK E O) {a:Act} (hx:LRel O tmps a.tmps) {b:Frame} {ops:Array Oper} {i:Nat} {rest:List Nat} (ho:ops[i]? = some o) (hwant:Region.wanted o (yielded ops a.tmps)=true) :
  ∃O' w' y,Moved O O' U' w w'/\VRel O' v y/\∀k cs,Steps E.P (lone (b.atR a (.inRegion ops (i::rest)::k)) cs w) (lone (b.atR (a.put o.dst y) (.inRegion ops rest::k)) cs w'):=by
 have hρ:=jgA hg hx;unfold opV at h;split at h
 ·rename_i v0 hp;simp only[Ki,Qg]at h;obtain⟨rfl,rfl⟩:=h;obtain⟨y,hy,hr⟩:=jmT (w:=w) hρ o hp;refine⟨O,w,y,Moved.refl hw,hr,λk cs=>.one (jdm ho hwant ?_ (.inl hy))⟩;intro c hc;simp[hc,jbK]at hp
 ·split at h
  ·rename_i v0 hp;simp only[Ki,Qg]at h;obtain⟨rfl,rfl⟩:=h;obtain⟨y,hy,hr⟩:=jmW hw hρ o hp;refine⟨O,w,y,Moved.refl hw,hr,λk cs=>.one (jdm ho hwant ?_ (.inl hy))⟩;intro c hc;simp[hc,jbh]at hp
  ·split at h
   ·rename_i g args ats hop;simp only[Ko]at h;obtain⟨gv,hgv,as,has,h⟩:=h;have hd:∀c,o.op ≠ .defer c:=by intro c hc;rw[hop]at hc;cases hc
    have hrg:=hρ _ _ hgv;have hra:=jcq hρ has;unfold jeL at h;split at h
    ·rename_i f first captured
     generalize hge:a.eval g=gval at hrg;cases hrg with
     | func _ _ _ xs ys h1 h2 h3 h4 =>
      have hargs:LRel O (first++as++captured) (xs++args.map a.eval++ys):=(LRel.append (LRel.append ⟨h1,h2⟩ hra) ⟨h3,h4⟩);obtain⟨O',w',y,m,hy,hc⟩:=jfk hE hrec h hw hg hargs
      have hexec:(execOp a.eval o).run E.P w=(callFunc f (xs++args.map a.eval++ys)).run E.P w:=by
       obtain⟨dst,op,type,pos,after,guard⟩:=o;simp only at hop;subst hop;simp only[execOp,resolve,hge,Deferred.ofValue,Sem.run_bind,Sem.run_pure,Result.andThen_ok,invoke]
      refine⟨O',w',y,m,hy,λk cs => ?_⟩
      rcases hc with hc|⟨hc1,hc2⟩
      ·exact .one (jdm ho hwant hd (.inl (by rw[hexec,hc])))
      ·obtain⟨fr,hs,hl⟩:=hc2 (b.atR a (.inRegion ops (i::rest)::k)::cs);refine .head (jim ho hwant hd (by rw[hexec,hc1])) (hs.trans (.one ?_));rw[step_leave_returned hl,Frame.finish_atR,ho];rfl
    ·rename_i l;generalize hge:a.eval g=gval at hrg;cases hrg with
     | yld _ lc hb =>
      split at h
      ·rename_i v0 U0 hr;simp only[Ki,Qg]at h;obtain⟨rfl,rfl⟩:=h;obtain⟨O',w',y,lc',f,ts,asg,body,m,hy,hb',hyd,hst⟩:=hrec _ _ hr v0 rfl O w _ hw hg hra;rw[hb]at hb';cases hb'
       have hexec:(execOp a.eval o).run E.P w=.ok (.round lc f ts asg body) w:=by
        obtain⟨dst,op,type,pos,after,guard⟩:=o;simp only at hop;subst hop;simp only[execOp,resolve,hge,Deferred.ofValue,Sem.run_bind,Sem.run_pure,Result.andThen_ok,invoke,Array.empty_append,hyd]
       refine⟨O',w',y,m,hy,λk cs=>.head (jmY ho hwant hd hexec) ?_⟩;have:=hst (b.atR a (.inRegion ops (i::rest)::k)) cs;rw[Frame.finish_atR,ho]at this;exact this
      ·simp at h
    ·simp at h
   ·rename_i x name args ats hop;simp only[Ko]at h;obtain⟨xv,hxv,⟨f,rv⟩,hm,as,has,h⟩:=h;have hd:∀c,o.op ≠ .defer c:=by intro c hc;rw[hop]at hc;cases hc
    have hrx:=hρ _ _ hxv;have hra:=jcq hρ has;obtain⟨t',x',he,hmeth,hrr⟩:=jqL (w:=w) hrx hm;obtain⟨O',w',y,m,hy,hc⟩:=jfk hE hrec h hw hg (LRel.cons hrr hra)
    have hexec:(execOp a.eval o).run E.P w=(callFunc f (#[x']++args.map a.eval)).run E.P w:=by
     obtain⟨dst,op,type,pos,after,guard⟩:=o;simp only at hop;subst hop
     have e1:(#[Value.iface t' x']++args.map a.eval).extract 1=args.map a.eval:=by
      apply Array.ext';simp[Qu]
     have e2:(#[Value.iface t' x']++args.map a.eval)[0]? = some (.iface t' x'):=by
      rw[Array.getElem?_append_left ae];rfl
     simp only[execOp,resolve,Sem.run_bind,Sem.run_pure,Result.andThen_ok,invoke,he,e2];simp only[callMethod,Sem.run_bind,jmZ,Result.andThen_ok,hmeth,e1]
    refine⟨O',w',y,m,hy,λk cs => ?_⟩
    rcases hc with hc|⟨hc1,hc2⟩
    ·exact .one (jdm ho hwant hd (.inl (by rw[hexec,hc])))
    ·obtain⟨fr,hs,hl⟩:=hc2 (b.atR a (.inRegion ops (i::rest)::k)::cs);refine .head (jim ho hwant hd (by rw[hexec,hc1])) (hs.trans (.one ?_));rw[step_leave_returned hl,Frame.finish_atR,ho];rfl
   ·rename_i op hop;have hd:∀c,o.op ≠ .defer c:=by intro c hc;rw[hc]at h;simp[jbG]at h
    obtain⟨O',w',y,hgv,m,hr⟩:=jls hw hρ o h;exact⟨O',w',y,m,hr,λk cs=>.one (jdm ho hwant hd hgv)⟩
end
section
variable {E:Env}
theorem jm0 {O:Ctx}{tmps:List V}{xs:Array Value}(h:LRel O tmps xs)(ops:Array Oper)(j:Nat):jaG ops tmps j=yielded ops xs j:=by
 unfold jaG yielded;cases hd:(ops[j]?).bind (·.dst)with
 |none=>rfl
 | some d =>
  simp only[Kq];by_cases hi:d<tmps.length
  ·have h2:d<xs.size:=h.len ▸ hi;have hr:=h.rel d hi h2;rw[Kz hi,J6 h2];generalize tmps[d]=v at hr;generalize xs[d]=x at hr;cases hr with
   |any x0 h0=>cases x<;>first|rfl|(simp[jmJ]at h0)
   |_=>rfl
  ·have h2:¬d<xs.size:=h.len ▸ hi;have e1:tmps[d]? = none:=Qo (Nat.le_of_not_lt hi);have e2:xs[d]? = none:=Uc (Nat.le_of_not_lt h2);rw[e1,e2]
theorem jdW {O:Ctx}{tmps:List V}{xs:Array Value}(h:LRel O tmps xs)(ops:Array Oper)(o:Oper):Region.wanted o (jaG ops tmps)=Region.wanted o (yielded ops xs):=by
 have:jaG ops tmps=yielded ops xs:=funext λj=>jm0 h ops j
 rw[this]
theorem jg1 {O:Ctx}{tmps:List V}{a:Act}(h:LRel O tmps a.tmps)(dst:Option Tmp){v:V}{y:Value}(hv:VRel O v y):LRel O (putT tmps dst v) (a.put dst y).tmps:=by
 cases dst with
 |none=>exact h
 |some d=>exact h.set d hv
theorem jdX(a:Act)(dst:Option Tmp)(y:Value):(a.put dst y).defers=a.defers:=by cases dst<;>rfl
theorem V.beq_eq:∀(a b:V),a.beq b=true->a=b
 | .bool a,b,h=>by cases b<;>simp[V.beq]at h;subst h;rfl
 | .int k n,b,h=>by cases b<;>simp[V.beq]at h;obtain⟨rfl,rfl⟩:=h;rfl
 | .str s,b,h=>by cases b<;>simp[V.beq]at h;subst h;rfl
 | .ptr x y,b,h=>by cases b<;>simp[V.beq]at h;obtain⟨rfl,rfl⟩:=h;rfl
 | .nilptr,b,h=>by cases b<;>simp[V.beq]at h;rfl
 | .rptr a,b,h=>by cases b<;>simp[V.beq]at h;rw[beqL_eq a _ h]
 | .hsl _ _ _ _ _,b,h=>by cases b<;>simp[V.beq]at h;obtain⟨⟨⟨⟨rfl,rfl⟩,rfl⟩,rfl⟩,rfl⟩:=h;rfl
 | .row a n c,b,h=>by cases b<;>simp[V.beq]at h;obtain⟨⟨rfl,rfl⟩,h⟩:=h;rw[beqL_eq a _ h]
 | .nilsl,b,h=>by cases b<;>simp[V.beq]at h;rfl
 | .func f a c,b,h=>by cases b<;>simp[V.beq]at h;obtain⟨⟨rfl,h1⟩,h2⟩:=h;rw[beqL_eq a _ h1,beqL_eq c _ h2]
 | .yld l,b,h=>by cases b<;>simp[V.beq]at h;subst h;rfl
 | .nilfn,b,h=>by cases b<;>simp[V.beq]at h;rfl
 | .iface t v,b,h=>by cases b<;>simp[V.beq]at h;obtain⟨rfl,h1⟩:=h;rw[V.beq_eq v _ h1]
 | .nilif,b,h=>by cases b<;>simp[V.beq]at h;rfl
 | .agg a,b,h=>by cases b<;>simp[V.beq]at h;rw[beqL_eq a _ h]
 | .tup a,b,h=>by cases b<;>simp[V.beq]at h;rw[beqL_eq a _ h]
 | .nilmap,b,h=>by cases b<;>simp[V.beq]at h;rfl
 | .map _,b,h=>by cases b<;>simp[V.beq]at h;subst h;rfl
 | .any,b,h=>by cases b<;>simp[V.beq]at h;rfl
 | .meth t v,b,h=>by cases b<;>simp[V.beq]at h;obtain⟨rfl,h1⟩:=h;rw[V.beq_eq v _ h1]
 where beqL_eq:∀(a b:List V),V.beq.beqL a b=true->a=b
 | [],b,h=>by cases b<;>simp[V.beq.beqL]at h;rfl
 |x::r,b,h=>by
  cases b<;>simp[V.beq.beqL]at h;rw[V.beq_eq x _ h.1,beqL_eq r _ h.2]
theorem jjE {acc:List Nat}{o:Oper}{i:Nat}(h:(jic acc o).testBit i=true):∃e∈o.after,Region.binds .any e=true/\(e.on=i\/(acc.getD e.on 0).testBit i=true):=by
 have key:∀(l:List Edge) (s:Nat),(l.foldl (λs e=>if Region.binds .any e then s |||(2^e.on |||acc.getD e.on 0)else s) s).testBit i=true ->
   s.testBit i=true\/∃e∈l,Region.binds .any e=true/\(e.on=i\/(acc.getD e.on 0).testBit i=true):=by
  intro l
  induction l with
  |nil=>intro s hs;exact .inl hs
  | cons e l ih =>
   intro s hs;simp only[X4]at hs
   rcases ih _ hs with h1|⟨e',he',h1⟩
   ·split at h1
    ·rename_i hb;rw[Nat.testBit_or,Nat.testBit_or,Xe,Xe]at h1
     rcases h1 with h1|h1|h1
     ·exact .inl h1
     ·refine .inr ⟨e,ae,hb,.inl ?_⟩;rw[Nat.testBit_two_pow]at h1;simpa using h1
     ·exact .inr ⟨e,ae,hb,.inr h1⟩
    ·exact .inl h1
   ·exact .inr ⟨e',by simp[he'],h1⟩
 rcases key o.after.toList 0 h with h1|⟨e,he,h1⟩
 ·simp at h1
 ·exact⟨e,by simpa using he,h1⟩
theorem jdQ:∀(ops:List Oper) (acc:List Nat),(jat acc ops).length=acc.length+ops.length
 | [],acc=>by simp[jat]
 |o::r,acc=>by simp[jat,jdQ r];omega
theorem jek:∀(ops:List Oper) (acc:List Nat) (i:Nat),i<acc.length->(jat acc ops)[i]? = acc[i]?
 | [],acc,i,h=>rfl
 |o::r,acc,i,h=>by
  simp only[jat];rw[jek r _ i (by simp;omega),Kj h]
theorem jfl:∀(ops:List Oper) (acc:List Nat) (j:Nat) (o:Oper),ops[j]? = some o->∃m,(jat acc ops)[acc.length+j]? = some m/\m=jic ((jat acc ops).take (acc.length+j)) o
 | [],acc,j,o,h=>by simp at h
 | x::r,acc,0,o,h=>by
  simp at h;subst h;simp only[jat];refine⟨jic acc x,?_,?_⟩
  ·rw[jek r _ _ ae];simp
  ·have:(jat (acc++[jic acc x]) r).take (acc.length+0)=acc:=by
    apply Xp;intro i;rw[Jw];split
    ·rw[jek r _ i (by simp;omega),Kj aa]
    ·rw[Qo aa]
   rw[this]
 |x::r,acc,j+1,o,h=>by
  simp only[jat];have:=jfl r (acc++[jic acc x]) j o (by simpa using h);have e:(acc++[jic acc x]).length+j=acc.length+(j+1):=by simp;omega
  rw[e]at this;exact this
theorem jfm {ops:Array Oper}{D:Nat->Prop}(hD:∀j o,D j->ops[j]? = some o->∀e∈o.after,Region.binds .any e=true->D e.on) :
  ∀(j i:Nat),D j->((jat [] ops.toList).getD j 0).testBit i=true->D i:=by
 intro j
 induction j using Nat.strongRecOn with
 | _ j ih =>
  intro i hj hb;cases ho:ops[j]? with
  | none =>
   have hl:=jdQ ops.toList []
   have:(jat [] ops.toList)[j]? = none:=Qo (by
    have:=Vt.1 ho;simp at hl;omega)
   rw[List.getD,this]at hb;simp at hb
  | some o =>
   obtain⟨m,h1,h2⟩:=jfl ops.toList [] j o (by simpa using ho);simp only[Qr,Jk]at h1 h2;rw[List.getD,h1]at hb;simp only[Kr]at hb;rw[h2]at hb;obtain⟨e,he,hbind,hc⟩:=jjE hb;have hDe:=hD j o hj ho e he hbind
   rcases hc with rfl|hc
   ·exact hDe
   ·by_cases hlt:e.on<j
    ·refine ih e.on hlt i hDe ?_;have:((jat [] ops.toList).take j)[e.on]? = (jat [] ops.toList)[e.on]? := by rw[Jw,Kg hlt]
     rw[List.getD,this]at hc;rw[List.getD];exact hc
    ·have:((jat [] ops.toList).take j)[e.on]? = none:=by rw[Jw,Ke hlt]
     rw[List.getD,this]at hc;simp at hc
end
section
variable {E:Env}
def cntL(listed:Array Bool):Nat->Nat
 |0=>0
 |n+1=>cntL listed n+if listed.getD n false then 1 else 0
theorem jqM(l:Array Bool):∀n,cntL l n<=n
 |0=>Kw _
 |n+1=>by simp only[cntL];have:=jqM l n;split<;>omega
theorem jkv(l:Array Bool){i:Nat}(hi:i<l.size)(h:l.getD i false=false):∀n,cntL (l.setIfInBounds i true) n=cntL l n+if i<n then 1 else 0
 |0=>by simp[cntL]
 | n+1=>by
  simp only[cntL];have ih:=jkv l hi h n;rw[ih];by_cases hn:i=n
  ·subst hn;have:(l.setIfInBounds i true).getD i false=true:=by simp[hi]
   simp[this,h]
  ·rw[getD_set_ne false hn];by_cases h2:i<n
   ·have h3:i<n+1:=by omega
    rw[Kg h2,Kg h3];omega
   ·have h3:¬i<n+1:=by omega
    rw[Ke h2,Ke h3];omega
theorem jkw(l:Array Bool):∀n,cntL l n=n->∀i,i<n->l.getD i false=true
 |0,_,i,hi=>aa
 | n+1,h,i,hi=>by
  simp only[cntL]at h;have:=jqM l n
  have h2:l.getD n false=true:=by
   cases hb:l.getD n false with
   |true=>rfl
   |false=>rw[hb]at h;simp at h;omega
  have h3:cntL l n=n:=by rw[h2]at h;simp at h;omega
  rcases Ql i n with h4|h4
  ·exact jkw l n h3 i h4
  ·have:i=n:=by omega
   subst this;exact h2
theorem jfn(ops:Array Oper)(j:Nat)(o:Oper)(h:ops[j]? = some o):jaU E ops (j+1)=jaU E ops j+if scOp E o.op then 1 else 0:=by
 unfold jaU;rw[Vw,Xl,h];simp[Us,List.countP_cons]
theorem jlu (ops:Array Oper){i j:Nat}(h:i<=j):jaU E ops i<=jaU E ops j:=by
  induction j with
  | zero => have:i=0:=by omega
            subst this;exact Kw _
  | succ j ih =>
    rcases Ql i (j+1)with h1|h1
    · have:=ih aa
      cases ho:ops[j]? with
      |some o=>rw[jfn ops j o ho];omega
      | none =>
        have e:ops.toList.take (j+1)=ops.toList.take j:=by
          have:=Vt.1 ho;rw[Qu (by simp;omega),Qu (by simpa using this)]
        unfold jaU at *;rw[e];exact this
    · have:i=j+1:=by omega
      subst this;exact Kw _
theorem jg2(ops:Array Oper){i j:Nat}{o:Oper}(hi:ops[i]? = some o)(hs:scOp E o.op=true)(h:i<j):jaU E ops i<jaU E ops j:=by
 have h1:=jfn (E:=E) ops i o hi;rw[hs]at h1;have:=jlu (E:=E) ops (show i+1<=j from h);simp at h1;omega
theorem jev(ops:Array Oper)(m:Nat):∀j,m<jaU E ops j->∃i o,i<j/\ops[i]? = some o/\scOp E o.op=true/\jaU E ops i=m
 |0,h=>by simp[jaU]at h
 | j+1,h=>by
  rcases Ql m (jaU E ops j)with h1|h1
  ·obtain⟨i,o,a,b,c,d⟩:=jev ops m j h1;exact⟨i,o,aa,b,c,d⟩
  ·cases ho:ops[j]? with
   | some o =>
    rw[jfn ops j o ho]at h;by_cases hs:scOp E o.op=true
    ·rw[hs]at h;simp at h;exact⟨j,o,aa,ho,hs,aa⟩
    ·simp[hs]at h;omega
   | none =>
    have e:ops.toList.take (j+1)=ops.toList.take j:=by
     have:=Vt.1 ho;rw[Qu (by simp;omega),Qu (by simpa using this)]
    unfold jaU at *;rw[e]at h;omega
theorem jlv {rec:Task->Option Res}{f:FuncId}{args:List V}{v:V}{U U':S}(hp:(E.pure f ||(E.hook f).isSome)=true)(h:jah E rec f args U=some (v,U')) :
  U'=U/\∀U2,jah E rec f args U2=some (v,U2):=by
 unfold jah at h ⊢;cases hh:E.hook f with
 |some g =>
  simp only[hh,Kv,Qg]at h ⊢;obtain⟨u,h1,rfl,rfl⟩:=h;exact⟨rfl,λU2=>by simp[h1]⟩
 | none =>
  have hpu:E.pure f=true:=by simpa[hh]using hp
  simp only[hh,hpu,Kl]at h ⊢;split at h
  ·rename_i hcl;simp only[hcl,Kl];cases hr:rec (.call f (wargs args) S.empty)with
   |none=>rw[hr]at h;simp at h
   | some r =>
    rw[hr]at h;split at h
    ·simp only[Kv,Qg]at h;obtain⟨u,h1,rfl,rfl⟩:=h;rename_i heq;cases heq;exact⟨rfl,λU2=>by simp[h1]⟩
    ·simp at h
  ·simp at h
theorem jqN {rec:Task->Option Res}{mutb:Bool}{tmps:List V}{f:FuncId}{args:Array Operand}{ats:Array TypeId}{U:S} :
  opV E rec mutb tmps U (.call { callee:=.value (.func f),args:=args,argTypes:=ats })=(jb1 (jbv E tmps) args.toList).bind λas=>jah E rec f as U:=by
 simp[opV,jbK,jbh,jbv,jeL]
theorem jlw {rec:Task->Option Res}{mutb:Bool}{tmps:List V}{op:Op}{u:V}(h:jbK E (jbv E tmps) op=some u)(U:S):opV E rec mutb tmps U op=some (u,U):=by
 simp[opV,h]
theorem jqO {rec:Task->Option Res}{mutb:Bool}{tmps:List V}{op:Op}{u:V}(h0:jbK E (jbv E tmps) op=none){U:S}(h:jbh E (jbv E tmps) U op=some u):opV E rec mutb tmps U op=some (u,U):=by
 simp[opV,h0,h]
theorem jkx {op:Op}(h:jby E op=true):(∃f args ats,op=.call { callee:=.value (.func f),args:=args,argTypes:=ats }/\(E.pure f ||(E.hook f).isSome)=true)\/(E.rowB=true/\∃t len parts,op=.buildSlice t len parts)\/(∃src dst x,op=.convert src dst x/\jid E src dst=true):=by
 cases op<;>simp only[jby,Ku]at h
 case buildSlice t len parts=>exact .inr (.inl ⟨h,t,len,parts,rfl⟩)
 case convert src dst x=>exact .inr (.inr ⟨src,dst,x,rfl,h⟩)
 rename_i c;left;obtain⟨callee,args,ats⟩:=c;cases callee with
 |invoke r n=>simp at h
 |builtin b=>simp at h
 |value g=>cases g<;>first|exact⟨_,_,_,rfl,h⟩|(simp at h;done)
def strO(E:Env)(dst:TypeId)(s:List UInt8):Option V :=
 match E.P.underlying dst with
 |some (.slice e)=>(match E.P.underlying e with
  |some (.int .u8)=>some (.row (jdv s) s.length .unk)
  |_=>none)
 |_=>none
theorem jm1 {rec:Task->Option Res}{mutb:Bool}{tmps:List V}{src dst:TypeId}{x:Operand}{U:S}(h:jid E src dst=true) :
  opV E rec mutb tmps U (.convert src dst x)=(jbv E tmps x).bind λv=>match v with
   | .str s=>(strO E dst s).map λv=>(v,U)
   |_=>none:=by
 unfold jid at h;split at h
 ·rename_i e hs hd;simp only[opV,jbK,jbh,jbG,hs,hd,strO];cases jbv E tmps x with
  |none=>rfl
  | some v =>
   cases v with
   | str s =>
    simp only[Kq,jib];cases E.P.underlying e with
    |none=>rfl
    |some ue =>
     cases ue with
     |int k=>cases k<;>rfl
     |_=>rfl
   |_=>rfl
 ·simp at h
theorem jhv {rec:Task->Option Res}{mutb:Bool}{tmps:List V}{op:Op}{v:V}{U U':S}(hp:jby E op=true)(h:opV E rec mutb tmps U op=some (v,U'))(U2:S):opV E rec mutb tmps U2 op=some (v,U2):=by
 rcases jkx hp with⟨f,args,ats,rfl,hf⟩|⟨hb,t,len,parts,rfl⟩|⟨src,dst,x,rfl,hc⟩
 ·rw[jqN]at h ⊢;simp only[Ko]at h ⊢;obtain⟨as,has,h⟩:=h;exact⟨as,has,(jlv hf h).2 U2⟩
 ·simp only[opV,jbK,jbh,jbG,hb,Q8,Uh,Ku,Kn,Ko]at h ⊢;obtain⟨ps,hp,e,he,s,hs,z,hz,h⟩:=h;refine⟨ps,hp,e,he,s,hs,z,hz,?_⟩;split at h
  ·rename_i hc;rw[Kg hc];simp only[Kv,Qg]at h ⊢;obtain⟨cs,hf,h1,h2⟩:=h;exact⟨cs,hf,h1,trivial⟩
  ·simp at h
 ·rw[jm1 hc]at h ⊢;simp only[Ko]at h ⊢;obtain⟨v0,h1,h2⟩:=h;refine⟨v0,h1,?_⟩;cases v0<;>simp only[Kv,reduceCtorEq]at h2 ⊢;obtain⟨u,h3,h4⟩:=h2;simp only[Qg]at h4 ⊢;exact⟨u,h3,h4.1,trivial⟩
theorem jjF {args:Array Operand}{ats:Array TypeId}{mutb:Bool}{ρ:Operand->Option V}{U:S}{r:V × S}(hs:scOp E (.call ⟨.builtin .len,args,ats⟩)=false)
  (h:jbG E mutb ρ U (.call ⟨.builtin .len,args,ats⟩)=some r):False:=by
 simp only[scOp]at hs;simp only[jbG,Ko]at h;obtain⟨vs,-,h⟩:=h;split at h
 ·simp only[Ko]at h;obtain⟨t,ht,h⟩:=h;rw[ht]at hs;simp only at hs;split at h
  ·rename_i hu;rw[hu]at hs;simp at hs
  ·rename_i hu;rw[hu]at hs;simp at hs
  ·simp at h
 ·simp at h
theorem jgj {src dst:TypeId}{x:Operand}{mutb:Bool}{ρ:Operand->Option V}{U:S}{r:V × S}(hs:scOp E (.convert src dst x)=false)(hp:jby E (.convert src dst x)=false)(h:jbG E mutb ρ U (.convert src dst x)=some r):False:=by
 simp only[jby]at hp;simp only[scOp,hp,Ji,Q5]at hs;simp only[jbG,Ko]at h;obtain⟨v,-,h⟩:=h;split at h
 ·rename_i hu;rw[hu]at hs;simp at hs
 ·rename_i hu;rw[hu]at hs;simp at hs
 ·simp at h
theorem jlx {rec:Task->Option Res}{mutb:Bool}{tmps:List V}{op:Op}{v:V}{U U':S}(hs:scOp E op=false)(h:opV E rec mutb tmps U op=some (v,U')):U'=U:=by
 by_cases hp:jby E op=true
 ·have:=jhv hp h U;rw[h]at this;simp at this;exact this
 ·unfold opV at h;split at h
  ·simp at h;exact h.2.symm
  ·split at h
   ·simp at h;exact h.2.symm
   ·exfalso
    cases op
    case call =>
     rename Call=>c
     obtain⟨callee,args,ats⟩:=c;cases callee with
     |invoke r n=>simp[scOp]at hs
     |value g=>cases g<;>simp_all[jby,scOp]
     |builtin b=>cases b<;>first|(simp[scOp]at hs;done)|(simp[jbG]at h;done)|exact jjF hs h
    all_goals first|(simp[scOp]at hs;done)|(simp[jbG]at h;done)|exact jgj hs (by simpa using hp) h|(simp_all[scOp,jby];done)
end
section
variable {E:Env}
def TT(tr:List (List V × V))(tf:List V)(j:Nat):List V:=match tr[j]? with|some (t,_)=>t|none=>tf
def SS(U:S)(ss:List S)(m:Nat):S:=((U::ss)[m]?).getD S.empty
def cntO(E:Env)(l:List Oper)(j:Nat):Nat:=(l.take j).countP λo=>scOp E o.op
theorem jc2(o:Oper)(l:List Oper)(j:Nat):cntO E (o::l) (j+1)=(if scOp E o.op then 1 else 0)+cntO E l j:=by
 unfold cntO;rw[Jx,List.countP_cons];omega
theorem jfo {rec:Task->Option Res}{mutb:Bool}{ops:Array Oper}:∀(l:List Oper) {tmps tf:List V} {U Uf:S} {tr:List (List V × V)} {ss:List S},
  dRun E rec mutb ops l tmps U=some (tr,ss,tf,Uf) ->
  tr.length=l.length/\ss.length=cntO E l l.length/\TT tr tf 0=tmps/\TT tr tf l.length=tf/\SS U ss (cntO E l l.length)=Uf /\
  ∀ j o,l[j]? = some o->∃t v,tr[j]? = some (t,v)/\TT tr tf (j+1)=putT t o.dst v /\
   ∃U1,(if Region.wanted o (jaG ops t)then opV E rec mutb t (SS U ss (cntO E l j)) o.op else some (.tup [],SS U ss (cntO E l j)))=some (v,U1) /\
    (scOp E o.op=true->SS U ss (cntO E l j+1)=U1/\cntO E l j<ss.length)
 | [],tmps,tf,U,Uf,tr,ss,h=>by
  simp[dRun]at h;obtain⟨rfl,rfl,rfl,rfl⟩:=h;exact⟨rfl,by simp[cntO],rfl,rfl,rfl,λj o h=>by simp at h⟩
 | o::l,tmps,tf,U,Uf,tr,ss,h=>by
  simp only[dRun]at h;split at h
  ·rename_i v U1 hop;split at h
   ·rename_i tr' ss' tf' Uf' hrun;simp only[Ki,Qg]at h;obtain⟨rfl,rfl,rfl,rfl⟩:=h;obtain⟨h1,h2,h3,h4,h5,h6⟩:=jfo l hrun;have hc0:cntO E (o::l) 0=0:=by simp[cntO]
    by_cases hs:scOp E o.op=true
    ·have hS:∀m,SS U (U1::ss') (m+1)=SS U1 ss' m:=by
      intro m;simp only[SS,Q7]
     simp only[hs,Kl];refine⟨by simp[h1],by simp[jc2,hs,h2];omega,rfl,by simpa[TT]using h4,?_,?_⟩
     ·simp only[Qh,jc2,hs,Kl];rw[Tg,hS];exact h5
     ·intro j o' ho';cases j with
      |zero =>
       simp at ho';subst ho';refine⟨tmps,v,rfl,by simpa[TT]using h3,U1,?_,λ_=>⟨?_,by simp[hc0]⟩⟩
       ·rw[hc0];exact hop
       ·rw[hc0,hS];rfl
      | succ j =>
       obtain⟨t,v',a1,a2,U2,a3,a4⟩:=h6 j o' (by simpa using ho');refine⟨t,v',by simpa using a1,by simpa[TT]using a2,U2,?_,λhsc => ?_⟩
       ·rw[jc2,hs,Kg rfl,Tg,hS];exact a3
       ·rw[jc2,hs,Kg rfl,Tg 1,hS];have:=a4 hsc;exact⟨this.1,by simp;omega⟩
    ·simp only[hs,Kn,Ku]
     have hU:U1=U:=by
      split at hop
      ·exact jlx (by simpa using hs) hop
      ·simp at hop;exact hop.2.symm
     subst hU;refine⟨by simp[h1],by simp[jc2,hs,h2],rfl,by simpa[TT]using h4,?_,?_⟩
     ·simp only[Qh,jc2,hs,Ku,Kn,Jk];exact h5
     ·intro j o' ho';cases j with
      |zero =>
       simp at ho';subst ho';refine⟨tmps,v,rfl,by simpa[TT]using h3,U1,?_,λh=>absurd h hs⟩;rw[hc0];exact hop
      |succ j =>
       obtain⟨t,v',a1,a2,U2,a3,a4⟩:=h6 j o' (by simpa using ho');refine⟨t,v',by simpa using a1,by simpa[TT]using a2,U2,?_,λhsc => ?_⟩
       ·rw[jc2,Ke hs,Jk];exact a3
       ·rw[jc2,Ke hs,Jk];exact a4 hsc
   ·simp at h
  ·simp at h
theorem jio {τ t:List V}{ops:Array Oper}{o:Oper}(h:∀x∈o.looksAt ops,τ[x]? = t[x]?):∀x∈o.op.operands,jbv E τ x=jbv E t x:=by
 intro x hx;cases x with
 | tmp y =>
  have:y∈o.looksAt ops:=by
   unfold Oper.looksAt;refine List.mem_append_left _ (List.mem_filterMap.2 ⟨.tmp y,by simpa using hx,rfl⟩)
  simp only[jbv,List.getD,h y this]
 |_=>rfl
theorem jhw {τ t:List V}{ops:Array Oper}{o:Oper}(h:∀x∈o.looksAt ops,τ[x]? = t[x]?):Region.wanted o (jaG ops τ)=Region.wanted o (jaG ops t):=by
 unfold Region.wanted;cases hg:o.guard with
 |none=>rfl
 | some gw =>
  obtain⟨j,want⟩:=gw
  have:jaG ops τ j=jaG ops t j:=by
   unfold jaG;cases hd:(ops[j]?).bind (·.dst)with
   |none=>rfl
   | some d =>
    have hd2:d∈o.looksAt ops:=by
     unfold Oper.looksAt;refine List.mem_append_right _ ?_;simp[hg,hd]
    simp only[Kq,h d hd2]
  simp only[this]
theorem jg3 {ρ ρ':Operand->Option V}{x:Option Operand}(h:∀y,x=some y->ρ y=ρ' y):optO ρ x=optO ρ' x:=by
 cases x with
 |none=>rfl
 |some y=>simp only[optO,h y rfl]
theorem jcS {ρ ρ':Operand->Option V}:∀{l:List Operand},(∀y∈l,ρ y=ρ' y)->jb1 ρ l=jb1 ρ' l
 | [],_=>rfl
 |x::r,h=>by simp only[jb1,h x ae,jcS (l:=r) (λy hy=>h y (by simp[hy]))]
theorem jfp {ρ ρ':Operand->Option V}:∀{l:List (Nat × Operand)},(∀y∈l,ρ y.2=ρ' y.2)->jcH ρ l=jcH ρ' l
 | [],_=>rfl
 |(i,x)::r,h=>by simp only[jcH,h (i,x) ae,jfp (l:=r) (λy hy=>h y (by simp[hy]))]
theorem jm2 {ρ ρ':Operand->Option V}(op:Op)(h:∀x∈op.operands,ρ x=ρ' x):jbK E ρ op=jbK E ρ' op:=by
 cases op<;>simp only[Op.operands,Call.operands]at h<;>simp only[jbK]
 case move x=>exact h x ae
 case assign x=>exact h x ae
 case pick c a b=>rw[h c ae,h a ae,h b ae]
 case build t parts=>rw[jfp (λy hy=>h y.2 (by simp;exact⟨y.1,by simpa using hy⟩))]
 case binOp op t x y yt=>rw[h x ae,h y ae]
 case unOp op t x=>rw[h x ae]
 case convert a b x=>rw[h x ae]
 case makeInterface t x=>rw[h x ae]
 case makeFunc fn first captured =>
  cases fn<;>simp only
  ·rw[jcS (λy hy=>h y (by simp;left;simpa using hy)),jcS (l:=captured.toList) (λy hy=>h y (by simp;right;simpa using hy))]
  ·split
   ·rename_i x e _;rw[h x (by simp;left;have:=congrArg (x ∈ ·) e;simpa using this)]
   ·rfl
 case slice t x lo hi mx =>
  rw[h x ae,jg3 (x:=lo) (λy hy=>h y (by simp[hy])),jg3 (x:=hi) (λy hy=>h y (by simp[hy])),jg3 (x:=mx) (λy hy=>h y (by simp[hy]))]
 case nilCheck x=>rw[h x ae]
 case fieldAddr t x f=>rw[h x ae]
 case field t x f=>rw[h x ae]
 case indexAddr t x i=>rw[h x ae,h i ae]
 case index t x i=>rw[h x ae,h i ae]
 case extract x i=>rw[h x ae]
 case call c =>
  have hl:jb1 ρ c.args.toList=jb1 ρ' c.args.toList:=jcS (λy hy=>h y (by simp;right;simpa using hy));rw[hl]
theorem jm3 {ρ ρ':Operand->Option V}{U:S}(op:Op)(h:∀x∈op.operands,ρ x=ρ' x):jbh E ρ U op=jbh E ρ' U op:=by
 cases op<;>simp only[Op.operands]at h<;>simp only[jbh]
 case load t x=>rw[h x ae]
 case convert a b x=>rw[h x ae]
 case lookup t m k ok=>rw[h m ae,h k ae]
theorem jly {ρ ρ':Operand->Option V}{U:S}{mutb:Bool}(op:Op)(h:∀x∈op.operands,ρ x=ρ' x):jbG E mutb ρ U op=jbG E mutb ρ' U op:=by
 cases op<;>simp only[Op.operands,Call.operands]at h<;>simp only[jbG]
 case convert a b x=>rw[h x ae]
 case box t x=>rw[h x ae]
 case buildSlice t len parts=>rw[jfp (λy hy=>h y.2 (by simp;exact⟨y.1,by simpa using hy⟩))]
 case makeSlice t l c=>rw[h l ae,h c ae]
 case store t a x=>rw[h a ae,h x ae]
 case makeMap t r=>cases r<;>rfl
 case insert t m k x=>rw[h m ae,h k ae,h x ae]
 case mapUpdate t m k x=>rw[h m ae,h k ae,h x ae]
 case call c =>
  have hl:jb1 ρ c.args.toList=jb1 ρ' c.args.toList:=jcS (λy hy=>h y (by simp;right;simpa using hy));rw[hl]
theorem jlz {rec:Task->Option Res}{mutb:Bool}{τ t:List V}{U:S}(op:Op)(h:∀x∈op.operands,jbv E τ x=jbv E t x):opV E rec mutb τ U op=opV E rec mutb t U op:=by
 have hs:=jly (E:=E) (U:=U) (mutb:=mutb) op h;unfold opV;rw[jm2 op h,jm3 op h];cases op
 case call =>
  rename Call=>c
  obtain⟨callee,args,ats⟩:=c;cases callee with
  |invoke r n =>
   have h1:jbv E τ r=jbv E t r:=h r (by simp[Op.operands,Call.operands]);have h2:jb1 (jbv E τ) args.toList=jb1 (jbv E t) args.toList:=jcS (λy hy=>h y (by simp[Op.operands,Call.operands];right;simpa using hy));simp only[h1,h2]
  |builtin b=>simp only[hs]
  |value g =>
   have h1:jbv E τ g=jbv E t g:=h g (by simp[Op.operands,Call.operands]);have h2:jb1 (jbv E τ) args.toList=jb1 (jbv E t) args.toList:=jcS (λy hy=>h y (by simp[Op.operands,Call.operands];right;simpa using hy));simp only[h1,h2]
 all_goals simp only[hs]
end
section
variable {E:Env}
theorem jhN(t:List V)(d:Option Tmp)(v:V):(putT t d v).length=t.length:=by cases d<;>simp[putT]
theorem jdY {t:List V}{d:Option Tmp}{v:V}{x:Tmp}(h:d ≠ some x):(putT t d v)[x]? = t[x]? := by
 cases d with
 |none=>rfl
 |some y =>
  simp only[putT];rw[Kh (λe=>h (by rw[e]))]
theorem jtl (hE:E.Ok) {rec:Task->Option Res} (hrec:∀t r,rec t=some r->jfj E t r) {mutb:Bool} {ops:Array Oper} {tmps tf:List V} {U Uf:S} {tr:List (List V × V)} {ss:List S}
    (hp:jcJ E ops (jat [] ops.toList)=true) (hdr:dRun E rec mutb ops ops.toList tmps U=some (tr,ss,tf,Uf)) (hck:jeq E ops (jat [] ops.toList) tr (U::ss)=true) (b:Frame) :
    ∀ (fuel t:Nat) (listed:Array Bool) (m:Nat) (τ:List V) (O:Ctx) (w:World) (a:Act),listed.size=ops.size->cntL listed ops.size+fuel=ops.size ->
      (∀j o,listed.getD j false=true->ops[j]? = some o->∀e∈o.after,Region.binds .any e=true->listed.getD e.on false=true) ->
      (∀i o,ops[i]? = some o->scOp E o.op=true->listed.getD i false=true->jaU E ops i<m) ->
      (∀i o,ops[i]? = some o->scOp E o.op=true->listed.getD i false=false->m<=jaU E ops i) ->
      m<=jaU E ops ops.size->τ.length=tmps.length ->
      (∀x j,j<=ops.size->(∀i o,ops[i]? = some o->o.dst=some x->(listed.getD i false=true↔i<j))->τ[x]? = (TT tr tf j)[x]?) ->
      WRel O (SS U ss m) w->GOK E O->LRel O τ a.tmps ->
      ∃ O' w' a',Moved O O' Uf w w'/\LRel O' tf a'.tmps/\a'.defers=a.defers /\
        ∀k cs,Steps E.P (lone (b.atR a (.inRegion ops (Region.linearise.go .any ops fuel t listed [])::k)) cs w) (lone (b.atR a' k) cs w'):=by
  obtain⟨hl1,hl2,hT0,hTn,hSf,hspec⟩:=jfo ops.toList hdr;have hcnt:∀j,cntO E ops.toList j=jaU E ops j:=λ_=>rfl
  simp only[hcnt,Jm]at hl1 hl2 hTn hSf hspec
  -- the lengths
  have hTlen:∀j,j<=ops.size->(TT tr tf j).length=tmps.length:=by
    intro j
    induction j with
    |zero=>intro _;rw[hT0]
    | succ j ih =>
      intro hj;have hlt:j<ops.size:=aa;obtain⟨t,v,h1,h2,_⟩:=hspec j ops[j] (by simp[hlt]);rw[h2,jhN];have:=ih aa;simpa[TT,h1]using this
  have hTsame:∀x i j,i<=j->j<=ops.size->(∀i' o',i<=i'->i'<j->ops[i']? = some o'->o'.dst ≠ some x)->(TT tr tf j)[x]? = (TT tr tf i)[x]? := by
    intro x i j hij
    induction j with
    | zero => intro _ _;have:i=0:=by omega
              subst this;rfl
    | succ j ih =>
      intro hj hno
      rcases Ql j i with h1|h1
      · have:i=j+1:=by omega
        subst this;rfl
      · have hlt:j<ops.size:=by omega
        obtain⟨t,v,h2,h3,_⟩:=hspec j ops[j] (by simp[hlt]);rw[h3,jdY (hno j ops[j] h1 aa (by simp[hlt]))];have:=ih h1 aa (λi' o' a b c=>hno i' o' a aa c);rw[<- this];simp[TT,h2]
  -- what the static look says
  have hpair:∀i j oi oj,i<j->ops[i]? = some oi->ops[j]? = some oj->((jat [] ops.toList).getD j 0).testBit i=true\/(oi.apart ops oj=true/\¬(scOp E oi.op=true/\scOp E oj.op=true)):=by
    intro i j oi oj hij hi hj;have hjl:=(Qi.1 hj).1;have h1:=Qq.1 hp j (Xs.2 hjl);rw[hj]at h1;simp only[Qt]at h1;have h2:=Qq.1 h1.2 i (Xs.2 hij);rw[hi]at h2;simp only[juE,Xe,Qt,Uv,Bool.and_eq_false_iff]at h2
    rcases h2 with h2|⟨h2,h3⟩
    · exact .inl h2
    · exact .inr ⟨h2,λ⟨a,b⟩=>by rcases h3 with h3|h3<;>simp_all⟩
  have hacyc:∀j oj e,ops[j]? = some oj->e∈oj.after->Region.binds .any e=true->e.on<j:=by
    intro j oj e hj he hb;have hjl:=(Qi.1 hj).1;have h1:=Qq.1 hp j (Xs.2 hjl);rw[hj]at h1;simp only[Qt]at h1;have:=Qq.1 h1.1 e (by simpa using he);simpa[hb]using this
  intro fuel
  -- the end: all have run
  have hend:∀(t:Nat) (listed:Array Bool) (m:Nat) (τ:List V) (O:Ctx) (w:World) (a:Act),
      (∀i o,ops[i]? = some o->scOp E o.op=true->listed.getD i false=true->jaU E ops i<m)->m<=jaU E ops ops.size->τ.length=tmps.length ->
      (∀x j,j<=ops.size->(∀i o,ops[i]? = some o->o.dst=some x->(listed.getD i false=true↔i<j))->τ[x]? = (TT tr tf j)[x]?) ->
      (∀i,i<ops.size->listed.getD i false=true)->WRel O (SS U ss m) w->LRel O τ a.tmps ->
      ∃ O' w' a',Moved O O' Uf w w'/\LRel O' tf a'.tmps/\a'.defers=a.defers /\
        ∀k cs,Steps E.P (lone (b.atR a (.inRegion ops []::k)) cs w) (lone (b.atR a' k) cs w'):=by
    intro t listed m τ O w a i1 hm hτ hinv hall hw hx
    have hmn:m=jaU E ops ops.size:=by
      rcases Ql m (jaU E ops ops.size)with h1|h1
      · obtain⟨i,o,a1,a2,a3,a4⟩:=jev ops m _ h1
        have:=i1 i o a2 a3 (hall i a1);omega
      · omega
    have hτf:τ=tf:=by
      apply Xp;intro x;rw[hinv x ops.size (Kw _) (λi o hi _=>⟨λ_=>(Qi.1 hi).1,λh=>hall i h⟩),hTn]
    subst hτf;rw[hmn,hSf]at hw;exact⟨O,w,a,Moved.refl hw,hx,rfl,λk cs=>.one stepR_region_end⟩
  induction fuel with
  | zero =>
    intro t listed m τ O w a hsz hfu hshut i1 i2 hm hτ hinv hw hg hx;simp only[Region.linearise.go,U6];exact hend t listed m τ O w a i1 hm hτ hinv (jkw listed ops.size aa) hw hx
  | succ fuel ih =>
    intro t listed m τ O w a hsz hfu hshut i1 i2 hm hτ hinv hw hg hx
    have hgo:Region.linearise.go .any ops (fuel+1) t listed []=(match (Region.ready .any ops listed)[t % (Region.ready .any ops listed).length]? with
      |some i=>Region.linearise.go .any ops fuel (t/(Region.ready .any ops listed).length) (listed.setIfInBounds i true) [i]
      |none=>[].reverse):=rfl
    rw[hgo];cases hi:(Region.ready .any ops listed)[t % (Region.ready .any ops listed).length]? with
    | none =>
      have hnil:Region.ready .any ops listed=[]:=by
        cases hr:Region.ready .any ops listed with
        |nil=>rfl
        | cons x xs =>
          rw[hr]at hi;have hlt:t % (x::xs).length<(x::xs).length:=Uu _ ae;simp at hi;simp at hlt;omega
      simp only[U6];refine hend t listed m τ O w a i1 hm hτ hinv ?_ hw hx;intro i
      induction i using Nat.strongRecOn with
      | _ i ihi =>
        intro hin;cases hb:listed.getD i false with
        |true=>rfl
        | false =>
          exfalso
          have:i∈Region.ready .any ops listed:=by
            rw[mem_ready];refine⟨?_,ops[i],by simp[hin],λe he hbd => ?_⟩
            · have:i<listed.size:=by omega
              simpa[this]using hb
            · have:=hacyc i ops[i] e (by simp[hin]) he hbd
              exact ihi e.on this aa
          rw[hnil]at this;simp at this
    | some i =>
      simp only;rw[linearise_go_acc,List.reverse_singleton,Vs];have hmem:=Th hi;rw[mem_ready]at hmem;obtain⟨hun,o,ho,hedges⟩:=hmem;have hin:i<ops.size:=(Qi.1 ho).1;have hil:i<listed.size:=aa;have hun':listed.getD i false=false:=by simpa[hil]using hun
      -- D with i is shut as well
      have hshut':∀j oj,(listed.getD j false=true\/j=i)->ops[j]? = some oj->∀e∈oj.after,Region.binds .any e=true->(listed.getD e.on false=true\/e.on=i):=by
        intro j oj hj hoj e he hb
        rcases hj with hj|rfl
        · exact .inl (hshut j oj hj hoj e he hb)
        · rw[ho]at hoj;cases hoj
          exact .inl (hedges e he hb)
      have hbefore:∀i',((jat [] ops.toList).getD i 0).testBit i'=true->i' ≠ i->listed.getD i' false=true:=by
        intro i' hb hne;have:=jfm (D:=λj=>listed.getD j false=true\/j=i) hshut' i i' (.inr rfl) hb;exact this.resolve_right hne
      have hafter:∀i',((jat [] ops.toList).getD i' 0).testBit i=true->listed.getD i' false=true->False:=by
        intro i' hb hl;have:=jfm (D:=λj=>listed.getD j false=true) hshut i' i hl hb;rw[hun']at this;simp at this
      obtain⟨ti,v,htr,hTi1,U1,hop,hscs⟩:=hspec i o (by simpa using ho);have hTi:TT tr tf i=ti:=by simp[TT,htr]
      -- the temporaries that it looks at
      have hlook:∀x∈o.looksAt ops,τ[x]? = ti[x]? := by
        intro x hxl;rw[<- hTi];refine hinv x i aa (λi' o' ho' hd'=>⟨λhl => ?_,λhlt => ?_⟩)
        · rcases Vv i' i with h1|h1|h1
          · exact h1
          · subst h1;rw[hun']at hl;simp at hl
          · exfalso
            rcases hpair i i' o o' h1 ho ho' with h2|⟨h2,_⟩
            · exact hafter i' h2 hl
            · exact(Oper.apart_spec h2).2.2 x hd' hxl
        · rcases hpair i' i o' o hlt ho' ho with h2|⟨h2,_⟩
          · exact hbefore i' h2 aa
          · exact absurd hxl ((Oper.apart_spec h2).1 x hd')
      have hwt:Region.wanted o (jaG ops τ)=Region.wanted o (jaG ops ti):=jhw hlook;have hev:=jio (E:=E) hlook
      -- the state in which it runs
      have hm':scOp E o.op=true->m=jaU E ops i:=by
        intro hs;have h1:=i2 i o ho hs hun'
        rcases Ql m (jaU E ops i)with h2|h2
        · exfalso
          obtain⟨i',o',a1,a2,a3,a4⟩:=jev ops m _ h2
          rcases hpair i' i o' o a1 a2 ho with h3|⟨_,h3⟩
          · have:=i1 i' o' a2 a3 (hbefore i' h3 aa);omega
          · exact h3 ⟨a3,hs⟩
        · omega
      -- the new book
      have hsz2:(listed.setIfInBounds i true).size=ops.size:=by simpa using hsz
      have hfu2:cntL (listed.setIfInBounds i true) ops.size+fuel=ops.size:=by
        rw[jkv listed hil hun',Kg hin];omega
      have hset:∀j,(listed.setIfInBounds i true).getD j false=true↔(listed.getD j false=true\/j=i):=by
        intro j;by_cases hji:i=j
        · subst hji;simp[hil]
        · rw[getD_set_ne false hji]
          constructor
          · exact .inl
          · rintro(h|h)
            · exact h
            · exact absurd h.symm hji
      have hshut2:∀j oj,(listed.setIfInBounds i true).getD j false=true->ops[j]? = some oj->∀e∈oj.after,Region.binds .any e=true->(listed.setIfInBounds i true).getD e.on false=true:=by
        intro j oj hj hoj e he hb;rw[hset]at hj ⊢;exact hshut' j oj hj hoj e he hb
      have i1':∀i' o',ops[i']? = some o'->scOp E o'.op=true->(listed.setIfInBounds i true).getD i' false=true->jaU E ops i'<(if scOp E o.op then m+1 else m):=by
        intro i' o' ho' hs' hl'
        rcases(hset i').1 hl' with h1|h1
        · have:=i1 i' o' ho' hs' h1
          split<;>omega
        · subst h1
          rw[ho]at ho';cases ho';rw[Kg hs',hm' hs'];omega
      have i2':∀i' o',ops[i']? = some o'->scOp E o'.op=true->(listed.setIfInBounds i true).getD i' false=false->(if scOp E o.op then m+1 else m)<=jaU E ops i':=by
        intro i' o' ho' hs' hl'
        have hnot:¬(listed.getD i' false=true\/i'=i):=by
          intro hc;rw[(hset i').2 hc]at hl';simp at hl'
        have hl2':listed.getD i' false=false:=by
          cases hb:listed.getD i' false with
          |true=>exact absurd (.inl hb) hnot
          |false=>rfl
        have hne:i' ≠ i:=λe=>hnot (.inr e)
        have h1:=i2 i' o' ho' hs' hl2';by_cases hs:scOp E o.op=true
        · rw[Kg hs]
          have h2:=hm' hs
          rcases Ql i' i with h3|h3
          · exfalso
            rcases hpair i' i o' o h3 ho' ho with h4|⟨_,h4⟩
            · have:=hbefore i' h4 hne;rw[hl2']at this;simp at this
            · exact h4 ⟨hs',hs⟩
          · have:=jg2 (E:=E) ops ho hs (show i<i' by omega);omega
        · rw[Ke hs];exact h1
      have hm2:(if scOp E o.op then m+1 else m)<=jaU E ops ops.size:=by
        by_cases hs:scOp E o.op=true
        · rw[Kg hs,hm' hs]
          have:=jg2 (E:=E) ops ho hs hin;omega
        · rw[Ke hs];exact hm
      have hτ2:(putT τ o.dst v).length=tmps.length:=by rw[jhN];exact hτ
      have hinv2:∀x j,j<=ops.size->(∀i' o',ops[i']? = some o'->o'.dst=some x->((listed.setIfInBounds i true).getD i' false=true↔i'<j))->(putT τ o.dst v)[x]? = (TT tr tf j)[x]? := by
        intro x j hj hwr;by_cases hd:o.dst=some x
        · have hij:i<j:=(hwr i o ho hd).1 ((hset i).2 (.inr rfl))
          have hno:∀i' o',i+1<=i'->i'<j->ops[i']? = some o'->o'.dst ≠ some x:=by
            intro i' o' h1 h2 ho' hd';have hl:=(hset i').1 ((hwr i' o' ho' hd').2 h2);have hl2:listed.getD i' false=true:=hl.resolve_right aa
            rcases hpair i i' o o' aa ho ho' with h3|⟨h3,_⟩
            · exact hafter i' h3 hl2
            · exact(Oper.apart_spec h3).2.1 x hd hd'
          rw[hTsame x (i+1) j hij hj hno,hTi1,hd];simp only[putT];have hlen:τ.length=ti.length:=by rw[hτ,<- hTi,hTlen i aa]
          rw[J8,J8,hlen];simp
        · rw[jdY hd]
          refine hinv x j hj (λi' o' ho' hd' => ?_)
          have hne:i' ≠ i:=by
            intro e;subst e;rw[ho]at ho';cases ho';exact hd hd'
          rw[<- hwr i' o' ho' hd',hset];constructor
          · exact .inl
          · rintro(h|h)
            · exact h
            · exact absurd h hne
      by_cases hwant:Region.wanted o (jaG ops ti)=true
      · -- it runs
        rw[Kg hwant]at hop
        have hrun:opV E rec mutb τ (SS U ss m) o.op=some (v,SS U ss (if scOp E o.op then m+1 else m)):=by
          rw[jlz o.op hev];by_cases hs:scOp E o.op=true
          · rw[Kg hs,hm' hs,(hscs hs).1];exact hop
          · rw [Ke hs]
            have hs':scOp E o.op=false:=by simpa using hs
            by_cases hpc:jby E o.op=true
            · exact jhv hpc hop _
            · cases hap:jbK E (jbv E ti) o.op with
              | some u =>
                have:=jlw (rec:=rec) (mutb:=mutb) hap (SS U ss (jaU E ops i));rw[this]at hop;simp at hop;rw[<- hop.1];exact jlw hap _
              | none =>
                have h1:=Qq.1 hck i (Xs.2 hin);rw[ho,htr]at h1;simp only[hs',hpc,hwant,hap,Xq,Q8,Uq,Xr]at h1;have hml:m<(U::ss).length:=by simp;omega
                have h2:=Qq.1 h1 m (Xs.2 hml)
                have hal:jfd E ops (jat [] ops.toList) i m=true:=by
                  refine Qq.2 (λi' hi' => ?_);have hi2:=Xs.1 hi';have ho':ops[i']? = some ops[i']:=by simp[hi2]
                  rw[ho'];simp only[Xe,Uv,Qt,Jq];by_cases hs2:scOp E ops[i'].op=true
                  · refine .inr ⟨?_,?_⟩
                    · cases hb:((jat [] ops.toList).getD i 0).testBit i' with
                      |false=>exact .inl rfl
                      | true =>
                        have hne:i' ≠ i:=by
                          intro e;subst e;rw[ho]at ho';cases ho';exact hs hs2
                        exact .inr (i1 i' _ ho' hs2 (hbefore i' hb hne))
                    · cases hb:((jat [] ops.toList).getD i' 0).testBit i with
                      |false=>exact .inl rfl
                      | true =>
                        refine .inr (i2 i' _ ho' hs2 ?_);cases hl:listed.getD i' false with
                        |false=>rfl
                        |true=>exact(hafter i' hb hl).elim
                  · exact .inl (by simpa using hs2)
                rw[hal]at h2;simp only[Q8,Xq]at h2
                have hss:(U::ss)[m]? = some (SS U ss m):=by
                  simp only[SS];rw[Kz hml];rfl
                rw[hss]at h2;simp only at h2;cases har:jbh E (jbv E ti) (SS U ss m) o.op with
                |none=>rw[har]at h2;simp at h2
                | some u =>
                  rw[har]at h2;have:=V.beq_eq u v h2;subst this;exact jqO hap har
        have hwant2:Region.wanted o (yielded ops a.tmps)=true:=by rw[<- jdW hx,hwt];exact hwant
        obtain⟨O1,w1,y,m1,hy,hs1⟩:=jin hE hrec hrun hw hg hx (b:=b) (rest:=Region.linearise.go .any ops fuel (t/(Region.ready .any ops listed).length) (listed.setIfInBounds i true) []) ho hwant2;obtain⟨O',w',a',m2,hx',hd,hs2⟩:=ih _ _ _ _ O1 w1 (a.put o.dst y) hsz2 hfu2 hshut2 i1' i2' hm2 hτ2 hinv2 m1.rel (hg.mono m1.le) (jg1 (hx.mono m1.le) o.dst hy);exact⟨O',w',a',m1.trans m2,hx',hd.trans (jdX _ _ _),λk cs=>(hs1 k cs).trans (hs2 k cs)⟩
      · -- it is passed over
        rw[Ke hwant]at hop;simp only[Ki,Qg]at hop;obtain⟨rfl,hU⟩:=hop
        have hSS:SS U ss (if scOp E o.op then m+1 else m)=SS U ss m:=by
          by_cases hs:scOp E o.op=true
          · rw[Kg hs,hm' hs,(hscs hs).1,hU]
          · rw[Ke hs]
        have hwant2:¬Region.wanted o (yielded ops a.tmps)=true:=by rw[<- jdW hx,hwt];exact hwant
        obtain⟨O',w',a',m2,hx',hd,hs2⟩:=ih (t/(Region.ready .any ops listed).length) _ _ _ O w (a.put o.dst undef) hsz2 hfu2 hshut2 i1' i2' hm2 hτ2 hinv2 (by rw[hSS];exact hw) hg (jg1 hx o.dst (jc1 O));refine⟨O',w',a',m2,hx',hd.trans (jdX _ _ _),λk cs=>.head (stepR_op_skip (by simp[ho];simpa using hwant2)) ?_⟩;rw[ho];exact hs2 k cs
theorem jm4(hE:E.Ok){rec:Task->Option Res}(hrec:∀t r,rec t=some r->jfj E t r)(hmix:E.P.follows .mixedOrders=true){mutb:Bool}{id:Nat}{ops:Array Oper}{tmps tf:List V}{U Uf:S}{tr:List (List V × V)}{ss:List S}
  (hp:jcJ E ops (jat [] ops.toList)=true) (hdr:dRun E rec mutb ops ops.toList tmps U=some (tr,ss,tf,Uf)) (hck:jeq E ops (jat [] ops.toList) tr (U::ss)=true) (b:Frame)
  {O:Ctx} {w:World} {a:Act} (hw:WRel O U w) (hg:GOK E O) (hx:LRel O tmps a.tmps) :
  ∃ O' w' a',Moved O O' Uf w w'/\LRel O' tf a'.tmps/\a'.defers=a.defers /\
    ∀k cs,Steps E.P (lone (b.atR a (.code (.region id ops true)::k)) cs w) (lone (b.atR a' k) cs w'):=by
 have hw1:=hw.same (w':={ w with drawn:=w.drawn+1 }) rfl;have hb1:Below O.base w { w with drawn:=w.drawn+1 }:=⟨rfl,rfl,rfl,Kw _,λ_ _=>rfl⟩;have hspec:=jfo ops.toList hdr
 have h0:∀j,(Array.replicate ops.size false).getD j false=false:=by
  intro j;by_cases h:j<ops.size<;>simp[h]
 have hc0:∀n,cntL (Array.replicate ops.size false) n=0:=by
  intro n;induction n with
  |zero=>rfl
  |succ n ih=>simp only[cntL,ih,h0];rfl
 obtain⟨O',w',a',m,l,d,s⟩:=jtl hE hrec hp hdr hck b ops.size (w.tape w.drawn (.order b.fn id)) (Array.replicate ops.size false) 0 tmps O _ a ae (by rw[hc0];omega)
  (λj o hj=>by rw[h0]at hj;simp at hj) (λi o _ _ hl=>by rw[h0]at hl;simp at hl) (λi o _ _ _=>Qm _) (Qm _) rfl
  (fun x j hj hwr=>by
   rw[<- hspec.2.2.1]
   -- no writer of x stands ahead of j
   have hno:∀i o,i<j->ops[i]? = some o->o.dst ≠ some x:=by
    intro i o hij ho hd;have:=(hwr i o ho hd).2 hij;rw[h0]at this;simp at this
   clear hwr
   induction j with
   |zero=>rfl
   |succ j ih =>
    have hlt:j<ops.size:=aa;obtain⟨t,v,h2,h3,_⟩:=hspec.2.2.2.2.2 j ops[j] (by simp[hlt]);rw[h3,jdY (hno j ops[j] aa (by simp[hlt])),ih aa (λi o a b=>hno i o aa b)];simp[TT,h2]) hw1 hg hx
 refine⟨O',w',a',⟨m.le,m.rel,hb1.trans m.below⟩,l,d,λk cs=>.head stepR_region_draw ?_⟩
 have hsch:Region.schedule (E.P.follows .mixedOrders) ops (w.tape w.drawn (.order b.fn id))=Region.linearise.go .any ops ops.size (w.tape w.drawn (.order b.fn id)) (Array.replicate ops.size false) []:=by
  simp only[Region.schedule,hmix,Ui,Kl,Region.linearise]
 rw[hsch];exact s k cs
end
section
variable {E:Env}
theorem jqP {ops:Array Oper}{tmps tf:List V}{tr:List (List V × V)}
    (hT0:TT tr tf 0=tmps) (hTn:TT tr tf ops.size=tf)
    (hspec:∀j o,ops[j]? = some o->∃t v,tr[j]? = some (t,v)/\TT tr tf (j+1)=putT t o.dst v/\(¬Region.wanted o (jaG ops t)=true->v=.tup []))
    (hpair:∀i j oi oj,i<j->ops[i]? = some oi->ops[j]? = some oj->((jat [] ops.toList).getD j 0).testBit i=true\/oi.apart ops oj=true)
    (hacyc:∀j oj e,ops[j]? = some oj->e∈oj.after->Region.binds .any e=true->e.on<j)
    (Inv:(Nat->Prop)->Ctx->World->Prop)
    (hstep:∀(D:Nat->Prop) i o t v,ops[i]? = some o->tr[i]? = some (t,v)->¬D i ->
      (∀i',((jat [] ops.toList).getD i 0).testBit i'=true->i' ≠ i->D i')->(∀i',((jat [] ops.toList).getD i' 0).testBit i=true->¬D i') ->
      ∀ O w,Inv D O w->GOK E O ->
        (Region.wanted o (jaG ops t)=true->∀(τ:List V) (a:Act) (b:Frame) (rest:List Nat),LRel O τ a.tmps->(∀x∈o.looksAt ops,τ[x]? = t[x]?)->Region.wanted o (yielded ops a.tmps)=true ->
          ∃ O' w' y,O.le O'/\Below O.base w w'/\Inv (λj=>D j\/j=i) O' w'/\VRel O' v y /\
            ∀k cs,Steps E.P (lone (b.atR a (.inRegion ops (i::rest)::k)) cs w) (lone (b.atR (a.put o.dst y) (.inRegion ops rest::k)) cs w')) /\
        (¬Region.wanted o (jaG ops t)=true->Inv (λj=>D j\/j=i) O w)) (b:Frame) :
    ∀ (fuel t:Nat) (listed:Array Bool) (τ:List V) (O:Ctx) (w:World) (a:Act),listed.size=ops.size->cntL listed ops.size+fuel=ops.size ->
      (∀j o,listed.getD j false=true->ops[j]? = some o->∀e∈o.after,Region.binds .any e=true->listed.getD e.on false=true) ->
      τ.length=tmps.length ->
      (∀x j,j<=ops.size->(∀i o,ops[i]? = some o->o.dst=some x->(listed.getD i false=true↔i<j))->τ[x]? = (TT tr tf j)[x]?) ->
      Inv (λj=>listed.getD j false=true) O w->GOK E O->LRel O τ a.tmps ->
      ∃ O' w' a',O.le O'/\Below O.base w w'/\Inv (λj=>j<ops.size) O' w'/\LRel O' tf a'.tmps/\a'.defers=a.defers /\
        ∀k cs,Steps E.P (lone (b.atR a (.inRegion ops (Region.linearise.go .any ops fuel t listed [])::k)) cs w) (lone (b.atR a' k) cs w'):=by
  have hTlen:∀j,j<=ops.size->(TT tr tf j).length=tmps.length:=by
    intro j
    induction j with
    |zero=>intro _;rw[hT0]
    | succ j ih =>
      intro hj;have hlt:j<ops.size:=aa;obtain⟨t,v,h1,h2,_⟩:=hspec j ops[j] (by simp[hlt]);rw[h2,jhN];have:=ih aa;simpa[TT,h1]using this
  have hTsame:∀x i j,i<=j->j<=ops.size->(∀i' o',i<=i'->i'<j->ops[i']? = some o'->o'.dst ≠ some x)->(TT tr tf j)[x]? = (TT tr tf i)[x]? := by
    intro x i j hij
    induction j with
    | zero => intro _ _;have:i=0:=by omega
              subst this;rfl
    | succ j ih =>
      intro hj hno
      rcases Ql j i with h1|h1
      · have:i=j+1:=by omega
        subst this;rfl
      · have hlt:j<ops.size:=by omega
        obtain⟨t,v,h2,h3,_⟩:=hspec j ops[j] (by simp[hlt]);rw[h3,jdY (hno j ops[j] h1 aa (by simp[hlt]))];have:=ih h1 aa (λi' o' a b c=>hno i' o' a aa c);rw[<- this];simp[TT,h2]
  intro fuel
  have hend:∀(listed:Array Bool) (τ:List V) (O:Ctx) (w:World) (a:Act),listed.size=ops.size->τ.length=tmps.length ->
      (∀x j,j<=ops.size->(∀i o,ops[i]? = some o->o.dst=some x->(listed.getD i false=true↔i<j))->τ[x]? = (TT tr tf j)[x]?) ->
      (∀i,i<ops.size->listed.getD i false=true)->Inv (λj=>listed.getD j false=true) O w->LRel O τ a.tmps ->
      ∃ O' w' a',O.le O'/\Below O.base w w'/\Inv (λj=>j<ops.size) O' w'/\LRel O' tf a'.tmps/\a'.defers=a.defers /\
        ∀k cs,Steps E.P (lone (b.atR a (.inRegion ops []::k)) cs w) (lone (b.atR a' k) cs w'):=by
    intro listed τ O w a hsz hτ hinv hall hw hx
    have hτf:τ=tf:=by
      apply Xp;intro x;rw[hinv x ops.size (Kw _) (λi o hi _=>⟨λ_=>(Qi.1 hi).1,λh=>hall i h⟩),hTn]
    subst hτf
    have hD:(λj=>listed.getD j false=true)=λj=>j<ops.size:=by
      funext j
      apply propext;constructor
      · intro h
        rcases Ql j ops.size with h1|h1
        · exact h1
        · have:listed.getD j false=false:=by simp[Array.getD,show ¬j<listed.size by omega]
          rw[this]at h;cases h
      · exact hall j
    rw[hD]at hw;exact⟨O,w,a,Ctx.le.refl _,Below.refl _ _,hw,hx,rfl,λk cs=>.one stepR_region_end⟩
  induction fuel with
  | zero =>
    intro t listed τ O w a hsz hfu hshut hτ hinv hw hg hx;simp only[Region.linearise.go,U6];exact hend listed τ O w a hsz hτ hinv (jkw listed ops.size aa) hw hx
  | succ fuel ih =>
    intro t listed τ O w a hsz hfu hshut hτ hinv hw hg hx
    have hgo:Region.linearise.go .any ops (fuel+1) t listed []=(match (Region.ready .any ops listed)[t % (Region.ready .any ops listed).length]? with
      |some i=>Region.linearise.go .any ops fuel (t/(Region.ready .any ops listed).length) (listed.setIfInBounds i true) [i]
      |none=>[].reverse):=rfl
    rw[hgo];cases hi:(Region.ready .any ops listed)[t % (Region.ready .any ops listed).length]? with
    | none =>
      have hnil:Region.ready .any ops listed=[]:=by
        cases hl:Region.ready .any ops listed with
        |nil=>rfl
        | cons x l =>
          have hlt:=List.getElem?_eq_none_iff.1 hi;have:=Uu t (show 0<(Region.ready .any ops listed).length by rw[hl];simp);omega
      simp only[U6];refine hend listed τ O w a hsz hτ hinv ?_ hw hx;intro i
      induction i using Nat.strongRecOn with
      | _ i ihi =>
        intro hin;cases hb:listed.getD i false with
        |true=>rfl
        | false =>
          exfalso
          have:i∈Region.ready .any ops listed:=by
            rw[mem_ready];refine⟨?_,ops[i],by simp[hin],λe he hbd => ?_⟩
            · have:i<listed.size:=by omega
              simpa[this]using hb
            · have:=hacyc i ops[i] e (by simp[hin]) he hbd
              exact ihi e.on this aa
          rw[hnil]at this;simp at this
    | some i =>
      simp only;rw[linearise_go_acc,List.reverse_singleton,Vs];have hmem:=Th hi;rw[mem_ready]at hmem;obtain⟨hun,o,ho,hedges⟩:=hmem;have hin:i<ops.size:=(Qi.1 ho).1;have hil:i<listed.size:=aa;have hun':listed.getD i false=false:=by simpa[hil]using hun
      have hshut':∀j oj,(listed.getD j false=true\/j=i)->ops[j]? = some oj->∀e∈oj.after,Region.binds .any e=true->(listed.getD e.on false=true\/e.on=i):=by
        intro j oj hj hoj e he hb
        rcases hj with hj|rfl
        · exact .inl (hshut j oj hj hoj e he hb)
        · rw[ho]at hoj;cases hoj
          exact .inl (hedges e he hb)
      have hbefore:∀i',((jat [] ops.toList).getD i 0).testBit i'=true->i' ≠ i->listed.getD i' false=true:=by
        intro i' hb hne;have:=jfm (D:=λj=>listed.getD j false=true\/j=i) hshut' i i' (.inr rfl) hb;exact this.resolve_right hne
      have hafter:∀i',((jat [] ops.toList).getD i' 0).testBit i=true->listed.getD i' false=true->False:=by
        intro i' hb hl;have:=jfm (D:=λj=>listed.getD j false=true) hshut i' i hl hb;rw[hun']at this;simp at this
      obtain⟨ti,v,htr,hTi1,hskipv⟩:=hspec i o ho;have hTi:TT tr tf i=ti:=by simp[TT,htr]
      have hlook:∀x∈o.looksAt ops,τ[x]? = ti[x]? := by
        intro x hxl;rw[<- hTi];refine hinv x i aa (λi' o' ho' hd'=>⟨λhl => ?_,λhlt => ?_⟩)
        · rcases Vv i' i with h1|h1|h1
          · exact h1
          · subst h1;rw[hun']at hl;simp at hl
          · exfalso
            rcases hpair i i' o o' h1 ho ho' with h2|h2
            · exact hafter i' h2 hl
            · exact(Oper.apart_spec h2).2.2 x hd' hxl
        · rcases hpair i' i o' o hlt ho' ho with h2|h2
          · exact hbefore i' h2 aa
          · exact absurd hxl ((Oper.apart_spec h2).1 x hd')
      have hwt:Region.wanted o (jaG ops τ)=Region.wanted o (jaG ops ti):=jhw hlook;have hsz2:(listed.setIfInBounds i true).size=ops.size:=by simpa using hsz
      have hfu2:cntL (listed.setIfInBounds i true) ops.size+fuel=ops.size:=by
        rw[jkv listed hil hun',Kg hin];omega
      have hset:∀j,(listed.setIfInBounds i true).getD j false=true↔(listed.getD j false=true\/j=i):=by
        intro j;by_cases hji:i=j
        · subst hji;simp[hil]
        · rw[getD_set_ne false hji]
          constructor
          · exact .inl
          · rintro(h|h)
            · exact h
            · exact absurd h.symm hji
      have hD2:(λj=>(listed.setIfInBounds i true).getD j false=true)=λj=>(listed.getD j false=true\/j=i):=funext λj=>propext (hset j)
      have hshut2:∀j oj,(listed.setIfInBounds i true).getD j false=true->ops[j]? = some oj->∀e∈oj.after,Region.binds .any e=true->(listed.setIfInBounds i true).getD e.on false=true:=by
        intro j oj hj hoj e he hb;rw[hset]at hj ⊢;exact hshut' j oj hj hoj e he hb
      have hτ2:(putT τ o.dst v).length=tmps.length:=by rw[jhN];exact hτ
      have hinv2:∀x j,j<=ops.size->(∀i' o',ops[i']? = some o'->o'.dst=some x->((listed.setIfInBounds i true).getD i' false=true↔i'<j))->(putT τ o.dst v)[x]? = (TT tr tf j)[x]? := by
        intro x j hj hwr;by_cases hd:o.dst=some x
        · have hij:i<j:=(hwr i o ho hd).1 ((hset i).2 (.inr rfl))
          have hno:∀i' o',i+1<=i'->i'<j->ops[i']? = some o'->o'.dst ≠ some x:=by
            intro i' o' h1 h2 ho' hd';have hl:=(hset i').1 ((hwr i' o' ho' hd').2 h2);have hl2:listed.getD i' false=true:=hl.resolve_right aa
            rcases hpair i i' o o' aa ho ho' with h3|h3
            · exact hafter i' h3 hl2
            · exact(Oper.apart_spec h3).2.1 x hd hd'
          rw[hTsame x (i+1) j hij hj hno,hTi1,hd];simp only[putT];have hlen:τ.length=ti.length:=by rw[hτ,<- hTi,hTlen i aa]
          rw[J8,J8,hlen];simp
        · rw[jdY hd]
          refine hinv x j hj (λi' o' ho' hd' => ?_)
          have hne:i' ≠ i:=by
            intro e;subst e;rw[ho]at ho';cases ho';exact hd hd'
          rw[<- hwr i' o' ho' hd',hset];constructor
          · exact .inl
          · rintro(h|h)
            · exact h
            · exact absurd h hne
      have hS:=hstep (λj=>listed.getD j false=true) i o ti v ho htr (by simp only[hun'];exact Bool.false_ne_true) hbefore (λi' hb hl=>hafter i' hb hl) O w hw hg;by_cases hwant:Region.wanted o (jaG ops ti)=true
      · have hwant2:Region.wanted o (yielded ops a.tmps)=true:=by rw[<- jdW hx,hwt];exact hwant
        obtain⟨O1,w1,y,hle1,hb1,hI1,hy,hs1⟩:=hS.1 hwant τ a b (Region.linearise.go .any ops fuel (t/(Region.ready .any ops listed).length) (listed.setIfInBounds i true) []) hx hlook hwant2;rw[<- hD2]at hI1;obtain⟨O',w',a',hle2,hb2,hI2,hx',hd,hs2⟩:=ih _ _ _ O1 w1 (a.put o.dst y) hsz2 hfu2 hshut2 hτ2 hinv2 hI1 (hg.mono hle1) (jg1 (hx.mono hle1) o.dst hy);exact⟨O',w',a',hle1.trans hle2,hb1.trans (hle1.base ▸ hb2),hI2,hx',hd.trans (jdX _ _ _),λk cs=>(hs1 k cs).trans (hs2 k cs)⟩
      · have hwant2:¬Region.wanted o (yielded ops a.tmps)=true:=by rw[<- jdW hx,hwt];exact hwant
        have hv:=hskipv hwant;subst hv;have hI1:=hS.2 hwant;rw[<- hD2]at hI1;obtain⟨O',w',a',hle2,hb2,hI2,hx',hd,hs2⟩:=ih (t/(Region.ready .any ops listed).length) _ _ O w (a.put o.dst undef) hsz2 hfu2 hshut2 hτ2 hinv2 hI1 hg (jg1 hx o.dst (jc1 O));refine⟨O',w',a',hle2,hb2,hI2,hx',hd.trans (jdX _ _ _),λk cs=>.head (stepR_op_skip (by simp[ho];simpa using hwant2)) ?_⟩;rw[ho];exact hs2 k cs
end
section
variable {E:Env}{N:Nat}{al:List Nat}{D:Nat->Prop}
theorem S.ext' {U U':S}(h1:∀b:Nat,U.heap[b]? = U'.heap[b]?)(h2:U.toks=U'.toks):U=U':=by
 obtain⟨a,b⟩:=U;obtain⟨c,d⟩:=U';simp only at h1 h2;have:a=c:=Xp h1;rw[this,h2]
theorem WRel.revive {O:Ctx}{U:S}{w:World}(h:WRel O U w){n:Nat}{o:AObj}{ob:Obj}(hn:U.heap[n]? = some .resv)(ho:ORel O o ob) :
  Moved O (O.push n w.heap.size) (U.set n o) w { w with heap:=w.heap.push ob }:=by
 have hlt:=(K4.1 hn).1
 have hbn:O.blk n=none:=by
  rcases h.live n _ hn with⟨_,h1⟩|⟨c,ob',_,_,h3,_⟩
  ·exact h1
  ·exact absurd h3 (by cases ob'<;>exact id)
 have hle:O.le (O.push n w.heap.size):=by
  refine⟨rfl,λb c hb => ?_,λ_ _ _ h=>h,λ_ _ _ h=>h,λ_ _ _ h=>.inl h,λ_ _ h=>h⟩;simp only[Ctx.push];rw[Ke (by rintro rfl;rw[hbn]at hb;cases hb)];exact hb
 refine⟨hle,⟨?_,?_,?_,?_,?_,?_,h.tokdom,h.tokinj,h.sizes_push ob⟩,jgZ _ _ _ h.size⟩
 ·have:=h.size;simp[Ctx.push];omega
 ·intro b i x hx;have hx':=h.pins b i x hx;have:=jdl hx';rw[jcd (w:=w) (by exact jbB w ob b this)];exact hx'
 ·intro a o' ho';simp only[S.set,J8]at ho';split at ho'
  ·rename_i e;subst e;cases ho';exact .inr ⟨w.heap.size,ob,by simp[Ctx.push],ae,ho.mono hle,h.size,λ_ i=>h.fresh i⟩
  ·rename_i hne
   rcases h.live a o' ho' with⟨hrv,hnn⟩|⟨c,ob',h1,h2,h3,h4⟩
   ·exact .inl ⟨hrv,by simp only[Ctx.push];rw[Ke (λe=>hne e.symm)];exact hnn⟩
   refine .inr ⟨c,ob',hle.blk _ _ h1,?_,h3.mono hle,h4⟩;rw[<- h2];exact jbB w ob c (Qi.1 h2).1
 ·intro a c hb;simp only[Ctx.push]at hb;simp only[S.set,V8];split at hb
  ·omega
  ·exact h.dom a c hb
 ·intro a a' c h1 h2 d1 d2;simp only[Ctx.push]at h1 h2;split at h1<;>split at h2
  ·omega
  ·simp at h1;subst h1;have:=h.lt h2;omega
  ·simp at h2;subst h2;have:=h.lt h1;omega
  ·rename_i n1 n2
   have key:∀x,x ≠ n->(∀p:AObj,(U.set n o).heap[x]? = some p->p ≠ .dead)->∀p:AObj,U.heap[x]? = some p->p ≠ .dead:=by
    intro x hxn hq p hp;refine hq p ?_;simp only[S.set,J8];rw[Ke (λe=>hxn e.symm)];exact hp
   exact h.inj a a' c h1 h2 (key a n1 d1) (key a' n2 d2)
 ·intro k e he;obtain⟨b,pos,spare,s,t,xs,h1,h2,h3,h4,h5,h6⟩:=h.toks k e he;have hlt:=(Qi.1 h2).1;refine⟨b,pos,spare,s,t,xs,h1,?_,h3,h4,h5,λa ha => ?_⟩
  ·rw[<- h2];exact jbB w ob b hlt
  ·simp only[Ctx.push]at ha;split at ha
   ·simp at ha;omega
   ·exact h6 a ha
theorem WRel.reheap {O:Ctx}{U U':S}{w:World}(h:WRel O U w)(ht:U'.toks=U.toks)(hl:U.heap.length<=U'.heap.length)(hb:∀b,b<U.heap.length->U'.heap[b]? = U.heap[b]?)
  (hr:∀b o,U.heap.length<=b->U'.heap[b]? = some o->o=.resv):WRel O U' w:=by
 refine⟨h.size,h.pins,λa o ho => ?_,λa c hc => ?_,λa a' c h1 h2 d1 d2 => ?_,?_,?_,?_,h.sizes⟩
 ·rcases Ql a U.heap.length with h1|h1
  ·rw[hb a h1]at ho;exact h.live a o ho
  ·refine .inl ⟨hr a o h1 ho,?_⟩;cases hc:O.blk a with
   |none=>rfl
   |some c=>have:=h.dom a c hc;omega
 ·have:=h.dom a c hc;omega
 ·exact h.inj a a' c h1 h2 (λo ho=>d1 o (by rw[hb a (h.dom a c h1)];exact ho)) (λo ho=>d2 o (by rw[hb a' (h.dom a' c h2)];exact ho))
 ·rw[ht];exact h.toks
 ·rw[ht];exact h.tokdom
 ·rw[ht];exact h.tokinj
end
section
variable {E:Env}
theorem jjG {rec:Task->Option Res}{mutb:Bool}{ops:Array Oper}{N:Nat}:∀(l:List Oper) (r0:Nat) {tmps tf:List V} {U Uf:S} {tr:List (List V × V)},jf2 E rec mutb ops N l r0 tmps U=some (tr,tf,Uf) ->
  tr.length=l.length/\TT tr tf 0=tmps/\TT tr tf l.length=tf/\∀j o,l[j]? = some o->∃t v,tr[j]? = some (t,v)/\TT tr tf (j+1)=putT t o.dst v/\(¬Region.wanted o (jaG ops t)=true->v=.tup [])
 | [],r0,tmps,tf,U,Uf,tr,h=>by
  simp[jf2]at h;obtain⟨rfl,rfl,rfl⟩:=h;exact⟨rfl,rfl,rfl,λj o h=>by simp at h⟩
 | o::l,r0,tmps,tf,U,Uf,tr,h=>by
  simp only[jf2]at h;split at h
  ·rename_i v U1 hop;split at h
   ·rename_i tr' tf' Uf' hrun;simp only[Ki,Qg]at h;obtain⟨rfl,rfl,rfl⟩:=h;obtain⟨h1,h2,h3,h4⟩:=jjG l _ hrun;refine⟨by simp[h1],rfl,by simpa[TT]using h3,λj o' ho' => ?_⟩;cases j with
    |zero =>
     simp at ho';subst ho';refine⟨tmps,v,rfl,by simpa[TT]using h2,λhnw => ?_⟩;rw[Ke hnw]at hop;simp only[Ki,Qg]at hop;exact hop.1.symm
    |succ j =>
     obtain⟨t,v',a1,a2,a3⟩:=h4 j o' (by simpa using ho');exact⟨t,v',by simpa using a1,by simpa[TT]using a2,a3⟩
   ·simp at h
  ·simp at h
theorem jvc {ops:Array Oper}(hac:∀j oj e,ops[j]? = some oj->e∈oj.after->Region.binds .any e=true->e.on<j){i i':Nat}(hb:((jat [] ops.toList).getD i 0).testBit i'=true):i'<i:=by
 cases ho:ops[i]? with
 | none =>
  exfalso
  have hsz:=Vt.1 ho
  have:(jat [] ops.toList).getD i 0=0:=by
   rw[List.getD,Qo]
   ·rfl
   ·have:=jdQ ops.toList [];simp at this;omega
  rw[this]at hb;simp at hb
 | some o =>
  obtain⟨mm,g1,g2⟩:=jfl ops.toList [] i o (by simpa using ho);simp only[Qr,Jk]at g1 g2;rw[List.getD,g1]at hb;simp only[Kr]at hb;rw[g2]at hb;obtain⟨e,he,hbind,hc⟩:=jjE hb;have hlt:=hac i o e ho he hbind
  rcases hc with hc|hc
  ·omega
  ·have e1:((jat [] ops.toList).take i)[e.on]? = (jat [] ops.toList)[e.on]? := by rw[Jw,Kg hlt]
   have:=jfm (ops:=ops) (D:=λx=>x<=e.on) (λj oj hj hoj e' he' hb'=>by have:=hac j oj e' hoj he' hb';omega) e.on i' (Kw _) (by
    rw[List.getD,e1]at hc;rw[List.getD];exact hc)
   omega
theorem jlA(hE:E.Ok){rec:Task->Option Res}(hrec:∀t r,rec t=some r->jfj E t r)(hmix:E.P.follows .mixedOrders=true){mutb:Bool}{id:Nat}{ops:Array Oper}{tmps tf:List V}{U Uf:S}
    (h:jgw E rec mutb ops tmps U=some (tf,Uf)) (b:Frame) {O:Ctx} {w:World} {a:Act} (hw:WRel O U w) (hg:GOK E O) (hx:LRel O tmps a.tmps) :
    ∃ O' w' a',Moved O O' Uf w w'/\LRel O' tf a'.tmps/\a'.defers=a.defers /\
        ∀k cs,Steps E.P (lone (b.atR a (.code (.region id ops true)::k)) cs w) (lone (b.atR a' k) cs w'):=by
  unfold jgw at h;split at h
  case isFalse=>simp at h
  rename_i hst;split at h
  case h_2=>simp at h
  rename_i L hL;split at h
  case h_2=>simp at h
  rename_i tr tf' Uf' hdr;split at h
  case isFalse=>simp at h
  rename_i hex;simp only[Ki,Qg]at h;obtain⟨rfl,rfl⟩:=h;obtain⟨St,hS0,hSf,hSt⟩:=hex;generalize hmk:jat [] ops.toList=masks at *
  have hs:∀(j:Nat) (oj:Oper),ops[j]? = some oj->(∀e∈oj.after,Region.binds .any e=true->e.on<j)/\(jbl oj.op=true->oj.guard=none) /\
      ∀i oi,i<j->ops[i]? = some oi->(masks.getD j 0).testBit i=true\/oi.apart ops oj=true:=by
    intro j oj hj;have hjl:=(Qi.1 hj).1;have h1:=Qq.1 hst j (Xs.2 hjl);rw[hj]at h1;simp only[Qt,Xe,Uv]at h1;obtain⟨⟨h2,h3⟩,h6⟩:=h1;refine⟨λe he hb => ?_,λha => ?_,λi oi hij hi => ?_⟩
    · have:=Qq.1 h2 e (by simpa using he)
      simpa[hb]using this
    · rcases h3 with h3|h3
      · rw[ha]at h3;cases h3
      · simpa using h3
    · have h7:=Qq.1 h6 i (Xs.2 hij)
      rw[hi]at h7;simpa using h7
  obtain⟨hl1,hT0,hTn,hspec⟩:=jjG ops.toList 0 hdr;simp only[Jm]at hl1 hTn;have hspec':∀j o,ops[j]? = some o->∃t v,tr[j]? = some (t,v)/\TT tr tf' (j+1)=putT t o.dst v/\(¬Region.wanted o (jaG ops t)=true->v=.tup []):=λj o ho=>hspec j o (by simpa using ho)
  let Inv:(Nat->Prop)->Ctx->World->Prop:=λD O w=>∃c,c<2^ops.size/\(∀i,i<ops.size->(c.testBit i=true↔D i))/\WRel O (St c) w
  have hw1:=hw.same (w':={ w with drawn:=w.drawn+1 }) rfl;have hb1:Below O.base w { w with drawn:=w.drawn+1 }:=⟨rfl,rfl,rfl,Kw _,λ_ _=>rfl⟩
  have h0:∀j,(Array.replicate ops.size false).getD j false=false:=by
    intro j;by_cases h:j<ops.size<;>simp[h]
  have hc0:∀n,cntL (Array.replicate ops.size false) n=0:=by
    intro n;induction n with
    |zero=>rfl
    |succ n ih=>simp only[cntL,ih,h0];rfl
  have hmain:∃O' w' a',O.le O'/\Below O.base { w with drawn:=w.drawn+1 } w'/\Inv (λj=>j<ops.size) O' w'/\LRel O' tf' a'.tmps/\a'.defers=a.defers /\
      ∀k cs,Steps E.P (lone (b.atR a (.inRegion ops (Region.linearise.go .any ops ops.size (w.tape w.drawn (.order b.fn id)) (Array.replicate ops.size false) [])::k)) cs { w with drawn:=w.drawn+1 }) (lone (b.atR a' k) cs w'):=by
   refine jqP (E:=E) (ops:=ops) (tmps:=tmps) (tf:=tf') (tr:=tr) hT0 hTn hspec'
    (λi j oi oj hij hi hj=>by rw[hmk];exact(hs j oj hj).2.2 i oi hij hi)
    (λj oj e hj he hb=>(hs j oj hj).1 e he hb) Inv ?_ b ops.size (w.tape w.drawn (.order b.fn id)) (Array.replicate ops.size false) tmps O _ a ae (by rw[hc0];omega)
    (λj o hj=>by rw[h0]at hj;simp at hj) rfl
    (fun x j hj hwr=>by
      rw[<- hT0]
      have hno:∀i o,i<j->ops[i]? = some o->o.dst ≠ some x:=by
        intro i o hij ho hd;have:=(hwr i o ho hd).2 hij;rw[h0]at this;simp at this
      clear hwr
      induction j with
      |zero=>rfl
      | succ j ih =>
        have hlt:j<ops.size:=aa;obtain⟨t,v,h2,h3,_⟩:=hspec' j ops[j] (by simp[hlt]);rw[h3,jdY (hno j ops[j] aa (by simp[hlt])),ih aa (λi o a b=>hno i o aa b)];simp[TT,h2]) ?_ hg hx
   · -- one operation
     intro D i o t v ho htr hnD hbefore hafter O w hI hg;rw[hmk]at hbefore hafter;obtain⟨c,hc,hbits,hwc⟩:=hI;have hin:i<ops.size:=(Qi.1 ho).1
     have hlow:∀j,c.testBit j=true->j<ops.size:=λj hj=>Jo λhge=>by
       have:c.testBit j=false:=Nat.testBit_lt_two_pow (Vp hc (Nat.pow_le_pow_right af aa));rw[this]at hj;cases hj
     have hmlt:∀j i',(masks.getD j 0).testBit i'=true->j<ops.size:=λj i' hj=>Jo λhge=>by
       have:masks.getD j 0=0:=by
         rw[List.getD,Qo]
         · rfl
         · rw[<- hmk]
           have:=jdQ ops.toList [];simp at this;omega
       rw[this]at hj;simp at hj
     have hmi:∀i',(masks.getD i 0).testBit i'=true->i'<i:=λi' hb=>jvc (ops:=ops) (λj oj e hj he hb'=>(hs j oj hj).1 e he hb') (by rw[hmk];exact hb)
     have hal:jcZ masks i c:=by
       refine⟨?_,λi' hb hne => ?_,λi' hb => ?_⟩
       · cases hb:c.testBit i with
         |false=>rfl
         |true=>exact absurd ((hbits i hin).1 hb) hnD
       · have hlt:=hmi i' hb
         exact(hbits i' aa).2 (hbefore i' hb hne)
       · cases hb':c.testBit i' with
         |false=>rfl
         |true=>exact absurd ((hbits i' (hmlt i' i hb)).1 hb') (hafter i' hb)
     have hc2:c |||2^i<2^ops.size:=Nat.or_lt_two_pow hc (Nat.pow_lt_pow_right af hin)
     have hbits2:∀j,j<ops.size->((c |||2^i).testBit j=true↔D j\/j=i):=λj hj=>by
       rw[Nat.testBit_or,Nat.testBit_two_pow,Xe,hbits j hj];simp only[Jq];constructor
       · rintro(h|h)
         · exact .inl h
         · exact .inr h.symm
       · rintro(h|h)
         · exact .inl h
         · exact .inr h.symm
     have hstep:=hSt i o t v ho htr c hc hal;by_cases hwt:Region.wanted o (jaG ops t)=true
     · rw [Kg hwt]at hstep
       refine⟨λ_ τ a b rest hx hlook hwant2 => ?_,λhnw=>absurd hwt hnw⟩;by_cases hal':jbl o.op=true
       · obtain⟨n,ty,z,hty,rfl,hres,hz,hSc⟩:=hstep.1 hal'
         obtain⟨zv,hzv,hzr⟩:=jer (O:=O) (w:=w) hz;have mv:=hwc.revive (o:=.cells z.cells ty) (ob:=.cells zv.cells ty (0,0)) hres ⟨rfl,rfl,Vc hzr.cells.len,hzr.cells.rel⟩;rw[<- hSc]at mv;have hgn:=(hs i o ho).2.1 hal';refine⟨_,_,.pointer (some ⟨w.heap.size,0,none⟩),mv.le,mv.below,⟨c |||2^i,hc2,hbits2,mv.rel⟩,.ptr _ _ w.heap.size (by simp[Ctx.push]),λk cs=>.one (jdm ho hwant2 (by intro c hc;rw[hty]at hc;cases hc) (.inl ?_))⟩;obtain⟨dst,op,type,pos,after,guard⟩:=o;simp only at hty;subst hty;simp only[execOp,Instr.alloc,Sem.run_bind,hzv,Result.andThen_ok,newVar,newRow,run_newObj,Sem.run_pure]
       · have hop:=hstep.2 (by simpa using hal')
         have hrun:opV E rec mutb τ (St c) o.op=some (v,St (c |||2^i)):=by
           rw[jlz o.op (jio (E:=E) hlook)];exact hop
         obtain⟨O1,w1,y,m1,hy,hs1⟩:=jin hE hrec hrun hwc hg hx (b:=b) (rest:=rest) ho hwant2;exact⟨O1,w1,y,m1.le,m1.below,⟨c |||2^i,hc2,hbits2,m1.rel⟩,hy,hs1⟩
     · rw[Ke hwt]at hstep
       refine⟨λh=>absurd h hwt,λ_=>⟨c |||2^i,hc2,hbits2,by rw[hstep];exact hwc⟩⟩
   · -- the start
     refine⟨0,Nat.two_pow_pos _,λi _=>by simp[h0],?_⟩;rw[hS0];refine hw1.reheap rfl ae (λx hx=>by simp[Kj hx]) (λx o hx ho => ?_);simp only[Jv hx]at ho;exact(List.mem_replicate.1 (Th ho)).2
  obtain⟨O',w',a',hle,hbel,⟨c,hc,hbits,hw'⟩,hx',hd,hs'⟩:=hmain;have hall:=hSf c (λi hi=>(hbits i hi).2 hi) hc;rw[hall]at hw';refine⟨O',w',a',⟨hle,hw',hb1.trans hbel⟩,hx',hd,λk cs=>.head stepR_region_draw ?_⟩
  have hsch:Region.schedule (E.P.follows .mixedOrders) ops (w.tape w.drawn (.order b.fn id))=Region.linearise.go .any ops ops.size (w.tape w.drawn (.order b.fn id)) (Array.replicate ops.size false) []:=by
    simp only[Region.schedule,hmix,Ui,Kl,Region.linearise]
  rw[hsch];exact hs' k cs
end
section
variable {E:Env}
end
end Go.Ab
