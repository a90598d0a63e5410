/- Proved here: the check of an expression, and expressions as trees. Conditions: each theorem's own. -/
import Derived.Test.YtajaampgajieeaaGreatDoorCqA
set_option linter.unusedSimpArgs false
set_option maxHeartbeats 16000000
set_option maxRecDepth 1000000
set_option linter.unusedVariables false
set_option linter.unusedSectionVars false
namespace Go.Proofs.YtajaampgajieeaaGreatDoor
open Go.Ab
def Bit(x:Int):Prop:=x=0\/x=1
inductive Ex where
 |num (n:Int)
 |col (nm:List UInt8)
 |wrd (nm w:List UInt8) (op:Int)
 |una (op:Int) (a:Ex)
 |bin (op:Int) (a b:Ex)
 |ite (c a b:Ex)
abbrev opN(op:Int):Nd:=⟨op,0,[]⟩
def Ex.post:Ex->List Nd
 |num n=>[⟨1,n,[]⟩]
 |col nm=>[⟨2,0,nm⟩]
 |wrd nm w op=>[⟨2,0,nm⟩,⟨3,0,w⟩,opN op]
 |una op a=>a.post++[opN op]
 |bin op a b=>a.post++(b.post++[opN op])
 |ite c a b=>c.post++(a.post++(b.post++[opN 8]))
def Ex.kind:Ex->Int
 |num _=>0
 |col _=>0
 |wrd _ _ _=>1
 |una op _=>(jbi op).2
 |bin op _ _=>(jbi op).2
 |ite _ _ _=>0
def WF(cs:List Col):Ex->Prop
 | .num n=>0<=n/\n<=1000000000
 | .col nm=>0<=jbg cs nm
 | .wrd nm w op=>0<=jbg cs nm/\w∈(colN cs nm).ws/\(op=9\/op=10)
 | .una op a=>WF cs a/\(op=7\/op=17)/\(jbi op).1=[a.kind]
 | .bin op a b=>WF cs a/\WF cs b/\(4<=op/\op<=16/\op ≠ 7/\op ≠ 8)/\(jbi op).1=[a.kind,b.kind]
 | .ite c a b=>WF cs c/\WF cs a/\WF cs b/\c.kind=1/\a.kind=0/\b.kind=0
def At(l:List Nd)(i:Nat)(p:List Nd):Prop:=∀k,k<p.length->l[i+k]? = p[k]?
theorem At.left {l:List Nd}{i:Nat}{a b:List Nd}(h:At l i (a++b)):At l i a:=λk hk=>by
 rw[h k (by rw[Kk];omega),Kj hk]
theorem At.right {l:List Nd}{i:Nat}{a b:List Nd}(h:At l i (a++b)):At l (i+a.length) b:=λk hk=>by
 have:=h (a.length+k) (by rw[Kk];omega);rw[<- Vk,Jv aa,Nat.add_sub_cancel_left]at this;exact this
theorem At.hd {l:List Nd}{i:Nat}{x:Nd}{r:List Nd}(h:At l i (x::r)):gN l i=x/\i<l.length:=by
 have:=h 0 ae;simp only[Vo,Q9]at this;exact⟨by simp[gN,List.getD,this],(K4.1 this).1⟩
theorem At.tl {l:List Nd}{i:Nat}{x:Nd}{r:List Nd}(h:At l i (x::r)):At l (i+1) r:=λk hk=>by
 have:=h (k+1) (by simpa using hk);rw[show i+(k+1)=i+1+k by omega]at this;simpa using this
theorem At.all(l:List Nd):At l 0 l:=λk _=>by rw[Jk]
theorem jfU {l:List Nd}{i:Nat}{cs:List Col}{x:Nd}(h:gN l i=x)(h1:¬BadF x)(h2:0<=x.n/\x.n<=1000000000)(h3:x.op=3->jnw l i cs=0)(h4:x.op=2->0<=jbg cs x.col):jeo l i cs=0:=by
 subst h;unfold jeo;rw[Ke h1,Ke aa];by_cases h:(gN l i).op=3
 ·rw[Kg h];exact h3 h
 ·rw[Ke h,Ke (λhh=>by have:=h4 hh.1;omega)]
theorem jrX {l:List Nd}{i:Nat}{cs:List Col}{op:Int}(h:gN l i=opN op)(h1:4<=op)(h2:op<=17):jeo l i cs=0 :=
 jfU h (by unfold BadF;simp;omega) ⟨Jt _,ae⟩ (λe=>by simp only at e;omega) (λe=>by simp only at e;omega)
theorem jgM {l:List Nd}{cs:List Col}{m i:Nat}{st st':List Int}(hn:jeo l i cs=0)(hp:popN st (jbi (gN l i).op).1=some st'):jcO l cs (m+1) i st=jcO l cs m (i+1) (st'++[(jbi (gN l i).op).2]):=by
 simp only[jcO,hn,Kl,hp]
theorem jhT(st want:List Int):popN (st++want) want=some st:=by
 unfold popN;have e:(st++want).length-want.length=st.length:=by rw[Kk];omega
 rw[Kg ⟨by rw[Kk];omega,by rw[e,List.drop_left]⟩,e,List.take_left]
theorem jhU {l:List Nd}{i:Nat}{cs:List Col}{op:Int}(h:gN l i=opN op)(h1:4<=op)(h2:op<=17)(m:Nat)(st ks:List Int)(hk:(jbi op).1=ks) :
  jcO l cs (m+1) i (st++ks)=jcO l cs m (i+1) (st++[(jbi op).2]):=by
 have ho:(gN l i).op=op:=by rw[h]
 rw[jgM (jrX h h1 h2) (st':=st) (by rw[ho,hk];exact jhT st ks),ho]
theorem jrY {l:List Nd}{i:Nat}{cs:List Col}{nm:List UInt8}(h:gN l i=⟨2,0,nm⟩)(hs:0<=jbg cs nm):jeo l i cs=0 :=
 jfU h (by unfold BadF;simp) ⟨Jt _,ae⟩ (λe=>by simp only at e;omega) (λ_=>hs)
theorem jl2 {l:List Nd}{i:Nat}{cs:List Col}{nm:List UInt8}(h:gN l i=⟨2,0,nm⟩)(hs:0<=jbg cs nm)(m:Nat)(st:List Int) :
  jcO l cs (m+1) i st=jcO l cs m (i+1) (st++[0]):=by
 have hp:=jhT st [];rw[Jb]at hp;rw[jgM (jrY h hs) (st':=st) (by rw[h];exact hp),h];rfl
theorem jpS {l:List Nd}{i:Nat}{cs:List Col}{nm w:List UInt8}{op:Int}(h0:gN l i=⟨2,0,nm⟩)(h:gN l (i+1)=⟨3,0,w⟩)(h2:gN l (i+2)=opN op)(hl:i+2<l.length)(ho:op=9\/op=10)(hw:w∈(colN cs nm).ws)(m:Nat)(st:List Int) :
  jcO l cs (m+1) (i+1) st=jcO l cs m (i+2) (st++[0]):=by
 have hn:jeo l (i+1) cs=0:=by
  have hb:¬BadW l (i+1):=by
   unfold BadW;rw[Nat.add_sub_cancel,h0,show i+1+1=i+2 by omega,h2];simp only;omega
  refine jfU h (by unfold BadF;simp) ⟨Jt _,ae⟩ (λ_ => ?_) (λe=>by simp only at e;omega);unfold jnw;rw[Ke hb,Nat.add_sub_cancel,h0,h];simp only;rw[Ke (λe=>by rw[Q6 e]at hw;simp at hw),Kg hw]
 have hp:=jhT st [];rw[Jb]at hp;rw[jgM hn (st':=st) (by rw[h];exact hp),h];rfl
theorem Ex.chunk(cs:List Col):∀(e:Ex),WF cs e->∀(l:List Nd) (i:Nat),At l i e.post->∀(m:Nat) (st:List Int),
  jcO l cs (m+e.post.length) i st=jcO l cs m (i+e.post.length) (st++[e.kind])
 |num n,hw,l,i,ha,m,st=>by
  obtain⟨hg,hl⟩:=At.hd ha;have hn:jeo l i cs=0:=jfU hg (by unfold BadF;simp) hw (λe=>by simp only at e;omega) (λe=>by simp only at e;omega);have hp:=jhT st [];rw[Jb]at hp
  change jcO l cs (m+1) i st=_
  rw[jgM hn (st':=st) (by rw[hg];exact hp),hg];rfl
 |col nm,hw,l,i,ha,m,st=>jl2 (At.hd ha).1 hw m st
 |wrd nm w op,hw,l,i,ha,m,st=>by
  obtain⟨w1,w2,w3⟩:=hw;obtain⟨g0,_⟩:=At.hd ha;obtain⟨g1,_⟩:=At.hd (At.tl ha);obtain⟨g2,hl⟩:=At.hd (At.tl (At.tl ha));have g2:gN l (i+2)=opN op:=g2;have c1:=jl2 g0 w1 (m+2) st;have c2:=jpS g0 g1 g2 hl w3 w2 (m+1) (st++[0]);have c3:=jhU (cs:=cs) g2 aa aa m st [0,0] (by rcases w3 with rfl|rfl<;>rfl);simp only[K7,Jn,Ja]at c2;refine(c1.trans c2).trans (c3.trans ?_)
  rcases w3 with rfl|rfl<;>rfl
 |una op a,hw,l,i,ha,m,st=>by
  obtain⟨w1,w2,w3⟩:=hw;have c1:=chunk cs a w1 l i ha.left (m+1) st;have c2:=jhU (cs:=cs) (At.hd ha.right).1 aa aa m st [a.kind] w3;have e:m+(una op a).post.length=m+1+a.post.length:=by simp only[post,Kk,Qh,Qr];omega
  have e2:i+(una op a).post.length=i+a.post.length+1:=by simp only[post,Kk,Qh,Qr];omega
  rw[e,e2];exact c1.trans c2
 |bin op a b,hw,l,i,ha,m,st=>by
  obtain⟨w1,w2,w3,w4⟩:=hw;have c1:=chunk cs a w1 l i ha.left (m+1+b.post.length) st;have c2:=chunk cs b w2 l _ ha.right.left (m+1) (st++[a.kind]);have c3:=jhU (cs:=cs) (At.hd ha.right.right).1 aa aa m st [a.kind,b.kind] w4;simp only[K7,Jn,Ja]at c2;have e:m+(bin op a b).post.length=m+1+b.post.length+a.post.length:=by simp only[post,Kk,Qh,Qr];omega
  have e2:i+(bin op a b).post.length=i+a.post.length+b.post.length+1:=by simp only[post,Kk,Qh,Qr];omega
  rw[e,e2];exact(c1.trans c2).trans c3
 |ite c a b,hw,l,i,ha,m,st=>by
  obtain⟨w1,w2,w3,k1,k2,k3⟩:=hw;have c1:=chunk cs c w1 l i ha.left (m+1+b.post.length+a.post.length) st;have c2:=chunk cs a w2 l _ ha.right.left (m+1+b.post.length) (st++[c.kind]);have c3:=chunk cs b w3 l _ ha.right.right.left (m+1) (st++[c.kind]++[a.kind]);have c4:=jhU (cs:=cs) (At.hd ha.right.right.right).1 aa aa m st [c.kind,a.kind,b.kind] (by rw[k1,k2,k3];rfl);simp only[K7,Jn,Ja]at c2 c3;have e:m+(ite c a b).post.length=m+1+b.post.length+a.post.length+c.post.length:=by simp only[post,Kk,Qh,Qr];omega
  have e2:i+(ite c a b).post.length=i+c.post.length+a.post.length+b.post.length+1:=by simp only[post,Kk,Qh,Qr];omega
  rw[e,e2];exact((c1.trans c2).trans c3).trans c4
theorem Ex.whole {cs:List Col}{e:Ex}(h:WF cs e)(cond:Bool):jfv e.post cs cond=if 200<e.post.length then 4 else if e.kind=(if cond then 1 else 0)then 0 else 10:=by
 unfold jfv jjp;split
 ·rfl
 ·have c:=chunk cs e h e.post 0 (At.all _) 0 [];rw[Jk]at c;rw[c];simp[jcO]
def In64(x:Int):Prop := -9223372036854775808<=x/\x<=9223372036854775807
theorem jkO {xs:List Int}(h:∀x∈xs,In64 x)(j:Nat):In64 (xs.getD j 0):=by
 rw[List.getD]
 rcases Ql j xs.length with hj|hj
 ·rw[Kz hj];exact h _ (J7 hj)
 ·rw[Qo hj];simp[In64]
theorem jj4:∀l:List (List UInt8),V.weak.weakL (l.map V.str)=l.map V.str
 | []=>rfl
 |x::l=>by simp only[K6,V.weak.weakL,V.weak,jj4 l]
theorem jw0 {w:V}{ws:List (List UInt8)}(h:IsW w ws):w.weak=w:=by
 rcases h with⟨rfl,_⟩|rfl
 ·rfl
 ·simp only[V.weak,jj4,RCap.weak]
theorem jch:∀{cs:List Col},OkC cs->V.weak.weakL (jaO cs)=jaO cs
 | [],_=>rfl
 |c::cs,h=>by
  rw[jbI];simp only[V.weak.weakL,V.weak,jch (cs:=cs) (λd hd=>h d (Vy _ hd)),jw0 (h c List.mem_cons_self)]
abbrev aggC(c:Col):V:=.agg [.str c.name,.int .i64 c.lo,.int .i64 c.hi,c.w]
theorem V1i {α:Type}{o:Option α}{v:α}{k:α->Prop}(h:o=some v)(g:k v):V1 o k:=⟨v,h,g⟩
theorem jdb(E:Env)(t:TypeId)(ps:Array (Nat × Operand)):scOp E (.build t ps)=false:=rfl
theorem jdc(t:TypeId)(ps:Array (Nat × Operand)):jaP (.build t ps)=false:=rfl
theorem jiF(t:TypeId)(n:Nat)(ps:Array (Nat × Operand)):jaP (.buildSlice t n ps)=false:=rfl
end Go.Proofs.YtajaampgajieeaaGreatDoor
