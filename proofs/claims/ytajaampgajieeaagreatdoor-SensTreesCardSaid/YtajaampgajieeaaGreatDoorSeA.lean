/- Proved here: sensitivities. Conditions: each theorem's own. -/
import Derived.Test.YtajaampgajieeaaGreatDoorAdA
set_option linter.unusedSimpArgs false
set_option maxHeartbeats 16000000
set_option maxRecDepth 1000000
set_option linter.unusedVariables false
set_option linter.unusedSectionVars false
namespace Go.Proofs.YtajaampgajieeaaGreatDoor.B
open Go.Ab
open W (IsI)
theorem jAp:env.P.funcs[112]? = some Tryz.f112:=ac
theorem jAq:env.P.funcs[117]? = some Tryz.f117:=ac
theorem at40:env.P.funcs[40]? = some Tryz.f40:=ac
theorem at49:env.P.funcs[49]? = some Tryz.f49:=ac
theorem hk19:env.hook 19=some (jbU K.env 19):=rfl
def accX(Q:Qy)(ss:List Sch)(fe:Int):Prop:=(jdD Q ss fe).1=0/\K.privX Q ss=true
def lessX(n m:Int):Int:=if n=0\/m<n then m else n
def jfa(Q:Qy)(ss:List Sch):Int:=if Q.other=[]then lessX Q.keep (schN ss Q.table).many else lessX Q.keep (schN ss Q.table).many*(if(schN ss Q.other).pub=true then Q.limit else min Q.limit (schN ss Q.other).many)
noncomputable def widX(Q:Qy)(ss:List Sch):Int:=if Q.kind=1\/Q.kind=2 then 1 else if Q.kind=5 then Q.hi-Q.lo+1 else jcU ((jaI Q ss).getD (colI (jaI Q ss) Q) Col.none)
theorem job(n m:Int)(U:S):jah env (ev env) 117 [.int .i64 n,.int .i64 m] U=some (.int .i64 (lessX n m),U):=by
 refine jaj rfl jAq rfl ?_ U;unfold lessX;by_cases h1:n=0
 ·have d1:=eq_true h1;rw[Kg (.inl h1)];simp only[Tryz.f117,simprocAttr,zK,Vq,jai,d1];rfl
 ·have d1:=eq_false h1;by_cases h2:m<n
  ·have d2:=eq_true h2;rw[Kg (.inr h2)];simp only[Tryz.f117,simprocAttr,zK,Vq,jai,d1,d2];rfl
  ·have d2:=eq_false h2;rw[Ke λh=>h.elim h1 h2];simp only[Tryz.f117,simprocAttr,zK,Vq,jai,d1,d2];rfl
section
variable {lv:V}{ss:List Sch}{Q:Qy}{ev' wv rv:V}{fe:Int}
open Classical in
theorem jla(hS:K.SB lv ss)(hQ:K.QV Q ev' wv rv)(hf:K.Fac Q.factor fe)(U:S):jah env (ev env) 112 [.agg (Q.cells ev' wv rv),lv] U=some (.bool (decide (accX Q ss fe)),U):=by
 refine jaj (by rw[Ks,hQ.closed,Ks,jda hS.v hS.ok];rfl) jAp rfl ?_ U;have hK:=λU=>jiy hk17 (λU=>K.check_call hS hQ hf U) (Go.Ab.ev env) U
 have hP:=λU=>jiy hk19 (λU=>K.private_call hS hQ U) (Go.Ab.ev env) U
 have hl:jab [K.qc30 Q ev' wv rv] 20 (.ptr 0 0)=_:=K.ld30 (Q:=Q) (ev:=ev') (wv:=wv) (rv:=rv) rfl;unfold accX;unfold Qy.cells at hK hP ⊢;by_cases h0:(jdD Q ss fe).1=0
 ·have g0:=eq_true h0;simp only[Tryz.f112,simprocAttr,zK,Vq,jai,tyb,YW,hl,hK,hP,g0];simp[jaB,jak,jaA]
 ·have g0:=eq_false h0;simp only[Tryz.f112,simprocAttr,zK,Vq,jai,tyb,YW,hl,hK,hP,g0];simp[jaB,jak,jaA]
theorem jeI(h:accX Q ss fe):CK Q ss/\(schN ss Q.table).pub=false:=by
 refine⟨ja4 h.1,?_⟩;have:=h.2;unfold K.privX at this;exact(of_decide_eq_true this).2.2
theorem jwf {n m:Int}(hn:0<=n/\n<=50)(hm:0<=m/\m<=1000):0<=lessX n m/\lessX n m<=1000:=by unfold lessX;split<;>omega
theorem mulb {a b A B:Int}(ha:0<=a/\a<=A)(hb:0<=b/\b<=B):0<=a*b/\a*b<=A*B:=⟨Int.mul_nonneg ha.1 hb.1,Int.mul_le_mul ha.2 hb.2 hb.1 aa⟩
theorem jgo {nm:List UInt8}(h:0<=ja3 ss nm ss.length 0):∃i:Nat,ja3 ss nm ss.length 0=(i:Int)/\i<ss.length/\schN ss nm=ss.getD i Sch.none:=by
 obtain⟨i,h1,h2,_,h4,_⟩:=jpa h;exact⟨i,h1,h2,h4⟩
theorem js2(hm:∀s∈ss,0<=s.many/\s.many<=1000){nm:List UInt8}(h:0<=ja3 ss nm ss.length 0):0<=(schN ss nm).many/\(schN ss nm).many<=1000:=by
 obtain⟨i,_,h2,h3⟩:=jgo h;rw[h3];exact hm _ (by simp[List.getD,h2])
theorem rows_in(hm:∀s∈ss,0<=s.many/\s.many<=1000)(h:accX Q ss fe):0<=jfa Q ss/\jfa Q ss<=50000:=by
 have hK:=(jeI h).1;have h1:=jwf hK.keep (js2 hm hK.tab);unfold jfa;by_cases ho:Q.other=[]
 ·rw[Kg ho];omega
 ·rw[Ke ho];obtain⟨f1,_,_,f4,f5,_⟩:=hK.other ho;have h2:=js2 hm f1;have h3:0<=(if(schN ss Q.other).pub=true then Q.limit else min Q.limit (schN ss Q.other).many)/\(if(schN ss Q.other).pub=true then Q.limit else min Q.limit (schN ss Q.other).many)<=50:=by split<;>omega
  exact mulb h1 h3
open Classical in
theorem rows40(hS:K.SB lv ss)(hQ:K.QV Q ev' wv rv)(hf:K.Fac Q.factor fe)(hm:∀s∈ss,0<=s.many/\s.many<=1000)(U:S):jah env (ev env) 40 [.agg (Q.cells ev' wv rv),lv] U=some (.int .i64 (if accX Q ss fe then jfa Q ss else 0),U):=by
 refine jaj (by rw[Ks,hQ.closed,Ks,jda hS.v hS.ok];rfl) at40 rfl ?_ U;have hA:=jla hS hQ hf;have hl:jab [K.qc30 Q ev' wv rv] 20 (.ptr 0 0)=_:=K.ld30 (Q:=Q) (ev:=ev') (wv:=wv) (rv:=rv) rfl;by_cases ha:accX Q ss fe
 case neg =>
  rw[decide_eq_false ha]at hA;rw[Ke ha];unfold Qy.cells at hA ⊢;simp only[Tryz.f40,simprocAttr,zK,Vq,jai,tyb,YW,hl,hA];rfl
 rw[decide_eq_true ha]at hA;rw[Kg ha];have hin:=rows_in hm ha;obtain⟨hK,hpub⟩:=jeI ha;obtain⟨i,i1,i2,i3⟩:=jgo hK.tab;have hF:=λU=>jb6 hk97 (λU=>find_call Q.table lv ss hS.v hS.ok hS.l U) (Go.Ab.ev env) U
 rw[i1,jhD]at hF;have hx:=jkJ hS.v i2;rw[<- i3]at hx;have hL:=job Q.keep (schN ss Q.table).many;unfold jfa at hin ⊢;unfold Qy.cells at hA ⊢;by_cases ho:Q.other=[]
 ·have d1:=eq_true ho;rw[Kg ho];simp only[Tryz.f40,simprocAttr,yK,Vq,jai,Q1,YW,hl,hA,hF,hx,Qz,K5,jaq,hL,jax,d1];exact⟨ac,rfl⟩
 have d1:=eq_false ho;rw[Ke ho]at hin ⊢;obtain⟨f1,_⟩:=hK.other ho;obtain⟨j,j1,j2,j3⟩:=jgo f1;have hF2:=λU=>jb6 hk97 (λU=>find_call Q.other lv ss hS.v hS.ok hS.l U) (Go.Ab.ev env) U
 rw[j1,jhD]at hF2;have hx2:=jkJ hS.v j2;rw[<- j3]at hx2;cases hp:(schN ss Q.other).pub with
 |true =>
  rw[Kg hp]at hin;have hw:IntKind.i64.wrap (lessX Q.keep (schN ss Q.table).many*Q.limit)=lessX Q.keep (schN ss Q.table).many*Q.limit:=wrap_i64 aa aa;rw[hp]at hx2;simp only[Tryz.f40,simprocAttr,yK,Vq,jai,Q1,YW,hl,hA,hF,hF2,hx,hx2,Qz,K5,jaq,hL,jax,d1,hw];exact⟨ac,rfl⟩
 |false =>
  rw[Ke (by rw[hp];decide)]at hin;have hw:IntKind.i64.wrap (lessX Q.keep (schN ss Q.table).many*min Q.limit (schN ss Q.other).many)=lessX Q.keep (schN ss Q.table).many*min Q.limit (schN ss Q.other).many:=wrap_i64 aa aa;have hmn:(if(schN ss Q.other).many<Q.limit then(schN ss Q.other).many else Q.limit)=min Q.limit (schN ss Q.other).many:=by split<;>omega
  rw[hp]at hx2;simp only[Tryz.f40,simprocAttr,yK,Vq,jai,Q1,YW,hl,hA,hF,hF2,hx,hx2,Qz,K5,jaq,hL,jax,d1,hmn,hw];exact⟨ac,ac,rfl⟩
end
theorem jAr:env.P.funcs[185]? = some Tryz.f185:=ac
theorem jAs:env.P.funcs[186]? = some Tryz.f186:=ac
theorem jAt:env.P.funcs[187]? = some Tryz.f187:=ac
theorem jAu:env.P.funcs[188]? = some Tryz.f188:=ac
theorem jAv:env.P.funcs[189]? = some Tryz.f189:=ac
theorem jAw:env.P.funcs[190]? = some Tryz.f190:=ac
theorem jAx:env.P.funcs[230]? = some Tryz.f230:=ac
theorem jAy:env.P.funcs[113]? = some Tryz.f113:=ac
theorem at36:env.P.funcs[36]? = some Tryz.f36:=ac
def levN(n:Nat):Nat:=if n<1 then 0 else if n<2 then 1 else if n<3 then 2 else if n<5 then 3 else if n<9 then 4 else if n<17 then 5 else if n<33 then 6 else 7
theorem jup:(List.range 65).all (λn=>jjM (.int .i64 (levN n)) (run env 60 (.call 52 [.int .i64 n] S.empty)))=true:=by
 kernel_rfl
theorem levels_call {n:Nat}(h:n<=64)(U:S):jah env (ev env) 52 [.int .i64 (n:Int)] U=some (.int .i64 (levN n),U) :=
 jbd rfl rfl rfl (Qq.1 jup n (Xs.2 aa)) U
theorem jmG {n:Int}(h : -1000000<=n/\n<=1000000)(U:S):jah env (ev env) 230 [.int .i64 n] U=some (.int .i64 (max n (-n)),U):=by
 refine jaj rfl jAx rfl ?_ U;have hw:IntKind.i64.wrap (0-n) = -n:=by rw[wrap_i64 aa aa];omega
 have hm:(if -n>n then -n else n)=max n (-n):=by split<;>omega
 simp only[Tryz.f230,simprocAttr,zK,Vq,jai,hw,hm];rfl
def fcV(Q:Qy)(ev' wv rv:V)(r w:Int):V:=.agg (Q.cells ev' wv rv++[.int .i64 r,.int .i64 w])
def fnK(k:Int):Nat:=if k=3 then 187 else if k=5 then 188 else if k=9 then 189 else if k=10 then 190 else if k=2\/k=4 then 186 else 185
def jwg(Q:Qy)(r:Int)(w:Nat):Int :=
 if Q.kind=3 then(if Q.cons=true then 2*r else r)else if Q.kind=5 then r*max Q.p (Q.q-Q.p)else if Q.kind=9 then r*levN w else if Q.kind=10 then r*(if Q.strat=0 then 1 else if Q.strat=1 then(w:Int)else levN w)else if Q.kind=2\/Q.kind=4 then max 1 (r*max (max Q.lo (-Q.lo)) (max Q.hi (-Q.hi)))else r
theorem joc:jas env 127 0=some 0/\jas env 127 1=some 20/\jas env 127 2=some 21/\(∀h p,jaH env h 127 p=(jab h 22 p).map .agg) :=
 ⟨ac,ac,ac,λh p=>by unfold jaH;rw[show aggT env 127=some true by kernel_rfl,show sz env 127=some 22 by kernel_rfl];rfl⟩
theorem jAz(a b c:Int):jbD env 194 [(0,.int .i64 a),(1,.int .i64 b),(2,.int .i64 c)]=some (.agg [.int .i64 a,.int .i64 b,.int .i64 c]):=ac
theorem jwh(a b c:Int):jiu env 194 (.agg [.int .i64 a,.int .i64 b,.int .i64 c]) (.int .i64 0)=some (.int .i64 a):=ac
theorem jwi(a b c:Int):jiu env 194 (.agg [.int .i64 a,.int .i64 b,.int .i64 c]) (.int .i64 1)=some (.int .i64 b):=ac
theorem jwj(a b c:Int):jiu env 194 (.agg [.int .i64 a,.int .i64 b,.int .i64 c]) (.int .i64 2)=some (.int .i64 c):=ac
theorem lev_le(n:Nat):levN n<=7:=by unfold levN;(repeat' split)<;>omega
section
variable {lv:V}{ss:List Sch}{Q:Qy}{ev' wv rv:V}{fe:Int}
theorem js3(h:accX Q ss fe):1<=Q.kind/\Q.kind<=10:=by
 have hk:=(jeI h).1.kind;unfold jjr at hk;by_cases g:Q.kind<1\/10<Q.kind
 ·rw[Kg g]at hk;cases hk
 ·omega
theorem js4(h:accX Q ss fe):(valK Q.kind->Q.lo<=Q.hi /\ -1000000<=Q.lo/\Q.hi<=1000000)/\(Q.kind=5->Q.hi-Q.lo<64/\1<=Q.p/\Q.p<Q.q/\Q.q<=100):=by
 have hl:=(jeI h).1.lim;unfold limE at hl;have a:valK Q.kind->¬(far Q.lo\/far Q.hi\/Q.hi<Q.lo):=λhv b=>by rw[Kg ⟨hv,b⟩]at hl;cases hl
 refine⟨λhv => ?_,λh5 => ?_⟩
 ·have:=a hv;unfold far at this;omega
 ·rw[Ke λb=>a b.1 b.2]at hl;by_cases b:64<=Q.hi-Q.lo\/Q.p<1\/Q.q<=Q.p\/100<Q.q
  ·rw[Kg ⟨h5,b⟩]at hl;cases hl
  ·omega
theorem juq(h:accX Q ss fe)(hk:Q.kind=10):0<=Q.strat/\Q.strat<=2:=by
 have z:=jdq h.1;unfold je6 at z;have h9:=z ([114,97,110,103,101,115],rgE Q (colN (jaI Q ss) Q.column)) ae;simp only at h9;unfold rgE at h9;rw[Ke (λq=>q hk)]at h9;by_cases a:Q.rg.length=0
 ·rw[Kg a]at h9;cases h9
 rw[Ke a]at h9;by_cases b:64<Q.rg.length
 ·rw[Kg b]at h9;cases h9
 rw[Ke b]at h9;by_cases c:∃r∈Q.rg,r.1<(colN (jaI Q ss) Q.column).lo\/(colN (jaI Q ss) Q.column).hi<r.2\/r.2<r.1
 ·rw[Kg c]at h9;cases h9
 rw[Ke c]at h9;by_cases d:Q.strat<0\/2<Q.strat
 ·rw[Kg d]at h9;cases h9
 ·omega
theorem jur(h:accX Q ss fe)(hQ:K.QV Q ev' wv rv){r:Int}(hr:0<=r/\r<=50000){w:Nat}(hw:w<=64)(U:S):jah env (ev env) (fnK Q.kind) [fcV Q ev' wv rv r w] U=some (.int .i64 (jwg Q r w),U):=by
 have hk:=js3 h;obtain⟨h1,h2⟩:=js4 h
 have hcl:(List.all [fcV Q ev' wv rv r w] V.closed)=true:=by
  have:=hQ.closed;unfold fcV Qy.cells at *;simp only[V.closed,Jn,Ja]at this ⊢;simp only[Ks,Qn,V.closed,V.closed.closedL,Q5,Xh]at this ⊢;exact this
 have hL:=levels_call hw;have hlv:=lev_le w;unfold jwg fnK;unfold fcV Qy.cells at hcl ⊢;by_cases k3:Q.kind=3
 ·rw[Kg k3,Kg k3];refine jaj hcl jAt rfl ?_ U;cases hc:Q.cons with
  |true =>
   have e:IntKind.i64.wrap (2*r)=2*r:=wrap_i64 aa aa;simp only[Tryz.f187,simprocAttr,zK,Vq,jai,Q1,joc,YW,hc,e];rfl
  |false =>
   simp only[Tryz.f187,simprocAttr,zK,Vq,jai,Q1,joc,YW,hc];rfl
 rw[Ke k3,Ke k3];by_cases k5:Q.kind=5
 ·rw[Kg k5,Kg k5];have:=h2 k5;have e0:IntKind.i64.wrap (Q.q-Q.p)=Q.q-Q.p:=wrap_i64 aa aa;have hm:=mulb hr (b:=max Q.p (Q.q-Q.p)) (B:=100) aa;have e1:IntKind.i64.wrap (r*max Q.p (Q.q-Q.p))=r*max Q.p (Q.q-Q.p):=wrap_i64 aa aa;have e2:(if Q.q-Q.p>Q.p then Q.q-Q.p else Q.p)=max Q.p (Q.q-Q.p):=by split<;>omega
  refine jaj hcl jAu rfl ?_ U;simp only[Tryz.f188,simprocAttr,zK,Vq,jai,Q1,joc,YW,e0,e1,e2];rfl
 rw[Ke k5,Ke k5];by_cases k9:Q.kind=9
 ·rw[Kg k9,Kg k9];have hm:=mulb hr (b:=(levN w:Int)) (B:=7) aa;have e1:IntKind.i64.wrap (r*(levN w:Int))=r*(levN w:Int):=wrap_i64 aa aa;refine jaj hcl jAv rfl ?_ U;simp only[Tryz.f189,simprocAttr,zK,Vq,jai,Q1,joc,YW,hL,e1];exact⟨ac,rfl⟩
 rw[Ke k9,Ke k9];by_cases k10:Q.kind=10
 ·rw[Kg k10,Kg k10];have hs:=juq h k10
  have key:∀x:Int,0<=x/\x<=64->jiu env 194 (.agg [.int .i64 1,.int .i64 w,.int .i64 (levN w)]) (.int .i64 Q.strat)=some (.int .i64 x)->jah env (ev env) 190 [.agg ([V.int .i64 Q.kind,ev',.int .i64 Q.lo,.int .i64 Q.hi,.int .i64 Q.p,.int .i64 Q.q,.str Q.column,.int .i64 Q.bound,rv,.int .i64 Q.strat,.bool Q.cons,.str Q.table,.int .i64 Q.keep,.str Q.other,.str Q.left,.str Q.right,.int .i64 Q.limit,wv,.str Q.factor,.int .i64 Q.bits]++[.int .i64 r,.int .i64 w])] U=some (.int .i64 (r*x),U):=λx hx hi=>by
   have hm:=mulb hr hx;have e1:IntKind.i64.wrap (r*x)=r*x:=wrap_i64 aa aa;have bd:=jAz 1 w (levN w);refine jaj hcl jAw rfl ?_ U;simp only[Tryz.f190,simprocAttr,zK,Vq,jai,Q1,joc,YW,hL,bd,jb5,hi,e1];exact⟨ac,rfl⟩
  have hs3:Q.strat=0\/Q.strat=1\/Q.strat=2:=aa
  rcases hs3 with e|e|e
  ·rw[Kg e];exact key 1 aa (by rw[e];exact jwh 1 w (levN w))
  ·rw[Ke aa,Kg e];exact key w aa (by rw[e];exact jwi 1 w (levN w))
  ·rw[Ke aa,Ke aa];exact key (levN w) aa (by rw[e];exact jwj 1 w (levN w))
 rw[Ke k10,Ke k10];by_cases k2:Q.kind=2\/Q.kind=4
 ·rw[Kg k2,Kg k2];have hv:=h1 (by unfold valK;omega);have s1:=jmG (n:=Q.lo) aa;have s2:=jmG (n:=Q.hi) aa;have hm:=mulb hr (b:=max (max Q.lo (-Q.lo)) (max Q.hi (-Q.hi))) (B:=1000000) aa;have e0:(if max Q.hi (-Q.hi)>max Q.lo (-Q.lo)then max Q.hi (-Q.hi)else max Q.lo (-Q.lo))=max (max Q.lo (-Q.lo)) (max Q.hi (-Q.hi)):=by split<;>omega
  have e1:IntKind.i64.wrap (r*max (max Q.lo (-Q.lo)) (max Q.hi (-Q.hi)))=r*max (max Q.lo (-Q.lo)) (max Q.hi (-Q.hi)):=wrap_i64 aa aa;generalize max (max Q.lo (-Q.lo)) (max Q.hi (-Q.hi))=b at *;have e2:(if r*b>1 then r*b else 1)=max 1 (r*b):=by split<;>omega
  refine jaj hcl jAs rfl ?_ U;simp only[Tryz.f186,simprocAttr,zK,Vq,jai,Q1,joc,YW,s1,s2,e0,e1,e2];exact⟨ac,rfl⟩
 ·rw[Ke k2,Ke k2];refine jaj hcl jAr rfl ?_ U;simp only[Tryz.f185,simprocAttr,zK,Vq,jai,Q1,joc,YW];rfl
end
def kfs:List (Int × Nat):=[(1,185),(6,185),(7,185),(8,185),(2,186),(4,186),(3,187),(5,188),(9,189),(10,190)]
def fmV(l:List (Int × Nat)):List (V × V × Nat):=l.zipIdx.map λx=>(.int .i64 x.1.1,.func x.1.2 [] [],x.2)
section
variable {lv:V}{ss:List Sch}{Q:Qy}{ev' wv rv:V}{fe:Int}
theorem jus(hK:CK Q ss):K.tells Q ss:=by
 refine⟨hK.all,hK.tab,?_⟩;by_cases ho:Q.other=[]
 ·exact .inl ho
 ·exact .inr (hK.other ho).1
theorem js5(h:accX Q ss fe)(hc:colK Q.kind):0<=jbg (jaI Q ss) Q.column/\jcU ((jaI Q ss).getD (colI (jaI Q ss) Q) Col.none)<=64:=by
 have hl:=(jeI h).1.col;unfold jl4 at hl;rw[Ke (λq=>q hc)]at hl;by_cases b:0<=jbg (jaI Q ss) Q.column
 ·rw[Ke (λq=>q b)]at hl
  have e2:colN (jaI Q ss) Q.column=(jaI Q ss).getD (colI (jaI Q ss) Q) Col.none:=by
   unfold colN;rw[Kg b];rfl
  by_cases d:64<jcU (colN (jaI Q ss) Q.column)
  ·rw[Kg d]at hl;cases hl
  ·rw[e2]at d;exact⟨b,aa⟩
 ·rw[Kg b]at hl;cases hl
open Classical in
theorem width49(hS:K.SB lv ss)(hQ:K.QV Q ev' wv rv)(hf:K.Fac Q.factor fe)(U:S):jah env (ev env) 49 [.agg (Q.cells ev' wv rv),lv] U=some (.int .i64 (if accX Q ss fe then widX Q ss else 0),U):=by
 refine jaj (by rw[Ks,hQ.closed,Ks,jda hS.v hS.ok];rfl) at49 rfl ?_ U;have hA:=jla hS hQ hf;have hl:jab [K.qc30 Q ev' wv rv] 20 (.ptr 0 0)=_:=K.ld30 (Q:=Q) (ev:=ev') (wv:=wv) (rv:=rv) rfl;by_cases ha:accX Q ss fe
 case neg =>
  rw[decide_eq_false ha]at hA;rw[Ke ha];unfold Qy.cells at hA ⊢;simp only[Tryz.f49,simprocAttr,zK,Vq,jai,tyb,YW,hl,hA];rfl
 rw[decide_eq_true ha]at hA;rw[Kg ha];obtain⟨cu,cs,hcu,htl,hok,hle,hsh,hC26⟩:=jmC hS hQ;have ecs:=htl (jus (jeI ha).1);subst ecs;have hcol:=λU=>jb6 jt9 (λU=>jdB Q.column (.str []) (.bool false) (.int .i64 0) rfl rfl rfl cu (jaI Q ss) hcu.isC hok hle U) (ev env) U
 have bd:=jxS hcu
 change ∀U,_=some (jcn (jbg _ _),U)at hcol
 unfold widX;unfold Qy.cells at hA hC26 ⊢;by_cases k1:Q.kind=1
 ·have d1:=eq_true k1;rw[Kg (.inl k1)];simp only[Tryz.f49,simprocAttr,zK,Vq,jai,Q1,YW,hl,hA,d1];rfl
 have d1:=eq_false k1;by_cases k2:Q.kind=2
 ·have d2:=eq_true k2;rw[Kg (.inr k2)];simp only[Tryz.f49,simprocAttr,zK,Vq,jai,Q1,YW,hl,hA,d1,d2];rfl
 have d2:=eq_false k2;rw[Ke λh=>h.elim k1 k2];by_cases k5:Q.kind=5
 ·have d5:=eq_true k5;obtain⟨l1,l2⟩:=js4 ha;have:=l1 (.inr (.inr k5));have:=l2 k5;have e0:IntKind.i64.wrap (Q.hi-Q.lo)=Q.hi-Q.lo:=wrap_i64 aa aa;have e1:IntKind.i64.wrap (Q.hi-Q.lo+1)=Q.hi-Q.lo+1:=wrap_i64 aa aa;rw[Kg k5];simp only[Tryz.f49,simprocAttr,zK,Vq,jai,Q1,YW,hl,hA,d1,d2,d5,e0,e1];rfl
 have d5:=eq_false k5;rw[Ke k5];obtain⟨hk,_⟩:=js5 ha (by unfold colK;omega);obtain⟨n1,n2⟩:=jeG hk;rw[n1,jhD]at hcol;have hix:=jel hcu.isC n2;have hcm:(jaI Q ss).getD (jbg (jaI Q ss) Q.column).toNat Col.none∈jaI Q ss:=by simp[List.getD,n2]
 have hW:=λU=>jb6 jtD (λU=>width_call _ (hok _ hcm) (hsh _ n2) U) (ev env) U
 unfold aggC at hW;simp only[Tryz.f49,simprocAttr,yK,Vq,jai,Q1,YW,hl,hA,d1,d2,d5,hC26,bd,hcol,hix,ld4r,hW];rfl
end
theorem u124:env.P.underlying 124=some (.map 3 123):=ac
theorem jxV(L:List AObj)(ts:List Nat):newO env 124 ⟨L,ts⟩=some (.map L.length,⟨L++[.map (fmV (kfs.take 0)) 0],ts⟩):=by
 unfold newO;rw[u124];rfl
theorem jgf(L:List AObj)(ts:List Nat)(k:Int)(f:Nat)(i:Nat)(hf:jcj env 3 (.int .i64 k) (fmV (kfs.take i)) 0=some none)(he:fmV (kfs.take i)++[(.int .i64 k,.func f [] [],i)]=fmV (kfs.take (i+1))) :
  insO env 124 (.map L.length) (.int .i64 k) (.func f [] []) ⟨L++[.map (fmV (kfs.take i)) i],ts⟩=some (.tup [],⟨L++[.map (fmV (kfs.take (i+1))) (i+1)],ts⟩):=by
 have hk:jcY env 8 3 (.int .i64 k)=true:=ac;unfold insO;rw[u124];simp only[jad,hk,hf,Kl,he,S.set,jan]
theorem jut(L:List AObj)(ts:List Nat):jah env (ev env) 113 [] ⟨L,ts⟩=some (.map L.length,⟨L++[.map (fmV kfs) 10],ts⟩):=by
 refine jaL jAy rfl ?_;have hn:=jxV L ts;have h0:=jgf L ts 1 185 0 ac rfl;have h1:=jgf L ts 6 185 1 ac rfl;have h2:=jgf L ts 7 185 2 ac rfl;have h3:=jgf L ts 8 185 3 ac rfl;have h4:=jgf L ts 2 186 4 ac rfl;have h5:=jgf L ts 4 186 5 ac rfl;have h6:=jgf L ts 3 187 6 ac rfl;have h7:=jgf L ts 5 188 7 ac rfl;have h8:=jgf L ts 9 189 8 ac rfl;have h9:=jgf L ts 10 190 9 ac rfl;simp only[Nat.reduceAdd]at h0 h1 h2 h3 h4 h5 h6 h7 h8 h9;simp only[Tryz.f113,simprocAttr,zK,Vq,jg9,jpG,hn,h0,h1,h2,h3,h4,h5,h6,h7,h8,h9];exact⟨rfl,rfl⟩
theorem lk1:jcj env 3 (.int .i64 1) (fmV kfs) 0=some (some 0):=ac
theorem lk6:jcj env 3 (.int .i64 6) (fmV kfs) 0=some (some 1):=ac
theorem lk7:jcj env 3 (.int .i64 7) (fmV kfs) 0=some (some 2):=ac
theorem lk8:jcj env 3 (.int .i64 8) (fmV kfs) 0=some (some 3):=ac
theorem lk2:jcj env 3 (.int .i64 2) (fmV kfs) 0=some (some 4):=ac
theorem lk4:jcj env 3 (.int .i64 4) (fmV kfs) 0=some (some 5):=ac
theorem lk3:jcj env 3 (.int .i64 3) (fmV kfs) 0=some (some 6):=ac
theorem lk5:jcj env 3 (.int .i64 5) (fmV kfs) 0=some (some 7):=ac
theorem lk9:jcj env 3 (.int .i64 9) (fmV kfs) 0=some (some 8):=ac
theorem lk10:jcj env 3 (.int .i64 10) (fmV kfs) 0=some (some 9):=ac
theorem jwk {U:S}{b:Nat}(h:U.heap[b]? = some (.map (fmV kfs) 10)){k:Int}(hk:1<=k/\k<=10):jjk env 124 false (.map b) (.int .i64 k) U=some (.func (fnK k) [] []):=by
 have hc:jcY env 8 3 (.int .i64 k)=true:=ac;have hz:jba env 123=some .nilfn:=ac;unfold jjk;rw[u124];simp only[h,hc,hz,Kl,Kq];have:k=1\/k=2\/k=3\/k=4\/k=5\/k=6\/k=7\/k=8\/k=9\/k=10:=aa
 rcases this with rfl|rfl|rfl|rfl|rfl|rfl|rfl|rfl|rfl|rfl<;>simp only[lk1,lk6,lk7,lk8,lk2,lk4,lk3,lk5,lk9,lk10]<;>rfl
section
variable {lv:V}{ss:List Sch}{Q:Qy}{ev' wv rv:V}{fe:Int}
theorem jAA(Q:Qy)(a b c:V)(r w:Int):jbD env 127 [(0,.agg (Q.cells a b c)),(1,.int .i64 r),(2,.int .i64 w)]=some (.agg (Q.cells a b c++[.int .i64 r,.int .i64 w])):=ac
noncomputable def jjx(Q:Qy)(ss:List Sch):Int:=jwg Q (jfa Q ss) (widX Q ss).toNat
theorem wid_in(hC:∀c∈jaI Q ss,Ok1 c)(h:accX Q ss fe):1<=widX Q ss/\widX Q ss<=64:=by
 unfold widX;by_cases k1:Q.kind=1\/Q.kind=2
 ·rw[Kg k1];omega
 rw[Ke k1];by_cases k5:Q.kind=5
 ·rw[Kg k5];obtain⟨l1,l2⟩:=js4 h;have:=l1 (.inr (.inr k5));have:=l2 k5;omega
 ·rw[Ke k5];obtain⟨a,b⟩:=js5 h (by unfold colK;omega);obtain⟨c,d⟩:=jeG a;have:=jgT (hC ((jaI Q ss).getD (colI (jaI Q ss) Q) Col.none) (by have:colI (jaI Q ss) Q<_:=d;simp[List.getD,this]));omega
open Classical in
theorem sens36(hS:K.SB lv ss)(hQ:K.QV Q ev' wv rv)(hf:K.Fac Q.factor fe)(hm:∀s∈ss,0<=s.many/\s.many<=1000)(hC:∀c∈jaI Q ss,Ok1 c)(U:S):jah env (ev env) 36 [.agg (Q.cells ev' wv rv),lv] U=some (.int .i64 (if accX Q ss fe then jjx Q ss else 0),U):=by
 refine jaj (by rw[Ks,hQ.closed,Ks,jda hS.v hS.ok];rfl) at36 rfl ?_ U;have hA:=jla hS hQ hf;have hl:jab [K.qc30 Q ev' wv rv] 20 (.ptr 0 0)=_:=K.ld30 (Q:=Q) (ev:=ev') (wv:=wv) (rv:=rv) rfl;by_cases ha:accX Q ss fe
 case neg =>
  rw[decide_eq_false ha]at hA;rw[Ke ha];unfold Qy.cells at hA ⊢;simp only[Tryz.f36,simprocAttr,zK,Vq,jai,tyb,YW,hl,hA];rfl
 have hR:=rows40 hS hQ hf hm;have hW:=width49 hS hQ hf;rw[decide_eq_true ha]at hA;rw[Kg ha]at hR hW ⊢;have hri:=rows_in hm ha;have hwi:=wid_in hC ha;have hfun:=jur ha hQ hri (w:=(widX Q ss).toNat) aa;rw[show(((widX Q ss).toNat:Nat):Int)=widX Q ss by omega]at hfun;have hT:=jut [K.qc30 Q ev' wv rv] [];have hlk:=jwk (U:=⟨[K.qc30 Q ev' wv rv,.map (fmV kfs) 10],[]⟩) (b:=1) rfl (js3 ha);have hl2:jab [K.qc30 Q ev' wv rv,.map (fmV kfs) 10] 20 (.ptr 0 0)=_:=K.ld30 (Q:=Q) (ev:=ev') (wv:=wv) (rv:=rv) rfl;have hbd:=jAA Q ev' wv rv (jfa Q ss) (widX Q ss);unfold jjx;unfold fcV Qy.cells at hfun;unfold Qy.cells at hA hR hW hbd ⊢;simp only[Jn,Ja]at hfun hbd;simp only[Tryz.f36,simprocAttr,zK,Vq,jai,Q1,YW,hl,hA];refine jwF rfl [(true,[]),(false,[]),(false,[0]),(false,[]),(false,[0]),(false,[0]),(false,[]),(false,[]),(false,[0]),(false,[]),(false,[]),(false,[]),(true,[]),(false,[])] (λm s0=>m=0->s0.heap=[K.qc30 Q ev' wv rv]) (λ_=>rfl) ac ac ?_;simp only[simprocAttr,zK,Vq,juT,jwG,jwH,juU,jwI,juV,jwJ,jrA,joM,jhS,jlQ,jbH,jpH,jez,Q1,YW,hT,hlk,hl,hl2,hR,hW,hbd,hfun]
 repeat' refine Kd ?_ ?_
 all_goals first|trivial|(intro s h;rw[h];rfl)|rfl|skip
end
end Go.Proofs.YtajaampgajieeaaGreatDoor.B
