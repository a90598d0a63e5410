/- Proved here: the check of an expression. Conditions: each theorem's own. -/
import Derived.Test.YtajaampgajieeaaGreatDoorScC
set_option linter.unusedSimpArgs false
set_option maxHeartbeats 16000000
set_option maxRecDepth 1000000
set_option linter.unusedVariables false
set_option linter.unusedSectionVars false
namespace Go.Proofs.YtajaampgajieeaaGreatDoor
open Go.Ab
theorem jyC:env.P.funcs[234]? = some Tryz.f234:=ac
theorem jyD:env.P.funcs[241]? = some Tryz.f241:=ac
def jdO(ws:List (List UInt8))(s:List UInt8):Nat->Nat->Int
 |0,_ => -1
 |m+1,i=>if s=ws.getD i []then i else jdO ws s m (i+1)
theorem jj2 (ws:List (List UInt8))(s:List UInt8):∀m i,0<=jdO ws s m i↔∃j,i<=j/\j<i+m/\s=ws.getD j []
  | 0, i => by simp only[jdO];constructor
               · intro h;omega
               · rintro⟨j,h1,h2,_⟩;omega
  | m+1,i=>by
    simp only[jdO];by_cases h:s=ws.getD i []
    · rw[Kg h]
      exact⟨λ_=>⟨i,aa,aa,h⟩,λ_=>aa⟩
    · rw [Ke h,jj2 ws s m (i+1)]
      constructor
      · rintro⟨j,h1,h2,h3⟩;exact⟨j,aa,aa,h3⟩
      · rintro⟨j,h1,h2,h3⟩
        refine⟨j,?_,aa,h3⟩
        rcases Ql i j with h4|h4
        · omega
        · have:j=i:=by omega
          subst this;exact absurd h3 h
theorem jrO(ws:List (List UInt8))(s:List UInt8):0<=jdO ws s ws.length 0↔s∈ws:=by
 rw[jj2];constructor
 ·rintro⟨j,_,h2,rfl⟩;have h2:j<ws.length:=aa;simp[List.getD,h2]
 ·intro h;obtain⟨j,hj,rfl⟩:=Xv.1 h;exact⟨j,aa,aa,by simp[List.getD,hj]⟩
theorem jj3(ws:List (List UInt8))(c:RCap)(hc:∀k e s,c ≠ .tok k e s):(V.row (ws.map V.str) ws.length c).closed=true:=by
 simp only[V.closed,jeV,Q5]
theorem jgn(ws:List (List UInt8))(c:RCap)(hc:∀k e s,c ≠ .tok k e s)(hl:ws.length<=1000)(s:List UInt8)(U:S):jah env (ev env) 234 [.row (ws.map V.str) ws.length c,.str s] U=some (.int .i64 (jdO ws s ws.length 0),U):=by
 refine jaj (by rw[Ks,jj3 ws c hc];rfl) jyC rfl ?_ U;simp only[Tryz.f234,simprocAttr,zK,Vq];refine jau (λm T D U=>D=[]/\U=S.empty/\T 0=.row (ws.map V.str) ws.length c/\T 1=.str s/\T 7=.int .i64 ws.length/\∃i:Nat,T 8=.int .i64 i/\i<=ws.length/\m=ws.length-i/\jdO ws s ws.length 0=jdO ws s (ws.length-i) i) ?_ _ _ _ _ ⟨rfl,rfl,rfl,rfl,rfl,0,rfl,aa,rfl,rfl⟩;rintro m T D U ⟨rfl,rfl,t0,t1,t7,i,t8,hi,rfl,hf⟩;refine jaC ?_;by_cases hlt:i<ws.length
 ·have c1:(i:Int)<(ws.length:Int):=by omega
  have e1:IntKind.i64.wrap ((i:Int)+1)=((i+1:Nat):Int):=by rw[wrap_i64 aa aa];omega
  have c2:(0:Int)<=(i:Int)/\(i:Int)<(ws.length:Int):=aa;obtain⟨q,hq⟩:∃q,ws.length-i=q+1:=⟨ws.length-i-1,aa⟩;have hq2:q=ws.length-(i+1):=aa;have hstep:jdO ws s (ws.length-i) i=if s=ws.getD i []then(i:Int)else jdO ws s q (i+1):=by rw[hq];rfl
  rw[hstep]at hf;by_cases hn:s=ws.getD i []
  ·rw[Kg hn]at hf;simp only[simprocAttr,zK,Vq,t0,t1,t7,t8,c1,c2,e1,jdt,hlt,jax,<- hn];simp only[jaB,jak,jav,hf]
  ·rw[Ke hn,hq2]at hf;simp only[simprocAttr,zK,Vq,t0,t1,t7,t8,c1,c2,e1,jdt,hlt,jax,hn];exact⟨ws.length-(i+1),aa,i+1,rfl,aa,rfl,hf⟩
 ·have hi2:i=ws.length:=by omega
  subst hi2;have c1:¬(ws.length:Int)<(ws.length:Int):=aa;rw[Xn]at hf;simp only[simprocAttr,zK,Vq,t0,t1,t7,t8,c1];simp only[jaB,jak,jav,hf];rfl
theorem jjo(ws:List (List UInt8))(c:RCap)(hc:∀k e s,c ≠ .tok k e s)(hl:ws.length<=1000)(s:List UInt8)(U:S):jah env (ev env) 241 [.row (ws.map V.str) ws.length c,.str s] U=some (.bool (decide (s∈ws)),U):=by
 refine jaj (by rw[Ks,jj3 ws c hc];rfl) jyD rfl ?_ U;have hk:=jrO ws s;by_cases h:s∈ws
 ·have c0:=hk.2 h;simp only[Tryz.f241,simprocAttr,zK,Vq,jgn ws c hc hl,c0];simp only[jaB,jak,jaA,h,decide_true]
 ·have c0:¬0<=jdO ws s ws.length 0:=λq=>h (hk.1 q)
  simp only[Tryz.f241,simprocAttr,zK,Vq,jgn ws c hc hl,c0];simp only[jaB,jak,jaA,h,decide_false]
structure Nd where
 op:Int
 n:Int
 col:List UInt8
def Nd.cells(x:Nd):List V:=[.int .i64 x.op,.int .i64 x.n,.str x.col]
def Nd.none:Nd:=⟨0,0,[]⟩
def jb9(l:List Nd):List V:=(l.map Nd.cells).flatten
def IsN(v:V)(l:List Nd):Prop:=(v=.nilsl/\l=[])\/v=.row (jb9 l) l.length .unk\/v=.row (jb9 l) l.length .full
theorem jbJ(c:Nd)(cs:List Nd):jb9 (c::cs)=.int .i64 c.op::.int .i64 c.n::.str c.col::jb9 cs:=rfl
theorem jhi:∀(cs:List Nd) (i:Nat),(jb9 cs).drop (i*3)=jb9 (cs.drop i)
 |cs,0=>ae
 | [],i+1=>by simp[jb9]
 |c::cs,i+1=>by
  rw[jbJ,show(i+1)*3=i*3+1+1+1 by omega];simp only[K5];exact jhi cs i
theorem joR {cs:List Nd}{i:Nat}(hi:i<cs.length):jb9 (cs.drop i)=.int .i64 (cs.getD i Nd.none).op::.int .i64 (cs.getD i Nd.none).n::.str (cs.getD i Nd.none).col::jb9 (cs.drop (i+1)):=by
 have e:cs.drop i=cs.getD i Nd.none::cs.drop (i+1):=by
  rw[Qk hi];simp[List.getD,hi]
 rw[e,jbJ]
theorem jty {v:V}{cs:List Nd}(h:IsN v cs):jbb (some (.slice 84)) v=some (.int .i64 cs.length):=by
 rcases h with⟨rfl,rfl⟩|rfl|rfl<;>rfl
theorem jl0 {v:V}{cs:List Nd}(h:IsN v cs){i:Nat}(hi:i<cs.length):jaw 3 v (.int .i64 (i:Int))=some (.rptr (.int .i64 (cs.getD i Nd.none).op::.int .i64 (cs.getD i Nd.none).n::.str (cs.getD i Nd.none).col::jb9 (cs.drop (i+1)))):=by
 rcases h with⟨rfl,rfl⟩|rfl|rfl
 ·simp at hi
 ·rw[Ys,Kg aa,Qj,jhi,joR hi]
 ·rw[Ys,Kg aa,Qj,jhi,joR hi]
theorem jfu:∀l:List Nd,V.closed.closedL (jb9 l)=true
 | []=>rfl
 |c::cs=>by
  rw[jbJ];simp only[V.closed.closedL,V.closed,jfu cs,K8]
theorem jei {v:V}{l:List Nd}(h:IsN v l):v.closed=true:=by
 rcases h with⟨rfl,rfl⟩|rfl|rfl
 ·rfl
 ·simp only[V.closed,jfu,K8]
 ·simp only[V.closed,jfu,K8]
theorem u22:env.P.underlying 26=some (.slice 84):=ac
theorem u63:env.P.underlying 32=some (.int .i64):=ac
theorem u103:env.P.underlying 162=some (.slice 163):=ac
theorem u104:env.P.underlying 163=some (.int .i64):=ac
theorem u107:env.P.underlying 166=some (.array 18 165):=ac
theorem tysn:env.P.underlying 26=some (.slice 84)/\env.P.underlying 32=some (.int .i64)/\env.P.underlying 162=some (.slice 163)/\env.P.underlying 163=some (.int .i64)/\env.P.underlying 166=some (.array 18 165)/\env.P.underlying 22=some (.slice 3) /\
  sz env 84=some 3/\sz env 163=some 1/\sz env 165=some 2/\sz env 166=some 36/\sz env 170=some 1/\sz env 162=some 1/\sz env 32=some 1 /\
  jas env 84 0=some 0/\jas env 84 1=some 1/\jas env 84 2=some 2/\jas env 165 0=some 0/\jas env 165 1=some 1/\jas env 170 0=some 0 /\
  (∀h p,jaH env h 162 p=(jab h 1 p).bind (·[0]?))/\(∀h p,jaH env h 163 p=(jab h 1 p).bind (·[0]?))/\(∀h p,jaH env h 39 p=(jab h 1 p).bind (·[0]?))/\(∀h p,jaH env h 3 p=(jab h 1 p).bind (·[0]?))/\(∀h p,jaH env h 9 p=(jab h 1 p).bind (·[0]?)) /\
  (∀h p,jaH env h 84 p=(jab h 3 p).map .agg)/\(∀h p,jaH env h 165 p=(jab h 2 p).map .agg)/\jba env 84=some (.agg [.int .i64 0,.int .i64 0,.str []])/\jba env 165=some (.agg [.nilsl,.int .i64 0]):=by
 have g103:aggT env 162=some false:=ac;have g104:aggT env 163=some false:=ac;have g44:aggT env 39=some false:=ac;have g3:aggT env 3=some false:=ac;have g9:aggT env 9=some false:=ac;have g52:aggT env 84=some true:=ac;have g106:aggT env 165=some true:=ac;have s52:sz env 84=some 3:=ac;have s106:sz env 165=some 2:=ac
 exact⟨u22,u63,u103,u104,u107,ac,ac,ac,ac,ac,ac,ac,ac,ac,ac,ac,ac,ac,ac,
  λ_ _=>jay g103,λ_ _=>jay g104,λ_ _=>jay g44,λ_ _=>jay g3,λ_ _=>jay g9,λh p=>by unfold jaH;rw[g52,s52];rfl,λh p=>by unfold jaH;rw[g106,s106];rfl,ac,ac⟩
theorem jd0(h:List AObj)(a b c:V)(r:List V):jab h 3 (.rptr (a::b::c::r))=some [a,b,c]:=by simp[jab]
theorem jcB {h:List AObj}{n:Nat}{a b c:V}{t:TypeId}(hh:h[n]? = some (.cells [a,b,c] t)):jab h 3 (.ptr n 0)=some [a,b,c]:=by simp[jab,hh]
def jbi(op:Int):List Int × Int :=
 if op<=3 then([],0)
 else if op<=6 then([0,0],0)
 else if op=7 then([0],0)
 else if op=8 then([1,0,0],0)
 else if op=15\/op=16 then([1,1],1)
 else if op=17 then([1],1)
 else([0,0],1)
def rowK(l:List Int):V:=if l=[]then .nilsl else .row (l.map (V.int .i64)) l.length .unk
def opsL:List V:=((List.range 18).map λo:Nat=>[rowK (jbi o).1,V.int .i64 (jbi o).2]).flatten
theorem jiE(U:S):jah env (ev env) 154 [] U=some (.agg opsL,U):=jbd rfl rfl rfl (k:=20) ac U
theorem jrP:opsL.length=36:=ac
theorem jwX(o:Nat)(h:o<18):(opsL.drop (o*2)).take 2=[rowK (jbi o).1,.int .i64 (jbi o).2]:=by
 match o,h with
 |0,_=>rfl
 |1,_=>rfl
 |2,_=>rfl
 |3,_=>rfl
 |4,_=>rfl
 |5,_=>rfl
 |6,_=>rfl
 |7,_=>rfl
 |8,_=>rfl
 |9,_=>rfl
 |10,_=>rfl
 |11,_=>rfl
 |12,_=>rfl
 |13,_=>rfl
 |14,_=>rfl
 |15,_=>rfl
 |16,_=>rfl
 |17,_=>rfl
 |n+18,h=>omega
theorem jrQ:opsL.all V.isCell=true:=ac
theorem jkL(h:List AObj)(l:List Int):RdS h 1 (rowK l) l.length (l.map (V.int .i64)):=by
 unfold rowK;by_cases hl:l=[]
 ·subst hl;simpa using RdS.nil h 1
 ·rw[Ke hl];exact RdS.row h 1 _ _ _ ae
theorem jrR(l:List Int):(rowK l).isCell=true:=by unfold rowK;split<;>rfl
theorem jyE:env.P.funcs[158]? = some Tryz.f158:=ac
theorem jrS {h:List AObj}{u:V}{l:List Int}(r:RdS h 1 u l.length (l.map (V.int .i64))){i:Nat}(hi:i<l.length):∃p,jaw 1 u (.int .i64 i)=some p/\(jab h 1 p).bind (·[0]?)=some (.int .i64 (l.getD i 0)):=by
 obtain⟨p,h1,h2⟩:=r.2.2.2 i hi;refine⟨p,h1,?_⟩;rw[h2];simp[List.getD,hi,Qk]
open Classical in
theorem jhj(u w:V)(a b:List Int)(L:List AObj)(ts:List Nat)(ha:RdS L 1 u a.length (a.map (V.int .i64)))(hb:RdS L 1 w b.length (b.map (V.int .i64)))(hl:a.length<=4000)(hl2:b.length<=4000):jah env (ev env) 158 [u,w] ⟨L,ts⟩=some (.bool (decide (a=b)),⟨L,ts⟩):=by
 refine jaL jyE rfl ?_;have la:=ha.2.1 163;have lb:=hb.2.1 163;by_cases h1:a.length=b.length
 case neg =>
  have c1:¬(a.length:Int)=(b.length:Int):=aa;have hn:¬a=b:=λe=>h1 (by rw[e])
  simp only[Tryz.f158,simprocAttr,zK,Vq,tysn,la,lb,c1];simp[jaB,hn]
 have c1:(a.length:Int)=(b.length:Int):=aa;simp only[Tryz.f158,simprocAttr,zK,Vq,tysn,la,lb,c1];refine jau (λm T D U=>D=[]/\U=⟨L,ts⟩/\T 0=u/\T 1=w/\T 12=.int .i64 b.length/\∃i:Nat,T 13=.int .i64 i/\i<=b.length/\m=b.length-i/\∀j,j<i->a.getD j 0=b.getD j 0) ?_ (b.length-0) _ _ _ ⟨rfl,rfl,rfl,rfl,rfl,0,rfl,aa,rfl,λj h=>aa⟩;rintro m T D U ⟨rfl,rfl,t0,t1,t12,i,t13,hi,rfl,hno⟩;refine jaC ?_;by_cases hlt:i<b.length
 ·have c2:(i:Int)<(b.length:Int):=by omega
  have e1:IntKind.i64.wrap ((i:Int)+1)=((i+1:Nat):Int):=by rw[wrap_i64 aa aa];omega
  obtain⟨p,hp,hpl⟩:=jrS ha (show i<a.length by omega);obtain⟨q,hq,hql⟩:=jrS hb hlt;by_cases he:a.getD i 0=b.getD i 0
  ·have he1:((a.getD i 0:Int)=b.getD i 0)=True:=eq_true he;simp only[simprocAttr,zK,Vq,tysn,t0,t1,t12,t13,c2,e1,hp,hpl,hq,hql,he1]
   exact⟨ac,b.length-(i+1),aa,i+1,rfl,aa,rfl,λj hj=>by
    rcases Ql j i with h2|h2
    ·exact hno j h2
    ·have:j=i:=by omega
     subst this;exact he⟩
  ·have hn:¬a=b:=λe=>he (by rw[e])
   have he1:((a.getD i 0:Int)=b.getD i 0)=False:=eq_false he;simp only[simprocAttr,zK,Vq,tysn,t0,t1,t12,t13,c2,e1,hp,hpl,hq,hql,he1];exact⟨ac,by simp[jaB,hn]⟩
 ·have hi2:i=b.length:=by omega
  subst hi2;have c2:¬(b.length:Int)<(b.length:Int):=aa
  have hy:a=b:=by
   apply List.ext_getElem h1;intro k k1 k2;have:=hno k aa;simpa[List.getD,k1,k2]using this
  simp only[simprocAttr,zK,Vq,tysn,t0,t1,t12,t13,c2];simp[jaB,hy]
theorem jyF:env.P.funcs[157]? = some Tryz.f157:=ac
theorem jwY:env.P.funcs[156]? = some Tryz.f156:=ac
theorem e103:jf1 env 162=some 163:=ac
theorem jyG:jhG env 163=some 1:=ac
theorem jyH:bys env 163=some 8:=ac
theorem mb70(r:Nat):env.mutb 157 r=true:=rfl
def StkO(L:List AObj)(p:Nat)(xs:List Int):Prop:=∃v,L[p]? = some (.cells [v] 170)/\StkV L 163 1 v xs.length (xs.map (V.int .i64))/\jdR v ≠ some p
def Keep(L L':List AObj)(p:Nat):Prop:=∀q o,L[q]? = some o->q ≠ p->(∀cs,o ≠ .cells cs 163)->L'[q]? = some o
theorem jtz {T:Tm}(L:List AObj)(ts:List Nat)(x:Operand):opT env true T ⟨L,ts⟩ (.buildSlice 162 1 #[(0,x)])=(jaN env T x).bind λv=>if v.cells.length=1 then some (.hsl L.length 0 1 1 .exact,⟨L++[.cells v.cells 163],ts⟩)else none:=by
 obtain⟨z,hz,hl⟩:∃z,jba env 163=some z/\z.cells.length=1:=⟨.int .i64 0,ac,rfl⟩;have s104:sz env 163=some 1:=ac;unfold opT;simp only[jbK,jbh,jbG,jcH];cases jaN env T x with
 |none=>rfl
 | some v =>
  simp only[K9,Kq,e103,s104,hz];by_cases hv:v.cells.length=1
  ·have:z.cells.tail=[]:=Q6 (by simp[hl]);simp[jeK,hl,hv,this,S.push,env]
  ·simp[jeK,hv]
theorem jl1 {L:List AObj}{p:Nat}{o:AObj}(h:L[p]? = some o):p<L.length:=(K4.1 h).1
theorem jrT(L:List AObj)(ts:List Nat)(p:Nat)(xs:List Int)(k:Int)(h:StkO L p xs)(hl:xs.length<=4000) :
  ∃L',jah env (ev env) 157 [.ptr p 0,.int .i64 k] ⟨L,ts⟩=some (.tup [],⟨L',ts⟩)/\StkO L' p (xs++[k])/\Keep L L' p:=by
 obtain⟨v,hp,hv,hb⟩:=h;have hplt:=jl1 hp;have hlim:lim=2^40:=rfl;have s104:sz env 163=some 1:=ac;have hv1:StkV (L++[.cells [.int .i64 k] 163]) 163 1 v xs.length (xs.map (V.int .i64)):=hv.move λb hb=>by rw[Kj (hv.lt hb)]
 have hc:jaV (L++[AObj.cells [V.int .i64 k] 163]) 1 1 (.hsl L.length 0 1 1 .exact)=some [.int .i64 k]:=by simp[jaV]
 obtain⟨v',L',ha,hs,hk,hlen,hbk⟩:=StkV.push (E:=env) (ts:=ts) (ty:=162) (ty2:=162) (y:=.hsl L.length 0 1 1 .exact) hv1 e103 s104 jyG jyH ⟨163,u103⟩ aa ⟨by rw[hlim];omega,by rw[hlim];omega⟩ rfl hc rfl rfl;simp only[Kk,Ju]at hk hlen hbk;have hp2:L'[p]? = some (.cells [v] 170):=by rw[hk p aa hb,Kj hplt];exact hp
 have hp3:=jl1 hp2
 have hne:jdR v' ≠ some p:=by
  rcases hbk with h|h
  ·rw[h];exact hb
  ·rw[h];intro e;simp only[Ki]at e;omega
 have hcv:=hs.cells.1;have hcv2:=hs.cells.2;refine⟨L'.set p (.cells [v'] 170),?_,⟨v',by simp[hp3],?_,hne⟩,?_⟩
 ·refine jaL jyF rfl ?_;simp only[Tryz.f157,simprocAttr,zK,K0,jaa,tysn,K3,hp,mb70,jtz,ha,hp2,hcv,hcv2,jaB]
 ·have:=hs.move (h':=L'.set p (.cells [v'] 170)) λb hb=>by rw[Kh (λe=>hne (by rw[hb,e]))]
  rw[Kk,Js];exact this
 ·intro q o hq hqp ho;have hqlt:=jl1 hq;rw[Kh (λe=>hqp e.symm)]
  have hqb:jdR v ≠ some q:=by
   intro e;obtain⟨_,⟨rfl,_⟩|⟨b,cap,cs,rfl,hbb,_⟩⟩:=hv
   ·simp[jdR]at e
   ·simp only[jdR,Ki]at e;subst e;rw[hbb]at hq;cases hq;exact ho _ rfl
  rw[hk q aa hqb,Kj hqlt];exact hq
def popN(xs want:List Int):Option (List Int):=if want.length<=xs.length/\xs.drop (xs.length-want.length)=want then some (xs.take (xs.length-want.length))else none
theorem jtA(L:List AObj)(ts:List Nat)(p:Nat)(xs want:List Int)(h:StkO L p xs)(hl:xs.length<=4000)(hw:want.length<=4000)(hn:popN xs want=none):jah env (ev env) 156 [.ptr p 0,rowK want] ⟨L,ts⟩=some (.bool false,⟨L,ts⟩):=by
 obtain⟨v,hp,hv,hb⟩:=h;have lv:=hv.len 163;have lw:=(jkL L want).2.1 163;refine jaL jwY rfl ?_;have e1:IntKind.i64.wrap ((xs.length:Int)-(want.length:Int))=(xs.length:Int)-(want.length:Int):=by rw[wrap_i64 aa aa]
 unfold popN at hn;by_cases h1:want.length<=xs.length
 ·have c1:¬(xs.length:Int)-(want.length:Int)<0:=by omega
  have e2:(xs.length:Int)-(want.length:Int)=((xs.length-want.length:Nat):Int):=aa;obtain⟨u,hu,hr⟩:=StkV.tail (E:=env) hv u103 ac (xs.length-want.length) aa;have h2:¬xs.drop (xs.length-want.length)=want:=λh=>by simp[h1,h]at hn
  have hr2:RdS L 1 u (xs.drop (xs.length-want.length)).length ((xs.drop (xs.length-want.length)).map (V.int .i64)):=by
   rw[Jy,List.map_drop];simpa using hr
  have hE:=jhj u (rowK want) _ want L ts hr2 (jkL L want) (by rw[Jy];omega) hw;rw[decide_eq_false h2]at hE;simp only[Tryz.f156,simprocAttr,zK,K0,jaa,tysn,K3,hp,lv,lw,e1];rw[e2]at c1;simp only[e2,c1,simprocAttr,zK,K0,jaa,tysn,K3,hp,lv,lw,jbO,jbP,jbT,hu,hE];simp[jaB]
 ·have c1:(xs.length:Int)-(want.length:Int)<0:=by omega
  simp only[Tryz.f156,simprocAttr,zK,K0,jaa,tysn,K3,hp,lv,lw,e1,c1];simp[jaB]
theorem jtB(L:List AObj)(ts:List Nat)(p:Nat)(xs want ys:List Int)(h:StkO L p xs)(hl:xs.length<=4000)(hw:want.length<=4000)(hn:popN xs want=some ys) :
  ∃L',jah env (ev env) 156 [.ptr p 0,rowK want] ⟨L,ts⟩=some (.bool true,⟨L',ts⟩)/\StkO L' p ys/\Keep L L' p:=by
 obtain⟨v,hp,hv,hb⟩:=h;have hplt:=jl1 hp;have lv:=hv.len 163;have lw:=(jkL L want).2.1 163;unfold popN at hn;split at hn
 ·rename_i hc;obtain⟨h1,h2⟩:=hc;simp only[Ki]at hn;subst hn;have e1:IntKind.i64.wrap ((xs.length:Int)-(want.length:Int))=((xs.length-want.length:Nat):Int):=by rw[wrap_i64 aa aa];omega
  have c1:¬((xs.length-want.length:Nat):Int)<0:=aa;obtain⟨u,hu,hr⟩:=StkV.tail (E:=env) hv u103 ac (xs.length-want.length) aa
  have hr2:RdS L 1 u (xs.drop (xs.length-want.length)).length ((xs.drop (xs.length-want.length)).map (V.int .i64)):=by
   rw[Jy,List.map_drop];simpa using hr
  have hE:=jhj u (rowK want) _ want L ts hr2 (jkL L want) (by rw[Jy];omega) hw;rw[decide_eq_true h2]at hE;obtain⟨v',hv',hs',hb'⟩:=StkV.cut (E:=env) hv u103 ac (xs.length-want.length) aa none (.inl rfl);have hcv:=hs'.cells.1;have hcv2:=hs'.cells.2;refine⟨L.set p (.cells [v'] 170),?_,⟨v',by simp[hplt],?_,by rw[hb'];exact hb⟩,λq o hq hqp _=>by rw[Kh (λe=>hqp e.symm)];exact hq⟩
  ·refine jaL jwY rfl ?_;simp only[Tryz.f156,simprocAttr,zK,K0,jaa,tysn,K3,hp,lv,lw,e1,c1,jbO,jbP,jbT,hu,hE,hv',hcv,hcv2];simp[jaB]
  ·have:=hs'.move (h':=L.set p (.cells [v'] 170)) λb hbb=>by rw[Kh (λe=>hb (by rw[<- hb',hbb,e]))]
   have e3:(xs.take (xs.length-want.length)).length=xs.length-want.length:=by rw[Qx];omega
   rw[e3,U4];simpa using this
 ·simp at hn
theorem je0(f:Nat->Bool):∀m i,jbR f m i = -1\/∃j:Nat,jbR f m i=(j:Int)/\i<=j/\j<i+m/\f j=true/\∀k,i<=k->k<j->f k=false
 |0,i=>.inl rfl
 | m+1,i=>by
  simp only[jbR];by_cases h:f i=true
  ·rw[Kg h];exact .inr ⟨i,rfl,Kw _,aa,h,λk h1 h2=>aa⟩
  ·rw[Ke h]
   rcases je0 f m (i+1)with h1|⟨j,h1,h2,h3,h4,h5⟩
   ·exact .inl h1
   ·refine .inr ⟨j,h1,aa,aa,h4,λk h6 h7 => ?_⟩
    rcases Ql i k with h8|h8
    ·exact h5 k h8 h7
    ·have:k=i:=by omega
     subst this;simpa using h
def jbg(cs:List Col)(nm:List UInt8):Int:=jgH cs nm cs.length 0
theorem jca(cs:List Col)(nm:List UInt8):jbg cs nm = -1\/∃j:Nat,jbg cs nm=(j:Int)/\j<cs.length/\(cs.getD j Col.none).name=nm/\∀k,k<j->(cs.getD k Col.none).name ≠ nm:=by
 rcases je0 (λi=>decide ((cs.getD i Col.none).name=nm)) cs.length 0 with h|⟨j,h1,h2,h3,h4,h5⟩
 ·exact .inl h
 ·exact .inr ⟨j,h1,aa,by simpa using h4,λk hk=>by simpa using h5 k aa hk⟩
def colN(cs:List Col)(nm:List UInt8):Col:=if 0<=jbg cs nm then cs.getD (jbg cs nm).toNat Col.none else Col.none
theorem jgK {cs:List Col}(ok:OkC cs)(nm:List UInt8):IsW (colN cs nm).w (colN cs nm).ws:=by
 unfold colN
 rcases jca cs nm with h|⟨j,h,hj,_⟩
 ·rw[h,Ke aa];exact .inl ⟨rfl,rfl⟩
 ·rw[h,Kg aa,Qj];exact ok.at hj
theorem jyI:env.P.funcs[166]? = some Tryz.f166:=ac
theorem jdC:V.nilsl.isCell=true:=rfl
theorem jkM {cv:V}{cs:List Col}(hc:IsC cv cs):jbD env 38 [(3,cv)]=some (.agg [.str [],.bool false,.int .i64 0,cv]):=by rcases hc with⟨rfl,rfl⟩|⟨q,rfl|rfl,rfl⟩<;>kernel_rfl
theorem jvv:jbD env 41 []=some (.agg [.str [],.int .i64 0,.int .i64 0,.nilsl]):=ac
theorem jfS(h:List AObj)(d:Nat):∀ws:List (List UInt8),(ws.map V.str).mapM (jaK h (d+1))=some (ws.map V.str)
 | []=>rfl
 |w::ws=>by rw[K6,jal,jfS h d ws,jbC];rfl
theorem jvw {w:V}{ws:List (List UInt8)}(h:IsW w ws)(H:List AObj)(d:Nat):jaK H (d+2) w=some w:=by
 rcases h with⟨rfl,_⟩|rfl
 ·rfl
 ·rw[ja1,jfS H d ws];rfl
def colT(c:Col)(b:Bool):V:=.tup [.agg [.str c.name,.int .i64 c.lo,.int .i64 c.hi,c.w],.bool b]
theorem jfT(cv:V)(cs:List Col)(hc:IsC cv cs)(ok:OkC cs)(hl:cs.length<=1000)(nm:List UInt8)(U:S):jah env (ev env) 166 [cv,.str nm] U=some (colT (colN cs nm) (decide (0<=jbg cs nm)),U):=by
 refine jaj (by simp[V.closed,V.closed.closedL,ja9 hc ok]) jyI rfl ?_ U;have hF:=jdB nm (.str []) (.bool false) (.int .i64 0) rfl rfl rfl cv cs hc ok hl
 change ∀U,_=some (jcn (jbg cs nm),U)at hF
 unfold jcn at hF;have hW:=jgK ok nm
 rcases jca cs nm with h|⟨j,h,hj,_⟩
 ·unfold colT colN;rw[h]at hF ⊢;rw[Ke aa]at hF ⊢;rw[decide_eq_false aa]at hF ⊢;simp only[Tryz.f166,simprocAttr,zK,K0,jaa,tysn,tys2,jai,z44,jkM hc,jvv,hF,YW,jae,jac,jdC,YH,jdg,jb7 (show([AObj.cells [V.str [],V.int IntKind.i64 0,V.int IntKind.i64 0,V.nilsl] 41]:List AObj)[0]? = some (AObj.cells [V.str [],V.int IntKind.i64 0,V.int IntKind.i64 0,V.nilsl] 41)from rfl)];rfl
 ·unfold colT;have hcN:colN cs nm=cs.getD j Col.none:=by unfold colN;rw[h,Kg aa,Qj]
  rw[hcN]at hW ⊢;rw[h]at hF ⊢;rw[Kg aa]at hF;rw[decide_eq_true aa]at hF ⊢;have hx:=jel hc hj;have hic:=jbf hW;have hsw:=jvw hW;generalize cs.getD j Col.none=c at *;simp only[Tryz.f166,simprocAttr,zK,K0,jaa,tysn,tys2,jai,z44,jkM hc,hF,YW,jae,jac,jdC,YH,hx,jdg,jaM,hic,jb7 (show([AObj.cells [V.str c.name,V.int IntKind.i64 c.lo,V.int IntKind.i64 c.hi,c.w] 41]:List AObj)[0]? = some _ from rfl)];simp only[jaB,jak,jbS,jey,jal,jaR,jav,jbC,jaA,hsw,Kq,K9,and_self]
theorem jyJ:env.P.funcs[217]? = some Tryz.f217:=ac
theorem jyK:env.P.funcs[155]? = some Tryz.f155:=ac
abbrev gN(l:List Nd)(i:Nat):Nd:=l.getD i Nd.none
def BadW(l:List Nd)(i:Nat):Prop:=i=0\/(gN l (i-1)).op ≠ 2\/l.length<=i+1\/((gN l (i+1)).op ≠ 9/\(gN l (i+1)).op ≠ 10)
instance (l:List Nd) (i:Nat):Decidable (BadW l i):=by unfold BadW;infer_instance
def jnw(l:List Nd)(i:Nat)(cs:List Col):Int :=
 if BadW l i then 10
 else if(colN cs (gN l (i-1)).col).ws.length=0 then 10
 else if(gN l i).col∈(colN cs (gN l (i-1)).col).ws then 0 else 7
theorem jvx {Q:Post}{ks:List Kt}{T:Tm}{D:List DE}{U:S}{v:V}{l:List Nd}{i:Nat}(hv:IsN v l)(hl:l.length<=4000)(hi:i<l.length)(t0:T 0=v)(t1:T 1=.int .i64 i)
  (h:∀T',T' 0=T 0->T' 1=T 1->T' 2=T 2->T' 6=T 6->T' 44=.bool (decide (BadW l i))->G env 217 none 71 Q ks .skip T' D U):G env 217 none 71 Q ks (regZ 1 (jaz Tryz.f217)) T D U:=by
 have key:∀b:Bool,(b=true↔BadW l i)->decide (BadW l i)=b:=by
  intro b hb;cases b
  ·exact decide_eq_false (λh=>by have:=hb.2 h;simp at this)
  ·exact decide_eq_true (hb.1 rfl)
 have e1:IntKind.i64.wrap ((i:Int)+1)=((i+1:Nat):Int):=by rw[wrap_i64 aa aa];omega
 have ln:=jty hv;simp only[regZ,regA,jaz,Tryz.f217,Kr,Option.or,Nat.reduceEqDiff,Kn,Kl,reduceIte];by_cases h0:(i:Int)=0
 ·have hB:decide (BadW l i)=true:=decide_eq_true (.inl aa);rw[hB]at h;simp -implicitDefEqProofs only[simprocAttr,zK,Vq,t0,t1,h0];exact h _ rfl rfl rfl rfl rfl
 have e0:IntKind.i64.wrap ((i:Int)-1)=((i-1:Nat):Int):=by rw[wrap_i64 aa aa];omega
 have hx:=jl0 hv (show i-1<l.length by omega);by_cases h1:(gN l (i-1)).op=2
 case neg =>
  have hB:decide (BadW l i)=true:=decide_eq_true (.inr (.inl h1));rw[hB]at h;have g1:(((gN l (i-1)).op:Int)=2)=False:=eq_false h1;simp -implicitDefEqProofs only[simprocAttr,zK,Vq,tysn,t0,t1,h0,e0,hx,jaq,g1];exact h _ rfl rfl rfl rfl rfl
 have g1:(((gN l (i-1)).op:Int)=2)=True:=eq_true h1;by_cases h2:(l.length:Int)<=((i+1:Nat):Int)
 ·have hB:decide (BadW l i)=true:=decide_eq_true (.inr (.inr (.inl aa)));rw[hB]at h;simp -implicitDefEqProofs only[simprocAttr,zK,Vq,tysn,t0,t1,h0,e0,e1,hx,ln,jaq,g1,h2];exact h _ rfl rfl rfl rfl rfl
 have hy:=jl0 hv (show i+1<l.length by omega);by_cases h3:(gN l (i+1)).op=9
 ·have hB:decide (BadW l i)=false:=decide_eq_false (by rintro(h|h|h|h)<;>first|omega|exact h h1|exact h.1 h3);rw[hB]at h;have g3:(((gN l (i+1)).op:Int)=9)=True:=eq_true h3;simp -implicitDefEqProofs only[simprocAttr,zK,Vq,tysn,t0,t1,h0,e0,e1,hx,hy,ln,jaq,g1,h2,g3];exact h _ rfl rfl rfl rfl rfl
 have g3:(((gN l (i+1)).op:Int)=9)=False:=eq_false h3;by_cases h4:(gN l (i+1)).op=10
 ·have hB:decide (BadW l i)=false:=decide_eq_false (by rintro(h|h|h|h)<;>first|omega|exact h h1|exact h.2 h4);rw[hB]at h;have g4:(((gN l (i+1)).op:Int)=10)=True:=eq_true h4;simp -implicitDefEqProofs only[simprocAttr,zK,Vq,tysn,t0,t1,h0,e0,e1,hx,hy,ln,jaq,g1,h2,g3,g4];exact h _ rfl rfl rfl rfl rfl
 ·have hB:decide (BadW l i)=true:=decide_eq_true (.inr (.inr (.inr ⟨h3,h4⟩)));rw[hB]at h;have g4:(((gN l (i+1)).op:Int)=10)=False:=eq_false h4;simp -implicitDefEqProofs only[simprocAttr,zK,Vq,tysn,t0,t1,h0,e0,e1,hx,hy,ln,jaq,g1,h2,g3,g4];exact h _ rfl rfl rfl rfl rfl
theorem jrU(v:V)(l:List Nd)(hv:IsN v l)(hl:l.length<=4000)(i:Nat)(hi:i<l.length)(cv:V)(cs:List Col)(hc:IsC cv cs)(ok:OkC cs)(hcl:cs.length<=1000)(hw:∀i,i<cs.length->(cs.getD i Col.none).ws.length<=1000)(U:S) :
  jah env (ev env) 217 [v,.int .i64 i,cv] U=some (.int .i64 (jnw l i cs),U):=by
 refine jaj (by simp[V.closed,V.closed.closedL,ja9 hc ok,jei hv]) jyJ rfl ?_ U;unfold jnw;simp -implicitDefEqProofs only[Tryz.f217,Kb,jd5 1,Zp,simprocAttr,Ys,Y0,Kc,Vq,jai];refine jvx hv hl hi ?_ ?_ ?_
 ·rfl
 ·rfl
 intro T' b0 b1 b2 b6 b44;have t0:T' 0=v:=b0;have t1:T' 1=.int .i64 i:=b1;have t2:T' 2=cv:=b2;clear b0 b1 b2;by_cases hb:BadW l i
 ·rw[Kg hb];rw[decide_eq_true hb]at b44;simp -implicitDefEqProofs only[simprocAttr,zK,Vq,b44];rfl
 ·rw[Ke hb];rw[decide_eq_false hb]at b44;have hi0:¬i=0:=λh=>hb (.inl h)
  have e0:IntKind.i64.wrap ((i:Int)-1)=((i-1:Nat):Int):=by rw[wrap_i64 aa aa];omega
  have hx:=jl0 hv (show i-1<l.length by omega);have hy:=jl0 hv hi;have hF:=jfT cv cs hc ok hcl (gN l (i-1)).col;unfold colT at hF;have hW:=jgK ok (gN l (i-1)).col
  have hlen:(colN cs (gN l (i-1)).col).ws.length<=1000:=by
   unfold colN
   rcases jca cs (gN l (i-1)).col with h|⟨j,h,hj,_⟩
   ·rw[h,Ke aa];simp[Col.none]
   ·rw[h,Kg aa,Qj];exact hw j hj
  have hic:=jbf hW;generalize colN cs (gN l (i-1)).col=c at *;by_cases h0:c.ws.length=0
  ·rw[Kg h0];have c0:((c.ws.length:Int)=0)=True:=eq_true aa;simp -implicitDefEqProofs only[simprocAttr,zK,K0,jaa,tysn,tys2,t0,t1,t2,b44,e0,hx,jaq,hF,z44,jan,jad,YW,jae,jac,hic,jcX hW,c0];rfl
  ·rw[Ke h0];have c0:((c.ws.length:Int)=0)=False:=eq_false aa
   have hwv:c.w=.row (c.ws.map V.str) c.ws.length .unk:=by
    rcases hW with⟨_,h⟩|h
    ·exact absurd (by rw[h];rfl) h0
    ·exact h
   have hC:=jjo c.ws .unk (λ_ _ _ h=>by cases h) hlen (gN l i).col;rw[<- hwv]at hC;by_cases hm:(gN l i).col∈c.ws
   ·rw[Kg hm];rw[decide_eq_true hm]at hC;simp -implicitDefEqProofs only[simprocAttr,zK,K0,jaa,tysn,tys2,t0,t1,t2,b44,e0,hx,hy,jaq,hF,z44,jan,jad,YW,jae,jac,hic,jcX hW,c0,hC,Q8,Ji]
    trace_state
    exact⟨ac,rfl⟩
   ·rw[Ke hm];rw[decide_eq_false hm]at hC;simp -implicitDefEqProofs only[simprocAttr,zK,K0,jaa,tysn,tys2,t0,t1,t2,b44,e0,hx,hy,jaq,hF,z44,jan,jad,YW,jae,jac,hic,jcX hW,c0,hC,Q8,Ji];exact⟨ac,rfl⟩
def BadF(x:Nd):Prop:=x.op<1\/17<x.op\/(x.n ≠ 0/\x.op ≠ 1)\/(x.col ≠ []/\x.op ≠ 2/\x.op ≠ 3)
instance (x:Nd):Decidable (BadF x):=by unfold BadF;infer_instance
def jeo(l:List Nd)(i:Nat)(cs:List Col):Int :=
 if BadF (gN l i)then 3
 else if(gN l i).n<0\/1000000000<(gN l i).n then 2
 else if(gN l i).op=3 then jnw l i cs
 else if(gN l i).op=2/\jbg cs (gN l i).col<0 then 7 else 0
def objN(x:Nd):AObj:=.cells [.int .i64 x.op,.int .i64 x.n,.str x.col] 84
theorem jgL(x:Nd):jce (some (objN x)) 0=some (.int .i64 x.op):=rfl
theorem ld_n(x:Nd):jce (some (objN x)) 1=some (.int .i64 x.n):=rfl
theorem jgc(x:Nd):jce (some (objN x)) 2=some (.str x.col):=rfl
theorem jvy {Q:Post}{ks:List Kt}{T:Tm}{D:List DE}{x:Nd}(t7:T 7=.ptr 0 0)
  (h:∀T',T' 0=T 0->T' 1=T 1->T' 2=T 2->T' 7=T 7->T' 14=.bool (decide (BadF x))->G env 155 none 78 Q ks .skip T' D ⟨[objN x],[]⟩):G env 155 none 78 Q ks (regZ 2 (jaz Tryz.f155)) T D ⟨[objN x],[]⟩:=by
 simp only[regZ,regA,jaz,Tryz.f155,Kr,Option.or,Nat.reduceEqDiff,Kn,Kl,reduceIte];by_cases h1:x.op<1
 ·rw[decide_eq_true (show BadF x from .inl h1)]at h;simp -implicitDefEqProofs only[simprocAttr,zK,Vq,tysn,t7,jgL,h1];exact h _ rfl rfl rfl rfl rfl
 by_cases h2:17<x.op
 ·rw[decide_eq_true (show BadF x from .inr (.inl h2))]at h;simp -implicitDefEqProofs only[simprocAttr,zK,Vq,tysn,t7,jgL,h1,h2];exact h _ rfl rfl rfl rfl rfl
 by_cases h3:x.n=0
 ·have g3:((x.n:Int)=0)=True:=eq_true h3;by_cases h5:x.col=[]
  ·rw[decide_eq_false (show ¬BadF x from by rintro(h|h|h|h)<;>first|exact h1 h|exact h2 h|exact h.1 h3|exact h.1 h5)]at h;have g5:((x.col:List UInt8)=[])=True:=eq_true h5;simp -implicitDefEqProofs only[simprocAttr,zK,Vq,tysn,t7,jgL,ld_n,jgc,h1,h2,g3,g5,jaF];exact h _ rfl rfl rfl rfl rfl
  have g5:((x.col:List UInt8)=[])=False:=eq_false h5;by_cases h6:x.op=2
  ·rw[decide_eq_false (show ¬BadF x from by rintro(h|h|h|h)<;>first|exact h1 h|exact h2 h|exact h.1 h3|exact h.2.1 h6)]at h;have g6:((x.op:Int)=2)=True:=eq_true h6;simp -implicitDefEqProofs only[simprocAttr,zK,Vq,tysn,t7,jgL,ld_n,jgc,h1,h2,g3,g5,g6,jaF];exact h _ rfl rfl rfl rfl rfl
  have g6:((x.op:Int)=2)=False:=eq_false h6;by_cases h7:x.op=3
  ·rw[decide_eq_false (show ¬BadF x from by rintro(h|h|h|h)<;>first|exact h1 h|exact h2 h|exact h.1 h3|exact h.2.2 h7)]at h;have g7:((x.op:Int)=3)=True:=eq_true h7;simp -implicitDefEqProofs only[simprocAttr,zK,Vq,tysn,t7,jgL,ld_n,jgc,h1,h2,g3,g5,g6,g7,jaF];exact h _ rfl rfl rfl rfl rfl
  ·have g7:((x.op:Int)=3)=False:=eq_false h7;rw[decide_eq_true (show BadF x from .inr (.inr (.inr ⟨h5,h6,h7⟩)))]at h;simp -implicitDefEqProofs only[simprocAttr,zK,Vq,tysn,t7,jgL,ld_n,jgc,h1,h2,g3,g5,g6,g7,jaF];exact h _ rfl rfl rfl rfl rfl
 have g3:((x.n:Int)=0)=False:=eq_false h3;by_cases h4:x.op=1
 case neg =>
  have g4:((x.op:Int)=1)=False:=eq_false h4;rw[decide_eq_true (show BadF x from .inr (.inr (.inl ⟨h3,h4⟩)))]at h;simp -implicitDefEqProofs only[simprocAttr,zK,Vq,tysn,t7,jgL,ld_n,jgc,h1,h2,g3,g4,jaF];exact h _ rfl rfl rfl rfl rfl
 have g4:((x.op:Int)=1)=True:=eq_true h4;have g6:((x.op:Int)=2)=False:=eq_false aa;have g7:((x.op:Int)=3)=False:=eq_false aa;by_cases h5:x.col=[]
 ·rw[decide_eq_false (show ¬BadF x from by rintro(h|h|h|h)<;>first|exact h1 h|exact h2 h|exact h.2 h4|exact h.1 h5)]at h;have g5:((x.col:List UInt8)=[])=True:=eq_true h5;simp -implicitDefEqProofs only[simprocAttr,zK,Vq,tysn,t7,jgL,ld_n,jgc,h1,h2,g3,g4,g5,jaF];exact h _ rfl rfl rfl rfl rfl
 ·have g5:((x.col:List UInt8)=[])=False:=eq_false h5;rw[decide_eq_true (show BadF x from .inr (.inr (.inr ⟨h5,aa,aa⟩)))]at h;simp -implicitDefEqProofs only[simprocAttr,zK,Vq,tysn,t7,jgL,ld_n,jgc,h1,h2,g3,g4,g5,g6,g7,jaF];exact h _ rfl rfl rfl rfl rfl
theorem jrV(v:V)(l:List Nd)(hv:IsN v l)(hl:l.length<=4000)(i:Nat)(hi:i<l.length)(cv:V)(cs:List Col)(hc:IsC cv cs)(ok:OkC cs)(hcl:cs.length<=1000)(hw:∀i,i<cs.length->(cs.getD i Col.none).ws.length<=1000)(U:S) :
  jah env (ev env) 155 [v,.int .i64 i,cv] U=some (.int .i64 (jeo l i cs),U):=by
 refine jaj (by simp[V.closed,V.closed.closedL,ja9 hc ok,jei hv]) jyK rfl ?_ U;have hx:=jl0 hv hi;have hW:=jrU v l hv hl i hi cv cs hc ok hcl hw;have hF:=jfT cv cs hc ok hcl (gN l i).col;have hWc:=jgK ok (gN l i).col;have hic:=jbf hWc;unfold colT at hF;unfold jeo
 change jaw 3 v (.int .i64 i)=some (.rptr (.int .i64 (gN l i).op::.int .i64 (gN l i).n::.str (gN l i).col::_))at hx
 have hobj:(AObj.cells [V.int IntKind.i64 (gN l i).op,V.int IntKind.i64 (gN l i).n,V.str (gN l i).col] 84)=objN (gN l i):=rfl;simp -implicitDefEqProofs only[Tryz.f155,Kb,jd5 2,Zp,simprocAttr,Ys,Y0,Kc,K0,jaa,tysn,jai,hx,jd0,YW,jac,jae,hobj];refine jvy (x:=gN l i) ?_ ?_
 ·rfl
 intro T' b0 b1 b2 b7 b14;have t0:T' 0=v:=b0;have t1:T' 1=.int .i64 i:=b1;have t2:T' 2=cv:=b2;have t7:T' 7=.ptr 0 0:=b7;clear b0 b1 b2 b7;by_cases hb:BadF (gN l i)
 ·rw[Kg hb];rw[decide_eq_true hb]at b14;simp -implicitDefEqProofs only[simprocAttr,zK,Vq,b14];rfl
 rw[Ke hb];rw[decide_eq_false hb]at b14;by_cases h1:(gN l i).n<0
 ·rw[Kg (.inl h1)];simp -implicitDefEqProofs only[simprocAttr,zK,Vq,tysn,b14,t7,ld_n,h1];rfl
 by_cases h2:1000000000<(gN l i).n
 ·rw[Kg (.inr h2)];simp -implicitDefEqProofs only[simprocAttr,zK,Vq,tysn,b14,t7,ld_n,h1,h2];rfl
 rw[Ke (by rintro(h|h)<;>contradiction)];by_cases h3:(gN l i).op=3
 ·rw[Kg h3];have g3:(((gN l i).op:Int)=3)=True:=eq_true h3;simp -implicitDefEqProofs only[simprocAttr,zK,Vq,tysn,b14,t0,t1,t2,t7,ld_n,jgL,h1,h2,g3,hW];rfl
 rw[Ke h3];have g3:(((gN l i).op:Int)=3)=False:=eq_false h3;by_cases h4:(gN l i).op=2
 ·have g4:(((gN l i).op:Int)=2)=True:=eq_true h4;by_cases h5:0<=jbg cs (gN l i).col
  ·rw[Ke aa];rw[decide_eq_true h5]at hF;simp -implicitDefEqProofs only[simprocAttr,zK,K0,jaa,tysn,tys2,b14,t0,t1,t2,t7,ld_n,jgL,jgc,h1,h2,g3,g4,hF,z44,jan,jad,Qh,Qr,YW,jae,jac,hic]
   trace_state
   rfl
  ·rw[Kg ⟨h4,aa⟩];rw[decide_eq_false h5]at hF;simp -implicitDefEqProofs only[simprocAttr,zK,K0,jaa,tysn,tys2,b14,t0,t1,t2,t7,ld_n,jgL,jgc,h1,h2,g3,g4,hF,z44,jan,jad,YW,jae,jac,hic];rfl
 ·rw[Ke (λh=>h4 h.1)];have g4:(((gN l i).op:Int)=2)=False:=eq_false h4;simp -implicitDefEqProofs only[simprocAttr,zK,Vq,tysn,b14,t0,t1,t2,t7,ld_n,jgL,h1,h2,g3,g4];rfl
theorem at75:env.P.funcs[75]? = some Tryz.f75:=ac
def jcO(l:List Nd)(cs:List Col):Nat->Nat->List Int->Int × List Int
 |0,_,st=>(0,st)
 | m+1,i,st =>
  if jeo l i cs=0 then
   match popN st (jbi (gN l i).op).1 with
   |none=>(10,st)
   |some st'=>jcO l cs m (i+1) (st'++[(jbi (gN l i).op).2])
  else(jeo l i cs,st)
def jjp(r:Int × List Int)(cond:Bool):Int:=if r.1=0 then(if r.2=[if cond then 1 else 0]then 0 else 10)else r.1
def jfv(l:List Nd)(cs:List Col)(cond:Bool):Int:=if 200<l.length then 4 else jjp (jcO l cs l.length 0 []) cond
theorem jkN {l:List Nd}{i:Nat}{cs:List Col}(h:jeo l i cs=0):1<=(gN l i).op/\(gN l i).op<=17:=by
 unfold jeo at h;split at h
 ·simp at h
 ·rename_i hb;constructor
  ·rcases Int.lt_or_le (gN l i).op 1 with h1|h1
   ·exact absurd (.inl h1) hb
   ·exact h1
  ·rcases Int.lt_or_le 17 (gN l i).op with h1|h1
   ·exact absurd (.inr (.inl h1)) hb
   ·exact h1
theorem jtC {st want ys:List Int}(h:popN st want=some ys):ys.length<=st.length:=by
 unfold popN at h;split at h
 ·simp only[Ki]at h;rw[<- h,Qx];omega
 ·simp at h
theorem jrW(op:Int):(jbi op).1.length<=3:=by
 unfold jbi
 repeat' split
 all_goals simp
theorem jvz(op:Int)(h1:0<=op)(h2:op<=17):idxO (some (.array 18 165)) (sz env) (some (.ptr 0 0)) (some (.int .i64 op))=some (.ptr 0 (op.toNat*2)):=by
 have s106:sz env 165=some 2:=ac;simp[idxO,s106,jfc,h1];omega
theorem jwZ {L:List AObj}(h:L[0]? = some (.cells opsL 166))(op:Int)(h1:0<=op)(h2:op<=17):(jab L 2 (.ptr 0 (op.toNat*2))).map V.agg=some (.agg [rowK (jbi op).1,.int .i64 (jbi op).2]):=by
 have hl:=jrP;have:=jwX op.toNat aa;rw[Int.toNat_of_nonneg h1]at this;simp only[jab,h];rw[Kg aa,this];rfl
theorem z106:jba env 165=some (.agg [.nilsl,.int .i64 0]):=ac
theorem jpR(l:List Int):(rowK l).cells=[rowK l]:=by unfold rowK;split<;>rfl
theorem jyL:∃z,jba env 166=some (.agg z)/\z.length=36:=by
 have h:(match jba env 166 with|some (.agg z)=>z.length==36|_=>false)=true:=ac;split at h
 ·rename_i z hz;exact⟨z,hz,by simpa using h⟩
 ·simp at h
theorem expr_call(v:V)(l:List Nd)(hv:IsN v l)(hl:l.length<=4000)(cv:V)(cs:List Col)(hc:IsC cv cs)(ok:OkC cs)(hcl:cs.length<=1000)(hw:∀i,i<cs.length->(cs.getD i Col.none).ws.length<=1000)(cond:Bool)(U:S) :
  jah env (ev env) 75 [v,cv,.bool cond] U=some (.int .i64 (jfv l cs cond),U):=by
 refine jaj (by simp[V.closed,V.closed.closedL,ja9 hc ok,jei hv]) at75 rfl ?_ U;by_cases h200:(200:Int)<(l.length:Int)
 ·have he:jfv l cs cond=4:=by unfold jfv;rw[Kg aa]
  rw[he];simp only[Tryz.f75,simprocAttr,zK,Vq,tysn,jty hv,h200];rfl
 have he:jfv l cs cond=jjp (jcO l cs l.length 0 []) cond:=by unfold jfv;rw[Ke aa]
 rw[he];clear he;obtain⟨z,hz,hzl⟩:=jyL;have hd36:List.drop 36 z=[]:=Uz aa;have build111:jbD env 170 []=some (.agg [.nilsl]):=ac;have hcl2:=jrQ;have hol:=jrP;simp only[Tryz.f75,simprocAttr,zK,K0,jaa,tysn,jai,jty hv,h200,jiE,hz,YW,hcl2,hol,hzl,hd36,build111,YH];generalize hR:jcO l cs l.length 0 []=R
 refine jau (λm T D U=>D=[]/\T 0=v/\T 1=cv/\T 2=.bool cond/\T 7=.ptr 0 0/\T 8=.ptr 1 0/\T 20=.int .i64 l.length/\∃(L:List AObj) (ts:List Nat) (i:Nat) (st:List Int),U=⟨L,ts⟩/\L[0]? = some (.cells opsL 166)/\StkO L 1 st /\
  T 21=.int .i64 i/\i<=l.length/\m=l.length-i/\st.length<=i/\jcO l cs (l.length-i) i st=R) ?_ (l.length-0) _ _ _ ⟨rfl,rfl,rfl,rfl,rfl,rfl,rfl,_,_,0,[],rfl,rfl,⟨.nilsl,rfl,.nil _ _ _,by simp[jdR]⟩,rfl,aa,rfl,ae,hR⟩
 clear hR;rintro m T D U ⟨rfl,t0,t1,t2,t7,t8,t20,L,ts,i,st,rfl,p0,hS,t21,hi,rfl,hsl,hR⟩;refine jaC ?_;have p1lt:1<L.length:=by obtain⟨_,h,_⟩:=hS;exact jl1 h
 by_cases hlt:i<l.length
 ·have c1:(i:Int)<(l.length:Int):=by omega
  have e1:IntKind.i64.wrap ((i:Int)+1)=((i+1:Nat):Int):=by rw[wrap_i64 aa aa];omega
  have hx:=jl0 hv hlt;have hN:=jrV v l hv hl i hlt cv cs hc ok hcl hw;obtain⟨q,hq⟩:∃q,l.length-i=q+1:=⟨l.length-i-1,aa⟩;have hq2:q=l.length-(i+1):=aa;rw[hq]at hR;simp only[jcO]at hR;by_cases hn:jeo l i cs=0
  ·rw[Kg hn]at hR;obtain⟨o1,o2⟩:=jkN hn;rw[hn]at hN;have ho:=jvz (gN l i).op aa o2;have hld:=jwZ p0 (gN l i).op aa o2
   change jaw 3 v (.int .i64 i)=some (.rptr (.int .i64 (gN l i).op::_))at hx
   generalize (gN l i).op=op at *;have htl:=jrW op;generalize hk:jbi op=tk at *;obtain⟨want,out⟩:=tk;simp only at hld hR htl;have hoc:∀X:AObj,(L++[X])[1]? = L[1]? := λX=>Kj p1lt
   have hS1:StkO (L++[AObj.cells [rowK want,V.int .i64 out] 165]) 1 st:=by
    obtain⟨u,g1,g2,g3⟩:=hS;exact⟨u,by rw[hoc];exact g1,g2.move λb hb=>by rw[Kj (g2.lt hb)],g3⟩
   have hrc:=jrR want;have hrcs:=jpR want;cases hp:popN st want with
   |none =>
    rw[hp]at hR;simp only at hR;have hP:=jtA _ ts 1 st want hS1 aa aa hp;simp only[simprocAttr,zK,K0,jaa,tysn,t0,t1,t2,t7,t8,t20,t21,c1,hN,hx,jaq,ho,hld,z106,jan,jad,YW,YH,jac,hrc,hP,Ji,Q8];subst hR;simp[jaB,jak,jav,jjp]
   |some ys =>
    rw[hp]at hR;simp only at hR;obtain⟨L2,hP,hS2,hK2⟩:=jtB _ ts 1 st want ys hS1 aa aa hp;have hyl:=jtC hp;have k2:=hK2 L.length _ (jad _ _) aa (λ_ h=>by cases h);obtain⟨L3,hU,hS3,hK3⟩:=jrT L2 ts 1 ys out hS2 aa;have p3:L3[0]? = some (.cells opsL 166):=hK3 0 _ (hK2 0 _ (by rw[Kj aa];exact p0) aa (λ_ h=>by cases h)) aa (λ_ h=>by cases h);simp only[simprocAttr,zK,K0,jaa,tysn,t0,t1,t2,t7,t8,t20,t21,c1,e1,hN,hx,jaq,ho,hld,z106,jan,jad,YW,YH,jac,hrc,hP,k2,hU,Ji,Q8];exact⟨l.length-(i+1),aa,L3,ts,i+1,ys++[out],rfl,p3,hS3,rfl,aa,rfl,by simp;omega,by rw[<- hq2];exact hR⟩
  ·rw[Ke hn]at hR;have hn1:((jeo l i cs:Int)=0)=False:=eq_false hn;simp only[simprocAttr,zK,K0,jaa,tysn,t0,t1,t2,t7,t8,t20,t21,c1,hN,hn1];subst hR;simp[jaB,jak,jav,jjp,hn]
 ·have hil:i=l.length:=by omega
  subst hil;rw[Xn]at hR;simp only[jcO]at hR;have c1:¬(l.length:Int)<(l.length:Int):=aa;obtain⟨u,g1,g2,g3⟩:=hS;have hE:=λk:Int=>jhj u (.row [.int .i64 k] 1 .full) st [k] L ts g2.rd (RdS.row L 1 [.int .i64 k] 1 .full rfl) aa ae
  have r1:∀k:Int,rowO env 162 1 [(0,.int .i64 k)]=some (.row [.int .i64 k] 1 .full):=λk=>ac
  subst hR;cases cond with
  | true =>
   have hE:=hE 1;by_cases hd:st=[1]
   ·rw[decide_eq_true hd]at hE;simp only[simprocAttr,zK,K0,jaa,tysn,t0,t1,t2,t7,t8,t20,t21,c1,K3,g1,jar,r1,hE,Ji,Q8];simp[jaB,jak,jav,jjp,hd]
   ·rw[decide_eq_false hd]at hE;simp only[simprocAttr,zK,K0,jaa,tysn,t0,t1,t2,t7,t8,t20,t21,c1,K3,g1,jar,r1,hE,Ji,Q8];simp[jaB,jak,jav,jjp,hd]
  | false =>
   have hE:=hE 0;by_cases hd:st=[0]
   ·rw[decide_eq_true hd]at hE;simp only[simprocAttr,zK,K0,jaa,tysn,t0,t1,t2,t7,t8,t20,t21,c1,K3,g1,jar,r1,hE,Ji,Q8];simp[jaB,jak,jav,jjp,hd]
   ·rw[decide_eq_false hd]at hE;simp only[simprocAttr,zK,K0,jaa,tysn,t0,t1,t2,t7,t8,t20,t21,c1,K3,g1,jar,r1,hE,Ji,Q8];simp[jaB,jak,jav,jjp,hd]
end Go.Proofs.YtajaampgajieeaaGreatDoor
