/- Proved here: schemas are checked and found. Conditions: each theorem's own. -/
import Derived.Test.YtajaampgajieeaaGreatDoorScB
set_option linter.unusedSimpArgs false
set_option maxHeartbeats 16000000
set_option maxRecDepth 1000000
set_option linter.unusedVariables false
set_option linter.unusedSectionVars false
namespace Go.Proofs.YtajaampgajieeaaGreatDoor
open Go.Ab
structure Sch where
 name:List UInt8
 pub:Bool
 many:Int
 cv:V
 cs:List Col
def Sch.cells(s:Sch):List V:=[.str s.name,.bool s.pub,.int .i64 s.many,s.cv]
def Sch.none:Sch:=⟨[],false,0,.nilsl,[]⟩
def jbt(l:List Sch):List V:=(l.map Sch.cells).flatten
def IsS(v:V)(l:List Sch):Prop:=(v=.nilsl/\l=[])\/∃q,(q=RCap.unk\/q=RCap.full)/\v=.row (jbt l) l.length q
def OkS(l:List Sch):Prop:=∀s∈l,IsC s.cv s.cs/\OkC s.cs
theorem OkS.at {l:List Sch}(h:OkS l){i:Nat}(hi:i<l.length):IsC (l.getD i Sch.none).cv (l.getD i Sch.none).cs/\OkC (l.getD i Sch.none).cs:=h _ (by simp[List.getD,hi])
theorem jcr(c:Sch)(cs:List Sch):jbt (c::cs)=.str c.name::.bool c.pub::.int .i64 c.many::c.cv::jbt cs:=rfl
theorem jhc:∀(cs:List Sch) (i:Nat),(jbt cs).drop (i*4)=jbt (cs.drop i)
 |cs,0=>by simp
 | [],i+1=>by simp[jbt]
 |c::cs,i+1=>by
  rw[jcr,show(i+1)*4=i*4+1+1+1+1 by omega];simp only[K7];exact jhc cs i
theorem jjI:∀(cs:List Sch) (i:Nat),(jbt cs).take (i*4)=jbt (cs.take i)
 |cs,0=>by simp[jbt]
 | [],i+1=>by simp[jbt]
 |c::cs,i+1=>by
  rw[jcr,show(i+1)*4=i*4+1+1+1+1 by omega];simp only[Jv,jjI cs i,jcr]
theorem joA {cs:List Sch}{i:Nat}(hi:i<cs.length):jbt (cs.drop i)=.str (cs.getD i Sch.none).name::.bool (cs.getD i Sch.none).pub::.int .i64 (cs.getD i Sch.none).many::(cs.getD i Sch.none).cv::jbt (cs.drop (i+1)):=by
 have e:cs.drop i=cs.getD i Sch.none::cs.drop (i+1):=by
  rw[Qn hi];simp[List.getD,hi]
 rw[e,jcr]
theorem juG {v:V}{cs:List Sch}(h:IsS v cs):ja9 (some (.slice 38)) v=some (.int .i64 cs.length):=by
 rcases h with⟨rfl,rfl⟩|⟨q,_,rfl⟩<;>rfl
theorem jpz {v:V}{cs:List Sch}(h:IsS v cs){i:Nat}(hi:i<cs.length):jaw 4 v (.int .i64 (i:Int))=some (.rptr (.str (cs.getD i Sch.none).name::.bool (cs.getD i Sch.none).pub::.int .i64 (cs.getD i Sch.none).many::(cs.getD i Sch.none).cv::jbt (cs.drop (i+1)))):=by
 rcases h with⟨rfl,rfl⟩|⟨q,_,rfl⟩
 ·simp at hi
 ·rw[Ys,Kh (by omega),Qj,jhc,joA hi]
theorem jfv:∀{l:List Sch},OkS l->V.closed.closedL (jbt l)=true
 | [],h=>rfl
 |c::cs,h=>by
  have h1:=h c (by simp);rw[jcr];simp only[V.closed.closedL,V.closed,ja3 h1.1 h1.2,jfv (l:=cs) λx hx=>h x (by simp[hx]),K8]
theorem jhO {v:V}{l:List Sch}(h:IsS v l)(ok:OkS l):v.closed=true:=by
 rcases h with⟨rfl,rfl⟩|⟨q,rfl|rfl,rfl⟩
 ·rfl
 ·simp only[V.closed,jfv ok,K8]
 ·simp only[V.closed,jfv ok,K8]
theorem tys4:env.P.underlying 24=some (.slice 38):=by kernel_rfl
theorem juH {v:V}{cs:List Sch}(h:IsS v cs){i:Nat}(hi:i<cs.length):∃u,jb9 env 24 v none (some (.int .i64 (i:Int))) none=some u/\IsS u (cs.take i):=by
 rcases h with⟨rfl,rfl⟩|⟨q,_,rfl⟩
 ·simp at hi
 ·refine⟨.row (jbt (cs.take i)) i .unk,?_,.inr ⟨.unk,.inl rfl,by simp[Q7,X5 (Nat.le_of_lt hi)]⟩⟩
  have hb:ja2 (some (.int .i64 (i:Int))) cs.length cs.length=some i:=by
   simp only[ja2];simp;omega
  simp only[jb9,tys2,tys4,Kn,jcW,hb];simp[ja2,show ¬i=cs.length by omega,jjI]
theorem jjJ(cs:List Sch){i j:Nat}(h:j<i):(cs.take i).getD j Sch.none=cs.getD j Sch.none:=by
 simp[List.getD,Jt,h]
def jbN(f:Nat->Bool):Nat->Nat->Int
 |0,_ => -1
 |m+1,i=>if f i=true then i else jbN f m (i+1)
theorem jdh (f:Nat->Bool):∀m i,0<=jbN f m i↔∃j,i<=j/\j<i+m/\f j=true
  | 0, i => by simp only[jbN];constructor
               · intro h;omega
               · rintro⟨j,h1,h2,_⟩;omega
  | m+1,i=>by
    simp only[jbN];by_cases h:f i=true
    · rw[Kh h]
      exact⟨λ_=>⟨i,by omega,by omega,h⟩,λ_=>by omega⟩
    · rw [Ke h,jdh f m (i+1)]
      constructor
      · rintro⟨j,h1,h2,h3⟩;exact⟨j,by omega,by omega,h3⟩
      · rintro⟨j,h1,h2,h3⟩
        refine⟨j,?_,by omega,h3⟩
        rcases Ql i j with h4|h4
        · omega
        · have:j=i:=by omega
          subst this;exact absurd h3 h
theorem jd7 {f:Nat->Bool}{n i:Nat}(h:i<n):jbN f (n-i) i=if f i=true then(i:Int)else jbN f (n-(i+1)) (i+1):=by
 obtain⟨q,hq⟩:∃q,n-i=q+1:=⟨n-i-1,by omega⟩;have hq2:n-(i+1)=q:=by omega
 rw[hq,hq2];rfl
theorem jdi {f:Nat->Bool}:∀{m i:Nat},¬0<=jbN f m i->jbN f m i = -1
 |0,i,_=>rfl
 |m+1,i,h=>by
  simp only[jbN]at h ⊢;by_cases hf:f i=true
  ·rw[Kh hf]at h;omega
  ·rw[Ke hf]at h ⊢;exact jdi h
theorem jxO:env.P.funcs[172]? = some Tryz.f172:=by kernel_rfl
def jco(x:Int):V:=.tup [.int .i64 (if 0<=x then x else 0),.bool (decide (0<=x))]
theorem jjK(x:Int)(U:S):jah env (ev env) 172 [.int .i64 x] U=some (jco x,U):=by
 refine jbZ rfl rfl jxO rfl (by simp[Tryz.f172]) (by simp[Tryz.f172]) ?_;refine jaC ?_;by_cases h:0<=x
 ·have h2:¬x<0:=by omega
  simp only[Tryz.f172,simprocAttr,zK,Vq,h,h2];simp[jaz,jco,h]
 ·have h2:x<0:=by omega
  simp only[Tryz.f172,simprocAttr,zK,Vq,h,h2];simp[jaz,jco,h]
theorem jxP:env.P.funcs[174]? = some Tryz.f174:=by kernel_rfl
theorem jxQ:env.P.funcs[201]? = some Tryz.f201:=by kernel_rfl
theorem jni(nm:List UInt8)(d:Sch)(L:List AObj)(ts:List Nat)(p:Nat)(hp:L[p]? = some (.cells [.str nm] 9)) :
  jah env (ev env) 174 [.agg [.str d.name,.bool d.pub,.int .i64 d.many,d.cv],.ptr p 0] ⟨L,ts⟩=some (.bool (decide (d.name=nm)),⟨L++[.cells [.str d.name,.bool d.pub,.int .i64 d.many,d.cv] 38],ts⟩):=by
 refine jbZ rfl rfl jxP rfl (by simp[Tryz.f174]) (by simp[Tryz.f174]) ?_;refine jaC ?_;by_cases h:d.name=nm<;>
 ·simp only[Tryz.f174,simprocAttr,zK,Vq,tys2,YW,jad,jaG hp,jay,h];simp[jaz,h]
theorem jnj(nm:List UInt8)(d:Col)(L:List AObj)(ts:List Nat)(p:Nat)(hp:L[p]? = some (.cells [.str nm] 9)) :
  jah env (ev env) 201 [.agg [.str d.name,.int .i64 d.lo,.int .i64 d.hi,d.w],.ptr p 0] ⟨L,ts⟩=some (.bool (decide (d.name=nm)),⟨L++[.cells [.str d.name,.int .i64 d.lo,.int .i64 d.hi,d.w] 41],ts⟩):=by
 refine jbZ rfl rfl jxQ rfl (by simp[Tryz.f201]) (by simp[Tryz.f201]) ?_;refine jaC ?_;by_cases h:d.name=nm<;>
 ·simp only[Tryz.f201,simprocAttr,zK,Vq,tys2,YW,jad,jaG hp,jay,h];simp[jaz,h]
def jbe(l:List Sch)(nm:List UInt8):Nat->Nat->Int:=jbN λi=>decide ((l.getD i Sch.none).name=nm)
def jgC(l:List Col)(nm:List UInt8):Nat->Nat->Int:=jbN λi=>decide ((l.getD i Col.none).name=nm)
theorem jxR:env.P.funcs[173]? = some Tryz.f173:=by kernel_rfl
theorem je3(nm:List UInt8)(v:V)(l:List Sch)(hv:IsS v l)(ok:OkS l)(hl:l.length<=1000)(L:List AObj)(ts:List Nat)(p:Nat)(hp:L[p]? = some (.cells [.str nm] 9)) :
  ∃X,jah env (ev env) 173 [v,.func 174 [] [.ptr p 0]] ⟨L,ts⟩=some (.int .i64 (jbe l nm l.length 0),⟨L++X,ts⟩):=by
 suffices h:∃u U',jah env (ev env) 173 [v,.func 174 [] [.ptr p 0]] ⟨L,ts⟩=some (u,U')/\(u=.int .i64 (jbe l nm l.length 0)/\∃X,U'=⟨L++X,ts⟩) by
  obtain⟨v,U',h1,rfl,X,rfl⟩:=h;exact⟨X,h1⟩
 refine jaF jxR rfl ?_;simp only[Tryz.f173,simprocAttr,zK,Vq,tys2,tys4,juG hv];refine jax (λm T D U=>D=[]/\T 0=v/\T 1=.func 174 [] [.ptr p 0]/\T 7=.int .i64 l.length/\∃(i:Nat) (X:List AObj),U=⟨L++X,ts⟩/\T 8=.int .i64 i/\i<=l.length/\m=l.length-i/\jbe l nm l.length 0=jbe l nm (l.length-i) i) ?_ _ _ _ _ ⟨rfl,rfl,rfl,rfl,0,[],by simp,rfl,by omega,rfl,rfl⟩;rintro m T D U ⟨rfl,t0,t1,t7,i,X,rfl,t8,hi,rfl,hf⟩;refine jaC ?_;by_cases hlt:i<l.length
 ·have c1:(i:Int)<(l.length:Int):=by omega
  have e1:=wS i (by omega)
  have hx:=jpz hv hlt;have hN:=jni nm (l.getD i Sch.none) (L++X) ts p (jaG hp X);unfold jbe at hf;rw[jd7 hlt]at hf;by_cases hn:(l.getD i Sch.none).name=nm
  ·rw[Kh (decide_eq_true hn)]at hf;simp only[hn,decide_true]at hN;simp only[simprocAttr,zK,Vq,tys2,tys4,t0,t1,t7,t8,c1,e1,hx,jen,jaL,hn,hN];exact⟨by rw[jbe,hf];rfl,_,by rw[K6]⟩
  ·rw[Ke (by simp only[Jh];exact hn)]at hf;simp only[hn,decide_false]at hN;simp only[simprocAttr,zK,Vq,tys2,tys4,t0,t1,t7,t8,c1,e1,hx,jen,jaL,hN];exact⟨l.length-(i+1),by omega,i+1,_,by rw[K6],rfl,by omega,rfl,hf⟩
 ·have hi2:i=l.length:=by omega
  subst hi2;have c1:¬(l.length:Int)<(l.length:Int):=by omega
  rw[Xk]at hf;simp only[simprocAttr,zK,Vq,t0,t1,t7,t8,c1];exact⟨by rw[hf];rfl,X,rfl⟩
theorem jnk(nm:List UInt8)(dv:V)(ds:List Col)(hd:IsC dv ds)(ok:OkC ds)(hl:ds.length<=1000)(L:List AObj)(ts:List Nat)(p:Nat)(hp:L[p]? = some (.cells [.str nm] 9)) :
  ∃X,jah env (ev env) 200 [dv,.func 201 [] [.ptr p 0]] ⟨L,ts⟩=some (.int .i64 (jgC ds nm ds.length 0),⟨L++X,ts⟩):=by
 suffices h:∃v U',jah env (ev env) 200 [dv,.func 201 [] [.ptr p 0]] ⟨L,ts⟩=some (v,U')/\(v=.int .i64 (jgC ds nm ds.length 0)/\∃X,U'=⟨L++X,ts⟩) by
  obtain⟨v,U',h1,rfl,X,rfl⟩:=h;exact⟨X,h1⟩
 refine jaF jsM rfl ?_;simp only[Tryz.f200,simprocAttr,zK,Vq,tys2,jfu hd];refine jax (λm T D U=>D=[]/\T 0=dv/\T 1=.func 201 [] [.ptr p 0]/\T 7=.int .i64 ds.length/\∃(i:Nat) (X:List AObj),U=⟨L++X,ts⟩/\T 8=.int .i64 i/\i<=ds.length/\m=ds.length-i/\jgC ds nm ds.length 0=jgC ds nm (ds.length-i) i) ?_ _ _ _ _ ⟨rfl,rfl,rfl,rfl,0,[],by simp,rfl,by omega,rfl,rfl⟩;rintro m T D U ⟨rfl,t0,t1,t7,i,X,rfl,t8,hi,rfl,hf⟩;refine jaC ?_;by_cases hlt:i<ds.length
 ·have c1:(i:Int)<(ds.length:Int):=by omega
  have e1:=wS i (by omega)
  have hx:=jeb hd hlt;have hN:=jnj nm (ds.getD i Col.none) (L++X) ts p (jaG hp X);unfold jgC at hf;rw[jd7 hlt]at hf;by_cases hn:(ds.getD i Col.none).name=nm
  ·rw[Kh (decide_eq_true hn)]at hf;simp only[hn,decide_true]at hN;simp only[simprocAttr,zK,Vq,tys2,t0,t1,t7,t8,c1,e1,hx,jdc,jaL,hn,hN];exact⟨by rw[jgC,hf];rfl,_,by rw[K6]⟩
  ·rw[Ke (by simp only[Jh];exact hn)]at hf;simp only[hn,decide_false]at hN;simp only[simprocAttr,zK,Vq,tys2,t0,t1,t7,t8,c1,e1,hx,jdc,jaL,hN];exact⟨ds.length-(i+1),by omega,i+1,_,by rw[K6],rfl,by omega,rfl,hf⟩
 ·have hi2:i=ds.length:=by omega
  subst hi2;have c1:¬(ds.length:Int)<(ds.length:Int):=by omega
  rw[Xk]at hf;simp only[simprocAttr,zK,Vq,t0,t1,t7,t8,c1];exact⟨by rw[hf];rfl,X,rfl⟩
theorem at97:env.P.funcs[97]? = some Tryz.f97:=by kernel_rfl
theorem jxS:env.P.funcs[122]? = some Tryz.f122:=by kernel_rfl
theorem jjL(h:List AObj)(x:Int):jaM h jai (jaz [.int .i64 (if 0<=x then x else 0),.bool (decide (0<=x))])=some (jco x):=by
 simp only[jaz,jai,jbT,jal,jaR,jau,jaB,Kn,Qh,jco]
theorem find_call(nm:List UInt8)(v:V)(l:List Sch)(hv:IsS v l)(ok:OkS l)(hl:l.length<=1000)(U:S):jah env (ev env) 97 [v,.str nm] U=some (jco (jbe l nm l.length 0),U):=by
 refine jak (by simp[V.closed,jhO hv ok]) at97 rfl ?_ U;obtain⟨X,hX⟩:=je3 nm v l hv ok hl [.cells [.str nm] 9] [] 0 rfl;simp only[Tryz.f97,simprocAttr,zK,Vq,tys2,tys3,jaj,hX,jjK,show(V.str nm).cells=[.str nm]from rfl,jco];exact jjL _ _
theorem jdt(nm:List UInt8)(a b c:V)(hca:a.closed=true)(hcb:b.closed=true)(hcc:c.closed=true)(cv:V)(cs:List Col)(hc:IsC cv cs)(ok:OkC cs)(hl:cs.length<=1000)(U:S) :
  jah env (ev env) 122 [.agg [a,b,c,cv],.str nm] U=some (jco (jgC cs nm cs.length 0),U):=by
 refine jak (by simp[V.closed,V.closed.closedL,ja3 hc ok,hca,hcb,hcc]) jxS rfl ?_ U;obtain⟨X,hX⟩:=jnk nm cv cs hc ok hl [.cells [a,b,c,cv] 38,.cells [.str nm] 9] [] 1 rfl;simp only[Tryz.f122,simprocAttr,zK,Vq,tys2,tys3,jaj,YW,hX,jjK,show(V.str nm).cells=[.str nm]from rfl,jco];exact jjL _ _
theorem at96:env.P.funcs[96]? = some Tryz.f96:=by kernel_rfl
noncomputable def je9(l:List Sch)(i:Nat):Int × Int:=jdd (l.getD i Sch.none).name (l.getD i Sch.none).pub (l.getD i Sch.none).many (l.getD i Sch.none).cs
open Classical in
noncomputable def jhw(l:List Sch):Nat->Nat->Int × Int × Int
 |0,_=>(0,-1,-1)
 |m+1,i=>if(je9 l i).1=0 then(if ∃k,k<i/\(l.getD k Sch.none).name=(l.getD i Sch.none).name then(8,(i:Int),-1)else jhw l m (i+1))else((je9 l i).1,(i:Int),(je9 l i).2)
noncomputable def allE(l:List Sch):Int × Int × Int:=if 16<l.length then(4,16,-1)else jhw l l.length 0
def jjM(s:Sch):Prop:=s.name.length<2^63/\s.cs.length<=1000/\∀i,i<s.cs.length->jdC (s.cs.getD i Col.none)
def tri(r:Int × Int × Int):V:=.tup [.int .i64 r.1,.int .i64 r.2.1,.int .i64 r.2.2]
theorem je4(h:List AObj)(a b c:Int)(r:Int × Int × Int)(e:(a,b,c)=r):jaM h jai (jaz [.int .i64 a,.int .i64 b,.int .i64 c])=some (tri r):=by
 subst e;simp only[jaz,jai,jbT,jal,jaR,jau,jaB,Kn,Qh,tri]
theorem jlM {l:List Sch}{nm:List UInt8}{i:Nat}(hi:i<l.length):0<=jbe (l.take i) nm (l.take i).length 0↔∃k,k<i/\(l.getD k Sch.none).name=nm:=by
 have hli:(l.take i).length=i:=by simp;omega
 rw[hli];unfold jbe;rw[jdh];constructor
 ·rintro⟨j,_,h2,h3⟩;have h3:=of_decide_eq_true h3;rw[jjJ l (by omega)]at h3;exact⟨j,by omega,h3⟩
 ·rintro⟨j,h2,h3⟩;exact⟨j,by omega,by omega,by rw[jjJ l h2];exact decide_eq_true h3⟩
theorem jeh {v:V}{cs:List Col}(h:IsC v cs):v.isCell=true:=by rcases h with⟨rfl,_⟩|⟨q,_,rfl⟩<;>rfl
theorem jgD(v:V)(l:List Sch)(hv:IsS v l)(ok:OkS l)(hl:l.length<=1000)(hs:∀i,i<l.length->jjM (l.getD i Sch.none))(U:S):jah env (ev env) 96 [v] U=some (tri (allE l),U):=by
 refine jak (by simp[V.closed,jhO hv ok]) at96 rfl ?_ U;by_cases h16:(16:Int)<(l.length:Int)
 ·have he:(4,16,-1)=allE l:=by unfold allE;rw[Kh (by omega)]
  simp only[Tryz.f96,simprocAttr,zK,Vq,tys2,tys3,tys4,jaj,juG hv,h16];exact je4 _ _ _ _ _ he
 have he:allE l=jhw l l.length 0:=by unfold allE;rw[Ke (by omega)]
 simp only[Tryz.f96,simprocAttr,zK,Vq,tys2,tys3,tys4,jaj,juG hv,h16];refine jax (λm T D U=>D=[]/\T 0=v/\T 14=v/\T 15=.int .i64 l.length/\∃(i:Nat) (X:List AObj),U=⟨X,[]⟩/\T 16=.int .i64 i/\i<=l.length/\m=l.length-i/\allE l=jhw l (l.length-i) i) ?_ _ _ _ _ ⟨rfl,rfl,rfl,rfl,0,[],rfl,rfl,by omega,rfl,he⟩;clear he;rintro m T D U ⟨rfl,t0,t14,t15,i,X,rfl,t16,hi,rfl,hf⟩;refine jaC ?_;by_cases hlt:i<l.length
 ·have c1:(i:Int)<(l.length:Int):=by omega
  have e1:=wS i (by omega)
  have hx:=jpz hv hlt;obtain⟨hcc,hok⟩:=ok.at hlt;obtain⟨hs1,hs2,hs3⟩:=hs i hlt;have hic:=jeh hcc;obtain⟨u,hu,hcu⟩:=juH hv hlt;have oku:OkS (l.take i):=λc h=>ok c (Vs h)
  have hF:=find_call (l.getD i Sch.none).name u (l.take i) hcu oku (by simp;omega);obtain⟨q,hq⟩:∃q,l.length-i=q+1:=⟨l.length-i-1,by omega⟩;have hq2:q=l.length-(i+1):=by omega
  have hstep:jhw l (l.length-i) i=if(je9 l i).1=0 then(if ∃k,k<i/\(l.getD k Sch.none).name=(l.getD i Sch.none).name then(8,(i:Int),-1)else jhw l q (i+1))else((je9 l i).1,(i:Int),(je9 l i).2):=by rw[hq];rfl
  rw[hstep]at hf;have hC:=check_call (l.getD i Sch.none).name (l.getD i Sch.none).pub (l.getD i Sch.none).many (l.getD i Sch.none).cv (l.getD i Sch.none).cs hcc hok hs1 hs2 hs3
  change ∀U,_=some (V.tup [.int .i64 (je9 l i).1,.int .i64 (je9 l i).2],U)at hC
  by_cases hz:(je9 l i).1=0
  ·rw[Kh hz]at hf;simp only[hz]at hC;by_cases hk:0<=jbe (l.take i) (l.getD i Sch.none).name (l.take i).length 0
   ·rw[Kh ((jlM hlt).1 hk)]at hf;simp only[simprocAttr,zK,Vq,tys2,tys3,tys4,t0,t14,t15,t16,c1,e1,hx,jen,jaL,z29,jad,jan,jaa,Jd,Q9,K7,J8,Kv,Qr,jae,jac,jaq,hic,YW,jds,hC,jb0,jb1,jca,hu,hF,jco,hk];exact⟨by kernel_rfl,je4 _ _ _ _ _ hf.symm⟩
   ·rw[Ke (λh=>hk ((jlM hlt).2 h)),hq2]at hf;simp only[simprocAttr,zK,Vq,tys2,tys3,tys4,t0,t14,t15,t16,c1,e1,hx,jen,jaL,z29,jad,jan,jaa,Jd,Q9,K7,J8,Kv,Qr,jae,jac,jaq,hic,YW,jds,hC,jb0,jb1,jca,hu,hF,jco,hk];exact⟨by kernel_rfl,l.length-(i+1),by omega,i+1,_,rfl,rfl,by omega,rfl,hf⟩
  ·rw[Ke hz]at hf;simp only[simprocAttr,zK,Vq,tys2,tys3,tys4,t0,t14,t15,t16,c1,e1,hx,jen,jaL,z29,jad,jan,jaa,Jd,Q9,K7,J8,Kv,Qr,jae,jac,jaq,hic,YW,jds,hC,hz];exact je4 _ _ _ _ _ hf.symm
 ·have hi2:i=l.length:=by omega
  subst hi2;have c1:¬(l.length:Int)<(l.length:Int):=by omega
  rw[Xk]at hf;simp only[simprocAttr,zK,Vq,t0,t14,t15,t16,c1];exact je4 _ _ _ _ _ hf.symm
def jxT(c:Col):Prop:=IsW c.w c.ws/\c.name.length<2^63/\c.ws.length<2^63/\∀i,i<c.ws.length->(c.ws.getD i []).length<2^63
def jwd(s:Sch):Prop:=IsC s.cv s.cs/\(∀c∈s.cs,jxT c)/\s.name.length<2^63/\s.cs.length<2^63
theorem jrm:maxLen<2^63:=by decide
theorem jwd.okC {s:Sch}(h:jwd s):OkC s.cs:=λc hc=>(h.2.1 c hc).1
theorem jxU:env.P.funcs[183]? = some Tryz.f183:=by kernel_rfl
theorem juI:env.P.funcs[182]? = some Tryz.f182:=by kernel_rfl
theorem jxV:env.P.funcs[105]? = some Tryz.f105:=by kernel_rfl
theorem jwe:rowO env 39 0 []=some (.row [] 0 .full):=by kernel_rfl
theorem jgE(h:List AObj)(d:Nat)(ws:List (List UInt8))(c:RCap):jaM h (d+2) (.row (ws.map V.str) ws.length c)=some (.row (ws.map V.str) ws.length .unk):=by
 rw[ja8,jlI];rfl
theorem jhd(w:V)(ws:List (List UInt8))(h:IsW w ws)(hl:ws.length<=1000)(U:S):jah env (ev env) 183 [w] U=some (w,U):=by
 refine jak (by simp[jcu h]) jxU rfl ?_ U;obtain⟨cap,ts',hA,_⟩:=jv6 h hl [] []
 rcases h with⟨rfl,rfl⟩|rfl
 ·simp only[Tryz.f183,simprocAttr,zK,Vq,tys2,jaj,jft u24];rfl
 ·simp only[Tryz.f183,simprocAttr,zK,Vq,tys2,jaj,jdr u24,jap,jwe,hA];simp only[jaz,jai,jgE]
theorem jrn {T:Tm}(L:List AObj)(ts:List Nat):opT env true T ⟨L,ts⟩ (.buildSlice 36 0 #[])=some (.hsl L.length 0 0 0 .exact,⟨L++[.cells [] 41],ts⟩):=by
 unfold opT;simp only[ja5,ja7,jbA,jcG,el27,tys2,Kn];simp[jeu,V.cells,S.push,env]
theorem jxW(L:List AObj)(ts:List Nat)(cs:List Col)(hl:cs.length<=1000)(hn:cs.length ≠ 0)(c:RCap):appO env true ⟨L++[.cells [] 41],ts⟩ 36 36 (.hsl L.length 0 0 0 .exact) (.row (jaN cs) cs.length c) =
  some (.hsl (L.length+1) 0 cs.length cs.length (.grow 4),⟨L++[.cells [] 41,.cells (jaN cs) 41],ts⟩):=by
 have hnew:∀h,jaW h 4 cs.length (.row (jaN cs) cs.length c)=some (jaN cs):=λh=>by simp[jaW,jcB,Qw (X4 (jcB cs))]
 have hl2:cs.length*56<=lim/\cs.length<=lim:=by have h:lim=2^40:=rfl;rw[h];omega
 unfold appO;simp only[el27,tys2,by44,zn44,vLen,hnew,Kn,Kl];simp[jbr,hn,hl2,jaW,S.push]
theorem jwf(L:List AObj)(ts:List Nat)(c:RCap):appO env true ⟨L++[.cells [] 41],ts⟩ 36 36 (.hsl L.length 0 0 0 .exact) (.row [] 0 c)=some (.hsl L.length 0 0 0 .exact,⟨L++[.cells [] 41],ts⟩):=by
 unfold appO;simp only[el27,tys2,by44,zn44,vLen,jaW,Kn,Kl];simp[jbr]
theorem mb62:env.mutb 182 3=true:=rfl
theorem jpA(L:List AObj)(ts:List Nat):jah env (ev env) 182 [.nilsl] ⟨L,ts⟩=some (.nilsl,⟨L,ts⟩):=by
 refine jaK juI rfl ?_;simp only[Tryz.f182,simprocAttr,zK,Vq,tys2,jaj,jft u27];simp only[jaz,and_self]
theorem jnl(L:List AObj)(ts:List Nat)(c:RCap):jah env (ev env) 182 [.row [] 0 c] ⟨L,ts⟩=some (.hsl L.length 0 0 0 .exact,⟨L++[.cells [] 41],ts⟩):=by
 refine jaK juI rfl ?_;simp only[Tryz.f182,simprocAttr,zK,Vq,tys2,jaj,jdr u27,mb62,jrn,jwf];simp only[jaz,and_self]
theorem jpB(L:List AObj)(ts:List Nat)(cs:List Col)(hl:cs.length<=1000)(hn:cs.length ≠ 0)(c:RCap):jah env (ev env) 182 [.row (jaN cs) cs.length c] ⟨L,ts⟩=some (.hsl (L.length+1) 0 cs.length cs.length (.grow 4),⟨L++[.cells [] 41,.cells (jaN cs) 41],ts⟩):=by
 refine jaK juI rfl ?_;simp only[Tryz.f182,simprocAttr,zK,Vq,tys2,jaj,jdr u27,mb62,jrn,jxW L ts cs hl hn c];simp only[jaz,and_self]
theorem jwg(h:List AObj)(d:Nat){w:V}{ws:List (List UInt8)}(hw:IsW w ws):jaM h (d+2) w=some w:=by
 rcases hw with⟨rfl,_⟩|rfl
 ·rfl
 ·exact jgE h d ws _
theorem jdU(h:List AObj)(d:Nat):∀{cs:List Col},OkC cs->(jaN cs).mapM (jaM h (d+2))=some (jaN cs)
 | [],_=>rfl
 |c::cs,ok=>by
  rw[jbI,jal,jal,jal,jal,jdU h d (cs:=cs) λx hx=>ok x (by simp[hx]),jwg h d (ok c (by simp)),jbS,jau,jau];rfl
theorem jro {cs:List Col}{i:Nat}(hi:i<cs.length):(jaN cs)[i*4+3]? = some (cs.getD i Col.none).w:=by
 have h:=jg9 cs i;rw[joy hi]at h;have h2:((jaN cs).drop (i*4))[3]? = some (cs.getD i Col.none).w:=by rw[h];rfl
 rw[Xy]at h2;exact h2
theorem ji9 {cs:List V}{off:Nat}{v:V}(h:cs[off]? = some v):jaa cs off [v]=cs:=by
 have hlt:=(K4.1 h).1
 have e:cs=cs.take off++v::cs.drop (off+1):=by
  conv=>lhs;rw[<- Xz off cs,Qn hlt]
  rw[(K4.1 h).2]
 unfold jaa;simp only[Qi,Qo,Jk];rw[K6];exact e.symm
theorem jnm(x:AObj)(a b c d:V)(t:TypeId)(X:List AObj):jab (x::.cells [a,b,c,d] t::X) 4 (.ptr 1 0)=some [a,b,c,d]:=jcb rfl
theorem jkz(a b c d:V)(t:TypeId)(X:List AObj):jab (.cells [a,b,c,d] t::X) 4 (.ptr 0 0)=some [a,b,c,d]:=jcb rfl
def unkV:V->V
 | .row a b _=>.row a b .unk
 |v=>v
theorem jkA {cv:V}{cs:List Col}(h:IsC cv cs):IsC (unkV cv) cs:=by
 rcases h with⟨rfl,rfl⟩|⟨q,_,rfl⟩
 ·exact .inl ⟨rfl,rfl⟩
 ·exact .inr ⟨.unk,.inl rfl,rfl⟩
theorem jhe(nm:List UInt8)(pb:Bool)(many:Int)(cv:V)(cs:List Col)(hc:IsC cv cs)(ok:OkC cs)(hl:cs.length<=1000)(hw:∀i,i<cs.length->(cs.getD i Col.none).ws.length<=1000)(U:S) :
  jah env (ev env) 105 [.agg [.str nm,.bool pb,.int .i64 many,cv]] U=some (.agg [.str nm,.bool pb,.int .i64 many,unkV cv],U):=by
 refine jak (by simp[V.closed,V.closed.closedL,ja3 hc ok]) jxV rfl ?_ U
 rcases hc with⟨rfl,rfl⟩|⟨qc,_,rfl⟩
 ·simp only[Tryz.f105,simprocAttr,zK,Vq,tys2,tys3,jaj,z29,YW,jpA,Va,jaa,V.isCell];refine jax (λm T D U=>D=[]/\T 1=.ptr 0 0/\T 2=.ptr 1 0/\T 10=.int .i64 0/\T 11=.int .i64 0/\U=⟨[.cells [.str nm,.bool pb,.int .i64 many,.nilsl] 38,.cells [.str [],.bool false,.int .i64 0,.nilsl] 38],[]⟩) ?_ 0 _ _ _ ⟨rfl,rfl,rfl,rfl,rfl,rfl⟩;rintro m T D U ⟨rfl,t1,t2,t10,t11,rfl⟩;refine jaC ?_;simp only[simprocAttr,zK,Vq,tys2,tys3,t1,t2,t10,t11,jen,jkz,jnm,Va,jaa,V.isCell,YW];simp only[jaz,jai,jeC,jal,jaR,jbS,jaB,jau,jm6,Kn,Qh,unkV]
 ·by_cases hn:cs.length=0
  ·have:cs=[]:=Q5 hn;subst this;simp only[Tryz.f105,simprocAttr,zK,Vq,tys2,tys3,jaj,z29,YW,show jaN []=[]from rfl,jnl,jqR,Va,jaa,Nat.reduceAdd,Nat.reduceLeDiff,V.isCell];refine jax (λm T D U=>D=[]/\T 1=.ptr 0 0/\T 2=.ptr 1 0/\T 10=.int .i64 0/\T 11=.int .i64 0/\U=⟨[.cells [.str nm,.bool pb,.int .i64 many,.hsl 2 0 0 0 .exact] 38,.cells [.str [],.bool false,.int .i64 0,.nilsl] 38,.cells [] 41],[]⟩) ?_ 0 _ _ _ ⟨rfl,rfl,rfl,rfl,rfl,rfl⟩;rintro m T D U ⟨rfl,t1,t2,t10,t11,rfl⟩;refine jaC ?_;simp only[simprocAttr,zK,Vq,tys2,tys3,t1,t2,t10,t11,jen,jkz,jnm,Va,jaa,V.isCell,YW]
   have hs:∀x y d,jaM [x,y,.cells [] 41] (d+1) (.hsl 2 0 0 0 .exact)=some (.row [] 0 .unk):=λx y d=>by
    rw[jlv _ _ _ _ _ _ _ [] 41 rfl (Kz _)];rfl
   simp only[jaz,jai,jeC,jal,jaR,jbS,jaB,jau,hs,Kn,Qh,unkV]
  ·simp only[Tryz.f105,simprocAttr,zK,Vq,tys2,tys3,jaj,z29,YW,jpB _ _ cs hl hn,jqR,Va,jaa,V.isCell]
   refine jax (λm T D U=>D=[]/\T 1=.ptr 0 0/\T 2=.ptr 1 0/\T 10=.int .i64 cs.length/\U=⟨[.cells [.str nm,.bool pb,.int .i64 many,.hsl 3 0 cs.length cs.length (.grow 4)] 38,.cells [.str [],.bool false,.int .i64 0,.nilsl] 38,.cells [] 41,.cells (jaN cs) 41],[]⟩ /\
    ∃i:Nat,T 11=.int .i64 i/\i<=cs.length/\m=cs.length-i) ?_ _ _ _ _ ⟨rfl,rfl,rfl,rfl,rfl,0,rfl,by omega,rfl⟩
   rintro m T D U ⟨rfl,t1,t2,t10,rfl,i,t11,hi,rfl⟩;refine jaC ?_;by_cases hlt:i<cs.length
   ·have c1:(i:Int)<(cs.length:Int):=by omega
    have c2:(0:Int)<=(i:Int)/\(i:Int)<(cs.length:Int):=by omega
    have e1:=wS i (by omega)
    have hic:=jbd (ok.at hlt);have hfit:i*4+3+1<=(jaN cs).length:=by rw[jcB];omega
    have hcw:(cs.getD i Col.none).w.cells=[(cs.getD i Col.none).w]:=by rcases ok.at hlt with⟨h,_⟩|h<;>rw[h]<;>rfl
    have hst:(jaN cs).length >= i*4+3+1:=hfit;simp only[simprocAttr,zK,Vq,tys2,tys3,t1,t2,t10,t11,c1,c2,e1,jqQ,jro hlt,jhd _ _ (ok.at hlt) (hw i hlt),hcw,hic,hfit,ji9 (jro hlt),Kv,Qr,Xa,List.set_cons_succ];exact⟨by kernel_rfl,cs.length-(i+1),by omega,i+1,rfl,by omega,rfl⟩
   ·have hi2:i=cs.length:=by omega
    subst hi2;have c1:¬(cs.length:Int)<(cs.length:Int):=by omega
    simp only[simprocAttr,zK,Vq,tys2,tys3,t1,t2,t10,t11,c1,jen,jkz,jnm,Va,jaa,V.isCell,YW]
    have hs:∀x y z d,jaM [x,y,z,.cells (jaN cs) 41] (d+3) (.hsl 3 0 cs.length cs.length (.grow 4))=some (.row (jaN cs) cs.length .unk):=λx y z d=>by
     rw[jlv _ _ _ _ _ _ _ (jaN cs) 41 rfl (Kz _),Q9,jdU _ _ ok];rfl
    simp only[jaz,jai,jeC,jal,jaR,jbS,jaB,jau,hs,Kn,Qh,unkV]
end Go.Proofs.YtajaampgajieeaaGreatDoor
