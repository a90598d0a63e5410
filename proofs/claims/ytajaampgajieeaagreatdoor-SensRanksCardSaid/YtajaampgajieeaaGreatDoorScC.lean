/- Proved here: schemas are checked and found. Conditions: each theorem's own. -/
import Derived.Test.YtajaampgajieeaaGreatDoorScB
set_option linter.unusedSimpArgs false
set_option maxHeartbeats 16000000
set_option maxRecDepth 1000000
set_option linter.unusedVariables false
set_option linter.unusedSectionVars false
namespace Go.Proofs.YtajaampgajieeaaGreatDoor
open Go.Ab
structure Sch where
 name:List UInt8
 pub:Bool
 many:Int
 cv:V
 cs:List Col
def Sch.cells(s:Sch):List V:=[.str s.name,.bool s.pub,.int .i64 s.many,s.cv]
def Sch.none:Sch:=⟨[],false,0,.nilsl,[]⟩
def jba(l:List Sch):List V:=(l.map Sch.cells).flatten
def IsS(v:V)(l:List Sch):Prop:=(v=.nilsl/\l=[])\/∃q,(q=RCap.unk\/q=RCap.full)/\v=.row (jba l) l.length q
def OkS(l:List Sch):Prop:=∀s∈l,IsC s.cv s.cs/\OkC s.cs
theorem OkS.at {l:List Sch}(h:OkS l){i:Nat}(hi:i<l.length):IsC (l.getD i Sch.none).cv (l.getD i Sch.none).cs/\OkC (l.getD i Sch.none).cs:=h _ (by simp[List.getD,hi])
theorem jb6(c:Sch)(cs:List Sch):jba (c::cs)=.str c.name::.bool c.pub::.int .i64 c.many::c.cv::jba cs:=rfl
theorem jg9:∀(cs:List Sch) (i:Nat),(jba cs).drop (i*4)=jba (cs.drop i)
 |cs,0=>ae
 | [],i+1=>by simp[jba]
 |c::cs,i+1=>by
  rw[jb6,show(i+1)*4=i*4+1+1+1+1 by omega];simp only[K5];exact jg9 cs i
theorem jjE:∀(cs:List Sch) (i:Nat),(jba cs).take (i*4)=jba (cs.take i)
 |cs,0=>by simp[jba]
 | [],i+1=>by simp[jba]
 |c::cs,i+1=>by
  rw[jb6,show(i+1)*4=i*4+1+1+1+1 by omega];simp only[Jw,jjE cs i,jb6]
theorem joE {cs:List Sch}{i:Nat}(hi:i<cs.length):jba (cs.drop i)=.str (cs.getD i Sch.none).name::.bool (cs.getD i Sch.none).pub::.int .i64 (cs.getD i Sch.none).many::(cs.getD i Sch.none).cv::jba (cs.drop (i+1)):=by
 have e:cs.drop i=cs.getD i Sch.none::cs.drop (i+1):=by
  rw[Qk hi];simp[List.getD,hi]
 rw[e,jb6]
theorem juK {v:V}{cs:List Sch}(h:IsS v cs):jbc (some (.slice 38)) v=some (.int .i64 cs.length):=by
 rcases h with⟨rfl,rfl⟩|⟨q,_,rfl⟩<;>rfl
theorem jkv {v:V}{cs:List Sch}(h:IsS v cs){i:Nat}(hi:i<cs.length):jax 4 v (.int .i64 (i:Int))=some (.rptr (.str (cs.getD i Sch.none).name::.bool (cs.getD i Sch.none).pub::.int .i64 (cs.getD i Sch.none).many::(cs.getD i Sch.none).cv::jba (cs.drop (i+1)))):=by
 rcases h with⟨rfl,rfl⟩|⟨q,_,rfl⟩
 ·simp at hi
 ·rw[Ys,Kh aa,Qj,jg9,joE hi]
theorem jff:∀{l:List Sch},OkS l->V.closed.closedL (jba l)=true
 | [],h=>rfl
 |c::cs,h=>by
  have h1:=h c ae;rw[jb6];simp only[V.closed.closedL,V.closed,ja2 h1.1 h1.2,jff (l:=cs) λx hx=>h x (by simp[hx]),K8]
theorem jdk {v:V}{l:List Sch}(h:IsS v l)(ok:OkS l):v.closed=true:=by
 rcases h with⟨rfl,rfl⟩|⟨q,rfl|rfl,rfl⟩
 ·rfl
 ·simp only[V.closed,jff ok,K8]
 ·simp only[V.closed,jff ok,K8]
theorem tys4:env.P.underlying 24=some (.slice 38):=ac
theorem juL {v:V}{cs:List Sch}(h:IsS v cs){i:Nat}(hi:i<cs.length):∃u,jb2 env 24 v none (some (.int .i64 (i:Int))) none=some u/\IsS u (cs.take i):=by
 rcases h with⟨rfl,rfl⟩|⟨q,_,rfl⟩
 ·simp at hi
 ·refine⟨.row (jba (cs.take i)) i .unk,?_,.inr ⟨.unk,.inl rfl,by simp[Q7,X9 (Nat.le_of_lt hi)]⟩⟩
  have hb:ja1 (some (.int .i64 (i:Int))) cs.length cs.length=some i:=by
   simp only[ja1];simp;omega
  simp only[jb2,tys2,tys4,Kq,jcR,hb];simp[ja1,show ¬i=cs.length by omega,jjE]
theorem jjF(cs:List Sch){i j:Nat}(h:j<i):(cs.take i).getD j Sch.none=cs.getD j Sch.none:=by
 simp[List.getD,Jv,h]
def jbQ(f:Nat->Bool):Nat->Nat->Int
 |0,_ => -1
 |m+1,i=>if f i=true then i else jbQ f m (i+1)
theorem jes (f:Nat->Bool):∀m i,0<=jbQ f m i↔∃j,i<=j/\j<i+m/\f j=true
  | 0, i => by simp only[jbQ];constructor
               · intro h;omega
               · rintro⟨j,h1,h2,_⟩;omega
  | m+1,i=>by
    simp only[jbQ];by_cases h:f i=true
    · rw[Kh h]
      exact⟨λ_=>⟨i,aa,aa,h⟩,λ_=>aa⟩
    · rw [Ke h,jes f m (i+1)]
      constructor
      · rintro⟨j,h1,h2,h3⟩;exact⟨j,aa,aa,h3⟩
      · rintro⟨j,h1,h2,h3⟩
        refine⟨j,?_,aa,h3⟩
        rcases Qm i j with h4|h4
        · omega
        · have:j=i:=by omega
          subst this;exact absurd h3 h
theorem jdZ {f:Nat->Bool}{n i:Nat}(h:i<n):jbQ f (n-i) i=if f i=true then(i:Int)else jbQ f (n-(i+1)) (i+1):=by
 obtain⟨q,hq⟩:∃q,n-i=q+1:=⟨n-i-1,aa⟩;have hq2:n-(i+1)=q:=aa;rw[hq,hq2];rfl
theorem jdg {f:Nat->Bool}:∀{m i:Nat},¬0<=jbQ f m i->jbQ f m i = -1
 |0,i,_=>rfl
 |m+1,i,h=>by
  simp only[jbQ]at h ⊢;by_cases hf:f i=true
  ·rw[Kh hf]at h;omega
  ·rw[Ke hf]at h ⊢;exact jdg h
theorem jxE:env.P.funcs[172]? = some Tryz.f172:=ac
def jcy(x:Int):V:=.tup [.int .i64 (if 0<=x then x else 0),.bool (decide (0<=x))]
theorem jjG(x:Int)(U:S):jah env (ev env) 172 [.int .i64 x] U=some (jcy x,U):=by
 refine jbW rfl rfl jxE rfl (by simp[Tryz.f172]) (by simp[Tryz.f172]) ?_;refine jaB ?_;by_cases h:0<=x
 ·have h2:¬x<0:=by omega
  simp only[Tryz.f172,simprocAttr,zK,Vq,h,h2];simp[jaz,jcy,h]
 ·have h2:x<0:=by omega
  simp only[Tryz.f172,simprocAttr,zK,Vq,h,h2];simp[jaz,jcy,h]
theorem jxF:env.P.funcs[174]? = some Tryz.f174:=ac
theorem jxG:env.P.funcs[201]? = some Tryz.f201:=ac
theorem jnl(nm:List UInt8)(d:Sch)(L:List AObj)(ts:List Nat)(p:Nat)(hp:L[p]? = some (.cells [.str nm] 9)) :
  jah env (ev env) 174 [.agg [.str d.name,.bool d.pub,.int .i64 d.many,d.cv],.ptr p 0] ⟨L,ts⟩=some (.bool (decide (d.name=nm)),⟨L++[.cells [.str d.name,.bool d.pub,.int .i64 d.many,d.cv] 38],ts⟩):=by
 refine jbW rfl rfl jxF rfl (by simp[Tryz.f174]) (by simp[Tryz.f174]) ?_;refine jaB ?_;by_cases h:d.name=nm<;>
 ·simp only[Tryz.f174,simprocAttr,zK,Vq,tys2,YW,jad,jaE hp,jaA,h];simp[jaz,h]
theorem jnm(nm:List UInt8)(d:Col)(L:List AObj)(ts:List Nat)(p:Nat)(hp:L[p]? = some (.cells [.str nm] 9)) :
  jah env (ev env) 201 [.agg [.str d.name,.int .i64 d.lo,.int .i64 d.hi,d.w],.ptr p 0] ⟨L,ts⟩=some (.bool (decide (d.name=nm)),⟨L++[.cells [.str d.name,.int .i64 d.lo,.int .i64 d.hi,d.w] 41],ts⟩):=by
 refine jbW rfl rfl jxG rfl (by simp[Tryz.f201]) (by simp[Tryz.f201]) ?_;refine jaB ?_;by_cases h:d.name=nm<;>
 ·simp only[Tryz.f201,simprocAttr,zK,Vq,tys2,YW,jad,jaE hp,jaA,h];simp[jaz,h]
def ja6(l:List Sch)(nm:List UInt8):Nat->Nat->Int:=jbQ λi=>decide ((l.getD i Sch.none).name=nm)
def jgy(l:List Col)(nm:List UInt8):Nat->Nat->Int:=jbQ λi=>decide ((l.getD i Col.none).name=nm)
theorem jxH:env.P.funcs[173]? = some Tryz.f173:=ac
theorem jeO(nm:List UInt8)(v:V)(l:List Sch)(hv:IsS v l)(ok:OkS l)(hl:l.length<=1000)(L:List AObj)(ts:List Nat)(p:Nat)(hp:L[p]? = some (.cells [.str nm] 9)) :
  ∃X,jah env (ev env) 173 [v,.func 174 [] [.ptr p 0]] ⟨L,ts⟩=some (.int .i64 (ja6 l nm l.length 0),⟨L++X,ts⟩):=by
 suffices h:∃u U',jah env (ev env) 173 [v,.func 174 [] [.ptr p 0]] ⟨L,ts⟩=some (u,U')/\(u=.int .i64 (ja6 l nm l.length 0)/\∃X,U'=⟨L++X,ts⟩) by
  obtain⟨v,U',h1,rfl,X,rfl⟩:=h;exact⟨X,h1⟩
 refine jaD jxH rfl ?_;simp only[Tryz.f173,simprocAttr,zK,Vq,tys2,tys4,juK hv];refine jaw (λm T D U=>D=[]/\T 0=v/\T 1=.func 174 [] [.ptr p 0]/\T 7=.int .i64 l.length/\∃(i:Nat) (X:List AObj),U=⟨L++X,ts⟩/\T 8=.int .i64 i/\i<=l.length/\m=l.length-i/\ja6 l nm l.length 0=ja6 l nm (l.length-i) i) ?_ _ _ _ _ ⟨rfl,rfl,rfl,rfl,0,[],ae,rfl,aa,rfl,rfl⟩;rintro m T D U ⟨rfl,t0,t1,t7,i,X,rfl,t8,hi,rfl,hf⟩;refine jaB ?_;by_cases hlt:i<l.length
 ·have c1:(i:Int)<(l.length:Int):=by omega
  have e1:IntKind.i64.wrap ((i:Int)+1)=((i+1:Nat):Int):=by rw[wrap_i64 aa aa];omega
  have hx:=jkv hv hlt;have hN:=jnl nm (l.getD i Sch.none) (L++X) ts p (jaE hp X);unfold ja6 at hf;rw[jdZ hlt]at hf;by_cases hn:(l.getD i Sch.none).name=nm
  ·rw[Kh (decide_eq_true hn)]at hf;simp only[hn,decide_true]at hN;simp only[simprocAttr,zK,Vq,tys2,tys4,t0,t1,t7,t8,c1,e1,hx,jee,jaL,hn,hN];exact⟨by rw[ja6,hf];rfl,_,by rw[K9]⟩
  ·rw[Ke (by simp only[Jr];exact hn)]at hf;simp only[hn,decide_false]at hN;simp only[simprocAttr,zK,Vq,tys2,tys4,t0,t1,t7,t8,c1,e1,hx,jee,jaL,hN];exact⟨l.length-(i+1),aa,i+1,_,by rw[K9],rfl,aa,rfl,hf⟩
 ·have hi2:i=l.length:=by omega
  subst hi2;have c1:¬(l.length:Int)<(l.length:Int):=aa;rw[Xo]at hf;simp only[simprocAttr,zK,Vq,t0,t1,t7,t8,c1];exact⟨by rw[hf];rfl,X,rfl⟩
theorem jnn(nm:List UInt8)(dv:V)(ds:List Col)(hd:IsC dv ds)(ok:OkC ds)(hl:ds.length<=1000)(L:List AObj)(ts:List Nat)(p:Nat)(hp:L[p]? = some (.cells [.str nm] 9)) :
  ∃X,jah env (ev env) 200 [dv,.func 201 [] [.ptr p 0]] ⟨L,ts⟩=some (.int .i64 (jgy ds nm ds.length 0),⟨L++X,ts⟩):=by
 suffices h:∃v U',jah env (ev env) 200 [dv,.func 201 [] [.ptr p 0]] ⟨L,ts⟩=some (v,U')/\(v=.int .i64 (jgy ds nm ds.length 0)/\∃X,U'=⟨L++X,ts⟩) by
  obtain⟨v,U',h1,rfl,X,rfl⟩:=h;exact⟨X,h1⟩
 refine jaD jsW rfl ?_;simp only[Tryz.f200,simprocAttr,zK,Vq,tys2,jfe hd];refine jaw (λm T D U=>D=[]/\T 0=dv/\T 1=.func 201 [] [.ptr p 0]/\T 7=.int .i64 ds.length/\∃(i:Nat) (X:List AObj),U=⟨L++X,ts⟩/\T 8=.int .i64 i/\i<=ds.length/\m=ds.length-i/\jgy ds nm ds.length 0=jgy ds nm (ds.length-i) i) ?_ _ _ _ _ ⟨rfl,rfl,rfl,rfl,0,[],ae,rfl,aa,rfl,rfl⟩;rintro m T D U ⟨rfl,t0,t1,t7,i,X,rfl,t8,hi,rfl,hf⟩;refine jaB ?_;by_cases hlt:i<ds.length
 ·have c1:(i:Int)<(ds.length:Int):=by omega
  have e1:IntKind.i64.wrap ((i:Int)+1)=((i+1:Nat):Int):=by rw[wrap_i64 aa aa];omega
  have hx:=jeL hd hlt;have hN:=jnm nm (ds.getD i Col.none) (L++X) ts p (jaE hp X);unfold jgy at hf;rw[jdZ hlt]at hf;by_cases hn:(ds.getD i Col.none).name=nm
  ·rw[Kh (decide_eq_true hn)]at hf;simp only[hn,decide_true]at hN;simp only[simprocAttr,zK,Vq,tys2,t0,t1,t7,t8,c1,e1,hx,jc9,jaL,hn,hN];exact⟨by rw[jgy,hf];rfl,_,by rw[K9]⟩
  ·rw[Ke (by simp only[Jr];exact hn)]at hf;simp only[hn,decide_false]at hN;simp only[simprocAttr,zK,Vq,tys2,t0,t1,t7,t8,c1,e1,hx,jc9,jaL,hN];exact⟨ds.length-(i+1),aa,i+1,_,by rw[K9],rfl,aa,rfl,hf⟩
 ·have hi2:i=ds.length:=by omega
  subst hi2;have c1:¬(ds.length:Int)<(ds.length:Int):=aa;rw[Xo]at hf;simp only[simprocAttr,zK,Vq,t0,t1,t7,t8,c1];exact⟨by rw[hf];rfl,X,rfl⟩
theorem at97:env.P.funcs[97]? = some Tryz.f97:=ac
theorem jxI:env.P.funcs[122]? = some Tryz.f122:=ac
theorem jjH(h:List AObj)(x:Int):jaK h jak (jaz [.int .i64 (if 0<=x then x else 0),.bool (decide (0<=x))])=some (jcy x):=by
 simp only[jaz,jak,jbO,jal,jaQ,jau,jay,Kq,Qg,jcy]
theorem find_call(nm:List UInt8)(v:V)(l:List Sch)(hv:IsS v l)(ok:OkS l)(hl:l.length<=1000)(U:S):jah env (ev env) 97 [v,.str nm] U=some (jcy (ja6 l nm l.length 0),U):=by
 refine jaj (by simp[V.closed,jdk hv ok]) at97 rfl ?_ U;obtain⟨X,hX⟩:=jeO nm v l hv ok hl [.cells [.str nm] 9] [] 0 rfl;simp only[Tryz.f97,simprocAttr,zK,Vq,tys2,tys3,jai,hX,jjG,show(V.str nm).cells=[.str nm]from rfl,jcy];exact jjH _ _
theorem jd9(nm:List UInt8)(a b c:V)(hca:a.closed=true)(hcb:b.closed=true)(hcc:c.closed=true)(cv:V)(cs:List Col)(hc:IsC cv cs)(ok:OkC cs)(hl:cs.length<=1000)(U:S) :
  jah env (ev env) 122 [.agg [a,b,c,cv],.str nm] U=some (jcy (jgy cs nm cs.length 0),U):=by
 refine jaj (by simp[V.closed,V.closed.closedL,ja2 hc ok,hca,hcb,hcc]) jxI rfl ?_ U;obtain⟨X,hX⟩:=jnn nm cv cs hc ok hl [.cells [a,b,c,cv] 38,.cells [.str nm] 9] [] 1 rfl;simp only[Tryz.f122,simprocAttr,zK,Vq,tys2,tys3,jai,YW,hX,jjG,show(V.str nm).cells=[.str nm]from rfl,jcy];exact jjH _ _
theorem at96:env.P.funcs[96]? = some Tryz.f96:=ac
noncomputable def jeU(l:List Sch)(i:Nat):Int × Int:=jda (l.getD i Sch.none).name (l.getD i Sch.none).pub (l.getD i Sch.none).many (l.getD i Sch.none).cs
open Classical in
noncomputable def jhs(l:List Sch):Nat->Nat->Int × Int × Int
 |0,_=>(0,-1,-1)
 |m+1,i=>if(jeU l i).1=0 then(if ∃k,k<i/\(l.getD k Sch.none).name=(l.getD i Sch.none).name then(8,(i:Int),-1)else jhs l m (i+1))else((jeU l i).1,(i:Int),(jeU l i).2)
noncomputable def allE(l:List Sch):Int × Int × Int:=if 16<l.length then(4,16,-1)else jhs l l.length 0
def jjI(s:Sch):Prop:=s.name.length<2^63/\s.cs.length<=1000/\∀i,i<s.cs.length->jdB (s.cs.getD i Col.none)
def tri(r:Int × Int × Int):V:=.tup [.int .i64 r.1,.int .i64 r.2.1,.int .i64 r.2.2]
theorem jeP(h:List AObj)(a b c:Int)(r:Int × Int × Int)(e:(a,b,c)=r):jaK h jak (jaz [.int .i64 a,.int .i64 b,.int .i64 c])=some (tri r):=by
 subst e;simp only[jaz,jak,jbO,jal,jaQ,jau,jay,Kq,Qg,tri]
theorem jlO {l:List Sch}{nm:List UInt8}{i:Nat}(hi:i<l.length):0<=ja6 (l.take i) nm (l.take i).length 0↔∃k,k<i/\(l.getD k Sch.none).name=nm:=by
 have hli:(l.take i).length=i:=by simp;omega
 rw[hli];unfold ja6;rw[jes];constructor
 ·rintro⟨j,_,h2,h3⟩;have h3:=of_decide_eq_true h3;rw[jjF l aa]at h3;exact⟨j,aa,h3⟩
 ·rintro⟨j,h2,h3⟩;exact⟨j,aa,aa,by rw[jjF l h2];exact decide_eq_true h3⟩
theorem jcs {v:V}{cs:List Col}(h:IsC v cs):v.isCell=true:=by rcases h with⟨rfl,_⟩|⟨q,_,rfl⟩<;>rfl
theorem jgz(v:V)(l:List Sch)(hv:IsS v l)(ok:OkS l)(hl:l.length<=1000)(hs:∀i,i<l.length->jjI (l.getD i Sch.none))(U:S):jah env (ev env) 96 [v] U=some (tri (allE l),U):=by
 refine jaj (by simp[V.closed,jdk hv ok]) at96 rfl ?_ U;by_cases h16:(16:Int)<(l.length:Int)
 ·have he:(4,16,-1)=allE l:=by unfold allE;rw[Kh aa]
  simp only[Tryz.f96,simprocAttr,zK,Vq,tys2,tys3,tys4,jai,juK hv,h16];exact jeP _ _ _ _ _ he
 have he:allE l=jhs l l.length 0:=by unfold allE;rw[Ke aa]
 simp only[Tryz.f96,simprocAttr,zK,Vq,tys2,tys3,tys4,jai,juK hv,h16];refine jaw (λm T D U=>D=[]/\T 0=v/\T 14=v/\T 15=.int .i64 l.length/\∃(i:Nat) (X:List AObj),U=⟨X,[]⟩/\T 16=.int .i64 i/\i<=l.length/\m=l.length-i/\allE l=jhs l (l.length-i) i) ?_ _ _ _ _ ⟨rfl,rfl,rfl,rfl,0,[],rfl,rfl,aa,rfl,he⟩;clear he;rintro m T D U ⟨rfl,t0,t14,t15,i,X,rfl,t16,hi,rfl,hf⟩;refine jaB ?_;by_cases hlt:i<l.length
 ·have c1:(i:Int)<(l.length:Int):=by omega
  have e1:IntKind.i64.wrap ((i:Int)+1)=((i+1:Nat):Int):=by rw[wrap_i64 aa aa];omega
  have hx:=jkv hv hlt;obtain⟨hcc,hok⟩:=ok.at hlt;obtain⟨hs1,hs2,hs3⟩:=hs i hlt;have hic:=jcs hcc;obtain⟨u,hu,hcu⟩:=juL hv hlt;have oku:OkS (l.take i):=λc h=>ok c (List.mem_of_mem_take h)
  have hF:=find_call (l.getD i Sch.none).name u (l.take i) hcu oku (by simp;omega);obtain⟨q,hq⟩:∃q,l.length-i=q+1:=⟨l.length-i-1,aa⟩;have hq2:q=l.length-(i+1):=aa;have hstep:jhs l (l.length-i) i=if(jeU l i).1=0 then(if ∃k,k<i/\(l.getD k Sch.none).name=(l.getD i Sch.none).name then(8,(i:Int),-1)else jhs l q (i+1))else((jeU l i).1,(i:Int),(jeU l i).2):=by rw[hq];rfl
  rw[hstep]at hf;have hC:=check_call (l.getD i Sch.none).name (l.getD i Sch.none).pub (l.getD i Sch.none).many (l.getD i Sch.none).cv (l.getD i Sch.none).cs hcc hok hs1 hs2 hs3
  change ∀U,_=some (V.tup [.int .i64 (jeU l i).1,.int .i64 (jeU l i).2],U)at hC
  by_cases hz:(jeU l i).1=0
  ·rw[Kh hz]at hf;simp only[hz]at hC;by_cases hk:0<=ja6 (l.take i) (l.getD i Sch.none).name (l.take i).length 0
   ·rw[Kh ((jlO hlt).1 hk)]at hf;simp only[simprocAttr,zK,Vq,tys2,tys3,tys4,t0,t14,t15,t16,c1,e1,hx,jee,jaL,z29,jad,jao,jaa,Jm,Qx,K5,J8,Ks,Qo,jae,jac,jan,hic,YW,jdr,hC,jbX,jbY,jb3,hu,hF,jcy,hk];exact⟨ac,jeP _ _ _ _ _ hf.symm⟩
   ·rw[Ke (λh=>hk ((jlO hlt).2 h)),hq2]at hf;simp only[simprocAttr,zK,Vq,tys2,tys3,tys4,t0,t14,t15,t16,c1,e1,hx,jee,jaL,z29,jad,jao,jaa,Jm,Qx,K5,J8,Ks,Qo,jae,jac,jan,hic,YW,jdr,hC,jbX,jbY,jb3,hu,hF,jcy,hk];exact⟨ac,l.length-(i+1),aa,i+1,_,rfl,rfl,aa,rfl,hf⟩
  ·rw[Ke hz]at hf;simp only[simprocAttr,zK,Vq,tys2,tys3,tys4,t0,t14,t15,t16,c1,e1,hx,jee,jaL,z29,jad,jao,jaa,Jm,Qx,K5,J8,Ks,Qo,jae,jac,jan,hic,YW,jdr,hC,hz];exact jeP _ _ _ _ _ hf.symm
 ·have hi2:i=l.length:=by omega
  subst hi2;have c1:¬(l.length:Int)<(l.length:Int):=aa;rw[Xo]at hf;simp only[simprocAttr,zK,Vq,t0,t14,t15,t16,c1];exact jeP _ _ _ _ _ hf.symm
def jxJ(c:Col):Prop:=IsW c.w c.ws/\c.name.length<2^63/\c.ws.length<2^63/\∀i,i<c.ws.length->(c.ws.getD i []).length<2^63
def jv3(s:Sch):Prop:=IsC s.cv s.cs/\(∀c∈s.cs,jxJ c)/\s.name.length<2^63/\s.cs.length<2^63
theorem jrn:maxLen<2^63:=af
theorem jv3.okC {s:Sch}(h:jv3 s):OkC s.cs:=λc hc=>(h.2.1 c hc).1
theorem jxK:env.P.funcs[183]? = some Tryz.f183:=ac
theorem juM:env.P.funcs[182]? = some Tryz.f182:=ac
theorem jxL:env.P.funcs[105]? = some Tryz.f105:=ac
theorem jv4:rowO env 39 0 []=some (.row [] 0 .full):=ac
theorem jgA(h:List AObj)(d:Nat)(ws:List (List UInt8))(c:RCap):jaK h (d+2) (.row (ws.map V.str) ws.length c)=some (.row (ws.map V.str) ws.length .unk):=by
 rw[jaZ,jlK];rfl
theorem jha(w:V)(ws:List (List UInt8))(h:IsW w ws)(hl:ws.length<=1000)(U:S):jah env (ev env) 183 [w] U=some (w,U):=by
 refine jaj (by simp[jcr h]) jxK rfl ?_ U;obtain⟨cap,ts',hA,_⟩:=jvW h hl [] []
 rcases h with⟨rfl,rfl⟩|rfl
 ·simp only[Tryz.f183,simprocAttr,zK,Vq,tys2,jai,jfd u24];rfl
 ·simp only[Tryz.f183,simprocAttr,zK,Vq,tys2,jai,jdp u24,jap,jv4,hA];simp only[jaz,jak,jgA]
theorem jro {T:Tm}(L:List AObj)(ts:List Nat):opT env true T ⟨L,ts⟩ (.buildSlice 36 0 #[])=some (.hsl L.length 0 0 0 .exact,⟨L++[.cells [] 41],ts⟩):=by
 unfold opT;simp only[jbH,jbf,jbD,jcF,el27,tys2,Kq];simp[jey,V.cells,S.push,env]
theorem jxM(L:List AObj)(ts:List Nat)(cs:List Col)(hl:cs.length<=1000)(hn:cs.length ≠ 0)(c:RCap):appO env true ⟨L++[.cells [] 41],ts⟩ 36 36 (.hsl L.length 0 0 0 .exact) (.row (jaN cs) cs.length c) =
  some (.hsl (L.length+1) 0 cs.length cs.length (.grow 4),⟨L++[.cells [] 41,.cells (jaN cs) 41],ts⟩):=by
 have hnew:∀h,jaV h 4 cs.length (.row (jaN cs) cs.length c)=some (jaN cs):=λh=>by simp[jaV,jcx,Qw (Vh (jcx cs))]
 have hl2:cs.length*56<=lim/\cs.length<=lim:=by have h:lim=2^40:=rfl;rw[h];omega
 unfold appO;simp only[el27,tys2,by44,zn44,vLen,hnew,Kq,Km];simp[jbi,hn,hl2,jaV,S.push]
theorem jv5(L:List AObj)(ts:List Nat)(c:RCap):appO env true ⟨L++[.cells [] 41],ts⟩ 36 36 (.hsl L.length 0 0 0 .exact) (.row [] 0 c)=some (.hsl L.length 0 0 0 .exact,⟨L++[.cells [] 41],ts⟩):=by
 unfold appO;simp only[el27,tys2,by44,zn44,vLen,jaV,Kq,Km];simp[jbi]
theorem mb62:env.mutb 182 3=true:=rfl
theorem jpB(L:List AObj)(ts:List Nat):jah env (ev env) 182 [.nilsl] ⟨L,ts⟩=some (.nilsl,⟨L,ts⟩):=by
 refine jaI juM rfl ?_;simp only[Tryz.f182,simprocAttr,zK,Vq,tys2,jai,jfd u27];simp only[jaz,and_self]
theorem jno(L:List AObj)(ts:List Nat)(c:RCap):jah env (ev env) 182 [.row [] 0 c] ⟨L,ts⟩=some (.hsl L.length 0 0 0 .exact,⟨L++[.cells [] 41],ts⟩):=by
 refine jaI juM rfl ?_;simp only[Tryz.f182,simprocAttr,zK,Vq,tys2,jai,jdp u27,mb62,jro,jv5];simp only[jaz,and_self]
theorem jpC(L:List AObj)(ts:List Nat)(cs:List Col)(hl:cs.length<=1000)(hn:cs.length ≠ 0)(c:RCap):jah env (ev env) 182 [.row (jaN cs) cs.length c] ⟨L,ts⟩=some (.hsl (L.length+1) 0 cs.length cs.length (.grow 4),⟨L++[.cells [] 41,.cells (jaN cs) 41],ts⟩):=by
 refine jaI juM rfl ?_;simp only[Tryz.f182,simprocAttr,zK,Vq,tys2,jai,jdp u27,mb62,jro,jxM L ts cs hl hn c];simp only[jaz,and_self]
theorem jv6(h:List AObj)(d:Nat){w:V}{ws:List (List UInt8)}(hw:IsW w ws):jaK h (d+2) w=some w:=by
 rcases hw with⟨rfl,_⟩|rfl
 ·rfl
 ·exact jgA h d ws _
theorem jdP(h:List AObj)(d:Nat):∀{cs:List Col},OkC cs->(jaN cs).mapM (jaK h (d+2))=some (jaN cs)
 | [],_=>rfl
 |c::cs,ok=>by
  rw[jbF,jal,jal,jal,jal,jdP h d (cs:=cs) λx hx=>ok x (by simp[hx]),jv6 h d (ok c ae),jbA,jau,jau];rfl
theorem jrp {cs:List Col}{i:Nat}(hi:i<cs.length):(jaN cs)[i*4+3]? = some (cs.getD i Col.none).w:=by
 have h:=jg6 cs i;rw[joC hi]at h;have h2:((jaN cs).drop (i*4))[3]? = some (cs.getD i Col.none).w:=by rw[h];rfl
 rw[Ve]at h2;exact h2
theorem jja {cs:List V}{off:Nat}{v:V}(h:cs[off]? = some v):jaa cs off [v]=cs:=by
 have hlt:=(K4.1 h).1
 have e:cs=cs.take off++v::cs.drop (off+1):=by
  conv=>lhs;rw[<- Xt off cs,Qk hlt]
  rw[(K4.1 h).2]
 unfold jaa;simp only[Qh,Qz,Jl];rw[K9];exact e.symm
theorem jnp(x:AObj)(a b c d:V)(t:TypeId)(X:List AObj):jab (x::.cells [a,b,c,d] t::X) 4 (.ptr 1 0)=some [a,b,c,d]:=jb5 rfl
theorem jkw(a b c d:V)(t:TypeId)(X:List AObj):jab (.cells [a,b,c,d] t::X) 4 (.ptr 0 0)=some [a,b,c,d]:=jb5 rfl
def unkV:V->V
 | .row a b _=>.row a b .unk
 |v=>v
theorem jhb {cv:V}{cs:List Col}(h:IsC cv cs):IsC (unkV cv) cs:=by
 rcases h with⟨rfl,rfl⟩|⟨q,_,rfl⟩
 ·exact .inl ⟨rfl,rfl⟩
 ·exact .inr ⟨.unk,.inl rfl,rfl⟩
theorem jhc(nm:List UInt8)(pb:Bool)(many:Int)(cv:V)(cs:List Col)(hc:IsC cv cs)(ok:OkC cs)(hl:cs.length<=1000)(hw:∀i,i<cs.length->(cs.getD i Col.none).ws.length<=1000)(U:S) :
  jah env (ev env) 105 [.agg [.str nm,.bool pb,.int .i64 many,cv]] U=some (.agg [.str nm,.bool pb,.int .i64 many,unkV cv],U):=by
 refine jaj (by simp[V.closed,V.closed.closedL,ja2 hc ok]) jxL rfl ?_ U
 rcases hc with⟨rfl,rfl⟩|⟨qc,_,rfl⟩
 ·simp only[Tryz.f105,simprocAttr,zK,Vq,tys2,tys3,jai,z29,YW,jpB,Va,jaa,V.isCell];refine jaw (λm T D U=>D=[]/\T 1=.ptr 0 0/\T 2=.ptr 1 0/\T 10=.int .i64 0/\T 11=.int .i64 0/\U=⟨[.cells [.str nm,.bool pb,.int .i64 many,.nilsl] 38,.cells [.str [],.bool false,.int .i64 0,.nilsl] 38],[]⟩) ?_ 0 _ _ _ ⟨rfl,rfl,rfl,rfl,rfl,rfl⟩;rintro m T D U ⟨rfl,t1,t2,t10,t11,rfl⟩;refine jaB ?_;simp only[simprocAttr,zK,Vq,tys2,tys3,t1,t2,t10,t11,jee,jkw,jnp,Va,jaa,V.isCell,YW];simp only[jaz,jak,jeo,jal,jaQ,jbA,jay,jau,jna,Kq,Qg,unkV]
 ·by_cases hn:cs.length=0
  ·have:cs=[]:=Q9 hn;subst this;simp only[Tryz.f105,simprocAttr,zK,Vq,tys2,tys3,jai,z29,YW,show jaN []=[]from rfl,jno,jqT,Va,jaa,Nat.reduceAdd,Nat.reduceLeDiff,V.isCell];refine jaw (λm T D U=>D=[]/\T 1=.ptr 0 0/\T 2=.ptr 1 0/\T 10=.int .i64 0/\T 11=.int .i64 0/\U=⟨[.cells [.str nm,.bool pb,.int .i64 many,.hsl 2 0 0 0 .exact] 38,.cells [.str [],.bool false,.int .i64 0,.nilsl] 38,.cells [] 41],[]⟩) ?_ 0 _ _ _ ⟨rfl,rfl,rfl,rfl,rfl,rfl⟩;rintro m T D U ⟨rfl,t1,t2,t10,t11,rfl⟩;refine jaB ?_;simp only[simprocAttr,zK,Vq,tys2,tys3,t1,t2,t10,t11,jee,jkw,jnp,Va,jaa,V.isCell,YW]
   have hs:∀x y d,jaK [x,y,.cells [] 41] (d+1) (.hsl 2 0 0 0 .exact)=some (.row [] 0 .unk):=λx y d=>by
    rw[jly _ _ _ _ _ _ _ [] 41 rfl (K7 _)];rfl
   simp only[jaz,jak,jeo,jal,jaQ,jbA,jay,jau,hs,Kq,Qg,unkV]
  ·simp only[Tryz.f105,simprocAttr,zK,Vq,tys2,tys3,jai,z29,YW,jpC _ _ cs hl hn,jqT,Va,jaa,V.isCell]
   refine jaw (λm T D U=>D=[]/\T 1=.ptr 0 0/\T 2=.ptr 1 0/\T 10=.int .i64 cs.length/\U=⟨[.cells [.str nm,.bool pb,.int .i64 many,.hsl 3 0 cs.length cs.length (.grow 4)] 38,.cells [.str [],.bool false,.int .i64 0,.nilsl] 38,.cells [] 41,.cells (jaN cs) 41],[]⟩ /\
    ∃i:Nat,T 11=.int .i64 i/\i<=cs.length/\m=cs.length-i) ?_ _ _ _ _ ⟨rfl,rfl,rfl,rfl,rfl,0,rfl,aa,rfl⟩
   rintro m T D U ⟨rfl,t1,t2,t10,rfl,i,t11,hi,rfl⟩;refine jaB ?_;by_cases hlt:i<cs.length
   ·have c1:(i:Int)<(cs.length:Int):=by omega
    have c2:(0:Int)<=(i:Int)/\(i:Int)<(cs.length:Int):=aa;have e1:IntKind.i64.wrap ((i:Int)+1)=((i+1:Nat):Int):=by rw[wrap_i64 aa aa];omega
    have hic:=jbh (ok.at hlt);have hfit:i*4+3+1<=(jaN cs).length:=by rw[jcx];omega
    have hcw:(cs.getD i Col.none).w.cells=[(cs.getD i Col.none).w]:=by rcases ok.at hlt with⟨h,_⟩|h<;>rw[h]<;>rfl
    have hst:(jaN cs).length >= i*4+3+1:=hfit;simp only[simprocAttr,zK,Vq,tys2,tys3,t1,t2,t10,t11,c1,c2,e1,jqS,jrp hlt,jha _ _ (ok.at hlt) (hw i hlt),hcw,hic,hfit,jja (jrp hlt),Ks,Qo,Xa,List.set_cons_succ];exact⟨ac,cs.length-(i+1),aa,i+1,rfl,aa,rfl⟩
   ·have hi2:i=cs.length:=by omega
    subst hi2;have c1:¬(cs.length:Int)<(cs.length:Int):=aa;simp only[simprocAttr,zK,Vq,tys2,tys3,t1,t2,t10,t11,c1,jee,jkw,jnp,Va,jaa,V.isCell,YW]
    have hs:∀x y z d,jaK [x,y,z,.cells (jaN cs) 41] (d+3) (.hsl 3 0 cs.length cs.length (.grow 4))=some (.row (jaN cs) cs.length .unk):=λx y z d=>by
     rw[jly _ _ _ _ _ _ _ (jaN cs) 41 rfl (K7 _),Qx,jdP _ _ ok];rfl
    simp only[jaz,jak,jeo,jal,jaQ,jbA,jay,jau,hs,Kq,Qg,unkV]
end Go.Proofs.YtajaampgajieeaaGreatDoor
