/- Proved here: schemas are checked and found. Conditions: each theorem's own. -/
import Derived.Test.YtajaampgajieeaaGreatDoorScB
set_option linter.unusedSimpArgs false
set_option maxHeartbeats 16000000
set_option maxRecDepth 1000000
set_option linter.unusedVariables false
set_option linter.unusedSectionVars false
namespace Go.Proofs.YtajaampgajieeaaGreatDoor
open Go.Ab
structure Sch where
 name:List UInt8
 pub:Bool
 many:Int
 cv:V
 cs:List Col
def Sch.cells(s:Sch):List V:=[.str s.name,.bool s.pub,.int .i64 s.many,s.cv]
def Sch.none:Sch:=⟨[],false,0,.nilsl,[]⟩
def ja9(l:List Sch):List V:=(l.map Sch.cells).flatten
def IsS(v:V)(l:List Sch):Prop:=(v=.nilsl/\l=[])\/∃q,(q=RCap.unk\/q=RCap.full)/\v=.row (ja9 l) l.length q
def OkS(l:List Sch):Prop:=∀s∈l,IsC s.cv s.cs/\OkC s.cs
theorem OkS.at {l:List Sch}(h:OkS l){i:Nat}(hi:i<l.length):IsC (l.getD i Sch.none).cv (l.getD i Sch.none).cs/\OkC (l.getD i Sch.none).cs:=h _ (by simp[List.getD,hi])
theorem jce(c:Sch)(cs:List Sch):ja9 (c::cs)=.str c.name::.bool c.pub::.int .i64 c.many::c.cv::ja9 cs:=rfl
theorem jhk:∀(cs:List Sch) (i:Nat),(ja9 cs).drop (i*4)=ja9 (cs.drop i)
 |cs,0=>ae
 | [],i+1=>by simp[ja9]
 |c::cs,i+1=>by
  rw[jce,show(i+1)*4=i*4+1+1+1+1 by omega];simp only[K6];exact jhk cs i
theorem jjR:∀(cs:List Sch) (i:Nat),(ja9 cs).take (i*4)=ja9 (cs.take i)
 |cs,0=>by simp[ja9]
 | [],i+1=>by simp[ja9]
 |c::cs,i+1=>by
  rw[jce,show(i+1)*4=i*4+1+1+1+1 by omega];simp only[Jw,jjR cs i,jce]
theorem joZ {cs:List Sch}{i:Nat}(hi:i<cs.length):ja9 (cs.drop i)=.str (cs.getD i Sch.none).name::.bool (cs.getD i Sch.none).pub::.int .i64 (cs.getD i Sch.none).many::(cs.getD i Sch.none).cv::ja9 (cs.drop (i+1)):=by
 have e:cs.drop i=cs.getD i Sch.none::cs.drop (i+1):=by
  rw[Qk hi];simp[List.getD,hi]
 rw[e,jce]
theorem jvg {v:V}{cs:List Sch}(h:IsS v cs):jbd (some (.slice 38)) v=some (.int .i64 cs.length):=by
 rcases h with⟨rfl,rfl⟩|⟨q,_,rfl⟩<;>rfl
theorem jkI {v:V}{cs:List Sch}(h:IsS v cs){i:Nat}(hi:i<cs.length):jaw 4 v (.int .i64 (i:Int))=some (.rptr (.str (cs.getD i Sch.none).name::.bool (cs.getD i Sch.none).pub::.int .i64 (cs.getD i Sch.none).many::(cs.getD i Sch.none).cv::ja9 (cs.drop (i+1)))):=by
 rcases h with⟨rfl,rfl⟩|⟨q,_,rfl⟩
 ·simp at hi
 ·rw[Ys,Kg aa,Qj,jhk,joZ hi]
theorem jfq:∀{l:List Sch},OkS l->V.closed.closedL (ja9 l)=true
 | [],h=>rfl
 |c::cs,h=>by
  have h1:=h c ae;rw[jce];simp only[V.closed.closedL,V.closed,ja5 h1.1 h1.2,jfq (l:=cs) λx hx=>h x (by simp[hx]),K8]
theorem jdo {v:V}{l:List Sch}(h:IsS v l)(ok:OkS l):v.closed=true:=by
 rcases h with⟨rfl,rfl⟩|⟨q,rfl|rfl,rfl⟩
 ·rfl
 ·simp only[V.closed,jfq ok,K8]
 ·simp only[V.closed,jfq ok,K8]
theorem tys4:env.P.underlying 24=some (.slice 38):=ac
theorem jvh {v:V}{cs:List Sch}(h:IsS v cs){i:Nat}(hi:i<cs.length):∃u,jca env 24 v none (some (.int .i64 (i:Int))) none=some u/\IsS u (cs.take i):=by
 rcases h with⟨rfl,rfl⟩|⟨q,_,rfl⟩
 ·simp at hi
 ·refine⟨.row (ja9 (cs.take i)) i .unk,?_,.inr ⟨.unk,.inl rfl,by simp[Q6,X6 (Nat.le_of_lt hi)]⟩⟩
  have hb:ja4 (some (.int .i64 (i:Int))) cs.length cs.length=some i:=by
   simp only[ja4];simp;omega
  simp only[jca,tys2,tys4,Kq,jcV,hb];simp[ja4,show ¬i=cs.length by omega,jjR]
theorem jjS(cs:List Sch){i j:Nat}(h:j<i):(cs.take i).getD j Sch.none=cs.getD j Sch.none:=by
 simp[List.getD,Jv,h]
def jbS(f:Nat->Bool):Nat->Nat->Int
 |0,_ => -1
 |m+1,i=>if f i=true then i else jbS f m (i+1)
theorem jeB (f:Nat->Bool):∀m i,0<=jbS f m i↔∃j,i<=j/\j<i+m/\f j=true
  | 0, i => by simp only[jbS];constructor
               · intro h;omega
               · rintro⟨j,h1,h2,_⟩;omega
  | m+1,i=>by
    simp only[jbS];by_cases h:f i=true
    · rw[Kg h]
      exact⟨λ_=>⟨i,aa,aa,h⟩,λ_=>aa⟩
    · rw [Ke h,jeB f m (i+1)]
      constructor
      · rintro⟨j,h1,h2,h3⟩;exact⟨j,aa,aa,h3⟩
      · rintro⟨j,h1,h2,h3⟩
        refine⟨j,?_,aa,h3⟩
        rcases Qm i j with h4|h4
        · omega
        · have:j=i:=by omega
          subst this;exact absurd h3 h
theorem jd6 {f:Nat->Bool}{n i:Nat}(h:i<n):jbS f (n-i) i=if f i=true then(i:Int)else jbS f (n-(i+1)) (i+1):=by
 obtain⟨q,hq⟩:∃q,n-i=q+1:=⟨n-i-1,aa⟩;have hq2:n-(i+1)=q:=aa;rw[hq,hq2];rfl
theorem jdk {f:Nat->Bool}:∀{m i:Nat},¬0<=jbS f m i->jbS f m i = -1
 |0,i,_=>rfl
 |m+1,i,h=>by
  simp only[jbS]at h ⊢;by_cases hf:f i=true
  ·rw[Kg hf]at h;omega
  ·rw[Ke hf]at h ⊢;exact jdk h
theorem jx4:env.P.funcs[172]? = some Tryz.f172:=ac
def jcf(x:Int):V:=.tup [.int .i64 (if 0<=x then x else 0),.bool (decide (0<=x))]
theorem jjT(x:Int)(U:S):jaf env (ev env) 172 [.int .i64 x] U=some (jcf x,U):=by
 refine jbY rfl rfl jx4 rfl (by simp[Tryz.f172]) (by simp[Tryz.f172]) ?_;refine jaC ?_;by_cases h:0<=x
 ·have h2:¬x<0:=by omega
  simp only[Tryz.f172,simprocAttr,zK,Vq,h,h2];simp[jaz,jcf,h]
 ·have h2:x<0:=by omega
  simp only[Tryz.f172,simprocAttr,zK,Vq,h,h2];simp[jaz,jcf,h]
theorem jx5:env.P.funcs[174]? = some Tryz.f174:=ac
theorem jx6:env.P.funcs[201]? = some Tryz.f201:=ac
theorem jnE(nm:List UInt8)(d:Sch)(L:List AObj)(ts:List Nat)(p:Nat)(hp:L[p]? = some (.cells [.str nm] 9)) :
  jaf env (ev env) 174 [.agg [.str d.name,.bool d.pub,.int .i64 d.many,d.cv],.ptr p 0] ⟨L,ts⟩=some (.bool (decide (d.name=nm)),⟨L++[.cells [.str d.name,.bool d.pub,.int .i64 d.many,d.cv] 38],ts⟩):=by
 refine jbY rfl rfl jx5 rfl (by simp[Tryz.f174]) (by simp[Tryz.f174]) ?_;refine jaC ?_;by_cases h:d.name=nm<;>
 ·simp only[Tryz.f174,simprocAttr,zK,Vq,tys2,YW,jad,jaF hp,jaB,h];simp[jaz,h]
theorem jnF(nm:List UInt8)(d:Col)(L:List AObj)(ts:List Nat)(p:Nat)(hp:L[p]? = some (.cells [.str nm] 9)) :
  jaf env (ev env) 201 [.agg [.str d.name,.int .i64 d.lo,.int .i64 d.hi,d.w],.ptr p 0] ⟨L,ts⟩=some (.bool (decide (d.name=nm)),⟨L++[.cells [.str d.name,.int .i64 d.lo,.int .i64 d.hi,d.w] 41],ts⟩):=by
 refine jbY rfl rfl jx6 rfl (by simp[Tryz.f201]) (by simp[Tryz.f201]) ?_;refine jaC ?_;by_cases h:d.name=nm<;>
 ·simp only[Tryz.f201,simprocAttr,zK,Vq,tys2,YW,jad,jaF hp,jaB,h];simp[jaz,h]
def ja3(l:List Sch)(nm:List UInt8):Nat->Nat->Int:=jbS λi=>decide ((l.getD i Sch.none).name=nm)
def jgH(l:List Col)(nm:List UInt8):Nat->Nat->Int:=jbS λi=>decide ((l.getD i Col.none).name=nm)
theorem jx7:env.P.funcs[173]? = some Tryz.f173:=ac
theorem jeZ(nm:List UInt8)(v:V)(l:List Sch)(hv:IsS v l)(ok:OkS l)(hl:l.length<=1000)(L:List AObj)(ts:List Nat)(p:Nat)(hp:L[p]? = some (.cells [.str nm] 9)) :
  ∃X,jaf env (ev env) 173 [v,.func 174 [] [.ptr p 0]] ⟨L,ts⟩=some (.int .i64 (ja3 l nm l.length 0),⟨L++X,ts⟩):=by
 suffices h:∃u U',jaf env (ev env) 173 [v,.func 174 [] [.ptr p 0]] ⟨L,ts⟩=some (u,U')/\(u=.int .i64 (ja3 l nm l.length 0)/\∃X,U'=⟨L++X,ts⟩) by
  obtain⟨v,U',h1,rfl,X,rfl⟩:=h;exact⟨X,h1⟩
 refine jaE jx7 rfl ?_;simp only[Tryz.f173,simprocAttr,zK,Vq,tys2,tys4,jvg hv];refine jav (λm T D U=>D=[]/\T 0=v/\T 1=.func 174 [] [.ptr p 0]/\T 7=.int .i64 l.length/\∃(i:Nat) (X:List AObj),U=⟨L++X,ts⟩/\T 8=.int .i64 i/\i<=l.length/\m=l.length-i/\ja3 l nm l.length 0=ja3 l nm (l.length-i) i) ?_ _ _ _ _ ⟨rfl,rfl,rfl,rfl,0,[],ae,rfl,aa,rfl,rfl⟩;rintro m T D U ⟨rfl,t0,t1,t7,i,X,rfl,t8,hi,rfl,hf⟩;refine jaC ?_;by_cases hlt:i<l.length
 ·have c1:(i:Int)<(l.length:Int):=by omega
  have e1:IntKind.i64.wrap ((i:Int)+1)=((i+1:Nat):Int):=by rw[wrap_i64 aa aa];omega
  have hx:=jkI hv hlt;have hN:=jnE nm (l.getD i Sch.none) (L++X) ts p (jaF hp X);unfold ja3 at hf;rw[jd6 hlt]at hf;by_cases hn:(l.getD i Sch.none).name=nm
  ·rw[Kg (decide_eq_true hn)]at hf;simp only[hn,decide_true]at hN;simp only[simprocAttr,zK,Vq,tys2,tys4,t0,t1,t7,t8,c1,e1,hx,jen,jaM,hn,hN];exact⟨by rw[ja3,hf];rfl,_,by rw[Qg]⟩
  ·rw[Ke (by simp only[Jq];exact hn)]at hf;simp only[hn,decide_false]at hN;simp only[simprocAttr,zK,Vq,tys2,tys4,t0,t1,t7,t8,c1,e1,hx,jen,jaM,hN];exact⟨l.length-(i+1),aa,i+1,_,by rw[Qg],rfl,aa,rfl,hf⟩
 ·have hi2:i=l.length:=by omega
  subst hi2;have c1:¬(l.length:Int)<(l.length:Int):=aa;rw[Xl]at hf;simp only[simprocAttr,zK,Vq,t0,t1,t7,t8,c1];exact⟨by rw[hf];rfl,X,rfl⟩
theorem jnG(nm:List UInt8)(dv:V)(ds:List Col)(hd:IsC dv ds)(ok:OkC ds)(hl:ds.length<=1000)(L:List AObj)(ts:List Nat)(p:Nat)(hp:L[p]? = some (.cells [.str nm] 9)) :
  ∃X,jaf env (ev env) 200 [dv,.func 201 [] [.ptr p 0]] ⟨L,ts⟩=some (.int .i64 (jgH ds nm ds.length 0),⟨L++X,ts⟩):=by
 suffices h:∃v U',jaf env (ev env) 200 [dv,.func 201 [] [.ptr p 0]] ⟨L,ts⟩=some (v,U')/\(v=.int .i64 (jgH ds nm ds.length 0)/\∃X,U'=⟨L++X,ts⟩) by
  obtain⟨v,U',h1,rfl,X,rfl⟩:=h;exact⟨X,h1⟩
 refine jaE jti rfl ?_;simp only[Tryz.f200,simprocAttr,zK,Vq,tys2,jfp hd];refine jav (λm T D U=>D=[]/\T 0=dv/\T 1=.func 201 [] [.ptr p 0]/\T 7=.int .i64 ds.length/\∃(i:Nat) (X:List AObj),U=⟨L++X,ts⟩/\T 8=.int .i64 i/\i<=ds.length/\m=ds.length-i/\jgH ds nm ds.length 0=jgH ds nm (ds.length-i) i) ?_ _ _ _ _ ⟨rfl,rfl,rfl,rfl,0,[],ae,rfl,aa,rfl,rfl⟩;rintro m T D U ⟨rfl,t0,t1,t7,i,X,rfl,t8,hi,rfl,hf⟩;refine jaC ?_;by_cases hlt:i<ds.length
 ·have c1:(i:Int)<(ds.length:Int):=by omega
  have e1:IntKind.i64.wrap ((i:Int)+1)=((i+1:Nat):Int):=by rw[wrap_i64 aa aa];omega
  have hx:=jd2 hd hlt;have hN:=jnF nm (ds.getD i Col.none) (L++X) ts p (jaF hp X);unfold jgH at hf;rw[jd6 hlt]at hf;by_cases hn:(ds.getD i Col.none).name=nm
  ·rw[Kg (decide_eq_true hn)]at hf;simp only[hn,decide_true]at hN;simp only[simprocAttr,zK,Vq,tys2,t0,t1,t7,t8,c1,e1,hx,jdd,jaM,hn,hN];exact⟨by rw[jgH,hf];rfl,_,by rw[Qg]⟩
  ·rw[Ke (by simp only[Jq];exact hn)]at hf;simp only[hn,decide_false]at hN;simp only[simprocAttr,zK,Vq,tys2,t0,t1,t7,t8,c1,e1,hx,jdd,jaM,hN];exact⟨ds.length-(i+1),aa,i+1,_,by rw[Qg],rfl,aa,rfl,hf⟩
 ·have hi2:i=ds.length:=by omega
  subst hi2;have c1:¬(ds.length:Int)<(ds.length:Int):=aa;rw[Xl]at hf;simp only[simprocAttr,zK,Vq,t0,t1,t7,t8,c1];exact⟨by rw[hf];rfl,X,rfl⟩
theorem at97:env.P.funcs[97]? = some Tryz.f97:=ac
theorem jx8:env.P.funcs[122]? = some Tryz.f122:=ac
theorem jjU(h:List AObj)(x:Int):jaJ h jak (jaz [.int .i64 (if 0<=x then x else 0),.bool (decide (0<=x))])=some (jcf x):=by
 simp only[jaz,jak,jbR,jal,jaR,jau,jay,Kq,K9,jcf]
theorem find_call(nm:List UInt8)(v:V)(l:List Sch)(hv:IsS v l)(ok:OkS l)(hl:l.length<=1000)(U:S):jaf env (ev env) 97 [v,.str nm] U=some (jcf (ja3 l nm l.length 0),U):=by
 refine jaj (by simp[V.closed,jdo hv ok]) at97 rfl ?_ U;obtain⟨X,hX⟩:=jeZ nm v l hv ok hl [.cells [.str nm] 9] [] 0 rfl;simp only[Tryz.f97,simprocAttr,zK,Vq,tys2,tys3,jai,hX,jjT,show(V.str nm).cells=[.str nm]from rfl,jcf];exact jjU _ _
theorem jcS(nm:List UInt8)(a b c:V)(hca:a.closed=true)(hcb:b.closed=true)(hcc:c.closed=true)(cv:V)(cs:List Col)(hc:IsC cv cs)(ok:OkC cs)(hl:cs.length<=1000)(U:S) :
  jaf env (ev env) 122 [.agg [a,b,c,cv],.str nm] U=some (jcf (jgH cs nm cs.length 0),U):=by
 refine jaj (by simp[V.closed,V.closed.closedL,ja5 hc ok,hca,hcb,hcc]) jx8 rfl ?_ U;obtain⟨X,hX⟩:=jnG nm cv cs hc ok hl [.cells [a,b,c,cv] 38,.cells [.str nm] 9] [] 1 rfl;simp only[Tryz.f122,simprocAttr,zK,Vq,tys2,tys3,jai,YW,hX,jjT,show(V.str nm).cells=[.str nm]from rfl,jcf];exact jjU _ _
theorem at96:env.P.funcs[96]? = some Tryz.f96:=ac
noncomputable def je5(l:List Sch)(i:Nat):Int × Int:=jde (l.getD i Sch.none).name (l.getD i Sch.none).pub (l.getD i Sch.none).many (l.getD i Sch.none).cs
open Classical in
noncomputable def jhC(l:List Sch):Nat->Nat->Int × Int × Int
 |0,_=>(0,-1,-1)
 |m+1,i=>if(je5 l i).1=0 then(if ∃k,k<i/\(l.getD k Sch.none).name=(l.getD i Sch.none).name then(8,(i:Int),-1)else jhC l m (i+1))else((je5 l i).1,(i:Int),(je5 l i).2)
noncomputable def allE(l:List Sch):Int × Int × Int:=if 16<l.length then(4,16,-1)else jhC l l.length 0
def jjV(s:Sch):Prop:=s.name.length<2^63/\s.cs.length<=1000/\∀i,i<s.cs.length->jdF (s.cs.getD i Col.none)
def tri(r:Int × Int × Int):V:=.tup [.int .i64 r.1,.int .i64 r.2.1,.int .i64 r.2.2]
theorem je0(h:List AObj)(a b c:Int)(r:Int × Int × Int)(e:(a,b,c)=r):jaJ h jak (jaz [.int .i64 a,.int .i64 b,.int .i64 c])=some (tri r):=by
 subst e;simp only[jaz,jak,jbR,jal,jaR,jau,jay,Kq,K9,tri]
theorem jl0 {l:List Sch}{nm:List UInt8}{i:Nat}(hi:i<l.length):0<=ja3 (l.take i) nm (l.take i).length 0↔∃k,k<i/\(l.getD k Sch.none).name=nm:=by
 have hli:(l.take i).length=i:=by simp;omega
 rw[hli];unfold ja3;rw[jeB];constructor
 ·rintro⟨j,_,h2,h3⟩;have h3:=of_decide_eq_true h3;rw[jjS l aa]at h3;exact⟨j,aa,h3⟩
 ·rintro⟨j,h2,h3⟩;exact⟨j,aa,aa,by rw[jjS l h2];exact decide_eq_true h3⟩
theorem jcx {v:V}{cs:List Col}(h:IsC v cs):v.isCell=true:=by rcases h with⟨rfl,_⟩|⟨q,_,rfl⟩<;>rfl
theorem jgI(v:V)(l:List Sch)(hv:IsS v l)(ok:OkS l)(hl:l.length<=1000)(hs:∀i,i<l.length->jjV (l.getD i Sch.none))(U:S):jaf env (ev env) 96 [v] U=some (tri (allE l),U):=by
 refine jaj (by simp[V.closed,jdo hv ok]) at96 rfl ?_ U;by_cases h16:(16:Int)<(l.length:Int)
 ·have he:(4,16,-1)=allE l:=by unfold allE;rw[Kg aa]
  simp only[Tryz.f96,simprocAttr,zK,Vq,tys2,tys3,tys4,jai,jvg hv,h16];exact je0 _ _ _ _ _ he
 have he:allE l=jhC l l.length 0:=by unfold allE;rw[Ke aa]
 simp only[Tryz.f96,simprocAttr,zK,Vq,tys2,tys3,tys4,jai,jvg hv,h16];refine jav (λm T D U=>D=[]/\T 0=v/\T 14=v/\T 15=.int .i64 l.length/\∃(i:Nat) (X:List AObj),U=⟨X,[]⟩/\T 16=.int .i64 i/\i<=l.length/\m=l.length-i/\allE l=jhC l (l.length-i) i) ?_ _ _ _ _ ⟨rfl,rfl,rfl,rfl,0,[],rfl,rfl,aa,rfl,he⟩;clear he;rintro m T D U ⟨rfl,t0,t14,t15,i,X,rfl,t16,hi,rfl,hf⟩;refine jaC ?_;by_cases hlt:i<l.length
 ·have c1:(i:Int)<(l.length:Int):=by omega
  have e1:IntKind.i64.wrap ((i:Int)+1)=((i+1:Nat):Int):=by rw[wrap_i64 aa aa];omega
  have hx:=jkI hv hlt;obtain⟨hcc,hok⟩:=ok.at hlt;obtain⟨hs1,hs2,hs3⟩:=hs i hlt;have hic:=jcx hcc;obtain⟨u,hu,hcu⟩:=jvh hv hlt;have oku:OkS (l.take i):=λc h=>ok c (Vy h)
  have hF:=find_call (l.getD i Sch.none).name u (l.take i) hcu oku (by simp;omega);obtain⟨q,hq⟩:∃q,l.length-i=q+1:=⟨l.length-i-1,aa⟩;have hq2:q=l.length-(i+1):=aa;have hstep:jhC l (l.length-i) i=if(je5 l i).1=0 then(if ∃k,k<i/\(l.getD k Sch.none).name=(l.getD i Sch.none).name then(8,(i:Int),-1)else jhC l q (i+1))else((je5 l i).1,(i:Int),(je5 l i).2):=by rw[hq];rfl
  rw[hstep]at hf;have hC:=check_call (l.getD i Sch.none).name (l.getD i Sch.none).pub (l.getD i Sch.none).many (l.getD i Sch.none).cv (l.getD i Sch.none).cs hcc hok hs1 hs2 hs3
  change ∀U,_=some (V.tup [.int .i64 (je5 l i).1,.int .i64 (je5 l i).2],U)at hC
  by_cases hz:(je5 l i).1=0
  ·rw[Kg hz]at hf;simp only[hz]at hC;by_cases hk:0<=ja3 (l.take i) (l.getD i Sch.none).name (l.take i).length 0
   ·rw[Kg ((jl0 hlt).1 hk)]at hf;simp only[simprocAttr,zK,Vq,tys2,tys3,tys4,t0,t14,t15,t16,c1,e1,hx,jen,jaM,z29,jad,jan,jaa,Jd,Qw,K6,J8,Kr,Qo,jae,jac,jao,hic,YW,jdv,hC,jbZ,jb0,jcb,hu,hF,jcf,hk];exact⟨ac,je0 _ _ _ _ _ hf.symm⟩
   ·rw[Ke (λh=>hk ((jl0 hlt).2 h)),hq2]at hf;simp only[simprocAttr,zK,Vq,tys2,tys3,tys4,t0,t14,t15,t16,c1,e1,hx,jen,jaM,z29,jad,jan,jaa,Jd,Qw,K6,J8,Kr,Qo,jae,jac,jao,hic,YW,jdv,hC,jbZ,jb0,jcb,hu,hF,jcf,hk];exact⟨ac,l.length-(i+1),aa,i+1,_,rfl,rfl,aa,rfl,hf⟩
  ·rw[Ke hz]at hf;simp only[simprocAttr,zK,Vq,tys2,tys3,tys4,t0,t14,t15,t16,c1,e1,hx,jen,jaM,z29,jad,jan,jaa,Jd,Qw,K6,J8,Kr,Qo,jae,jac,jao,hic,YW,jdv,hC,hz];exact je0 _ _ _ _ _ hf.symm
 ·have hi2:i=l.length:=by omega
  subst hi2;have c1:¬(l.length:Int)<(l.length:Int):=aa;rw[Xl]at hf;simp only[simprocAttr,zK,Vq,t0,t14,t15,t16,c1];exact je0 _ _ _ _ _ hf.symm
def jx9(c:Col):Prop:=IsW c.w c.ws/\c.name.length<2^63/\c.ws.length<2^63/\∀i,i<c.ws.length->(c.ws.getD i []).length<2^63
def jww(s:Sch):Prop:=IsC s.cv s.cs/\(∀c∈s.cs,jx9 c)/\s.name.length<2^63/\s.cs.length<2^63
theorem jrK:maxLen<2^63:=af
theorem jww.okC {s:Sch}(h:jww s):OkC s.cs:=λc hc=>(h.2.1 c hc).1
theorem jya:env.P.funcs[183]? = some Tryz.f183:=ac
theorem jvi:env.P.funcs[182]? = some Tryz.f182:=ac
theorem jyb:env.P.funcs[105]? = some Tryz.f105:=ac
theorem jwx:rowO env 39 0 []=some (.row [] 0 .full):=ac
theorem jgJ(h:List AObj)(d:Nat)(ws:List (List UInt8))(c:RCap):jaJ h (d+2) (.row (ws.map V.str) ws.length c)=some (.row (ws.map V.str) ws.length .unk):=by
 rw[ja1,jlW];rfl
theorem jhl(w:V)(ws:List (List UInt8))(h:IsW w ws)(hl:ws.length<=1000)(U:S):jaf env (ev env) 183 [w] U=some (w,U):=by
 refine jaj (by simp[jcw h]) jya rfl ?_ U;obtain⟨cap,ts',hA,_⟩:=jwp h hl [] []
 rcases h with⟨rfl,rfl⟩|rfl
 ·simp only[Tryz.f183,simprocAttr,zK,Vq,tys2,jai,jfo u24];rfl
 ·simp only[Tryz.f183,simprocAttr,zK,Vq,tys2,jai,jdt u24,jap,jwx,hA];simp only[jaz,jak,jgJ]
theorem jrL {T:Tm}(L:List AObj)(ts:List Nat):opT env true T ⟨L,ts⟩ (.buildSlice 36 0 #[])=some (.hsl L.length 0 0 0 .exact,⟨L++[.cells [] 41],ts⟩):=by
 unfold opT;simp only[jbL,jbg,jbH,jcJ,el27,tys2,Kq];simp[jeJ,V.cells,S.push,env]
theorem jyc(L:List AObj)(ts:List Nat)(cs:List Col)(hl:cs.length<=1000)(hn:cs.length ≠ 0)(c:RCap):appO env true ⟨L++[.cells [] 41],ts⟩ 36 36 (.hsl L.length 0 0 0 .exact) (.row (jaO cs) cs.length c) =
  some (.hsl (L.length+1) 0 cs.length cs.length (.grow 4),⟨L++[.cells [] 41,.cells (jaO cs) 41],ts⟩):=by
 have hnew:∀h,jaV h 4 cs.length (.row (jaO cs) cs.length c)=some (jaO cs):=λh=>by simp[jaV,jcE,Qt (Vd (jcE cs))]
 have hl2:cs.length*56<=lim/\cs.length<=lim:=by have h:lim=2^40:=rfl;rw[h];omega
 unfold appO;simp only[el27,tys2,by44,zn44,vLen,hnew,Kq,Kl];simp[jbj,hn,hl2,jaV,S.push]
theorem jwy(L:List AObj)(ts:List Nat)(c:RCap):appO env true ⟨L++[.cells [] 41],ts⟩ 36 36 (.hsl L.length 0 0 0 .exact) (.row [] 0 c)=some (.hsl L.length 0 0 0 .exact,⟨L++[.cells [] 41],ts⟩):=by
 unfold appO;simp only[el27,tys2,by44,zn44,vLen,jaV,Kq,Kl];simp[jbj]
theorem mb62:env.mutb 182 3=true:=rfl
theorem jpY(L:List AObj)(ts:List Nat):jaf env (ev env) 182 [.nilsl] ⟨L,ts⟩=some (.nilsl,⟨L,ts⟩):=by
 refine jaK jvi rfl ?_;simp only[Tryz.f182,simprocAttr,zK,Vq,tys2,jai,jfo u27];simp only[jaz,and_self]
theorem jnH(L:List AObj)(ts:List Nat)(c:RCap):jaf env (ev env) 182 [.row [] 0 c] ⟨L,ts⟩=some (.hsl L.length 0 0 0 .exact,⟨L++[.cells [] 41],ts⟩):=by
 refine jaK jvi rfl ?_;simp only[Tryz.f182,simprocAttr,zK,Vq,tys2,jai,jdt u27,mb62,jrL,jwy];simp only[jaz,and_self]
theorem jpZ(L:List AObj)(ts:List Nat)(cs:List Col)(hl:cs.length<=1000)(hn:cs.length ≠ 0)(c:RCap):jaf env (ev env) 182 [.row (jaO cs) cs.length c] ⟨L,ts⟩=some (.hsl (L.length+1) 0 cs.length cs.length (.grow 4),⟨L++[.cells [] 41,.cells (jaO cs) 41],ts⟩):=by
 refine jaK jvi rfl ?_;simp only[Tryz.f182,simprocAttr,zK,Vq,tys2,jai,jdt u27,mb62,jrL,jyc L ts cs hl hn c];simp only[jaz,and_self]
theorem jwz(h:List AObj)(d:Nat){w:V}{ws:List (List UInt8)}(hw:IsW w ws):jaJ h (d+2) w=some w:=by
 rcases hw with⟨rfl,_⟩|rfl
 ·rfl
 ·exact jgJ h d ws _
theorem jdV(h:List AObj)(d:Nat):∀{cs:List Col},OkC cs->(jaO cs).mapM (jaJ h (d+2))=some (jaO cs)
 | [],_=>rfl
 |c::cs,ok=>by
  rw[jbJ,jal,jal,jal,jal,jdV h d (cs:=cs) λx hx=>ok x (by simp[hx]),jwz h d (ok c ae),jbE,jau,jau];rfl
theorem jrM {cs:List Col}{i:Nat}(hi:i<cs.length):(jaO cs)[i*4+3]? = some (cs.getD i Col.none).w:=by
 have h:=jhh cs i;rw[joX hi]at h;have h2:((jaO cs).drop (i*4))[3]? = some (cs.getD i Col.none).w:=by rw[h];rfl
 rw[Vb]at h2;exact h2
theorem jjn {cs:List V}{off:Nat}{v:V}(h:cs[off]? = some v):jaa cs off [v]=cs:=by
 have hlt:=(K5.1 h).1
 have e:cs=cs.take off++v::cs.drop (off+1):=by
  conv=>lhs;rw[<- Xs off cs,Qk hlt]
  rw[(K5.1 h).2]
 unfold jaa;simp only[Qh,Qz,Jm];rw[Qg];exact e.symm
theorem jnI(x:AObj)(a b c d:V)(t:TypeId)(X:List AObj):jab (x::.cells [a,b,c,d] t::X) 4 (.ptr 1 0)=some [a,b,c,d]:=jcd rfl
theorem jkJ(a b c d:V)(t:TypeId)(X:List AObj):jab (.cells [a,b,c,d] t::X) 4 (.ptr 0 0)=some [a,b,c,d]:=jcd rfl
def unkV:V->V
 | .row a b _=>.row a b .unk
 |v=>v
theorem jhm {cv:V}{cs:List Col}(h:IsC cv cs):IsC (unkV cv) cs:=by
 rcases h with⟨rfl,rfl⟩|⟨q,_,rfl⟩
 ·exact .inl ⟨rfl,rfl⟩
 ·exact .inr ⟨.unk,.inl rfl,rfl⟩
theorem jhn(nm:List UInt8)(pb:Bool)(many:Int)(cv:V)(cs:List Col)(hc:IsC cv cs)(ok:OkC cs)(hl:cs.length<=1000)(hw:∀i,i<cs.length->(cs.getD i Col.none).ws.length<=1000)(U:S) :
  jaf env (ev env) 105 [.agg [.str nm,.bool pb,.int .i64 many,cv]] U=some (.agg [.str nm,.bool pb,.int .i64 many,unkV cv],U):=by
 refine jaj (by simp[V.closed,V.closed.closedL,ja5 hc ok]) jyb rfl ?_ U
 rcases hc with⟨rfl,rfl⟩|⟨qc,_,rfl⟩
 ·simp only[Tryz.f105,simprocAttr,zK,Vq,tys2,tys3,jai,z29,YW,jpY,Va,jaa,V.isCell];refine jav (λm T D U=>D=[]/\T 1=.ptr 0 0/\T 2=.ptr 1 0/\T 10=.int .i64 0/\T 11=.int .i64 0/\U=⟨[.cells [.str nm,.bool pb,.int .i64 many,.nilsl] 38,.cells [.str [],.bool false,.int .i64 0,.nilsl] 38],[]⟩) ?_ 0 _ _ _ ⟨rfl,rfl,rfl,rfl,rfl,rfl⟩;rintro m T D U ⟨rfl,t1,t2,t10,t11,rfl⟩;refine jaC ?_;simp only[simprocAttr,zK,Vq,tys2,tys3,t1,t2,t10,t11,jen,jkJ,jnI,Va,jaa,V.isCell,YW];simp only[jaz,jak,jex,jal,jaR,jbE,jay,jau,jns,Kq,K9,unkV]
 ·by_cases hn:cs.length=0
  ·have:cs=[]:=Q8 hn;subst this;simp only[Tryz.f105,simprocAttr,zK,Vq,tys2,tys3,jai,z29,YW,show jaO []=[]from rfl,jnH,jrd,Va,jaa,Nat.reduceAdd,Nat.reduceLeDiff,V.isCell];refine jav (λm T D U=>D=[]/\T 1=.ptr 0 0/\T 2=.ptr 1 0/\T 10=.int .i64 0/\T 11=.int .i64 0/\U=⟨[.cells [.str nm,.bool pb,.int .i64 many,.hsl 2 0 0 0 .exact] 38,.cells [.str [],.bool false,.int .i64 0,.nilsl] 38,.cells [] 41],[]⟩) ?_ 0 _ _ _ ⟨rfl,rfl,rfl,rfl,rfl,rfl⟩;rintro m T D U ⟨rfl,t1,t2,t10,t11,rfl⟩;refine jaC ?_;simp only[simprocAttr,zK,Vq,tys2,tys3,t1,t2,t10,t11,jen,jkJ,jnI,Va,jaa,V.isCell,YW]
   have hs:∀x y d,jaJ [x,y,.cells [] 41] (d+1) (.hsl 2 0 0 0 .exact)=some (.row [] 0 .unk):=λx y d=>by
    rw[jlK _ _ _ _ _ _ _ [] 41 rfl (K7 _)];rfl
   simp only[jaz,jak,jex,jal,jaR,jbE,jay,jau,hs,Kq,K9,unkV]
  ·simp only[Tryz.f105,simprocAttr,zK,Vq,tys2,tys3,jai,z29,YW,jpZ _ _ cs hl hn,jrd,Va,jaa,V.isCell]
   refine jav (λm T D U=>D=[]/\T 1=.ptr 0 0/\T 2=.ptr 1 0/\T 10=.int .i64 cs.length/\U=⟨[.cells [.str nm,.bool pb,.int .i64 many,.hsl 3 0 cs.length cs.length (.grow 4)] 38,.cells [.str [],.bool false,.int .i64 0,.nilsl] 38,.cells [] 41,.cells (jaO cs) 41],[]⟩ /\
    ∃i:Nat,T 11=.int .i64 i/\i<=cs.length/\m=cs.length-i) ?_ _ _ _ _ ⟨rfl,rfl,rfl,rfl,rfl,0,rfl,aa,rfl⟩
   rintro m T D U ⟨rfl,t1,t2,t10,rfl,i,t11,hi,rfl⟩;refine jaC ?_;by_cases hlt:i<cs.length
   ·have c1:(i:Int)<(cs.length:Int):=by omega
    have c2:(0:Int)<=(i:Int)/\(i:Int)<(cs.length:Int):=aa;have e1:IntKind.i64.wrap ((i:Int)+1)=((i+1:Nat):Int):=by rw[wrap_i64 aa aa];omega
    have hic:=jbi (ok.at hlt);have hfit:i*4+3+1<=(jaO cs).length:=by rw[jcE];omega
    have hcw:(cs.getD i Col.none).w.cells=[(cs.getD i Col.none).w]:=by rcases ok.at hlt with⟨h,_⟩|h<;>rw[h]<;>rfl
    have hst:(jaO cs).length >= i*4+3+1:=hfit;simp only[simprocAttr,zK,Vq,tys2,tys3,t1,t2,t10,t11,c1,c2,e1,jrc,jrM hlt,jhl _ _ (ok.at hlt) (hw i hlt),hcw,hic,hfit,jjn (jrM hlt),Kr,Qo,Xa,List.set_cons_succ];exact⟨ac,cs.length-(i+1),aa,i+1,rfl,aa,rfl⟩
   ·have hi2:i=cs.length:=by omega
    subst hi2;have c1:¬(cs.length:Int)<(cs.length:Int):=aa;simp only[simprocAttr,zK,Vq,tys2,tys3,t1,t2,t10,t11,c1,jen,jkJ,jnI,Va,jaa,V.isCell,YW]
    have hs:∀x y z d,jaJ [x,y,z,.cells (jaO cs) 41] (d+3) (.hsl 3 0 cs.length cs.length (.grow 4))=some (.row (jaO cs) cs.length .unk):=λx y z d=>by
     rw[jlK _ _ _ _ _ _ _ (jaO cs) 41 rfl (K7 _),Qw,jdV _ _ ok];rfl
    simp only[jaz,jak,jex,jal,jaR,jbE,jay,jau,hs,Kq,K9,unkV]
end Go.Proofs.YtajaampgajieeaaGreatDoor
