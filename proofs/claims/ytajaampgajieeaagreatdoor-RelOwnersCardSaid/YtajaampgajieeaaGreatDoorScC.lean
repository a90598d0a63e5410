/- Proved here: schemas are checked and found. Conditions: each theorem's own. -/
import Derived.Test.YtajaampgajieeaaGreatDoorScB
set_option linter.unusedSimpArgs false
set_option maxHeartbeats 16000000
set_option maxRecDepth 1000000
set_option linter.unusedVariables false
set_option linter.unusedSectionVars false
namespace Go.Proofs.YtajaampgajieeaaGreatDoor
open Go.Ab
structure Sch where
 name:List UInt8
 pub:Bool
 many:Int
 cv:V
 cs:List Col
def Sch.cells(s:Sch):List V:=[.str s.name,.bool s.pub,.int .i64 s.many,s.cv]
def Sch.none:Sch:=⟨[],false,0,.nilsl,[]⟩
def jbl(l:List Sch):List V:=(l.map Sch.cells).flatten
def IsS(v:V)(l:List Sch):Prop:=(v=.nilsl/\l=[])\/∃q,(q=RCap.unk\/q=RCap.full)/\v=.row (jbl l) l.length q
def OkS(l:List Sch):Prop:=∀s∈l,IsC s.cv s.cs/\OkC s.cs
theorem OkS.at {l:List Sch}(h:OkS l){i:Nat}(hi:i<l.length):IsC (l.getD i Sch.none).cv (l.getD i Sch.none).cs/\OkC (l.getD i Sch.none).cs:=h _ (by simp[List.getD,hi])
theorem jci(c:Sch)(cs:List Sch):jbl (c::cs)=.str c.name::.bool c.pub::.int .i64 c.many::c.cv::jbl cs:=rfl
theorem jg1:∀(cs:List Sch) (i:Nat),(jbl cs).drop (i*4)=jbl (cs.drop i)
 |cs,0=>ae
 | [],i+1=>by simp[jbl]
 |c::cs,i+1=>by
  rw[jci,show(i+1)*4=i*4+1+1+1+1 by omega];simp only[K9];exact jg1 cs i
theorem jjl:∀(cs:List Sch) (i:Nat),(jbl cs).take (i*4)=jbl (cs.take i)
 |cs,0=>by simp[jbl]
 | [],i+1=>by simp[jbl]
 |c::cs,i+1=>by
  rw[jci,show(i+1)*4=i*4+1+1+1+1 by omega];simp only[Ju,jjl cs i,jci]
theorem jnU {cs:List Sch}{i:Nat}(hi:i<cs.length):jbl (cs.drop i)=.str (cs.getD i Sch.none).name::.bool (cs.getD i Sch.none).pub::.int .i64 (cs.getD i Sch.none).many::(cs.getD i Sch.none).cv::jbl (cs.drop (i+1)):=by
 have e:cs.drop i=cs.getD i Sch.none::cs.drop (i+1):=by
  rw[Qj hi];simp[List.getD,hi]
 rw[e,jci]
theorem jtH {v:V}{cs:List Sch}(h:IsS v cs):ja9 (some (.slice 38)) v=some (.int .i64 cs.length):=by
 rcases h with⟨rfl,rfl⟩|⟨q,_,rfl⟩<;>rfl
theorem jmH {v:V}{cs:List Sch}(h:IsS v cs){i:Nat}(hi:i<cs.length):jaw 4 v (.int .i64 (i:Int))=some (.rptr (.str (cs.getD i Sch.none).name::.bool (cs.getD i Sch.none).pub::.int .i64 (cs.getD i Sch.none).many::(cs.getD i Sch.none).cv::jbl (cs.drop (i+1)))):=by
 rcases h with⟨rfl,rfl⟩|⟨q,_,rfl⟩
 ·simp at hi
 ·rw[Ys,Kj aa,Qi,jg1,jnU hi]
theorem jfa:∀{l:List Sch},OkS l->V.closed.closedL (jbl l)=true
 | [],h=>rfl
 |c::cs,h=>by
  have h1:=h c ae;rw[jci];simp only[V.closed.closedL,V.closed,ja5 h1.1 h1.2,jfa (l:=cs) λx hx=>h x (by simp[hx]),K6]
theorem jgq {v:V}{l:List Sch}(h:IsS v l)(ok:OkS l):v.closed=true:=by
 rcases h with⟨rfl,rfl⟩|⟨q,rfl|rfl,rfl⟩
 ·rfl
 ·simp only[V.closed,jfa ok,K6]
 ·simp only[V.closed,jfa ok,K6]
theorem tys4:env.P.underlying 24=some (.slice 38):=ac
theorem jtI {v:V}{cs:List Sch}(h:IsS v cs){i:Nat}(hi:i<cs.length):∃u,jb2 env 24 v none (some (.int .i64 (i:Int))) none=some u/\IsS u (cs.take i):=by
 rcases h with⟨rfl,rfl⟩|⟨q,_,rfl⟩
 ·simp at hi
 ·refine⟨.row (jbl (cs.take i)) i .unk,?_,.inr ⟨.unk,.inl rfl,by simp[Qz,Xy (Nat.le_of_lt hi)]⟩⟩
  have hb:ja4 (some (.int .i64 (i:Int))) cs.length cs.length=some i:=by
   simp only[ja4];simp;omega
  simp only[jb2,tys2,tys4,Kl,jcV,hb];simp[ja4,show ¬i=cs.length by omega,jjl]
theorem jjm(cs:List Sch){i j:Nat}(h:j<i):(cs.take i).getD j Sch.none=cs.getD j Sch.none:=by
 simp[List.getD,Jr,h]
def jbN(f:Nat->Bool):Nat->Nat->Int
 |0,_ => -1
 |m+1,i=>if f i=true then i else jbN f m (i+1)
theorem jer (f:Nat->Bool):∀m i,0<=jbN f m i↔∃j,i<=j/\j<i+m/\f j=true
  | 0, i => by simp only[jbN];constructor
               · intro h;omega
               · rintro⟨j,h1,h2,_⟩;omega
  | m+1,i=>by
    simp only[jbN];by_cases h:f i=true
    · rw[Kj h]
      exact⟨λ_=>⟨i,aa,aa,h⟩,λ_=>aa⟩
    · rw [Kh h,jer f m (i+1)]
      constructor
      · rintro⟨j,h1,h2,h3⟩;exact⟨j,aa,aa,h3⟩
      · rintro⟨j,h1,h2,h3⟩
        refine⟨j,?_,aa,h3⟩
        rcases Qm i j with h4|h4
        · omega
        · have:j=i:=by omega
          subst this;exact absurd h3 h
theorem jdV {f:Nat->Bool}{n i:Nat}(h:i<n):jbN f (n-i) i=if f i=true then(i:Int)else jbN f (n-(i+1)) (i+1):=by
 obtain⟨q,hq⟩:∃q,n-i=q+1:=⟨n-i-1,aa⟩;have hq2:n-(i+1)=q:=aa;rw[hq,hq2];rfl
theorem jdd {f:Nat->Bool}:∀{m i:Nat},¬0<=jbN f m i->jbN f m i = -1
 |0,i,_=>rfl
 |m+1,i,h=>by
  simp only[jbN]at h ⊢;by_cases hf:f i=true
  ·rw[Kj hf]at h;omega
  ·rw[Kh hf]at h ⊢;exact jdd h
theorem jw7:env.P.funcs[172]? = some Tryz.f172:=ac
def jcF(x:Int):V:=.tup [.int .i64 (if 0<=x then x else 0),.bool (decide (0<=x))]
theorem jjn(x:Int)(U:S):jaf env (ev env) 172 [.int .i64 x] U=some (jcF x,U):=by
 refine jbW rfl rfl jw7 rfl (by simp[Tryz.f172]) (by simp[Tryz.f172]) ?_;refine jaB ?_;by_cases h:0<=x
 ·have h2:¬x<0:=by omega
  simp only[Tryz.f172,simprocAttr,zK,Vq,h,h2];simp[jay,jcF,h]
 ·have h2:x<0:=by omega
  simp only[Tryz.f172,simprocAttr,zK,Vq,h,h2];simp[jay,jcF,h]
theorem jw8:env.P.funcs[174]? = some Tryz.f174:=ac
theorem jw9:env.P.funcs[201]? = some Tryz.f201:=ac
theorem jmI(nm:List UInt8)(d:Sch)(L:List AObj)(ts:List Nat)(p:Nat)(hp:L[p]? = some (.cells [.str nm] 9)) :
  jaf env (ev env) 174 [.agg [.str d.name,.bool d.pub,.int .i64 d.many,d.cv],.ptr p 0] ⟨L,ts⟩=some (.bool (decide (d.name=nm)),⟨L++[.cells [.str d.name,.bool d.pub,.int .i64 d.many,d.cv] 38],ts⟩):=by
 refine jbW rfl rfl jw8 rfl (by simp[Tryz.f174]) (by simp[Tryz.f174]) ?_;refine jaB ?_;by_cases h:d.name=nm<;>
 ·simp only[Tryz.f174,simprocAttr,zK,Vq,tys2,YW,jad,jaG hp,jaA,h];simp[jay,h]
theorem jmJ(nm:List UInt8)(d:Col)(L:List AObj)(ts:List Nat)(p:Nat)(hp:L[p]? = some (.cells [.str nm] 9)) :
  jaf env (ev env) 201 [.agg [.str d.name,.int .i64 d.lo,.int .i64 d.hi,d.w],.ptr p 0] ⟨L,ts⟩=some (.bool (decide (d.name=nm)),⟨L++[.cells [.str d.name,.int .i64 d.lo,.int .i64 d.hi,d.w] 41],ts⟩):=by
 refine jbW rfl rfl jw9 rfl (by simp[Tryz.f201]) (by simp[Tryz.f201]) ?_;refine jaB ?_;by_cases h:d.name=nm<;>
 ·simp only[Tryz.f201,simprocAttr,zK,Vq,tys2,YW,jad,jaG hp,jaA,h];simp[jay,h]
def ja3(l:List Sch)(nm:List UInt8):Nat->Nat->Int:=jbN λi=>decide ((l.getD i Sch.none).name=nm)
def jgr(l:List Col)(nm:List UInt8):Nat->Nat->Int:=jbN λi=>decide ((l.getD i Col.none).name=nm)
theorem jxa:env.P.funcs[173]? = some Tryz.f173:=ac
theorem jeK(nm:List UInt8)(v:V)(l:List Sch)(hv:IsS v l)(ok:OkS l)(hl:l.length<=1000)(L:List AObj)(ts:List Nat)(p:Nat)(hp:L[p]? = some (.cells [.str nm] 9)) :
  ∃X,jaf env (ev env) 173 [v,.func 174 [] [.ptr p 0]] ⟨L,ts⟩=some (.int .i64 (ja3 l nm l.length 0),⟨L++X,ts⟩):=by
 suffices h:∃u U',jaf env (ev env) 173 [v,.func 174 [] [.ptr p 0]] ⟨L,ts⟩=some (u,U')/\(u=.int .i64 (ja3 l nm l.length 0)/\∃X,U'=⟨L++X,ts⟩) by
  obtain⟨v,U',h1,rfl,X,rfl⟩:=h;exact⟨X,h1⟩
 refine jaD jxa rfl ?_;simp only[Tryz.f173,simprocAttr,zK,Vq,tys2,tys4,jtH hv];refine jax (λm T D U=>D=[]/\T 0=v/\T 1=.func 174 [] [.ptr p 0]/\T 7=.int .i64 l.length/\∃(i:Nat) (X:List AObj),U=⟨L++X,ts⟩/\T 8=.int .i64 i/\i<=l.length/\m=l.length-i/\ja3 l nm l.length 0=ja3 l nm (l.length-i) i) ?_ _ _ _ _ ⟨rfl,rfl,rfl,rfl,0,[],ae,rfl,aa,rfl,rfl⟩;rintro m T D U ⟨rfl,t0,t1,t7,i,X,rfl,t8,hi,rfl,hf⟩;refine jaB ?_;by_cases hlt:i<l.length
 ·have c1:(i:Int)<(l.length:Int):=by omega
  have e1:IntKind.i64.wrap ((i:Int)+1)=((i+1:Nat):Int):=by rw[wrap_i64 aa aa];omega
  have hx:=jmH hv hlt;have hN:=jmI nm (l.getD i Sch.none) (L++X) ts p (jaG hp X);unfold ja3 at hf;rw[jdV hlt]at hf;by_cases hn:(l.getD i Sch.none).name=nm
  ·rw[Kj (decide_eq_true hn)]at hf;simp only[hn,decide_true]at hN;simp only[simprocAttr,zK,Vq,tys2,tys4,t0,t1,t7,t8,c1,e1,hx,jee,jaK,hn,hN];exact⟨by rw[ja3,hf];rfl,_,by rw[Qg]⟩
  ·rw[Kh (by simp only[Jc];exact hn)]at hf;simp only[hn,decide_false]at hN;simp only[simprocAttr,zK,Vq,tys2,tys4,t0,t1,t7,t8,c1,e1,hx,jee,jaK,hN];exact⟨l.length-(i+1),aa,i+1,_,by rw[Qg],rfl,aa,rfl,hf⟩
 ·have hi2:i=l.length:=by omega
  subst hi2;have c1:¬(l.length:Int)<(l.length:Int):=aa;rw[Xh]at hf;simp only[simprocAttr,zK,Vq,t0,t1,t7,t8,c1];exact⟨by rw[hf];rfl,X,rfl⟩
theorem jmK(nm:List UInt8)(dv:V)(ds:List Col)(hd:IsC dv ds)(ok:OkC ds)(hl:ds.length<=1000)(L:List AObj)(ts:List Nat)(p:Nat)(hp:L[p]? = some (.cells [.str nm] 9)) :
  ∃X,jaf env (ev env) 200 [dv,.func 201 [] [.ptr p 0]] ⟨L,ts⟩=some (.int .i64 (jgr ds nm ds.length 0),⟨L++X,ts⟩):=by
 suffices h:∃v U',jaf env (ev env) 200 [dv,.func 201 [] [.ptr p 0]] ⟨L,ts⟩=some (v,U')/\(v=.int .i64 (jgr ds nm ds.length 0)/\∃X,U'=⟨L++X,ts⟩) by
  obtain⟨v,U',h1,rfl,X,rfl⟩:=h;exact⟨X,h1⟩
 refine jaD jrX rfl ?_;simp only[Tryz.f200,simprocAttr,zK,Vq,tys2,je9 hd];refine jax (λm T D U=>D=[]/\T 0=dv/\T 1=.func 201 [] [.ptr p 0]/\T 7=.int .i64 ds.length/\∃(i:Nat) (X:List AObj),U=⟨L++X,ts⟩/\T 8=.int .i64 i/\i<=ds.length/\m=ds.length-i/\jgr ds nm ds.length 0=jgr ds nm (ds.length-i) i) ?_ _ _ _ _ ⟨rfl,rfl,rfl,rfl,0,[],ae,rfl,aa,rfl,rfl⟩;rintro m T D U ⟨rfl,t0,t1,t7,i,X,rfl,t8,hi,rfl,hf⟩;refine jaB ?_;by_cases hlt:i<ds.length
 ·have c1:(i:Int)<(ds.length:Int):=by omega
  have e1:IntKind.i64.wrap ((i:Int)+1)=((i+1:Nat):Int):=by rw[wrap_i64 aa aa];omega
  have hx:=jeS hd hlt;have hN:=jmJ nm (ds.getD i Col.none) (L++X) ts p (jaG hp X);unfold jgr at hf;rw[jdV hlt]at hf;by_cases hn:(ds.getD i Col.none).name=nm
  ·rw[Kj (decide_eq_true hn)]at hf;simp only[hn,decide_true]at hN;simp only[simprocAttr,zK,Vq,tys2,t0,t1,t7,t8,c1,e1,hx,jc9,jaK,hn,hN];exact⟨by rw[jgr,hf];rfl,_,by rw[Qg]⟩
  ·rw[Kh (by simp only[Jc];exact hn)]at hf;simp only[hn,decide_false]at hN;simp only[simprocAttr,zK,Vq,tys2,t0,t1,t7,t8,c1,e1,hx,jc9,jaK,hN];exact⟨ds.length-(i+1),aa,i+1,_,by rw[Qg],rfl,aa,rfl,hf⟩
 ·have hi2:i=ds.length:=by omega
  subst hi2;have c1:¬(ds.length:Int)<(ds.length:Int):=aa;rw[Xh]at hf;simp only[simprocAttr,zK,Vq,t0,t1,t7,t8,c1];exact⟨by rw[hf];rfl,X,rfl⟩
theorem at97:env.P.funcs[97]? = some Tryz.f97:=ac
theorem jxb:env.P.funcs[122]? = some Tryz.f122:=ac
theorem jjo(h:List AObj)(x:Int):jaL h jai (jay [.int .i64 (if 0<=x then x else 0),.bool (decide (0<=x))])=some (jcF x):=by
 simp only[jay,jai,jbM,jal,jaQ,jav,jaz,Kl,Kw,jcF]
theorem find_call(nm:List UInt8)(v:V)(l:List Sch)(hv:IsS v l)(ok:OkS l)(hl:l.length<=1000)(U:S):jaf env (ev env) 97 [v,.str nm] U=some (jcF (ja3 l nm l.length 0),U):=by
 refine jak (by simp[V.closed,jgq hv ok]) at97 rfl ?_ U;obtain⟨X,hX⟩:=jeK nm v l hv ok hl [.cells [.str nm] 9] [] 0 rfl;simp only[Tryz.f97,simprocAttr,zK,Vq,tys2,tys3,jaj,hX,jjn,show(V.str nm).cells=[.str nm]from rfl,jcF];exact jjo _ _
theorem jfb(nm:List UInt8)(a b c:V)(hca:a.closed=true)(hcb:b.closed=true)(hcc:c.closed=true)(cv:V)(cs:List Col)(hc:IsC cv cs)(ok:OkC cs)(hl:cs.length<=1000)(U:S) :
  jaf env (ev env) 122 [.agg [a,b,c,cv],.str nm] U=some (jcF (jgr cs nm cs.length 0),U):=by
 refine jak (by simp[V.closed,V.closed.closedL,ja5 hc ok,hca,hcb,hcc]) jxb rfl ?_ U;obtain⟨X,hX⟩:=jmK nm cv cs hc ok hl [.cells [a,b,c,cv] 38,.cells [.str nm] 9] [] 1 rfl;simp only[Tryz.f122,simprocAttr,zK,Vq,tys2,tys3,jaj,YW,hX,jjn,show(V.str nm).cells=[.str nm]from rfl,jcF];exact jjo _ _
theorem at96:env.P.funcs[96]? = some Tryz.f96:=ac
noncomputable def jeR(l:List Sch)(i:Nat):Int × Int:=jda (l.getD i Sch.none).name (l.getD i Sch.none).pub (l.getD i Sch.none).many (l.getD i Sch.none).cs
open Classical in
noncomputable def jhh(l:List Sch):Nat->Nat->Int × Int × Int
 |0,_=>(0,-1,-1)
 |m+1,i=>if(jeR l i).1=0 then(if ∃k,k<i/\(l.getD k Sch.none).name=(l.getD i Sch.none).name then(8,(i:Int),-1)else jhh l m (i+1))else((jeR l i).1,(i:Int),(jeR l i).2)
noncomputable def allE(l:List Sch):Int × Int × Int:=if 16<l.length then(4,16,-1)else jhh l l.length 0
def jjp(s:Sch):Prop:=s.name.length<2^63/\s.cs.length<=1000/\∀i,i<s.cs.length->jdS (s.cs.getD i Col.none)
def tri(r:Int × Int × Int):V:=.tup [.int .i64 r.1,.int .i64 r.2.1,.int .i64 r.2.2]
theorem jeL(h:List AObj)(a b c:Int)(r:Int × Int × Int)(e:(a,b,c)=r):jaL h jai (jay [.int .i64 a,.int .i64 b,.int .i64 c])=some (tri r):=by
 subst e;simp only[jay,jai,jbM,jal,jaQ,jav,jaz,Kl,Kw,tri]
theorem jlk {l:List Sch}{nm:List UInt8}{i:Nat}(hi:i<l.length):0<=ja3 (l.take i) nm (l.take i).length 0↔∃k,k<i/\(l.getD k Sch.none).name=nm:=by
 have hli:(l.take i).length=i:=by simp;omega
 rw[hli];unfold ja3;rw[jer];constructor
 ·rintro⟨j,_,h2,h3⟩;have h3:=of_decide_eq_true h3;rw[jjm l aa]at h3;exact⟨j,aa,h3⟩
 ·rintro⟨j,h2,h3⟩;exact⟨j,aa,aa,by rw[jjm l h2];exact decide_eq_true h3⟩
theorem jco {v:V}{cs:List Col}(h:IsC v cs):v.isCell=true:=by rcases h with⟨rfl,_⟩|⟨q,_,rfl⟩<;>rfl
theorem jgs(v:V)(l:List Sch)(hv:IsS v l)(ok:OkS l)(hl:l.length<=1000)(hs:∀i,i<l.length->jjp (l.getD i Sch.none))(U:S):jaf env (ev env) 96 [v] U=some (tri (allE l),U):=by
 refine jak (by simp[V.closed,jgq hv ok]) at96 rfl ?_ U;by_cases h16:(16:Int)<(l.length:Int)
 ·have he:(4,16,-1)=allE l:=by unfold allE;rw[Kj aa]
  simp only[Tryz.f96,simprocAttr,zK,Vq,tys2,tys3,tys4,jaj,jtH hv,h16];exact jeL _ _ _ _ _ he
 have he:allE l=jhh l l.length 0:=by unfold allE;rw[Kh aa]
 simp only[Tryz.f96,simprocAttr,zK,Vq,tys2,tys3,tys4,jaj,jtH hv,h16];refine jax (λm T D U=>D=[]/\T 0=v/\T 14=v/\T 15=.int .i64 l.length/\∃(i:Nat) (X:List AObj),U=⟨X,[]⟩/\T 16=.int .i64 i/\i<=l.length/\m=l.length-i/\allE l=jhh l (l.length-i) i) ?_ _ _ _ _ ⟨rfl,rfl,rfl,rfl,0,[],rfl,rfl,aa,rfl,he⟩;clear he;rintro m T D U ⟨rfl,t0,t14,t15,i,X,rfl,t16,hi,rfl,hf⟩;refine jaB ?_;by_cases hlt:i<l.length
 ·have c1:(i:Int)<(l.length:Int):=by omega
  have e1:IntKind.i64.wrap ((i:Int)+1)=((i+1:Nat):Int):=by rw[wrap_i64 aa aa];omega
  have hx:=jmH hv hlt;obtain⟨hcc,hok⟩:=ok.at hlt;obtain⟨hs1,hs2,hs3⟩:=hs i hlt;have hic:=jco hcc;obtain⟨u,hu,hcu⟩:=jtI hv hlt;have oku:OkS (l.take i):=λc h=>ok c (List.mem_of_mem_take h)
  have hF:=find_call (l.getD i Sch.none).name u (l.take i) hcu oku (by simp;omega);obtain⟨q,hq⟩:∃q,l.length-i=q+1:=⟨l.length-i-1,aa⟩;have hq2:q=l.length-(i+1):=aa;have hstep:jhh l (l.length-i) i=if(jeR l i).1=0 then(if ∃k,k<i/\(l.getD k Sch.none).name=(l.getD i Sch.none).name then(8,(i:Int),-1)else jhh l q (i+1))else((jeR l i).1,(i:Int),(jeR l i).2):=by rw[hq];rfl
  rw[hstep]at hf;have hC:=check_call (l.getD i Sch.none).name (l.getD i Sch.none).pub (l.getD i Sch.none).many (l.getD i Sch.none).cv (l.getD i Sch.none).cs hcc hok hs1 hs2 hs3
  change ∀U,_=some (V.tup [.int .i64 (jeR l i).1,.int .i64 (jeR l i).2],U)at hC
  by_cases hz:(jeR l i).1=0
  ·rw[Kj hz]at hf;simp only[hz]at hC;by_cases hk:0<=ja3 (l.take i) (l.getD i Sch.none).name (l.take i).length 0
   ·rw[Kj ((jlk hlt).1 hk)]at hf;simp only[simprocAttr,zK,Vq,tys2,tys3,tys4,t0,t14,t15,t16,c1,e1,hx,jee,jaK,z29,jad,jao,jaa,Jj,Q6,K9,J7,Ku,Qk,jae,jac,jam,hic,YW,jdp,hC,jbX,jbY,jb3,hu,hF,jcF,hk];exact⟨ac,jeL _ _ _ _ _ hf.symm⟩
   ·rw[Kh (λh=>hk ((jlk hlt).2 h)),hq2]at hf;simp only[simprocAttr,zK,Vq,tys2,tys3,tys4,t0,t14,t15,t16,c1,e1,hx,jee,jaK,z29,jad,jao,jaa,Jj,Q6,K9,J7,Ku,Qk,jae,jac,jam,hic,YW,jdp,hC,jbX,jbY,jb3,hu,hF,jcF,hk];exact⟨ac,l.length-(i+1),aa,i+1,_,rfl,rfl,aa,rfl,hf⟩
  ·rw[Kh hz]at hf;simp only[simprocAttr,zK,Vq,tys2,tys3,tys4,t0,t14,t15,t16,c1,e1,hx,jee,jaK,z29,jad,jao,jaa,Jj,Q6,K9,J7,Ku,Qk,jae,jac,jam,hic,YW,jdp,hC,hz];exact jeL _ _ _ _ _ hf.symm
 ·have hi2:i=l.length:=by omega
  subst hi2;have c1:¬(l.length:Int)<(l.length:Int):=aa;rw[Xh]at hf;simp only[simprocAttr,zK,Vq,t0,t14,t15,t16,c1];exact jeL _ _ _ _ _ hf.symm
def jxc(c:Col):Prop:=IsW c.w c.ws/\c.name.length<2^63/\c.ws.length<2^63/\∀i,i<c.ws.length->(c.ws.getD i []).length<2^63
def jvf(s:Sch):Prop:=IsC s.cv s.cs/\(∀c∈s.cs,jxc c)/\s.name.length<2^63/\s.cs.length<2^63
theorem jqw:maxLen<2^63:=af
theorem jvf.okC {s:Sch}(h:jvf s):OkC s.cs:=λc hc=>(h.2.1 c hc).1
theorem jxd:env.P.funcs[183]? = some Tryz.f183:=ac
theorem jtJ:env.P.funcs[182]? = some Tryz.f182:=ac
theorem jxe:env.P.funcs[105]? = some Tryz.f105:=ac
theorem jvg:rowO env 39 0 []=some (.row [] 0 .full):=ac
theorem jgt(h:List AObj)(d:Nat)(ws:List (List UInt8))(c:RCap):jaL h (d+2) (.row (ws.map V.str) ws.length c)=some (.row (ws.map V.str) ws.length .unk):=by
 rw[ja2,jlg];rfl
theorem jg2(w:V)(ws:List (List UInt8))(h:IsW w ws)(hl:ws.length<=1000)(U:S):jaf env (ev env) 183 [w] U=some (w,U):=by
 refine jak (by simp[jcn h]) jxd rfl ?_ U;obtain⟨cap,ts',hA,_⟩:=ju8 h hl [] []
 rcases h with⟨rfl,rfl⟩|rfl
 ·simp only[Tryz.f183,simprocAttr,zK,Vq,tys2,jaj,je8 u24];rfl
 ·simp only[Tryz.f183,simprocAttr,zK,Vq,tys2,jaj,jdn u24,jaq,jvg,hA];simp only[jay,jai,jgt]
theorem jqx {T:Tm}(L:List AObj)(ts:List Nat):opT env true T ⟨L,ts⟩ (.buildSlice 36 0 #[])=some (.hsl L.length 0 0 0 .exact,⟨L++[.cells [] 41],ts⟩):=by
 unfold opT;simp only[jba,jbp,jbs,jcs,el27,tys2,Kl];simp[jei,V.cells,S.push,env]
theorem jxf(L:List AObj)(ts:List Nat)(cs:List Col)(hl:cs.length<=1000)(hn:cs.length ≠ 0)(c:RCap):appO env true ⟨L++[.cells [] 41],ts⟩ 36 36 (.hsl L.length 0 0 0 .exact) (.row (jaM cs) cs.length c) =
  some (.hsl (L.length+1) 0 cs.length cs.length (.grow 4),⟨L++[.cells [] 41,.cells (jaM cs) 41],ts⟩):=by
 have hnew:∀h,jaT h 4 cs.length (.row (jaM cs) cs.length c)=some (jaM cs):=λh=>by simp[jaT,jcx,Qu (X7 (jcx cs))]
 have hl2:cs.length*56<=lim/\cs.length<=lim:=by have h:lim=2^40:=rfl;rw[h];omega
 unfold appO;simp only[el27,tys2,by44,zn44,vLen,hnew,Kl,Km];simp[jbf,hn,hl2,jaT,S.push]
theorem jvh(L:List AObj)(ts:List Nat)(c:RCap):appO env true ⟨L++[.cells [] 41],ts⟩ 36 36 (.hsl L.length 0 0 0 .exact) (.row [] 0 c)=some (.hsl L.length 0 0 0 .exact,⟨L++[.cells [] 41],ts⟩):=by
 unfold appO;simp only[el27,tys2,by44,zn44,vLen,jaT,Kl,Km];simp[jbf]
theorem mb62:env.mutb 182 3=true:=rfl
theorem joN(L:List AObj)(ts:List Nat):jaf env (ev env) 182 [.nilsl] ⟨L,ts⟩=some (.nilsl,⟨L,ts⟩):=by
 refine jaI jtJ rfl ?_;simp only[Tryz.f182,simprocAttr,zK,Vq,tys2,jaj,je8 u27];simp only[jay,and_self]
theorem jmL(L:List AObj)(ts:List Nat)(c:RCap):jaf env (ev env) 182 [.row [] 0 c] ⟨L,ts⟩=some (.hsl L.length 0 0 0 .exact,⟨L++[.cells [] 41],ts⟩):=by
 refine jaI jtJ rfl ?_;simp only[Tryz.f182,simprocAttr,zK,Vq,tys2,jaj,jdn u27,mb62,jqx,jvh];simp only[jay,and_self]
theorem joO(L:List AObj)(ts:List Nat)(cs:List Col)(hl:cs.length<=1000)(hn:cs.length ≠ 0)(c:RCap):jaf env (ev env) 182 [.row (jaM cs) cs.length c] ⟨L,ts⟩=some (.hsl (L.length+1) 0 cs.length cs.length (.grow 4),⟨L++[.cells [] 41,.cells (jaM cs) 41],ts⟩):=by
 refine jaI jtJ rfl ?_;simp only[Tryz.f182,simprocAttr,zK,Vq,tys2,jaj,jdn u27,mb62,jqx,jxf L ts cs hl hn c];simp only[jay,and_self]
theorem jvi(h:List AObj)(d:Nat){w:V}{ws:List (List UInt8)}(hw:IsW w ws):jaL h (d+2) w=some w:=by
 rcases hw with⟨rfl,_⟩|rfl
 ·rfl
 ·exact jgt h d ws _
theorem jdK(h:List AObj)(d:Nat):∀{cs:List Col},OkC cs->(jaM cs).mapM (jaL h (d+2))=some (jaM cs)
 | [],_=>rfl
 |c::cs,ok=>by
  rw[jbE,jal,jal,jal,jal,jdK h d (cs:=cs) λx hx=>ok x (by simp[hx]),jvi h d (ok c ae),jbB,jav,jav];rfl
theorem jqy {cs:List Col}{i:Nat}(hi:i<cs.length):(jaM cs)[i*4+3]? = some (cs.getD i Col.none).w:=by
 have h:=jgY cs i;rw[jnS hi]at h;have h2:((jaM cs).drop (i*4))[3]? = some (cs.getD i Col.none).w:=by rw[h];rfl
 rw[X6]at h2;exact h2
theorem jiR {cs:List V}{off:Nat}{v:V}(h:cs[off]? = some v):jaa cs off [v]=cs:=by
 have hlt:=(K4.1 h).1
 have e:cs=cs.take off++v::cs.drop (off+1):=by
  conv=>lhs;rw[<- Xq off cs,Qj hlt]
  rw[(K4.1 h).2]
 unfold jaa;simp only[Qn,Qx,Jn];rw[Qg];exact e.symm
theorem jmM(x:AObj)(a b c d:V)(t:TypeId)(X:List AObj):jab (x::.cells [a,b,c,d] t::X) 4 (.ptr 1 0)=some [a,b,c,d]:=jb4 rfl
theorem jkd(a b c d:V)(t:TypeId)(X:List AObj):jab (.cells [a,b,c,d] t::X) 4 (.ptr 0 0)=some [a,b,c,d]:=jb4 rfl
def unkV:V->V
 | .row a b _=>.row a b .unk
 |v=>v
theorem jg3 {cv:V}{cs:List Col}(h:IsC cv cs):IsC (unkV cv) cs:=by
 rcases h with⟨rfl,rfl⟩|⟨q,_,rfl⟩
 ·exact .inl ⟨rfl,rfl⟩
 ·exact .inr ⟨.unk,.inl rfl,rfl⟩
theorem jg4(nm:List UInt8)(pb:Bool)(many:Int)(cv:V)(cs:List Col)(hc:IsC cv cs)(ok:OkC cs)(hl:cs.length<=1000)(hw:∀i,i<cs.length->(cs.getD i Col.none).ws.length<=1000)(U:S) :
  jaf env (ev env) 105 [.agg [.str nm,.bool pb,.int .i64 many,cv]] U=some (.agg [.str nm,.bool pb,.int .i64 many,unkV cv],U):=by
 refine jak (by simp[V.closed,V.closed.closedL,ja5 hc ok]) jxe rfl ?_ U
 rcases hc with⟨rfl,rfl⟩|⟨qc,_,rfl⟩
 ·simp only[Tryz.f105,simprocAttr,zK,Vq,tys2,tys3,jaj,z29,YW,joN,Va,jaa,V.isCell];refine jax (λm T D U=>D=[]/\T 1=.ptr 0 0/\T 2=.ptr 1 0/\T 10=.int .i64 0/\T 11=.int .i64 0/\U=⟨[.cells [.str nm,.bool pb,.int .i64 many,.nilsl] 38,.cells [.str [],.bool false,.int .i64 0,.nilsl] 38],[]⟩) ?_ 0 _ _ _ ⟨rfl,rfl,rfl,rfl,rfl,rfl⟩;rintro m T D U ⟨rfl,t1,t2,t10,t11,rfl⟩;refine jaB ?_;simp only[simprocAttr,zK,Vq,tys2,tys3,t1,t2,t10,t11,jee,jkd,jmM,Va,jaa,V.isCell,YW];simp only[jay,jai,jeo,jal,jaQ,jbB,jaz,jav,jmv,Kl,Kw,unkV]
 ·by_cases hn:cs.length=0
  ·have:cs=[]:=Q5 hn;subst this;simp only[Tryz.f105,simprocAttr,zK,Vq,tys2,tys3,jaj,z29,YW,show jaM []=[]from rfl,jmL,jp3,Va,jaa,Nat.reduceAdd,Nat.reduceLeDiff,V.isCell];refine jax (λm T D U=>D=[]/\T 1=.ptr 0 0/\T 2=.ptr 1 0/\T 10=.int .i64 0/\T 11=.int .i64 0/\U=⟨[.cells [.str nm,.bool pb,.int .i64 many,.hsl 2 0 0 0 .exact] 38,.cells [.str [],.bool false,.int .i64 0,.nilsl] 38,.cells [] 41],[]⟩) ?_ 0 _ _ _ ⟨rfl,rfl,rfl,rfl,rfl,rfl⟩;rintro m T D U ⟨rfl,t1,t2,t10,t11,rfl⟩;refine jaB ?_;simp only[simprocAttr,zK,Vq,tys2,tys3,t1,t2,t10,t11,jee,jkd,jmM,Va,jaa,V.isCell,YW]
   have hs:∀x y d,jaL [x,y,.cells [] 41] (d+1) (.hsl 2 0 0 0 .exact)=some (.row [] 0 .unk):=λx y d=>by
    rw[jk6 _ _ _ _ _ _ _ [] 41 rfl (K8 _)];rfl
   simp only[jay,jai,jeo,jal,jaQ,jbB,jaz,jav,hs,Kl,Kw,unkV]
  ·simp only[Tryz.f105,simprocAttr,zK,Vq,tys2,tys3,jaj,z29,YW,joO _ _ cs hl hn,jp3,Va,jaa,V.isCell]
   refine jax (λm T D U=>D=[]/\T 1=.ptr 0 0/\T 2=.ptr 1 0/\T 10=.int .i64 cs.length/\U=⟨[.cells [.str nm,.bool pb,.int .i64 many,.hsl 3 0 cs.length cs.length (.grow 4)] 38,.cells [.str [],.bool false,.int .i64 0,.nilsl] 38,.cells [] 41,.cells (jaM cs) 41],[]⟩ /\
    ∃i:Nat,T 11=.int .i64 i/\i<=cs.length/\m=cs.length-i) ?_ _ _ _ _ ⟨rfl,rfl,rfl,rfl,rfl,0,rfl,aa,rfl⟩
   rintro m T D U ⟨rfl,t1,t2,t10,rfl,i,t11,hi,rfl⟩;refine jaB ?_;by_cases hlt:i<cs.length
   ·have c1:(i:Int)<(cs.length:Int):=by omega
    have c2:(0:Int)<=(i:Int)/\(i:Int)<(cs.length:Int):=aa;have e1:IntKind.i64.wrap ((i:Int)+1)=((i+1:Nat):Int):=by rw[wrap_i64 aa aa];omega
    have hic:=jbe (ok.at hlt);have hfit:i*4+3+1<=(jaM cs).length:=by rw[jcx];omega
    have hcw:(cs.getD i Col.none).w.cells=[(cs.getD i Col.none).w]:=by rcases ok.at hlt with⟨h,_⟩|h<;>rw[h]<;>rfl
    have hst:(jaM cs).length >= i*4+3+1:=hfit;simp only[simprocAttr,zK,Vq,tys2,tys3,t1,t2,t10,t11,c1,c2,e1,jp2,jqy hlt,jg2 _ _ (ok.at hlt) (hw i hlt),hcw,hic,hfit,jiR (jqy hlt),Ku,Qk,J8,List.set_cons_succ];exact⟨ac,cs.length-(i+1),aa,i+1,rfl,aa,rfl⟩
   ·have hi2:i=cs.length:=by omega
    subst hi2;have c1:¬(cs.length:Int)<(cs.length:Int):=aa;simp only[simprocAttr,zK,Vq,tys2,tys3,t1,t2,t10,t11,c1,jee,jkd,jmM,Va,jaa,V.isCell,YW]
    have hs:∀x y z d,jaL [x,y,z,.cells (jaM cs) 41] (d+3) (.hsl 3 0 cs.length cs.length (.grow 4))=some (.row (jaM cs) cs.length .unk):=λx y z d=>by
     rw[jk6 _ _ _ _ _ _ _ (jaM cs) 41 rfl (K8 _),Q6,jdK _ _ ok];rfl
    simp only[jay,jai,jeo,jal,jaQ,jbB,jaz,jav,hs,Kl,Kw,unkV]
end Go.Proofs.YtajaampgajieeaaGreatDoor
