/- Proved here: schemas are checked and found. Conditions: each theorem's own. -/
import Derived.Test.YtajaampgajieeaaGreatDoorScB
set_option linter.unusedSimpArgs false
set_option maxHeartbeats 16000000
set_option maxRecDepth 1000000
set_option linter.unusedVariables false
set_option linter.unusedSectionVars false
namespace Go.Proofs.YtajaampgajieeaaGreatDoor
open Go.Ab
structure Sch where
 name:List UInt8
 pub:Bool
 many:Int
 cv:V
 cs:List Col
def Sch.cells(s:Sch):List V:=[.str s.name,.bool s.pub,.int .i64 s.many,s.cv]
def Sch.none:Sch:=⟨[],false,0,.nilsl,[]⟩
def jaY(l:List Sch):List V:=(l.map Sch.cells).flatten
def IsS(v:V)(l:List Sch):Prop:=(v=.nilsl/\l=[])\/∃q,(q=RCap.unk\/q=RCap.full)/\v=.row (jaY l) l.length q
def OkS(l:List Sch):Prop:=∀s∈l,IsC s.cv s.cs/\OkC s.cs
theorem OkS.at {l:List Sch}(h:OkS l){i:Nat}(hi:i<l.length):IsC (l.getD i Sch.none).cv (l.getD i Sch.none).cs/\OkC (l.getD i Sch.none).cs:=h _ (by simp[List.getD,hi])
theorem jb8(c:Sch)(cs:List Sch):jaY (c::cs)=.str c.name::.bool c.pub::.int .i64 c.many::c.cv::jaY cs:=rfl
theorem jhe:∀(cs:List Sch) (i:Nat),(jaY cs).drop (i*4)=jaY (cs.drop i)
 |cs,0=>ae
 | [],i+1=>by simp[jaY]
 |c::cs,i+1=>by
  rw[jb8,show(i+1)*4=i*4+1+1+1+1 by omega];simp only[K5];exact jhe cs i
theorem jjX:∀(cs:List Sch) (i:Nat),(jaY cs).take (i*4)=jaY (cs.take i)
 |cs,0=>by simp[jaY]
 | [],i+1=>by simp[jaY]
 |c::cs,i+1=>by
  rw[jb8,show(i+1)*4=i*4+1+1+1+1 by omega];simp only[Jx,jjX cs i,jb8]
theorem joQ {cs:List Sch}{i:Nat}(hi:i<cs.length):jaY (cs.drop i)=.str (cs.getD i Sch.none).name::.bool (cs.getD i Sch.none).pub::.int .i64 (cs.getD i Sch.none).many::(cs.getD i Sch.none).cv::jaY (cs.drop (i+1)):=by
 have e:cs.drop i=cs.getD i Sch.none::cs.drop (i+1):=by
  rw[Qk hi];simp[List.getD,hi]
 rw[e,jb8]
theorem jvs {v:V}{cs:List Sch}(h:IsS v cs):jbb (some (.slice 38)) v=some (.int .i64 cs.length):=by
 rcases h with⟨rfl,rfl⟩|⟨q,_,rfl⟩<;>rfl
theorem jkJ {v:V}{cs:List Sch}(h:IsS v cs){i:Nat}(hi:i<cs.length):jaw 4 v (.int .i64 (i:Int))=some (.rptr (.str (cs.getD i Sch.none).name::.bool (cs.getD i Sch.none).pub::.int .i64 (cs.getD i Sch.none).many::(cs.getD i Sch.none).cv::jaY (cs.drop (i+1)))):=by
 rcases h with⟨rfl,rfl⟩|⟨q,_,rfl⟩
 ·simp at hi
 ·rw[Ys,Kg aa,Qj,jhe,joQ hi]
theorem jft:∀{l:List Sch},OkS l->V.closed.closedL (jaY l)=true
 | [],h=>rfl
 |c::cs,h=>by
  have h1:=h c ae;rw[jb8];simp only[V.closed.closedL,V.closed,ja9 h1.1 h1.2,jft (l:=cs) λx hx=>h x (by simp[hx]),K8]
theorem jda {v:V}{l:List Sch}(h:IsS v l)(ok:OkS l):v.closed=true:=by
 rcases h with⟨rfl,rfl⟩|⟨q,rfl|rfl,rfl⟩
 ·rfl
 ·simp only[V.closed,jft ok,K8]
 ·simp only[V.closed,jft ok,K8]
theorem tys4:env.P.underlying 24=some (.slice 38):=ac
theorem jvt {v:V}{cs:List Sch}(h:IsS v cs){i:Nat}(hi:i<cs.length):∃u,jbN env 24 v none (some (.int .i64 (i:Int))) none=some u/\IsS u (cs.take i):=by
 rcases h with⟨rfl,rfl⟩|⟨q,_,rfl⟩
 ·simp at hi
 ·refine⟨.row (jaY (cs.take i)) i .unk,?_,.inr ⟨.unk,.inl rfl,by simp[Qx,Xt (Nat.le_of_lt hi)]⟩⟩
  have hb:ja0 (some (.int .i64 (i:Int))) cs.length cs.length=some i:=by
   simp only[ja0];simp;omega
  simp only[jbN,tys2,tys4,Kq,jcM,hb];simp[ja0,show ¬i=cs.length by omega,jjX]
theorem jjY(cs:List Sch){i j:Nat}(h:j<i):(cs.take i).getD j Sch.none=cs.getD j Sch.none:=by
 simp[List.getD,Jw,h]
def jbR(f:Nat->Bool):Nat->Nat->Int
 |0,_ => -1
 |m+1,i=>if f i=true then i else jbR f m (i+1)
theorem jdn (f:Nat->Bool):∀m i,0<=jbR f m i↔∃j,i<=j/\j<i+m/\f j=true
  | 0, i => by simp only[jbR];constructor
               · intro h;omega
               · rintro⟨j,h1,h2,_⟩;omega
  | m+1,i=>by
    simp only[jbR];by_cases h:f i=true
    · rw[Kg h]
      exact⟨λ_=>⟨i,aa,aa,h⟩,λ_=>aa⟩
    · rw [Ke h,jdn f m (i+1)]
      constructor
      · rintro⟨j,h1,h2,h3⟩;exact⟨j,aa,aa,h3⟩
      · rintro⟨j,h1,h2,h3⟩
        refine⟨j,?_,aa,h3⟩
        rcases Ql i j with h4|h4
        · omega
        · have:j=i:=by omega
          subst this;exact absurd h3 h
theorem jd9 {f:Nat->Bool}{n i:Nat}(h:i<n):jbR f (n-i) i=if f i=true then(i:Int)else jbR f (n-(i+1)) (i+1):=by
 obtain⟨q,hq⟩:∃q,n-i=q+1:=⟨n-i-1,aa⟩;have hq2:n-(i+1)=q:=aa;rw[hq,hq2];rfl
theorem jdo {f:Nat->Bool}:∀{m i:Nat},¬0<=jbR f m i->jbR f m i = -1
 |0,i,_=>rfl
 |m+1,i,h=>by
  simp only[jbR]at h ⊢;by_cases hf:f i=true
  ·rw[Kg hf]at h;omega
  ·rw[Ke hf]at h ⊢;exact jdo h
theorem jyt:env.P.funcs[172]? = some Tryz.f172:=ac
def jcn(x:Int):V:=.tup [.int .i64 (if 0<=x then x else 0),.bool (decide (0<=x))]
theorem jjZ(x:Int)(U:S):jah env (ev env) 172 [.int .i64 x] U=some (jcn x,U):=by
 refine jb0 rfl rfl jyt rfl (by simp[Tryz.f172]) (by simp[Tryz.f172]) ?_;refine jaC ?_;by_cases h:0<=x
 ·have h2:¬x<0:=by omega
  simp only[Tryz.f172,simprocAttr,zK,Vq,h,h2];simp[jaB,jcn,h]
 ·have h2:x<0:=by omega
  simp only[Tryz.f172,simprocAttr,zK,Vq,h,h2];simp[jaB,jcn,h]
theorem jyu:env.P.funcs[174]? = some Tryz.f174:=ac
theorem jyv:env.P.funcs[201]? = some Tryz.f201:=ac
theorem jnr(nm:List UInt8)(d:Sch)(L:List AObj)(ts:List Nat)(p:Nat)(hp:L[p]? = some (.cells [.str nm] 9)) :
  jah env (ev env) 174 [.agg [.str d.name,.bool d.pub,.int .i64 d.many,d.cv],.ptr p 0] ⟨L,ts⟩=some (.bool (decide (d.name=nm)),⟨L++[.cells [.str d.name,.bool d.pub,.int .i64 d.many,d.cv] 38],ts⟩):=by
 refine jb0 rfl rfl jyu rfl (by simp[Tryz.f174]) (by simp[Tryz.f174]) ?_;refine jaC ?_;by_cases h:d.name=nm<;>
 ·simp only[Tryz.f174,simprocAttr,zK,Vq,tys2,YW,jad,jaE hp,jax,h];simp[jaB,h]
theorem jns(nm:List UInt8)(d:Col)(L:List AObj)(ts:List Nat)(p:Nat)(hp:L[p]? = some (.cells [.str nm] 9)) :
  jah env (ev env) 201 [.agg [.str d.name,.int .i64 d.lo,.int .i64 d.hi,d.w],.ptr p 0] ⟨L,ts⟩=some (.bool (decide (d.name=nm)),⟨L++[.cells [.str d.name,.int .i64 d.lo,.int .i64 d.hi,d.w] 41],ts⟩):=by
 refine jb0 rfl rfl jyv rfl (by simp[Tryz.f201]) (by simp[Tryz.f201]) ?_;refine jaC ?_;by_cases h:d.name=nm<;>
 ·simp only[Tryz.f201,simprocAttr,zK,Vq,tys2,YW,jad,jaE hp,jax,h];simp[jaB,h]
def ja3(l:List Sch)(nm:List UInt8):Nat->Nat->Int:=jbR λi=>decide ((l.getD i Sch.none).name=nm)
def jgH(l:List Col)(nm:List UInt8):Nat->Nat->Int:=jbR λi=>decide ((l.getD i Col.none).name=nm)
theorem jyw:env.P.funcs[173]? = some Tryz.f173:=ac
theorem jeY(nm:List UInt8)(v:V)(l:List Sch)(hv:IsS v l)(ok:OkS l)(hl:l.length<=1000)(L:List AObj)(ts:List Nat)(p:Nat)(hp:L[p]? = some (.cells [.str nm] 9)) :
  ∃X,jah env (ev env) 173 [v,.func 174 [] [.ptr p 0]] ⟨L,ts⟩=some (.int .i64 (ja3 l nm l.length 0),⟨L++X,ts⟩):=by
 suffices h:∃u U',jah env (ev env) 173 [v,.func 174 [] [.ptr p 0]] ⟨L,ts⟩=some (u,U')/\(u=.int .i64 (ja3 l nm l.length 0)/\∃X,U'=⟨L++X,ts⟩) by
  obtain⟨v,U',h1,rfl,X,rfl⟩:=h;exact⟨X,h1⟩
 refine jaD jyw rfl ?_;simp only[Tryz.f173,simprocAttr,zK,Vq,tys2,tys4,jvs hv];refine jau (λm T D U=>D=[]/\T 0=v/\T 1=.func 174 [] [.ptr p 0]/\T 7=.int .i64 l.length/\∃(i:Nat) (X:List AObj),U=⟨L++X,ts⟩/\T 8=.int .i64 i/\i<=l.length/\m=l.length-i/\ja3 l nm l.length 0=ja3 l nm (l.length-i) i) ?_ _ _ _ _ ⟨rfl,rfl,rfl,rfl,0,[],ae,rfl,aa,rfl,rfl⟩;rintro m T D U ⟨rfl,t0,t1,t7,i,X,rfl,t8,hi,rfl,hf⟩;refine jaC ?_;by_cases hlt:i<l.length
 ·have c1:(i:Int)<(l.length:Int):=by omega
  have e1:IntKind.i64.wrap ((i:Int)+1)=((i+1:Nat):Int):=by rw[wrap_i64 aa aa];omega
  have hx:=jkJ hv hlt;have hN:=jnr nm (l.getD i Sch.none) (L++X) ts p (jaE hp X);unfold ja3 at hf;rw[jd9 hlt]at hf;by_cases hn:(l.getD i Sch.none).name=nm
  ·rw[Kg (decide_eq_true hn)]at hf;simp only[hn,decide_true]at hN;simp only[simprocAttr,zK,Vq,tys2,tys4,t0,t1,t7,t8,c1,e1,hx,jem,jaM,hn,hN];exact⟨by rw[ja3,hf];rfl,_,by rw[K7]⟩
  ·rw[Ke (by simp only[Jq];exact hn)]at hf;simp only[hn,decide_false]at hN;simp only[simprocAttr,zK,Vq,tys2,tys4,t0,t1,t7,t8,c1,e1,hx,jem,jaM,hN];exact⟨l.length-(i+1),aa,i+1,_,by rw[K7],rfl,aa,rfl,hf⟩
 ·have hi2:i=l.length:=by omega
  subst hi2;have c1:¬(l.length:Int)<(l.length:Int):=aa;rw[Xn]at hf;simp only[simprocAttr,zK,Vq,t0,t1,t7,t8,c1];exact⟨by rw[hf];rfl,X,rfl⟩
theorem jnt(nm:List UInt8)(dv:V)(ds:List Col)(hd:IsC dv ds)(ok:OkC ds)(hl:ds.length<=1000)(L:List AObj)(ts:List Nat)(p:Nat)(hp:L[p]? = some (.cells [.str nm] 9)) :
  ∃X,jah env (ev env) 200 [dv,.func 201 [] [.ptr p 0]] ⟨L,ts⟩=some (.int .i64 (jgH ds nm ds.length 0),⟨L++X,ts⟩):=by
 suffices h:∃v U',jah env (ev env) 200 [dv,.func 201 [] [.ptr p 0]] ⟨L,ts⟩=some (v,U')/\(v=.int .i64 (jgH ds nm ds.length 0)/\∃X,U'=⟨L++X,ts⟩) by
  obtain⟨v,U',h1,rfl,X,rfl⟩:=h;exact⟨X,h1⟩
 refine jaD jtx rfl ?_;simp only[Tryz.f200,simprocAttr,zK,Vq,tys2,jfs hd];refine jau (λm T D U=>D=[]/\T 0=dv/\T 1=.func 201 [] [.ptr p 0]/\T 7=.int .i64 ds.length/\∃(i:Nat) (X:List AObj),U=⟨L++X,ts⟩/\T 8=.int .i64 i/\i<=ds.length/\m=ds.length-i/\jgH ds nm ds.length 0=jgH ds nm (ds.length-i) i) ?_ _ _ _ _ ⟨rfl,rfl,rfl,rfl,0,[],ae,rfl,aa,rfl,rfl⟩;rintro m T D U ⟨rfl,t0,t1,t7,i,X,rfl,t8,hi,rfl,hf⟩;refine jaC ?_;by_cases hlt:i<ds.length
 ·have c1:(i:Int)<(ds.length:Int):=by omega
  have e1:IntKind.i64.wrap ((i:Int)+1)=((i+1:Nat):Int):=by rw[wrap_i64 aa aa];omega
  have hx:=jel hd hlt;have hN:=jns nm (ds.getD i Col.none) (L++X) ts p (jaE hp X);unfold jgH at hf;rw[jd9 hlt]at hf;by_cases hn:(ds.getD i Col.none).name=nm
  ·rw[Kg (decide_eq_true hn)]at hf;simp only[hn,decide_true]at hN;simp only[simprocAttr,zK,Vq,tys2,t0,t1,t7,t8,c1,e1,hx,jdg,jaM,hn,hN];exact⟨by rw[jgH,hf];rfl,_,by rw[K7]⟩
  ·rw[Ke (by simp only[Jq];exact hn)]at hf;simp only[hn,decide_false]at hN;simp only[simprocAttr,zK,Vq,tys2,t0,t1,t7,t8,c1,e1,hx,jdg,jaM,hN];exact⟨ds.length-(i+1),aa,i+1,_,by rw[K7],rfl,aa,rfl,hf⟩
 ·have hi2:i=ds.length:=by omega
  subst hi2;have c1:¬(ds.length:Int)<(ds.length:Int):=aa;rw[Xn]at hf;simp only[simprocAttr,zK,Vq,t0,t1,t7,t8,c1];exact⟨by rw[hf];rfl,X,rfl⟩
theorem at97:env.P.funcs[97]? = some Tryz.f97:=ac
theorem jyx:env.P.funcs[122]? = some Tryz.f122:=ac
theorem jj0(h:List AObj)(x:Int):jaK h jak (jaB [.int .i64 (if 0<=x then x else 0),.bool (decide (0<=x))])=some (jcn x):=by
 simp only[jaB,jak,jbS,jal,jaR,jav,jaA,Kq,K9,jcn]
theorem find_call(nm:List UInt8)(v:V)(l:List Sch)(hv:IsS v l)(ok:OkS l)(hl:l.length<=1000)(U:S):jah env (ev env) 97 [v,.str nm] U=some (jcn (ja3 l nm l.length 0),U):=by
 refine jaj (by simp[V.closed,jda hv ok]) at97 rfl ?_ U;obtain⟨X,hX⟩:=jeY nm v l hv ok hl [.cells [.str nm] 9] [] 0 rfl;simp only[Tryz.f97,simprocAttr,zK,Vq,tys2,tys3,jai,hX,jjZ,show(V.str nm).cells=[.str nm]from rfl,jcn];exact jj0 _ _
theorem jdB(nm:List UInt8)(a b c:V)(hca:a.closed=true)(hcb:b.closed=true)(hcc:c.closed=true)(cv:V)(cs:List Col)(hc:IsC cv cs)(ok:OkC cs)(hl:cs.length<=1000)(U:S) :
  jah env (ev env) 122 [.agg [a,b,c,cv],.str nm] U=some (jcn (jgH cs nm cs.length 0),U):=by
 refine jaj (by simp[V.closed,V.closed.closedL,ja9 hc ok,hca,hcb,hcc]) jyx rfl ?_ U;obtain⟨X,hX⟩:=jnt nm cv cs hc ok hl [.cells [a,b,c,cv] 38,.cells [.str nm] 9] [] 1 rfl;simp only[Tryz.f122,simprocAttr,zK,Vq,tys2,tys3,jai,YW,hX,jjZ,show(V.str nm).cells=[.str nm]from rfl,jcn];exact jj0 _ _
theorem at96:env.P.funcs[96]? = some Tryz.f96:=ac
noncomputable def je5(l:List Sch)(i:Nat):Int × Int:=jdh (l.getD i Sch.none).name (l.getD i Sch.none).pub (l.getD i Sch.none).many (l.getD i Sch.none).cs
open Classical in
noncomputable def jhz(l:List Sch):Nat->Nat->Int × Int × Int
 |0,_=>(0,-1,-1)
 |m+1,i=>if(je5 l i).1=0 then(if ∃k,k<i/\(l.getD k Sch.none).name=(l.getD i Sch.none).name then(8,(i:Int),-1)else jhz l m (i+1))else((je5 l i).1,(i:Int),(je5 l i).2)
noncomputable def allE(l:List Sch):Int × Int × Int:=if 16<l.length then(4,16,-1)else jhz l l.length 0
def jj1(s:Sch):Prop:=s.name.length<2^63/\s.cs.length<=1000/\∀i,i<s.cs.length->jdL (s.cs.getD i Col.none)
def tri(r:Int × Int × Int):V:=.tup [.int .i64 r.1,.int .i64 r.2.1,.int .i64 r.2.2]
theorem jeZ(h:List AObj)(a b c:Int)(r:Int × Int × Int)(e:(a,b,c)=r):jaK h jak (jaB [.int .i64 a,.int .i64 b,.int .i64 c])=some (tri r):=by
 subst e;simp only[jaB,jak,jbS,jal,jaR,jav,jaA,Kq,K9,tri]
theorem jlZ {l:List Sch}{nm:List UInt8}{i:Nat}(hi:i<l.length):0<=ja3 (l.take i) nm (l.take i).length 0↔∃k,k<i/\(l.getD k Sch.none).name=nm:=by
 have hli:(l.take i).length=i:=by simp;omega
 rw[hli];unfold ja3;rw[jdn];constructor
 ·rintro⟨j,_,h2,h3⟩;have h3:=of_decide_eq_true h3;rw[jjY l aa]at h3;exact⟨j,aa,h3⟩
 ·rintro⟨j,h2,h3⟩;exact⟨j,aa,aa,by rw[jjY l h2];exact decide_eq_true h3⟩
theorem jcu {v:V}{cs:List Col}(h:IsC v cs):v.isCell=true:=by rcases h with⟨rfl,_⟩|⟨q,_,rfl⟩<;>rfl
theorem jgI(v:V)(l:List Sch)(hv:IsS v l)(ok:OkS l)(hl:l.length<=1000)(hs:∀i,i<l.length->jj1 (l.getD i Sch.none))(U:S):jah env (ev env) 96 [v] U=some (tri (allE l),U):=by
 refine jaj (by simp[V.closed,jda hv ok]) at96 rfl ?_ U;by_cases h16:(16:Int)<(l.length:Int)
 ·have he:(4,16,-1)=allE l:=by unfold allE;rw[Kg aa]
  simp only[Tryz.f96,simprocAttr,zK,Vq,tys2,tys3,tys4,jai,jvs hv,h16];exact jeZ _ _ _ _ _ he
 have he:allE l=jhz l l.length 0:=by unfold allE;rw[Ke aa]
 simp only[Tryz.f96,simprocAttr,zK,Vq,tys2,tys3,tys4,jai,jvs hv,h16];refine jau (λm T D U=>D=[]/\T 0=v/\T 14=v/\T 15=.int .i64 l.length/\∃(i:Nat) (X:List AObj),U=⟨X,[]⟩/\T 16=.int .i64 i/\i<=l.length/\m=l.length-i/\allE l=jhz l (l.length-i) i) ?_ _ _ _ _ ⟨rfl,rfl,rfl,rfl,0,[],rfl,rfl,aa,rfl,he⟩;clear he;rintro m T D U ⟨rfl,t0,t14,t15,i,X,rfl,t16,hi,rfl,hf⟩;refine jaC ?_;by_cases hlt:i<l.length
 ·have c1:(i:Int)<(l.length:Int):=by omega
  have e1:IntKind.i64.wrap ((i:Int)+1)=((i+1:Nat):Int):=by rw[wrap_i64 aa aa];omega
  have hx:=jkJ hv hlt;obtain⟨hcc,hok⟩:=ok.at hlt;obtain⟨hs1,hs2,hs3⟩:=hs i hlt;have hic:=jcu hcc;obtain⟨u,hu,hcu⟩:=jvt hv hlt;have oku:OkS (l.take i):=λc h=>ok c (Xw h)
  have hF:=find_call (l.getD i Sch.none).name u (l.take i) hcu oku (by simp;omega);obtain⟨q,hq⟩:∃q,l.length-i=q+1:=⟨l.length-i-1,aa⟩;have hq2:q=l.length-(i+1):=aa;have hstep:jhz l (l.length-i) i=if(je5 l i).1=0 then(if ∃k,k<i/\(l.getD k Sch.none).name=(l.getD i Sch.none).name then(8,(i:Int),-1)else jhz l q (i+1))else((je5 l i).1,(i:Int),(je5 l i).2):=by rw[hq];rfl
  rw[hstep]at hf;have hC:=check_call (l.getD i Sch.none).name (l.getD i Sch.none).pub (l.getD i Sch.none).many (l.getD i Sch.none).cv (l.getD i Sch.none).cs hcc hok hs1 hs2 hs3
  change ∀U,_=some (V.tup [.int .i64 (je5 l i).1,.int .i64 (je5 l i).2],U)at hC
  by_cases hz:(je5 l i).1=0
  ·rw[Kg hz]at hf;simp only[hz]at hC;by_cases hk:0<=ja3 (l.take i) (l.getD i Sch.none).name (l.take i).length 0
   ·rw[Kg ((jlZ hlt).1 hk)]at hf;simp only[simprocAttr,zK,Vq,tys2,tys3,tys4,t0,t14,t15,t16,c1,e1,hx,jem,jaM,z29,jad,jan,jaa,Jj,Qz,K5,Xa,Ks,Qn,jae,jac,jam,hic,YW,jdA,hC,jbO,jbP,jbT,hu,hF,jcn,hk];exact⟨ac,jeZ _ _ _ _ _ hf.symm⟩
   ·rw[Ke (λh=>hk ((jlZ hlt).2 h)),hq2]at hf;simp only[simprocAttr,zK,Vq,tys2,tys3,tys4,t0,t14,t15,t16,c1,e1,hx,jem,jaM,z29,jad,jan,jaa,Jj,Qz,K5,Xa,Ks,Qn,jae,jac,jam,hic,YW,jdA,hC,jbO,jbP,jbT,hu,hF,jcn,hk];exact⟨ac,l.length-(i+1),aa,i+1,_,rfl,rfl,aa,rfl,hf⟩
  ·rw[Ke hz]at hf;simp only[simprocAttr,zK,Vq,tys2,tys3,tys4,t0,t14,t15,t16,c1,e1,hx,jem,jaM,z29,jad,jan,jaa,Jj,Qz,K5,Xa,Ks,Qn,jae,jac,jam,hic,YW,jdA,hC,hz];exact jeZ _ _ _ _ _ hf.symm
 ·have hi2:i=l.length:=by omega
  subst hi2;have c1:¬(l.length:Int)<(l.length:Int):=aa;rw[Xn]at hf;simp only[simprocAttr,zK,Vq,t0,t14,t15,t16,c1];exact jeZ _ _ _ _ _ hf.symm
def jyy(c:Col):Prop:=IsW c.w c.ws/\c.name.length<2^63/\c.ws.length<2^63/\∀i,i<c.ws.length->(c.ws.getD i []).length<2^63
def jwT(s:Sch):Prop:=IsC s.cv s.cs/\(∀c∈s.cs,jyy c)/\s.name.length<2^63/\s.cs.length<2^63
theorem jrL:maxLen<2^63:=af
theorem jwT.okC {s:Sch}(h:jwT s):OkC s.cs:=λc hc=>(h.2.1 c hc).1
theorem jyz:env.P.funcs[183]? = some Tryz.f183:=ac
theorem jvu:env.P.funcs[182]? = some Tryz.f182:=ac
theorem jyA:env.P.funcs[105]? = some Tryz.f105:=ac
theorem jwU:rowO env 39 0 []=some (.row [] 0 .full):=ac
theorem jgJ(h:List AObj)(d:Nat)(ws:List (List UInt8))(c:RCap):jaK h (d+2) (.row (ws.map V.str) ws.length c)=some (.row (ws.map V.str) ws.length .unk):=by
 rw[ja1,jlV];rfl
theorem jhf(w:V)(ws:List (List UInt8))(h:IsW w ws)(hl:ws.length<=1000)(U:S):jah env (ev env) 183 [w] U=some (w,U):=by
 refine jaj (by simp[jct h]) jyz rfl ?_ U;obtain⟨cap,ts',hA,_⟩:=jwM h hl [] []
 rcases h with⟨rfl,rfl⟩|rfl
 ·simp only[Tryz.f183,simprocAttr,zK,Vq,tys2,jai,jfr u24];rfl
 ·simp only[Tryz.f183,simprocAttr,zK,Vq,tys2,jai,jdy u24,jar,jwU,hA];simp only[jaB,jak,jgJ]
theorem jrM {T:Tm}(L:List AObj)(ts:List Nat):opT env true T ⟨L,ts⟩ (.buildSlice 36 0 #[])=some (.hsl L.length 0 0 0 .exact,⟨L++[.cells [] 41],ts⟩):=by
 unfold opT;simp only[jbK,jbh,jbG,jcH,el27,tys2,Kq];simp[jeK,V.cells,S.push,env]
theorem jyB(L:List AObj)(ts:List Nat)(cs:List Col)(hl:cs.length<=1000)(hn:cs.length ≠ 0)(c:RCap):appO env true ⟨L++[.cells [] 41],ts⟩ 36 36 (.hsl L.length 0 0 0 .exact) (.row (jaO cs) cs.length c) =
  some (.hsl (L.length+1) 0 cs.length cs.length (.grow 4),⟨L++[.cells [] 41,.cells (jaO cs) 41],ts⟩):=by
 have hnew:∀h,jaV h 4 cs.length (.row (jaO cs) cs.length c)=some (jaO cs):=λh=>by simp[jaV,jcA,Qu (Vc (jcA cs))]
 have hl2:cs.length*56<=lim/\cs.length<=lim:=by have h:lim=2^40:=rfl;rw[h];omega
 unfold appO;simp only[el27,tys2,by44,zn44,vLen,hnew,Kq,Kl];simp[jbk,hn,hl2,jaV,S.push]
theorem jwV(L:List AObj)(ts:List Nat)(c:RCap):appO env true ⟨L++[.cells [] 41],ts⟩ 36 36 (.hsl L.length 0 0 0 .exact) (.row [] 0 c)=some (.hsl L.length 0 0 0 .exact,⟨L++[.cells [] 41],ts⟩):=by
 unfold appO;simp only[el27,tys2,by44,zn44,vLen,jaV,Kq,Kl];simp[jbk]
theorem mb62:env.mutb 182 3=true:=rfl
theorem jpP(L:List AObj)(ts:List Nat):jah env (ev env) 182 [.nilsl] ⟨L,ts⟩=some (.nilsl,⟨L,ts⟩):=by
 refine jaL jvu rfl ?_;simp only[Tryz.f182,simprocAttr,zK,Vq,tys2,jai,jfr u27];simp only[jaB,and_self]
theorem jnu(L:List AObj)(ts:List Nat)(c:RCap):jah env (ev env) 182 [.row [] 0 c] ⟨L,ts⟩=some (.hsl L.length 0 0 0 .exact,⟨L++[.cells [] 41],ts⟩):=by
 refine jaL jvu rfl ?_;simp only[Tryz.f182,simprocAttr,zK,Vq,tys2,jai,jdy u27,mb62,jrM,jwV];simp only[jaB,and_self]
theorem jpQ(L:List AObj)(ts:List Nat)(cs:List Col)(hl:cs.length<=1000)(hn:cs.length ≠ 0)(c:RCap):jah env (ev env) 182 [.row (jaO cs) cs.length c] ⟨L,ts⟩=some (.hsl (L.length+1) 0 cs.length cs.length (.grow 4),⟨L++[.cells [] 41,.cells (jaO cs) 41],ts⟩):=by
 refine jaL jvu rfl ?_;simp only[Tryz.f182,simprocAttr,zK,Vq,tys2,jai,jdy u27,mb62,jrM,jyB L ts cs hl hn c];simp only[jaB,and_self]
theorem jwW(h:List AObj)(d:Nat){w:V}{ws:List (List UInt8)}(hw:IsW w ws):jaK h (d+2) w=some w:=by
 rcases hw with⟨rfl,_⟩|rfl
 ·rfl
 ·exact jgJ h d ws _
theorem jdZ(h:List AObj)(d:Nat):∀{cs:List Col},OkC cs->(jaO cs).mapM (jaK h (d+2))=some (jaO cs)
 | [],_=>rfl
 |c::cs,ok=>by
  rw[jbI,jal,jal,jal,jal,jdZ h d (cs:=cs) λx hx=>ok x (by simp[hx]),jwW h d (ok c ae),jbC,jav,jav];rfl
theorem jrN {cs:List Col}{i:Nat}(hi:i<cs.length):(jaO cs)[i*4+3]? = some (cs.getD i Col.none).w:=by
 have h:=jhb cs i;rw[joO hi]at h;have h2:((jaO cs).drop (i*4))[3]? = some (cs.getD i Col.none).w:=by rw[h];rfl
 rw[X9]at h2;exact h2
theorem jjn {cs:List V}{off:Nat}{v:V}(h:cs[off]? = some v):jaa cs off [v]=cs:=by
 have hlt:=(K4.1 h).1
 have e:cs=cs.take off++v::cs.drop (off+1):=by
  conv=>lhs;rw[<- Xg off cs,Qk hlt]
  rw[(K4.1 h).2]
 unfold jaa;simp only[Qh,Qr,Jk];rw[K7];exact e.symm
theorem jnv(x:AObj)(a b c d:V)(t:TypeId)(X:List AObj):jab (x::.cells [a,b,c,d] t::X) 4 (.ptr 1 0)=some [a,b,c,d]:=jb7 rfl
theorem jkK(a b c d:V)(t:TypeId)(X:List AObj):jab (.cells [a,b,c,d] t::X) 4 (.ptr 0 0)=some [a,b,c,d]:=jb7 rfl
def unkV:V->V
 | .row a b _=>.row a b .unk
 |v=>v
theorem jhg {cv:V}{cs:List Col}(h:IsC cv cs):IsC (unkV cv) cs:=by
 rcases h with⟨rfl,rfl⟩|⟨q,_,rfl⟩
 ·exact .inl ⟨rfl,rfl⟩
 ·exact .inr ⟨.unk,.inl rfl,rfl⟩
theorem jhh(nm:List UInt8)(pb:Bool)(many:Int)(cv:V)(cs:List Col)(hc:IsC cv cs)(ok:OkC cs)(hl:cs.length<=1000)(hw:∀i,i<cs.length->(cs.getD i Col.none).ws.length<=1000)(U:S) :
  jah env (ev env) 105 [.agg [.str nm,.bool pb,.int .i64 many,cv]] U=some (.agg [.str nm,.bool pb,.int .i64 many,unkV cv],U):=by
 refine jaj (by simp[V.closed,V.closed.closedL,ja9 hc ok]) jyA rfl ?_ U
 rcases hc with⟨rfl,rfl⟩|⟨qc,_,rfl⟩
 ·simp only[Tryz.f105,simprocAttr,zK,Vq,tys2,tys3,jai,z29,YW,jpP,Va,jaa,V.isCell];refine jau (λm T D U=>D=[]/\T 1=.ptr 0 0/\T 2=.ptr 1 0/\T 10=.int .i64 0/\T 11=.int .i64 0/\U=⟨[.cells [.str nm,.bool pb,.int .i64 many,.nilsl] 38,.cells [.str [],.bool false,.int .i64 0,.nilsl] 38],[]⟩) ?_ 0 _ _ _ ⟨rfl,rfl,rfl,rfl,rfl,rfl⟩;rintro m T D U ⟨rfl,t1,t2,t10,t11,rfl⟩;refine jaC ?_;simp only[simprocAttr,zK,Vq,tys2,tys3,t1,t2,t10,t11,jem,jkK,jnv,Va,jaa,V.isCell,YW];simp only[jaB,jak,jey,jal,jaR,jbC,jaA,jav,jng,Kq,K9,unkV]
 ·by_cases hn:cs.length=0
  ·have:cs=[]:=Q6 hn;subst this;simp only[Tryz.f105,simprocAttr,zK,Vq,tys2,tys3,jai,z29,YW,show jaO []=[]from rfl,jnu,jrf,Va,jaa,Nat.reduceAdd,Nat.reduceLeDiff,V.isCell];refine jau (λm T D U=>D=[]/\T 1=.ptr 0 0/\T 2=.ptr 1 0/\T 10=.int .i64 0/\T 11=.int .i64 0/\U=⟨[.cells [.str nm,.bool pb,.int .i64 many,.hsl 2 0 0 0 .exact] 38,.cells [.str [],.bool false,.int .i64 0,.nilsl] 38,.cells [] 41],[]⟩) ?_ 0 _ _ _ ⟨rfl,rfl,rfl,rfl,rfl,rfl⟩;rintro m T D U ⟨rfl,t1,t2,t10,t11,rfl⟩;refine jaC ?_;simp only[simprocAttr,zK,Vq,tys2,tys3,t1,t2,t10,t11,jem,jkK,jnv,Va,jaa,V.isCell,YW]
   have hs:∀x y d,jaK [x,y,.cells [] 41] (d+1) (.hsl 2 0 0 0 .exact)=some (.row [] 0 .unk):=λx y d=>by
    rw[jlI _ _ _ _ _ _ _ [] 41 rfl (Kw _)];rfl
   simp only[jaB,jak,jey,jal,jaR,jbC,jaA,jav,hs,Kq,K9,unkV]
  ·simp only[Tryz.f105,simprocAttr,zK,Vq,tys2,tys3,jai,z29,YW,jpQ _ _ cs hl hn,jrf,Va,jaa,V.isCell]
   refine jau (λm T D U=>D=[]/\T 1=.ptr 0 0/\T 2=.ptr 1 0/\T 10=.int .i64 cs.length/\U=⟨[.cells [.str nm,.bool pb,.int .i64 many,.hsl 3 0 cs.length cs.length (.grow 4)] 38,.cells [.str [],.bool false,.int .i64 0,.nilsl] 38,.cells [] 41,.cells (jaO cs) 41],[]⟩ /\
    ∃i:Nat,T 11=.int .i64 i/\i<=cs.length/\m=cs.length-i) ?_ _ _ _ _ ⟨rfl,rfl,rfl,rfl,rfl,0,rfl,aa,rfl⟩
   rintro m T D U ⟨rfl,t1,t2,t10,rfl,i,t11,hi,rfl⟩;refine jaC ?_;by_cases hlt:i<cs.length
   ·have c1:(i:Int)<(cs.length:Int):=by omega
    have c2:(0:Int)<=(i:Int)/\(i:Int)<(cs.length:Int):=aa;have e1:IntKind.i64.wrap ((i:Int)+1)=((i+1:Nat):Int):=by rw[wrap_i64 aa aa];omega
    have hic:=jbf (ok.at hlt);have hfit:i*4+3+1<=(jaO cs).length:=by rw[jcA];omega
    have hcw:(cs.getD i Col.none).w.cells=[(cs.getD i Col.none).w]:=by rcases ok.at hlt with⟨h,_⟩|h<;>rw[h]<;>rfl
    have hst:(jaO cs).length >= i*4+3+1:=hfit;simp only[simprocAttr,zK,Vq,tys2,tys3,t1,t2,t10,t11,c1,c2,e1,jre,jrN hlt,jhf _ _ (ok.at hlt) (hw i hlt),hcw,hic,hfit,jjn (jrN hlt),Ks,Qn,Xd,List.set_cons_succ];exact⟨ac,cs.length-(i+1),aa,i+1,rfl,aa,rfl⟩
   ·have hi2:i=cs.length:=by omega
    subst hi2;have c1:¬(cs.length:Int)<(cs.length:Int):=aa;simp only[simprocAttr,zK,Vq,tys2,tys3,t1,t2,t10,t11,c1,jem,jkK,jnv,Va,jaa,V.isCell,YW]
    have hs:∀x y z d,jaK [x,y,z,.cells (jaO cs) 41] (d+3) (.hsl 3 0 cs.length cs.length (.grow 4))=some (.row (jaO cs) cs.length .unk):=λx y z d=>by
     rw[jlI _ _ _ _ _ _ _ (jaO cs) 41 rfl (Kw _),Qz,jdZ _ _ ok];rfl
    simp only[jaB,jak,jey,jal,jaR,jbC,jaA,jav,hs,Kq,K9,unkV]
end Go.Proofs.YtajaampgajieeaaGreatDoor
