/- Proved here: schemas are checked and found. Conditions: those of each theorem; no statement of the seat is proved in this text. -/
import Derived.Test.YtajaampgajieeaaGreatDoorScB
set_option linter.unusedSimpArgs false
set_option maxHeartbeats 16000000
set_option maxRecDepth 1000000
set_option linter.unusedVariables false
set_option linter.unusedSectionVars false
namespace Go.Proofs.YtajaampgajieeaaGreatDoor
open Go.Ab
structure Sch where
 name:List UInt8
 pub:Bool
 many:Int
 cv:V
 cs:List Col
def Sch.cells(s:Sch):List V:=[.str s.name,.bool s.pub,.int .i64 s.many,s.cv]
def Sch.none:Sch:=⟨[],false,0,.nilsl,[]⟩
def jbo(l:List Sch):List V:=(l.map Sch.cells).flatten
def IsS(v:V)(l:List Sch):Prop:=(v=.nilsl/\l=[])\/∃q,(q=RCap.unk\/q=RCap.full)/\v=.row (jbo l) l.length q
def OkS(l:List Sch):Prop:=∀s∈l,IsC s.cv s.cs/\OkC s.cs
theorem OkS.at {l:List Sch}(h:OkS l){i:Nat}(hi:i<l.length):IsC (l.getD i Sch.none).cv (l.getD i Sch.none).cs/\OkC (l.getD i Sch.none).cs:=h _ (by simp[List.getD,hi])
theorem jch(c:Sch)(cs:List Sch):jbo (c::cs)=.str c.name::.bool c.pub::.int .i64 c.many::c.cv::jbo cs:=rfl
theorem jgZ:∀(cs:List Sch) (i:Nat),(jbo cs).drop (i*4)=jbo (cs.drop i)
 |cs,0=>by simp
 | [],i+1=>by simp[jbo]
 |c::cs,i+1=>by
  rw[jch,show(i+1)*4=i*4+1+1+1+1 by omega];simp only[Kv];exact jgZ cs i
theorem jjn:∀(cs:List Sch) (i:Nat),(jbo cs).take (i*4)=jbo (cs.take i)
 |cs,0=>by simp[jbo]
 | [],i+1=>by simp[jbo]
 |c::cs,i+1=>by
  rw[jch,show(i+1)*4=i*4+1+1+1+1 by omega];simp only[Jm,jjn cs i,jch]
theorem jn9 {cs:List Sch}{i:Nat}(hi:i<cs.length):jbo (cs.drop i)=.str (cs.getD i Sch.none).name::.bool (cs.getD i Sch.none).pub::.int .i64 (cs.getD i Sch.none).many::(cs.getD i Sch.none).cv::jbo (cs.drop (i+1)):=by
 have e:cs.drop i=cs.getD i Sch.none::cs.drop (i+1):=by
  rw[K7 hi];simp[List.getD,hi]
 rw[e,jch]
theorem jtY {v:V}{cs:List Sch}(h:IsS v cs):ja5 (some (.slice 38)) v=some (.int .i64 cs.length):=by
 rcases h with⟨rfl,rfl⟩|⟨q,_,rfl⟩<;>rfl
theorem jmP {v:V}{cs:List Sch}(h:IsS v cs){i:Nat}(hi:i<cs.length):jax 4 v (.int .i64 (i:Int))=some (.rptr (.str (cs.getD i Sch.none).name::.bool (cs.getD i Sch.none).pub::.int .i64 (cs.getD i Sch.none).many::(cs.getD i Sch.none).cv::jbo (cs.drop (i+1)))):=by
 rcases h with⟨rfl,rfl⟩|⟨q,_,rfl⟩
 ·simp at hi
 ·rw[Ys,Kh (by omega),K8,jgZ,jn9 hi]
theorem jff:∀{l:List Sch},OkS l->V.closed.closedL (jbo l)=true
 | [],h=>rfl
 |c::cs,h=>by
  have h1:=h c (by simp);rw[jch];simp only[V.closed.closedL,V.closed,ja4 h1.1 h1.2,jff (l:=cs) λx hx=>h x (by simp[hx]),K2]
theorem jgo {v:V}{l:List Sch}(h:IsS v l)(ok:OkS l):v.closed=true:=by
 rcases h with⟨rfl,rfl⟩|⟨q,rfl|rfl,rfl⟩
 ·rfl
 ·simp only[V.closed,jff ok,K2]
 ·simp only[V.closed,jff ok,K2]
theorem tys4:env.P.underlying 24=some (.slice 38):=by kernel_rfl
theorem jtZ {v:V}{cs:List Sch}(h:IsS v cs){i:Nat}(hi:i<cs.length):∃u,jb2 env 24 v none (some (.int .i64 (i:Int))) none=some u/\IsS u (cs.take i):=by
 rcases h with⟨rfl,rfl⟩|⟨q,_,rfl⟩
 ·simp at hi
 ·refine⟨.row (jbo (cs.take i)) i .unk,?_,.inr ⟨.unk,.inl rfl,by simp[Qt,Xn (Nat.le_of_lt hi)]⟩⟩
  have hb:ja1 (some (.int .i64 (i:Int))) cs.length cs.length=some i:=by
   simp only[ja1];simp;omega
  simp only[jb2,tys2,tys4,Kl,jcS,hb];simp[ja1,show ¬i=cs.length by omega,jjn]
theorem jjo(cs:List Sch){i j:Nat}(h:j<i):(cs.take i).getD j Sch.none=cs.getD j Sch.none:=by
 simp[List.getD,Jj,h]
def jbH(f:Nat->Bool):Nat->Nat->Int
 |0,_ => -1
 |m+1,i=>if f i=true then i else jbH f m (i+1)
theorem jda (f:Nat->Bool):∀m i,0<=jbH f m i↔∃j,i<=j/\j<i+m/\f j=true
  | 0, i => by simp only[jbH];constructor
               · intro h;omega
               · rintro⟨j,h1,h2,_⟩;omega
  | m+1,i=>by
    simp only[jbH];by_cases h:f i=true
    · rw[Kh h]
      exact⟨λ_=>⟨i,by omega,by omega,h⟩,λ_=>by omega⟩
    · rw [Ke h,jda f m (i+1)]
      constructor
      · rintro⟨j,h1,h2,h3⟩;exact⟨j,by omega,by omega,h3⟩
      · rintro⟨j,h1,h2,h3⟩
        refine⟨j,?_,by omega,h3⟩
        rcases Qf i j with h4|h4
        · omega
        · have:j=i:=by omega
          subst this;exact absurd h3 h
theorem jdW {f:Nat->Bool}{n i:Nat}(h:i<n):jbH f (n-i) i=if f i=true then(i:Int)else jbH f (n-(i+1)) (i+1):=by
 obtain⟨q,hq⟩:∃q,n-i=q+1:=⟨n-i-1,by omega⟩;have hq2:n-(i+1)=q:=by omega
 rw[hq,hq2];rfl
theorem jdb {f:Nat->Bool}:∀{m i:Nat},¬0<=jbH f m i->jbH f m i = -1
 |0,i,_=>rfl
 |m+1,i,h=>by
  simp only[jbH]at h ⊢;by_cases hf:f i=true
  ·rw[Kh hf]at h;omega
  ·rw[Ke hf]at h ⊢;exact jdb h
theorem jxi:env.P.funcs[172]? = some Tryz.f172:=by kernel_rfl
def jcC(x:Int):V:=.tup [.int .i64 (if 0<=x then x else 0),.bool (decide (0<=x))]
theorem jjp(x:Int)(U:S):jai env (ev env) 172 [.int .i64 x] U=some (jcC x,U):=by
 refine jaE rfl rfl jxi rfl (by simp[Tryz.f172]) (by simp[Tryz.f172]) ?_;refine jah ?_;by_cases h:0<=x
 ·have h2:¬x<0:=by omega
  simp only[Tryz.f172,Ka,simprocAttr,Ys,Y0,Kc,Vq,h,h2];simp[jaz,jcC,h]
 ·have h2:x<0:=by omega
  simp only[Tryz.f172,Ka,simprocAttr,Ys,Y0,Kc,Vq,h,h2];simp[jaz,jcC,h]
theorem jxj:env.P.funcs[174]? = some Tryz.f174:=by kernel_rfl
theorem jxk:env.P.funcs[201]? = some Tryz.f201:=by kernel_rfl
theorem jmQ(nm:List UInt8)(d:Sch)(L:List AObj)(ts:List Nat)(p:Nat)(hp:L[p]? = some (.cells [.str nm] 9)) :
  jai env (ev env) 174 [.agg [.str d.name,.bool d.pub,.int .i64 d.many,d.cv],.ptr p 0] ⟨L,ts⟩=some (.bool (decide (d.name=nm)),⟨L++[.cells [.str d.name,.bool d.pub,.int .i64 d.many,d.cv] 38],ts⟩):=by
 refine jaE rfl rfl jxj rfl (by simp[Tryz.f174]) (by simp[Tryz.f174]) ?_;refine jah ?_;by_cases h:d.name=nm<;>
 ·simp only[Tryz.f174,Ka,simprocAttr,Ys,Y0,Kc,Vq,tys2,YW,jad,jaG hp,jaB,h];simp[jaz,h]
theorem jmR(nm:List UInt8)(d:Col)(L:List AObj)(ts:List Nat)(p:Nat)(hp:L[p]? = some (.cells [.str nm] 9)) :
  jai env (ev env) 201 [.agg [.str d.name,.int .i64 d.lo,.int .i64 d.hi,d.w],.ptr p 0] ⟨L,ts⟩=some (.bool (decide (d.name=nm)),⟨L++[.cells [.str d.name,.int .i64 d.lo,.int .i64 d.hi,d.w] 41],ts⟩):=by
 refine jaE rfl rfl jxk rfl (by simp[Tryz.f201]) (by simp[Tryz.f201]) ?_;refine jah ?_;by_cases h:d.name=nm<;>
 ·simp only[Tryz.f201,Ka,simprocAttr,Ys,Y0,Kc,Vq,tys2,YW,jad,jaG hp,jaB,h];simp[jaz,h]
def jbf(l:List Sch)(nm:List UInt8):Nat->Nat->Int:=jbH λi=>decide ((l.getD i Sch.none).name=nm)
def jgp(l:List Col)(nm:List UInt8):Nat->Nat->Int:=jbH λi=>decide ((l.getD i Col.none).name=nm)
theorem jxl:env.P.funcs[173]? = some Tryz.f173:=by kernel_rfl
theorem jeM(nm:List UInt8)(v:V)(l:List Sch)(hv:IsS v l)(ok:OkS l)(hl:l.length<=1000)(L:List AObj)(ts:List Nat)(p:Nat)(hp:L[p]? = some (.cells [.str nm] 9)) :
  ∃X,jai env (ev env) 173 [v,.func 174 [] [.ptr p 0]] ⟨L,ts⟩=some (.int .i64 (jbf l nm l.length 0),⟨L++X,ts⟩):=by
 suffices h:∃u U',jai env (ev env) 173 [v,.func 174 [] [.ptr p 0]] ⟨L,ts⟩=some (u,U')/\(u=.int .i64 (jbf l nm l.length 0)/\∃X,U'=⟨L++X,ts⟩) by
  obtain⟨v,U',h1,rfl,X,rfl⟩:=h;exact⟨X,h1⟩
 refine jaI rfl rfl jxl rfl (by simp[Tryz.f173]) (by simp[Tryz.f173]) (jah ?_);simp only[Tryz.f173,Ka,simprocAttr,Ys,Y0,Kc,Vq,tys2,tys4,jtY hv];refine jay (λm T D U=>D=[]/\T 0=v/\T 1=.func 174 [] [.ptr p 0]/\T 7=.int .i64 l.length/\∃(i:Nat) (X:List AObj),U=⟨L++X,ts⟩/\T 8=.int .i64 i/\i<=l.length/\m=l.length-i/\jbf l nm l.length 0=jbf l nm (l.length-i) i) ?_ _ _ _ _ ⟨rfl,rfl,rfl,rfl,0,[],by simp,rfl,by omega,rfl,rfl⟩;rintro m T D U ⟨rfl,t0,t1,t7,i,X,rfl,t8,hi,rfl,hf⟩;refine jah ?_;by_cases hlt:i<l.length
 ·have c1:(i:Int)<(l.length:Int):=by omega
  have e1:=wS i (by omega)
  have hx:=jmP hv hlt;have hN:=jmQ nm (l.getD i Sch.none) (L++X) ts p (jaG hp X);unfold jbf at hf;rw[jdW hlt]at hf;by_cases hn:(l.getD i Sch.none).name=nm
  ·rw[Kh (decide_eq_true hn)]at hf;simp only[hn,decide_true]at hN;simp only[Ka,simprocAttr,Ys,Y0,Kc,Vq,tys2,tys4,t0,t1,t7,t8,c1,e1,hx,jec,jaK,hn,hN];exact⟨by rw[jbf,hf];rfl,_,by rw[K1]⟩
  ·rw[Ke (by simp only[Q7];exact hn)]at hf;simp only[hn,decide_false]at hN;simp only[Ka,simprocAttr,Ys,Y0,Kc,Vq,tys2,tys4,t0,t1,t7,t8,c1,e1,hx,jec,jaK,hN];exact⟨l.length-(i+1),by omega,i+1,_,by rw[K1],rfl,by omega,rfl,hf⟩
 ·have hi2:i=l.length:=by omega
  subst hi2;have c1:¬(l.length:Int)<(l.length:Int):=by omega
  rw[J6]at hf;simp only[Ka,simprocAttr,Ys,Y0,Kc,Vq,t0,t1,t7,t8,c1];exact⟨by rw[hf];rfl,X,rfl⟩
theorem jmS(nm:List UInt8)(dv:V)(ds:List Col)(hd:IsC dv ds)(ok:OkC ds)(hl:ds.length<=1000)(L:List AObj)(ts:List Nat)(p:Nat)(hp:L[p]? = some (.cells [.str nm] 9)) :
  ∃X,jai env (ev env) 200 [dv,.func 201 [] [.ptr p 0]] ⟨L,ts⟩=some (.int .i64 (jgp ds nm ds.length 0),⟨L++X,ts⟩):=by
 suffices h:∃v U',jai env (ev env) 200 [dv,.func 201 [] [.ptr p 0]] ⟨L,ts⟩=some (v,U')/\(v=.int .i64 (jgp ds nm ds.length 0)/\∃X,U'=⟨L++X,ts⟩) by
  obtain⟨v,U',h1,rfl,X,rfl⟩:=h;exact⟨X,h1⟩
 refine jaI rfl rfl jsf rfl (by simp[Tryz.f200]) (by simp[Tryz.f200]) (jah ?_);simp only[Tryz.f200,Ka,simprocAttr,Ys,Y0,Kc,Vq,tys2,jfe hd];refine jay (λm T D U=>D=[]/\T 0=dv/\T 1=.func 201 [] [.ptr p 0]/\T 7=.int .i64 ds.length/\∃(i:Nat) (X:List AObj),U=⟨L++X,ts⟩/\T 8=.int .i64 i/\i<=ds.length/\m=ds.length-i/\jgp ds nm ds.length 0=jgp ds nm (ds.length-i) i) ?_ _ _ _ _ ⟨rfl,rfl,rfl,rfl,0,[],by simp,rfl,by omega,rfl,rfl⟩;rintro m T D U ⟨rfl,t0,t1,t7,i,X,rfl,t8,hi,rfl,hf⟩;refine jah ?_;by_cases hlt:i<ds.length
 ·have c1:(i:Int)<(ds.length:Int):=by omega
  have e1:=wS i (by omega)
  have hx:=jeW hd hlt;have hN:=jmR nm (ds.getD i Col.none) (L++X) ts p (jaG hp X);unfold jgp at hf;rw[jdW hlt]at hf;by_cases hn:(ds.getD i Col.none).name=nm
  ·rw[Kh (decide_eq_true hn)]at hf;simp only[hn,decide_true]at hN;simp only[Ka,simprocAttr,Ys,Y0,Kc,Vq,tys2,t0,t1,t7,t8,c1,e1,hx,jc6,jaK,hn,hN];exact⟨by rw[jgp,hf];rfl,_,by rw[K1]⟩
  ·rw[Ke (by simp only[Q7];exact hn)]at hf;simp only[hn,decide_false]at hN;simp only[Ka,simprocAttr,Ys,Y0,Kc,Vq,tys2,t0,t1,t7,t8,c1,e1,hx,jc6,jaK,hN];exact⟨ds.length-(i+1),by omega,i+1,_,by rw[K1],rfl,by omega,rfl,hf⟩
 ·have hi2:i=ds.length:=by omega
  subst hi2;have c1:¬(ds.length:Int)<(ds.length:Int):=by omega
  rw[J6]at hf;simp only[Ka,simprocAttr,Ys,Y0,Kc,Vq,t0,t1,t7,t8,c1];exact⟨by rw[hf];rfl,X,rfl⟩
theorem at97:env.P.funcs[97]? = some Tryz.f97:=by kernel_rfl
theorem jxm:env.P.funcs[122]? = some Tryz.f122:=by kernel_rfl
theorem jjq(h:List AObj)(x:Int):jaO h jaj (jaz [.int .i64 (if 0<=x then x else 0),.bool (decide (0<=x))])=some (jcC x):=by
 simp only[jaz,jaj,jbN,jam,jaQ,jav,jaA,Kl,K6,jcC]
theorem find_call(nm:List UInt8)(v:V)(l:List Sch)(hv:IsS v l)(ok:OkS l)(hl:l.length<=1000)(U:S):jai env (ev env) 97 [v,.str nm] U=some (jcC (jbf l nm l.length 0),U):=by
 refine jal rfl rfl (by simp[V.closed,jgo hv ok]) at97 rfl (by simp[Tryz.f97]) (by simp[Tryz.f97]) (jah ?_) U;obtain⟨X,hX⟩:=jeM nm v l hv ok hl [.cells [.str nm] 9] [] 0 rfl;simp only[Tryz.f97,Ka,simprocAttr,Ys,Y0,Kc,Vq,tys2,tys3,jak,hX,jjp,show(V.str nm).cells=[.str nm]from rfl,jcC];exact jjq _ _
theorem jfg(nm:List UInt8)(a b c:V)(hca:a.closed=true)(hcb:b.closed=true)(hcc:c.closed=true)(cv:V)(cs:List Col)(hc:IsC cv cs)(ok:OkC cs)(hl:cs.length<=1000)(U:S) :
  jai env (ev env) 122 [.agg [a,b,c,cv],.str nm] U=some (jcC (jgp cs nm cs.length 0),U):=by
 refine jal rfl rfl (by simp[V.closed,V.closed.closedL,ja4 hc ok,hca,hcb,hcc]) jxm rfl (by simp[Tryz.f122]) (by simp[Tryz.f122]) (jah ?_) U;obtain⟨X,hX⟩:=jmS nm cv cs hc ok hl [.cells [a,b,c,cv] 38,.cells [.str nm] 9] [] 1 rfl;simp only[Tryz.f122,Ka,simprocAttr,Ys,Y0,Kc,Vq,tys2,tys3,jak,YW,hX,jjp,show(V.str nm).cells=[.str nm]from rfl,jcC];exact jjq _ _
theorem at96:env.P.funcs[96]? = some Tryz.f96:=by kernel_rfl
noncomputable def jeU(l:List Sch)(i:Nat):Int × Int:=jc7 (l.getD i Sch.none).name (l.getD i Sch.none).pub (l.getD i Sch.none).many (l.getD i Sch.none).cs
open Classical in
noncomputable def jhl(l:List Sch):Nat->Nat->Int × Int × Int
 |0,_=>(0,-1,-1)
 |m+1,i=>if(jeU l i).1=0 then(if ∃k,k<i/\(l.getD k Sch.none).name=(l.getD i Sch.none).name then(8,(i:Int),-1)else jhl l m (i+1))else((jeU l i).1,(i:Int),(jeU l i).2)
noncomputable def allE(l:List Sch):Int × Int × Int:=if 16<l.length then(4,16,-1)else jhl l l.length 0
def jjr(s:Sch):Prop:=s.name.length<2^63/\s.cs.length<=1000/\∀i,i<s.cs.length->jdT (s.cs.getD i Col.none)
def tri(r:Int × Int × Int):V:=.tup [.int .i64 r.1,.int .i64 r.2.1,.int .i64 r.2.2]
theorem jeN(h:List AObj)(a b c:Int)(r:Int × Int × Int)(e:(a,b,c)=r):jaO h jaj (jaz [.int .i64 a,.int .i64 b,.int .i64 c])=some (tri r):=by
 subst e;simp only[jaz,jaj,jbN,jam,jaQ,jav,jaA,Kl,K6,tri]
theorem jlp {l:List Sch}{nm:List UInt8}{i:Nat}(hi:i<l.length):0<=jbf (l.take i) nm (l.take i).length 0↔∃k,k<i/\(l.getD k Sch.none).name=nm:=by
 have hli:(l.take i).length=i:=by simp;omega
 rw[hli];unfold jbf;rw[jda];constructor
 ·rintro⟨j,_,h2,h3⟩;have h3:=of_decide_eq_true h3;rw[jjo l (by omega)]at h3;exact⟨j,by omega,h3⟩
 ·rintro⟨j,h2,h3⟩;exact⟨j,by omega,by omega,by rw[jjo l h2];exact decide_eq_true h3⟩
theorem jd4 {v:V}{cs:List Col}(h:IsC v cs):v.isCell=true:=by rcases h with⟨rfl,_⟩|⟨q,_,rfl⟩<;>rfl
theorem jgq(v:V)(l:List Sch)(hv:IsS v l)(ok:OkS l)(hl:l.length<=1000)(hs:∀i,i<l.length->jjr (l.getD i Sch.none))(U:S):jai env (ev env) 96 [v] U=some (tri (allE l),U):=by
 refine jal rfl rfl (by simp[V.closed,jgo hv ok]) at96 rfl (by simp[Tryz.f96]) (by simp[Tryz.f96]) (jah ?_) U;by_cases h16:(16:Int)<(l.length:Int)
 ·have he:(4,16,-1)=allE l:=by unfold allE;rw[Kh (by omega)]
  simp only[Tryz.f96,Ka,simprocAttr,Ys,Y0,Kc,Vq,tys2,tys3,tys4,jak,jtY hv,h16];exact jeN _ _ _ _ _ he
 have he:allE l=jhl l l.length 0:=by unfold allE;rw[Ke (by omega)]
 simp only[Tryz.f96,Ka,simprocAttr,Ys,Y0,Kc,Vq,tys2,tys3,tys4,jak,jtY hv,h16];refine jay (λm T D U=>D=[]/\T 0=v/\T 14=v/\T 15=.int .i64 l.length/\∃(i:Nat) (X:List AObj),U=⟨X,[]⟩/\T 16=.int .i64 i/\i<=l.length/\m=l.length-i/\allE l=jhl l (l.length-i) i) ?_ _ _ _ _ ⟨rfl,rfl,rfl,rfl,0,[],rfl,rfl,by omega,rfl,he⟩;clear he;rintro m T D U ⟨rfl,t0,t14,t15,i,X,rfl,t16,hi,rfl,hf⟩;refine jah ?_;by_cases hlt:i<l.length
 ·have c1:(i:Int)<(l.length:Int):=by omega
  have e1:=wS i (by omega)
  have hx:=jmP hv hlt;obtain⟨hcc,hok⟩:=ok.at hlt;obtain⟨hs1,hs2,hs3⟩:=hs i hlt;have hic:=jd4 hcc;obtain⟨u,hu,hcu⟩:=jtZ hv hlt;have oku:OkS (l.take i):=λc h=>ok c (List.mem_of_mem_take h)
  have hF:=find_call (l.getD i Sch.none).name u (l.take i) hcu oku (by simp;omega);obtain⟨q,hq⟩:∃q,l.length-i=q+1:=⟨l.length-i-1,by omega⟩;have hq2:q=l.length-(i+1):=by omega
  have hstep:jhl l (l.length-i) i=if(jeU l i).1=0 then(if ∃k,k<i/\(l.getD k Sch.none).name=(l.getD i Sch.none).name then(8,(i:Int),-1)else jhl l q (i+1))else((jeU l i).1,(i:Int),(jeU l i).2):=by rw[hq];rfl
  rw[hstep]at hf;have hC:=check_call (l.getD i Sch.none).name (l.getD i Sch.none).pub (l.getD i Sch.none).many (l.getD i Sch.none).cv (l.getD i Sch.none).cs hcc hok hs1 hs2 hs3
  change ∀U,_=some (V.tup [.int .i64 (jeU l i).1,.int .i64 (jeU l i).2],U)at hC
  by_cases hz:(jeU l i).1=0
  ·rw[Kh hz]at hf;simp only[hz]at hC;by_cases hk:0<=jbf (l.take i) (l.getD i Sch.none).name (l.take i).length 0
   ·rw[Kh ((jlp hlt).1 hk)]at hf;simp only[Ka,simprocAttr,Ys,Y0,Kc,Vq,tys2,tys3,tys4,t0,t14,t15,t16,c1,e1,hx,jec,jaK,z29,jad,jao,jaa,Jb,Qk,Kv,Jt,Ku,Qj,jae,jac,jas,hic,YW,jdm,hC,jbX,jbY,jb3,hu,hF,jcC,hk];exact⟨by kernel_rfl,jeN _ _ _ _ _ hf.symm⟩
   ·rw[Ke (λh=>hk ((jlp hlt).2 h)),hq2]at hf;simp only[Ka,simprocAttr,Ys,Y0,Kc,Vq,tys2,tys3,tys4,t0,t14,t15,t16,c1,e1,hx,jec,jaK,z29,jad,jao,jaa,Jb,Qk,Kv,Jt,Ku,Qj,jae,jac,jas,hic,YW,jdm,hC,jbX,jbY,jb3,hu,hF,jcC,hk];exact⟨by kernel_rfl,l.length-(i+1),by omega,i+1,_,rfl,rfl,by omega,rfl,hf⟩
  ·rw[Ke hz]at hf;simp only[Ka,simprocAttr,Ys,Y0,Kc,Vq,tys2,tys3,tys4,t0,t14,t15,t16,c1,e1,hx,jec,jaK,z29,jad,jao,jaa,Jb,Qk,Kv,Jt,Ku,Qj,jae,jac,jas,hic,YW,jdm,hC,hz];exact jeN _ _ _ _ _ hf.symm
 ·have hi2:i=l.length:=by omega
  subst hi2;have c1:¬(l.length:Int)<(l.length:Int):=by omega
  rw[J6]at hf;simp only[Ka,simprocAttr,Ys,Y0,Kc,Vq,t0,t14,t15,t16,c1];exact jeN _ _ _ _ _ hf.symm
def jxn(c:Col):Prop:=IsW c.w c.ws/\c.name.length<2^63/\c.ws.length<2^63/\∀i,i<c.ws.length->(c.ws.getD i []).length<2^63
def jvo(s:Sch):Prop:=IsC s.cv s.cs/\(∀c∈s.cs,jxn c)/\s.name.length<2^63/\s.cs.length<2^63
theorem jqQ:maxLen<2^63:=by decide
theorem jvo.okC {s:Sch}(h:jvo s):OkC s.cs:=λc hc=>(h.2.1 c hc).1
theorem jxo:env.P.funcs[183]? = some Tryz.f183:=by kernel_rfl
theorem jt0:env.P.funcs[182]? = some Tryz.f182:=by kernel_rfl
theorem jxp:env.P.funcs[105]? = some Tryz.f105:=by kernel_rfl
theorem jvp:rowO env 39 0 []=some (.row [] 0 .full):=by kernel_rfl
theorem jgr(h:List AObj)(d:Nat)(ws:List (List UInt8))(c:RCap):jaO h (d+2) (.row (ws.map V.str) ws.length c)=some (.row (ws.map V.str) ws.length .unk):=by
 rw[jbb,jll];rfl
theorem jg0(w:V)(ws:List (List UInt8))(h:IsW w ws)(hl:ws.length<=1000)(U:S):jai env (ev env) 183 [w] U=some (w,U):=by
 refine jal rfl rfl (by simp[jco h]) jxo rfl (by simp[Tryz.f183]) (by simp[Tryz.f183]) (jah ?_) U;obtain⟨cap,ts',hA,_⟩:=jvh h hl [] []
 rcases h with⟨rfl,rfl⟩|rfl
 ·simp only[Tryz.f183,Ka,simprocAttr,Ys,Y0,Kc,Vq,tys2,jak,jfd u24];rfl
 ·simp only[Tryz.f183,Ka,simprocAttr,Ys,Y0,Kc,Vq,tys2,jak,jdl u24,jar,jvp,hA];simp only[jaz,jaj,jgr]
theorem jqR {T:Tm}(L:List AObj)(ts:List Nat):opT env true T ⟨L,ts⟩ (.buildSlice 36 0 #[])=some (.hsl L.length 0 0 0 .exact,⟨L++[.cells [] 41],ts⟩):=by
 unfold opT;simp only[ja3,jbs,jbw,jcw,el27,tys2,Kl];simp[jei,V.cells,S.push,env]
theorem jxq(L:List AObj)(ts:List Nat)(cs:List Col)(hl:cs.length<=1000)(hn:cs.length ≠ 0)(c:RCap):appO env true ⟨L++[.cells [] 41],ts⟩ 36 36 (.hsl L.length 0 0 0 .exact) (.row (jaL cs) cs.length c) =
  some (.hsl (L.length+1) 0 cs.length cs.length (.grow 4),⟨L++[.cells [] 41,.cells (jaL cs) 41],ts⟩):=by
 have hnew:∀h,jaU h 4 cs.length (.row (jaL cs) cs.length c)=some (jaL cs):=λh=>by simp[jaU,jcs,Qo (Xm (jcs cs))]
 have hl2:cs.length*56<=lim/\cs.length<=lim:=by have h:lim=2^40:=rfl;rw[h];omega
 unfold appO;simp only[el27,tys2,by44,zn44,vLen,hnew,Kl,Kk];simp[jbm,hn,hl2,jaU,S.push]
theorem jvq(L:List AObj)(ts:List Nat)(c:RCap):appO env true ⟨L++[.cells [] 41],ts⟩ 36 36 (.hsl L.length 0 0 0 .exact) (.row [] 0 c)=some (.hsl L.length 0 0 0 .exact,⟨L++[.cells [] 41],ts⟩):=by
 unfold appO;simp only[el27,tys2,by44,zn44,vLen,jaU,Kl,Kk];simp[jbm]
theorem mb62:env.mutb 182 3=true:=rfl
theorem jo4(L:List AObj)(ts:List Nat):jai env (ev env) 182 [.nilsl] ⟨L,ts⟩=some (.nilsl,⟨L,ts⟩):=by
 refine jaE rfl rfl jt0 rfl (by simp[Tryz.f182]) (by simp[Tryz.f182]) (jah ?_);simp only[Tryz.f182,Ka,simprocAttr,Ys,Y0,Kc,Vq,tys2,jak,jfd u27];simp only[jaz,and_self]
theorem jmT(L:List AObj)(ts:List Nat)(c:RCap):jai env (ev env) 182 [.row [] 0 c] ⟨L,ts⟩=some (.hsl L.length 0 0 0 .exact,⟨L++[.cells [] 41],ts⟩):=by
 refine jaE rfl rfl jt0 rfl (by simp[Tryz.f182]) (by simp[Tryz.f182]) (jah ?_);simp only[Tryz.f182,Ka,simprocAttr,Ys,Y0,Kc,Vq,tys2,jak,jdl u27,mb62,jqR,jvq];simp only[jaz,and_self]
theorem jo5(L:List AObj)(ts:List Nat)(cs:List Col)(hl:cs.length<=1000)(hn:cs.length ≠ 0)(c:RCap):jai env (ev env) 182 [.row (jaL cs) cs.length c] ⟨L,ts⟩=some (.hsl (L.length+1) 0 cs.length cs.length (.grow 4),⟨L++[.cells [] 41,.cells (jaL cs) 41],ts⟩):=by
 refine jaE rfl rfl jt0 rfl (by simp[Tryz.f182]) (by simp[Tryz.f182]) (jah ?_);simp only[Tryz.f182,Ka,simprocAttr,Ys,Y0,Kc,Vq,tys2,jak,jdl u27,mb62,jqR,jxq L ts cs hl hn c];simp only[jaz,and_self]
theorem jvr(h:List AObj)(d:Nat){w:V}{ws:List (List UInt8)}(hw:IsW w ws):jaO h (d+2) w=some w:=by
 rcases hw with⟨rfl,_⟩|rfl
 ·rfl
 ·exact jgr h d ws _
theorem jdI(h:List AObj)(d:Nat):∀{cs:List Col},OkC cs->(jaL cs).mapM (jaO h (d+2))=some (jaL cs)
 | [],_=>rfl
 |c::cs,ok=>by
  rw[jbC,jam,jam,jam,jam,jdI h d (cs:=cs) λx hx=>ok x (by simp[hx]),jvr h d (ok c (by simp)),jbM,jav,jav];rfl
theorem jqS {cs:List Col}{i:Nat}(hi:i<cs.length):(jaL cs)[i*4+3]? = some (cs.getD i Col.none).w:=by
 have h:=jgW cs i;rw[jn7 hi]at h;have h2:((jaL cs).drop (i*4))[3]? = some (cs.getD i Col.none).w:=by rw[h];rfl
 rw[Xk]at h2;exact h2
theorem jiT {cs:List V}{off:Nat}{v:V}(h:cs[off]? = some v):jaa cs off [v]=cs:=by
 have hlt:=(Kw.1 h).1
 have e:cs=cs.take off++v::cs.drop (off+1):=by
  conv=>lhs;rw[<- Xl off cs,K7 hlt]
  rw[(Kw.1 h).2]
 unfold jaa;simp only[K9,Qh,Jc];rw[K1];exact e.symm
theorem jmU(x:AObj)(a b c d:V)(t:TypeId)(X:List AObj):jab (x::.cells [a,b,c,d] t::X) 4 (.ptr 1 0)=some [a,b,c,d]:=jb4 rfl
theorem jkf(a b c d:V)(t:TypeId)(X:List AObj):jab (.cells [a,b,c,d] t::X) 4 (.ptr 0 0)=some [a,b,c,d]:=jb4 rfl
def unkV:V->V
 | .row a b _=>.row a b .unk
 |v=>v
theorem jkg {cv:V}{cs:List Col}(h:IsC cv cs):IsC (unkV cv) cs:=by
 rcases h with⟨rfl,rfl⟩|⟨q,_,rfl⟩
 ·exact .inl ⟨rfl,rfl⟩
 ·exact .inr ⟨.unk,.inl rfl,rfl⟩
theorem jg1(nm:List UInt8)(pb:Bool)(many:Int)(cv:V)(cs:List Col)(hc:IsC cv cs)(ok:OkC cs)(hl:cs.length<=1000)(hw:∀i,i<cs.length->(cs.getD i Col.none).ws.length<=1000)(U:S) :
  jai env (ev env) 105 [.agg [.str nm,.bool pb,.int .i64 many,cv]] U=some (.agg [.str nm,.bool pb,.int .i64 many,unkV cv],U):=by
 refine jal rfl rfl (by simp[V.closed,V.closed.closedL,ja4 hc ok]) jxp rfl (by simp[Tryz.f105]) (by simp[Tryz.f105]) (jah ?_) U
 rcases hc with⟨rfl,rfl⟩|⟨qc,_,rfl⟩
 ·simp only[Tryz.f105,Ka,simprocAttr,Ys,Y0,Kc,Vq,tys2,tys3,jak,z29,YW,jo4,Va,jaa,V.isCell];refine jay (λm T D U=>D=[]/\T 1=.ptr 0 0/\T 2=.ptr 1 0/\T 10=.int .i64 0/\T 11=.int .i64 0/\U=⟨[.cells [.str nm,.bool pb,.int .i64 many,.nilsl] 38,.cells [.str [],.bool false,.int .i64 0,.nilsl] 38],[]⟩) ?_ 0 _ _ _ ⟨rfl,rfl,rfl,rfl,rfl,rfl⟩;rintro m T D U ⟨rfl,t1,t2,t10,t11,rfl⟩;refine jah ?_;simp only[Ka,simprocAttr,Ys,Y0,Kc,Vq,tys2,tys3,t1,t2,t10,t11,jec,jkf,jmU,Va,jaa,V.isCell,YW];simp only[jaz,jaj,jep,jam,jaQ,jbM,jaA,jav,jmE,Kl,K6,unkV]
 ·by_cases hn:cs.length=0
  ·have:cs=[]:=Qn hn;subst this;simp only[Tryz.f105,Ka,simprocAttr,Ys,Y0,Kc,Vq,tys2,tys3,jak,z29,YW,show jaL []=[]from rfl,jmT,jqq,Va,jaa,Nat.reduceAdd,Nat.reduceLeDiff,V.isCell];refine jay (λm T D U=>D=[]/\T 1=.ptr 0 0/\T 2=.ptr 1 0/\T 10=.int .i64 0/\T 11=.int .i64 0/\U=⟨[.cells [.str nm,.bool pb,.int .i64 many,.hsl 2 0 0 0 .exact] 38,.cells [.str [],.bool false,.int .i64 0,.nilsl] 38,.cells [] 41],[]⟩) ?_ 0 _ _ _ ⟨rfl,rfl,rfl,rfl,rfl,rfl⟩;rintro m T D U ⟨rfl,t1,t2,t10,t11,rfl⟩;refine jah ?_;simp only[Ka,simprocAttr,Ys,Y0,Kc,Vq,tys2,tys3,t1,t2,t10,t11,jec,jkf,jmU,Va,jaa,V.isCell,YW]
   have hs:∀x y d,jaO [x,y,.cells [] 41] (d+1) (.hsl 2 0 0 0 .exact)=some (.row [] 0 .unk):=λx y d=>by
    rw[jld _ _ _ _ _ _ _ [] 41 rfl (Kz _)];rfl
   simp only[jaz,jaj,jep,jam,jaQ,jbM,jaA,jav,hs,Kl,K6,unkV]
  ·simp only[Tryz.f105,Ka,simprocAttr,Ys,Y0,Kc,Vq,tys2,tys3,jak,z29,YW,jo5 _ _ cs hl hn,jqq,Va,jaa,V.isCell]
   refine jay (λm T D U=>D=[]/\T 1=.ptr 0 0/\T 2=.ptr 1 0/\T 10=.int .i64 cs.length/\U=⟨[.cells [.str nm,.bool pb,.int .i64 many,.hsl 3 0 cs.length cs.length (.grow 4)] 38,.cells [.str [],.bool false,.int .i64 0,.nilsl] 38,.cells [] 41,.cells (jaL cs) 41],[]⟩ /\
    ∃i:Nat,T 11=.int .i64 i/\i<=cs.length/\m=cs.length-i) ?_ _ _ _ _ ⟨rfl,rfl,rfl,rfl,rfl,0,rfl,by omega,rfl⟩
   rintro m T D U ⟨rfl,t1,t2,t10,rfl,i,t11,hi,rfl⟩;refine jah ?_;by_cases hlt:i<cs.length
   ·have c1:(i:Int)<(cs.length:Int):=by omega
    have c2:(0:Int)<=(i:Int)/\(i:Int)<(cs.length:Int):=by omega
    have e1:=wS i (by omega)
    have hic:=ja8 (ok.at hlt);have hfit:i*4+3+1<=(jaL cs).length:=by rw[jcs];omega
    have hcw:(cs.getD i Col.none).w.cells=[(cs.getD i Col.none).w]:=by rcases ok.at hlt with⟨h,_⟩|h<;>rw[h]<;>rfl
    have hst:(jaL cs).length >= i*4+3+1:=hfit;simp only[Ka,simprocAttr,Ys,Y0,Kc,Vq,tys2,tys3,t1,t2,t10,t11,c1,c2,e1,jqp,jqS hlt,jg0 _ _ (ok.at hlt) (hw i hlt),hcw,hic,hfit,jiT (jqS hlt),Ku,Qj,Ju,List.set_cons_succ];exact⟨by kernel_rfl,cs.length-(i+1),by omega,i+1,rfl,by omega,rfl⟩
   ·have hi2:i=cs.length:=by omega
    subst hi2;have c1:¬(cs.length:Int)<(cs.length:Int):=by omega
    simp only[Ka,simprocAttr,Ys,Y0,Kc,Vq,tys2,tys3,t1,t2,t10,t11,c1,jec,jkf,jmU,Va,jaa,V.isCell,YW]
    have hs:∀x y z d,jaO [x,y,z,.cells (jaL cs) 41] (d+3) (.hsl 3 0 cs.length cs.length (.grow 4))=some (.row (jaL cs) cs.length .unk):=λx y z d=>by
     rw[jld _ _ _ _ _ _ _ (jaL cs) 41 rfl (Kz _),Qk,jdI _ _ ok];rfl
    simp only[jaz,jaj,jep,jam,jaQ,jbM,jaA,jav,hs,Kl,K6,unkV]
end Go.Proofs.YtajaampgajieeaaGreatDoor
