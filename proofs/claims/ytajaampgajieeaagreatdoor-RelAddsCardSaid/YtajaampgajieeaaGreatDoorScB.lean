/- Proved here: a schema is checked. Conditions: each theorem's own. -/
import Derived.Test.YtajaampgajieeaaGreatDoorScA
set_option linter.unusedSimpArgs false
set_option maxHeartbeats 16000000
set_option maxRecDepth 1000000
set_option linter.unusedVariables false
set_option linter.unusedSectionVars false
namespace Go.Proofs.YtajaampgajieeaaGreatDoor
open Go.Ab
theorem jxx:env.P.funcs[296]? = some Tryz.f296:=by kernel_rfl
theorem jxy:env.P.funcs[297]? = some Tryz.f297:=by kernel_rfl
theorem jxz:env.P.funcs[325]? = some Tryz.f325:=by kernel_rfl
theorem jxA:env.P.funcs[270]? = some Tryz.f270:=by kernel_rfl
theorem jhv(s:List UInt8)(hs:s.length<2^63)(U:S):jah env (ev env) 297 [.str s] U=some (.bool (!decide (jaZ s)),U):=by
 refine jak rfl jxy rfl ?_ U;by_cases h:jaZ s<;>
 ·simp only[Tryz.f297,simprocAttr,zK,Vq,jc7 s hs,h];simp only[jaz,jai,jaB,Jg,Jy]
noncomputable def jeD(ws:List (List UInt8)):Nat->Nat->Int
 |0,_ => -1
 |m+1,i=>if jaZ (ws.getD i [])then jeD ws m (i+1)else i
theorem jjE (ws:List (List UInt8)):∀m i,0<=jeD ws m i↔∃j,i<=j/\j<i+m/\¬jaZ (ws.getD j [])
  | 0, i => by simp only[jeD];constructor
               · intro h;omega
               · rintro⟨j,h1,h2,_⟩;omega
  | m+1,i=>by
    simp only[jeD];by_cases h:jaZ (ws.getD i [])
    · rw [Kh h,jjE ws m (i+1)]
      constructor
      · rintro⟨j,h1,h2,h3⟩;exact⟨j,by omega,by omega,h3⟩
      · rintro⟨j,h1,h2,h3⟩
        refine⟨j,?_,by omega,h3⟩
        rcases Ql i j with h4|h4
        · omega
        · have:j=i:=by omega
          subst this;exact absurd h h3
    · rw[Ke h]
      exact⟨λ_=>⟨i,by omega,by omega,h⟩,λ_=>by omega⟩
theorem jjF(w:V)(ws:List (List UInt8))(h:IsW w ws)(hl:ws.length<=1000)(hs:∀i,i<ws.length->(ws.getD i []).length<2^63)(U:S) :
  jah env (ev env) 325 [w,.func 297 [] []] U=some (.int .i64 (jeD ws ws.length 0),U):=by
 refine jak (by simp[V.closed,V.closed.closedL,jcu h]) jxz rfl ?_ U;simp only[Tryz.f325,simprocAttr,zK,Vq,jcV h];refine jax (λm T D U=>D=[]/\U=S.empty/\T 0=w/\T 1=.func 297 [] []/\T 7=.int .i64 ws.length/\∃i:Nat,T 8=.int .i64 i/\i<=ws.length/\m=ws.length-i/\jeD ws ws.length 0=jeD ws (ws.length-i) i) ?_ _ _ _ _ ⟨rfl,rfl,rfl,rfl,rfl,0,rfl,by omega,rfl,rfl⟩;rintro m T D U ⟨rfl,rfl,t0,t1,t7,i,t8,hi,rfl,hf⟩;refine jaC ?_;by_cases hlt:i<ws.length
 ·have c1:(i:Int)<(ws.length:Int):=by omega
  have e1:=wS i (by omega)
  have hx:=jnd h hlt;obtain⟨q,hq⟩:∃q,ws.length-i=q+1:=⟨ws.length-i-1,by omega⟩;have hq2:q=ws.length-(i+1):=by omega
  have hstep:jeD ws (ws.length-i) i=if jaZ (ws.getD i [])then jeD ws q (i+1)else i:=by rw[hq];rfl
  rw[hstep]at hf;by_cases hn:jaZ (ws.getD i [])
  ·rw[Kh hn,hq2]at hf;simp only[simprocAttr,zK,Vq,t0,t1,t7,t8,c1,e1,hx,jas,jhv _ (hs i hlt),hn,Jg];exact⟨ws.length-(i+1),by omega,i+1,rfl,by omega,rfl,hf⟩
  ·rw[Ke hn]at hf;simp only[simprocAttr,zK,Vq,t0,t1,t7,t8,c1,e1,hx,jas,jhv _ (hs i hlt),hn,Jy];simp only[jaz,jai,jau,hf]
 ·have hi2:i=ws.length:=by omega
  subst hi2;have c1:¬(ws.length:Int)<(ws.length:Int):=by omega
  have hf2:jeD ws ws.length 0 = -1:=by rw[hf,Xk];rfl
  simp only[simprocAttr,zK,Vq,t0,t1,t7,t8,c1];simp only[jaz,jai,jau,hf2]
open Classical in
theorem jc8(w:V)(ws:List (List UInt8))(h:IsW w ws)(hl:ws.length<=1000)(hs:∀i,i<ws.length->(ws.getD i []).length<2^63)(U:S) :
  jah env (ev env) 296 [w,.func 297 [] []] U=some (.bool (decide (∃i,i<ws.length/\¬jaZ (ws.getD i []))),U):=by
 refine jak (by simp[V.closed,V.closed.closedL,jcu h]) jxx rfl ?_ U
 have hk:(0<=jeD ws ws.length 0)↔∃i,i<ws.length/\¬jaZ (ws.getD i []):=by
  rw[jjE];constructor
  ·rintro⟨j,_,h2,h3⟩;exact⟨j,by omega,h3⟩
  ·rintro⟨j,h2,h3⟩;exact⟨j,by omega,by omega,h3⟩
 by_cases hp:∃i,i<ws.length/\¬jaZ (ws.getD i [])
 ·have c0:0<=jeD ws ws.length 0:=hk.2 hp;simp only[Tryz.f296,simprocAttr,zK,Vq,jjF w ws h hl hs,c0];simp only[jaz,jai,jaB,hp,decide_true]
 ·have c0:¬0<=jeD ws ws.length 0:=λh=>hp (hk.1 h)
  simp only[Tryz.f296,simprocAttr,zK,Vq,jjF w ws h hl hs,c0];simp only[jaz,jai,jaB,hp,decide_false]
theorem jxB:env.P.funcs[298]? = some Tryz.f298:=by kernel_rfl
def keyV(s:List UInt8):V:=.agg [.str s,.bool false]
theorem jrh(a b:List UInt8):eqT env 8 309 (keyV a) (keyV b)=some (a==b):=by
 have h:eqT env 8 309 (keyV a) (keyV b)=(some (a==b)).bind λr=>if r then some true else some false:=by kernel_rfl
 rw[h];cases a==b<;>rfl
theorem jri(a:List UInt8):jdG env 8 309 (keyV a)=true:=by kernel_rfl
theorem jsL(a:List UInt8):jh4 8 (keyV a) (keyV a)=true:=by simp[jh4,keyV]
def entV(p:List UInt8 × Nat):V × V × Nat:=(keyV p.1,.agg [],p.2)
def keys(ps:List (List UInt8 × Nat)):List (List UInt8):=ps.map (·.1)
theorem jrj(s:List UInt8):∀(ps:List (List UInt8 × Nat)) (i:Nat),s ∉ keys ps->jdn env 309 (keyV s) (ps.map entV) i=some none
 | [],i,h=>rfl
 |p::ps,i,h=>by
  have h1:¬s=p.1:=λe=>h (by simp[keys,e])
  have h2:s ∉ keys ps:=λe=>h (by simp only[keys,K9,Ji];exact .inr e)
  simp only[K9,jdn,entV,jrh,Kn,beq_eq_false_iff_ne.2 h1,Kr,Km];exact jrj s ps (i+1) h2
theorem joz(s:List UInt8):∀(ps:List (List UInt8 × Nat)) (i:Nat),s∈keys ps->∃j n,jdn env 309 (keyV s) (ps.map entV) i=some (some (i+j))/\ps[j]? = some (s,n)
 | [],i,h=>by simp[keys]at h
 | p::ps,i,h=>by
  by_cases h1:s=p.1
  ·refine⟨0,p.2,?_,by simp[h1]⟩;simp only[K9,jdn,entV,jrh,Kn,h1,beq_self_eq_true,Kl,Vg]
  ·have h2:s∈keys ps:=by
    simp only[keys,K9,Ji]at h;exact h.resolve_left h1
   obtain⟨j,n,h3,h4⟩:=joz s ps (i+1) h2;refine⟨j+1,n,?_,by simpa using h4⟩;simp only[K9,jdn,entV,jrh,Kn,beq_eq_false_iff_ne.2 h1,Kr,Km];rw[show i+(j+1)=i+1+j by omega];exact h3
def jiw (E:Env)(t:TypeId)(mv kv xv:V)(U:S):Option (V × S) :=
    match E.P.underlying t,mv with
    | some (.map kt _),.map b =>
      match U.heap[b]? with
      | some (.map es clock) =>
        if jdG E 8 kt kv then
          match jdn E kt kv es 0 with
          |some none=>some (.tup [],U.set b (.map (es++[(kv,xv,clock)]) (clock+1)))
          | some (some j) =>
            match es[j]? with
            |some e=>if jh4 8 e.1 kv then some (.tup [],U.set b (.map (es.set j (kv,xv,e.2.2)) clock))else none
            |none=>none
          |none=>none
        else none
      |_=>none
    |_,_=>none
theorem jeE {E:Env}{m:Bool}{T:Tm}{U:S}(t:TypeId)(a b c:Operand):opT E m T U (.mapUpdate t a b c)=(jaP E T a).bind λmv=>(jaP E T b).bind λkv=>(jaP E T c).bind λxv=>jiw E t mv kv xv U:=rfl
theorem u164:env.P.underlying 306=some (.map 309 307):=by kernel_rfl
theorem jrk(s:List UInt8)(ps:List (List UInt8 × Nat))(clock:Nat)(hp:List AObj)(b:Nat)(ts:List Nat)(hh:hp[b]? = some (.map (ps.map entV) clock)) :
  ∃ps' clock',jiw env 306 (.map b) (keyV s) (.agg []) ⟨hp,ts⟩=some (.tup [],⟨hp.set b (.map (ps'.map entV) clock'),ts⟩)/\keys ps'=if s∈keys ps then keys ps else keys ps++[s]:=by
 unfold jiw;simp only[u164,hh,jri,Kl];by_cases h:s∈keys ps
 ·obtain⟨j,n,h1,h2⟩:=joz s ps 0 h;rw[Jk]at h1;have h3:(ps.map entV)[j]? = some (entV (s,n)):=by simp[h2]
  have h4:(ps.map entV).set j (keyV s,.agg [],n)=ps.map entV:=by
   apply Xt;intro i;by_cases e:i=j
   ·subst e
    have:i<(ps.map entV).length:=by
     rcases Ql i (ps.map entV).length with h|h
     ·exact h
     ·rw[Qk h]at h3;simp at h3
    rw[Kq this,h3];rfl
   ·rw[Ki (λh=>e h.symm)]
  refine⟨ps,clock,?_,by rw[Kh h]⟩;simp only[h1,h3,entV,jsL,Kl,S.set];rw[h4]
 ·refine⟨ps++[(s,clock)],clock+1,?_,by rw[Ke h];simp[keys]⟩;simp only[jrj s ps 0 h,S.set,J6,K9,Jz,entV]
theorem jrl(s:List UInt8):jbM env 309 [(0,.str s)]=some (keyV s):=by kernel_rfl
theorem jpu:jbM env 307 []=some (.agg []):=by kernel_rfl
theorem jnf {T:Tm}{U:S}{m:Bool}:opT env m T U (.makeMap 306 none)=some (.map U.heap.length,U.push (.map [] 0)):=by
 unfold opT;simp only[ja5,ja7,jbA,u164]
theorem upd0(s:List UInt8)(ps:List (List UInt8 × Nat))(clock:Nat):∃ps' clock',jiw env 306 (.map 0) (keyV s) (.agg []) ⟨[.map (ps.map entV) clock],[]⟩=some (.tup [],⟨[.map (ps'.map entV) clock'],[]⟩)/\keys ps'=if s∈keys ps then keys ps else keys ps++[s] :=
 jrk s ps clock [.map (ps.map entV) clock] 0 [] rfl
theorem jv7(ps:List (List UInt8 × Nat))(clock:Nat)(ts:List Nat):lenO ⟨[.map (ps.map entV) clock],ts⟩ (some (.map 309 307)) (.map 0)=some (.int .i64 (keys ps).length,⟨[.map (ps.map entV) clock],ts⟩):=by
 rw[jsF (es:=ps.map entV) (c:=clock) _ _ _ _ rfl];simp[keys]
def Dup(ws:List (List UInt8))(i:Nat):Prop:=∃k j,k<j/\j<i/\ws.getD k []=ws.getD j []
open Classical in
theorem je1(w:V)(ws:List (List UInt8))(h:IsW w ws)(hl:ws.length<=1000)(U:S):jah env (ev env) 298 [w] U=some (.bool (decide (jiu ws)),U):=by
 refine jak (by simp[jcu h]) jxB rfl ?_ U;simp only[Tryz.f298,simprocAttr,zK,Vq,jaj,jcV h,jnf]
 refine jax (λm T D U=>D=[]/\T 0=w/\T 3=.map 0/\T 7=w/\T 8=.int .i64 ws.length/\∃(i clock:Nat) (ps:List (List UInt8 × Nat)),U=⟨[.map (ps.map entV) clock],[]⟩/\T 9=.int .i64 i/\i<=ws.length/\m=ws.length-i /\
  (∀s,s∈keys ps↔∃j,j<i/\ws.getD j []=s)/\(keys ps).length<=i/\((keys ps).length<i↔Dup ws i)) ?_ _ _ _ _
  ⟨rfl,rfl,rfl,rfl,rfl,0,0,[],rfl,rfl,by omega,rfl,λs=>⟨λh=>by simp[keys]at h,λ⟨j,h,_⟩=>by omega⟩,by simp[keys],⟨λh=>by omega,λ⟨k,j,_,h,_⟩=>by omega⟩⟩
 rintro m T D U ⟨rfl,t0,t3,t7,t8,i,clock,ps,rfl,t9,hi,rfl,hmem,hlen,hdup⟩;refine jaC ?_;by_cases hlt:i<ws.length
 ·have c1:(i:Int)<(ws.length:Int):=by omega
  have e1:=wS i (by omega)
  have hx:=jnd h hlt;obtain⟨ps',clock',hU,hk⟩:=upd0 (ws.getD i []) ps clock;simp only[simprocAttr,zK,Vq,t0,t3,t7,t8,t9,c1,e1,hx,jas,jeE,jrl,jpu,hU];refine⟨ws.length-(i+1),by omega,i+1,clock',ps',rfl,rfl,by omega,rfl,λs => ?_,?_,?_⟩
  ·rw[hk];constructor
   ·intro hs;split at hs
    ·obtain⟨j,h1,h2⟩:=(hmem s).1 hs;exact⟨j,by omega,h2⟩
    ·rcases Ju.1 hs with hs|hs
     ·obtain⟨j,h1,h2⟩:=(hmem s).1 hs;exact⟨j,by omega,h2⟩
     ·exact⟨i,by omega,(Xb.1 hs).symm⟩
   ·rintro⟨j,h1,h2⟩;have hj:j<i\/j=i:=by omega
    split
    ·rename_i hin
     rcases hj with hj|rfl
     ·exact(hmem s).2 ⟨j,hj,h2⟩
     ·rw[<- h2];exact hin
    ·rcases hj with hj|rfl
     ·exact List.mem_append_left _ ((hmem s).2 ⟨j,hj,h2⟩)
     ·rw[<- h2];simp
  ·rw[hk];split
   ·omega
   ·simp only[Kk,Qi,Qo];omega
  ·rw[hk];split
   ·rename_i hin;obtain⟨j,h1,h2⟩:=(hmem _).1 hin;exact⟨λ_=>⟨j,i,h1,by omega,h2⟩,λ_=>by omega⟩
   ·rename_i hin;simp only[Kk,Qi,Qo];constructor
    ·intro hh;obtain⟨k,j,h1,h2,h3⟩:=hdup.1 (by omega);exact⟨k,j,h1,by omega,h3⟩
    ·rintro⟨k,j,h1,h2,h3⟩;have hj:j<i\/j=i:=by omega
     rcases hj with hj|rfl
     ·have:=hdup.2 ⟨k,j,h1,hj,h3⟩;omega
     ·exact absurd ((hmem _).2 ⟨k,h1,h3⟩) hin
 ·have hi2:i=ws.length:=by omega
  subst hi2;have c1:¬(ws.length:Int)<(ws.length:Int):=by omega
  have hT:((keys ps).length:Int)<(ws.length:Int)↔jiu ws:=by
   have:Dup ws ws.length↔jiu ws:=Iff.rfl;rw[<- this,<- hdup];omega
  by_cases hp:((keys ps).length:Int)<(ws.length:Int)
  ·have h2:=hT.1 hp;simp only[simprocAttr,zK,Vq,t0,t3,t7,t8,t9,c1,u164,jv7,jcV h,hp];simp only[jaz,jai,jaB,h2,decide_true]
  ·have h2:¬jiu ws:=λq=>hp (hT.2 q)
   simp only[simprocAttr,zK,Vq,t0,t3,t7,t8,t9,c1,u164,jv7,jcV h,hp];simp only[jaz,jai,jaB,h2,decide_false]
open Classical in
theorem jpv(c:Col)(h:IsW c.w c.ws)(hs:jdC c)(h0:c.ws.length ≠ 0)(U:S):jah env (ev env) 270 [.agg [.str c.name,.int .i64 c.lo,.int .i64 c.hi,c.w]] U=some (.int .i64 (colE c),U):=by
 refine jak (by simp[V.closed,V.closed.closedL,jcu h]) jxA rfl ?_ U;obtain⟨hs1,hs2,hs3⟩:=hs;have hic:=jbd h;obtain⟨nm,lo,hi,w,ws⟩:=c;simp only at h hs1 hs2 hs3 hic h0 ⊢;by_cases h1:(64:Int)<(ws.length:Int)
 ·have he:colE ⟨nm,lo,hi,w,ws⟩=4:=by simp only[colE];rw[Ke h0,Kh (by omega)]
  simp only[Tryz.f270,simprocAttr,zK,Vq,tys2,jaj,jcV h,h1];simp only[jaz,jai,jau,he]
 by_cases hp:∃i,i<ws.length/\¬jaZ (ws.getD i [])
 ·have he:colE ⟨nm,lo,hi,w,ws⟩=19:=by simp only[colE];rw[Ke h0,Ke (by omega),Kh hp]
  simp only[Tryz.f270,simprocAttr,zK,Vq,tys2,jaj,jcV h,h1,jc8 w ws h hs2 hs3,hp];simp only[jaz,jai,jau,he]
 by_cases h2:jiu ws
 ·have he:colE ⟨nm,lo,hi,w,ws⟩=8:=by simp only[colE];rw[Ke h0,Ke (by omega),Ke hp,Kh h2]
  simp only[Tryz.f270,simprocAttr,zK,Vq,tys2,jaj,jcV h,h1,jc8 w ws h hs2 hs3,hp,je1 w ws h hs2,h2];simp only[jaz,jai,jau,he]
 have e2:IntKind.i64.wrap ((ws.length:Int)-1)=(ws.length:Int)-1:=wrap_i64 (by omega) (by omega);by_cases h3:lo=0
 ·by_cases h4:hi=(ws.length:Int)-1
  ·have he:colE ⟨nm,lo,hi,w,ws⟩=0:=by simp only[colE];rw[Ke h0,Ke (by omega),Ke hp,Ke h2,Ke (by rintro(h|h);exact h h3;exact h h4)]
   simp only[Tryz.f270,simprocAttr,zK,Vq,tys2,jaj,jcV h,h1,jc8 w ws h hs2 hs3,hp,je1 w ws h hs2,h2,h3,e2,h4];simp only[jaz,jai,jau,<- h3,<- h4,he]
  ·have he:colE ⟨nm,lo,hi,w,ws⟩=2:=by simp only[colE];rw[Ke h0,Ke (by omega),Ke hp,Ke h2,Kh (.inr h4)]
   simp only[Tryz.f270,simprocAttr,zK,Vq,tys2,jaj,jcV h,h1,jc8 w ws h hs2 hs3,hp,je1 w ws h hs2,h2,h3,e2,h4];simp only[jaz,jai,jau,<- h3,he]
 ·have he:colE ⟨nm,lo,hi,w,ws⟩=2:=by simp only[colE];rw[Ke h0,Ke (by omega),Ke hp,Ke h2,Kh (.inl h3)]
  simp only[Tryz.f270,simprocAttr,zK,Vq,tys2,jaj,jcV h,h1,jc8 w ws h hs2 hs3,hp,je1 w ws h hs2,h2,h3];simp only[jaz,jai,jau,he]
theorem jxC:env.P.funcs[269]? = some Tryz.f269:=by kernel_rfl
theorem jpw(c d:Col)(hd:IsW d.w d.ws)(L:List AObj)(ts:List Nat)(p:Nat)(hp:L[p]? = some (.cells [.str c.name,.int .i64 c.lo,.int .i64 c.hi,c.w] 41)) :
  jah env (ev env) 269 [.agg [.str d.name,.int .i64 d.lo,.int .i64 d.hi,d.w],.ptr p 0] ⟨L,ts⟩=some (.bool (decide (d.name=c.name)),⟨L++[.cells [.str d.name,.int .i64 d.lo,.int .i64 d.hi,d.w] 41],ts⟩):=by
 refine jbZ rfl rfl jxC rfl (by simp[Tryz.f269]) (by simp[Tryz.f269]) ?_;refine jaC ?_
 have hlt:p<L.length:=by
  rcases Ql p L.length with h|h
  ·exact h
  ·rw[Qk h]at hp;simp at hp
 have hE:∀o,(L++[o])[p]? = some (.cells [.str c.name,.int .i64 c.lo,.int .i64 c.hi,c.w] 41):=λo=>by rw[Kj hlt];exact hp
 by_cases h:d.name=c.name<;>
 ·simp only[Tryz.f269,simprocAttr,zK,Vq,tys2,YW,jad,hE,jay,h];simp[jaz,h]
theorem jsM:env.P.funcs[200]? = some Tryz.f200:=by kernel_rfl
theorem jxD:env.P.funcs[231]? = some Tryz.f231:=by kernel_rfl
def jeg(ds:List Col)(nm:List UInt8):Nat->Nat->Int
 |0,_ => -1
 |m+1,i=>if(ds.getD i Col.none).name=nm then i else jeg ds nm m (i+1)
theorem jjG (ds:List Col)(nm:List UInt8):∀m i,0<=jeg ds nm m i↔∃j,i<=j/\j<i+m/\(ds.getD j Col.none).name=nm
  | 0, i => by simp only[jeg];constructor
               · intro h;omega
               · rintro⟨j,h1,h2,_⟩;omega
  | m+1,i=>by
    simp only[jeg];by_cases h:(ds.getD i Col.none).name=nm
    · rw[Kh h]
      exact⟨λ_=>⟨i,by omega,by omega,h⟩,λ_=>by omega⟩
    · rw [Ke h,jjG ds nm m (i+1)]
      constructor
      · rintro⟨j,h1,h2,h3⟩;exact⟨j,by omega,by omega,h3⟩
      · rintro⟨j,h1,h2,h3⟩
        refine⟨j,?_,by omega,h3⟩
        rcases Ql i j with h4|h4
        · omega
        · have:j=i:=by omega
          subst this;exact absurd h3 h
theorem jng(c:Col)(dv:V)(ds:List Col)(hd:IsC dv ds)(ok:OkC ds)(hl:ds.length<=1000)(L:List AObj)(ts:List Nat)(p:Nat)(hp:L[p]? = some (.cells [.str c.name,.int .i64 c.lo,.int .i64 c.hi,c.w] 41)) :
  ∃X,jah env (ev env) 200 [dv,.func 269 [] [.ptr p 0]] ⟨L,ts⟩=some (.int .i64 (jeg ds c.name ds.length 0),⟨L++X,ts⟩):=by
 have hlt0:p<L.length:=by
  rcases Ql p L.length with h|h
  ·exact h
  ·rw[Qk h]at hp;simp at hp
 suffices h:∃v U',jah env (ev env) 200 [dv,.func 269 [] [.ptr p 0]] ⟨L,ts⟩=some (v,U')/\(v=.int .i64 (jeg ds c.name ds.length 0)/\∃X,U'=⟨L++X,ts⟩) by
  obtain⟨v,U',h1,rfl,X,rfl⟩:=h;exact⟨X,h1⟩
 refine jaF jsM rfl ?_;simp only[Tryz.f200,simprocAttr,zK,Vq,tys2,jfu hd];refine jax (λm T D U=>D=[]/\T 0=dv/\T 1=.func 269 [] [.ptr p 0]/\T 7=.int .i64 ds.length/\∃(i:Nat) (X:List AObj),U=⟨L++X,ts⟩/\T 8=.int .i64 i/\i<=ds.length/\m=ds.length-i/\jeg ds c.name ds.length 0=jeg ds c.name (ds.length-i) i) ?_ _ _ _ _ ⟨rfl,rfl,rfl,rfl,0,[],by simp,rfl,by omega,rfl,rfl⟩;rintro m T D U ⟨rfl,t0,t1,t7,i,X,rfl,t8,hi,rfl,hf⟩;refine jaC ?_;by_cases hlt:i<ds.length
 ·have c1:(i:Int)<(ds.length:Int):=by omega
  have e1:=wS i (by omega)
  have hx:=jeb hd hlt;have hN:=jpw c (ds.getD i Col.none) (ok.at hlt) (L++X) ts p (by rw[Kj hlt0];exact hp);obtain⟨q,hq⟩:∃q,ds.length-i=q+1:=⟨ds.length-i-1,by omega⟩;have hq2:q=ds.length-(i+1):=by omega
  have hstep:jeg ds c.name (ds.length-i) i=if(ds.getD i Col.none).name=c.name then(i:Int)else jeg ds c.name q (i+1):=by rw[hq];rfl
  rw[hstep]at hf;by_cases hn:(ds.getD i Col.none).name=c.name
  ·rw[Kh hn]at hf;simp only[hn,decide_true]at hN;simp only[simprocAttr,zK,Vq,tys2,t0,t1,t7,t8,c1,e1,hx,jdc,jaL,hn,hN];exact⟨by rw[hf];rfl,_,by rw[K6]⟩
  ·rw[Ke hn,hq2]at hf;simp only[hn,decide_false]at hN;simp only[simprocAttr,zK,Vq,tys2,t0,t1,t7,t8,c1,e1,hx,jdc,jaL,hN];exact⟨ds.length-(i+1),by omega,i+1,_,by rw[K6],rfl,by omega,rfl,hf⟩
 ·have hi2:i=ds.length:=by omega
  subst hi2;have c1:¬(ds.length:Int)<(ds.length:Int):=by omega
  have hf2:jeg ds c.name ds.length 0 = -1:=by rw[hf,Xk];rfl
  simp only[simprocAttr,zK,Vq,t0,t1,t7,t8,c1];exact⟨by rw[hf2];rfl,X,rfl⟩
open Classical in
theorem ji7(c:Col)(dv:V)(ds:List Col)(hd:IsC dv ds)(ok:OkC ds)(hl:ds.length<=1000)(L:List AObj)(ts:List Nat)(p:Nat)(hp:L[p]? = some (.cells [.str c.name,.int .i64 c.lo,.int .i64 c.hi,c.w] 41)) :
  ∃X,jah env (ev env) 231 [dv,.func 269 [] [.ptr p 0]] ⟨L,ts⟩=some (.bool (decide (∃j,j<ds.length/\(ds.getD j Col.none).name=c.name)),⟨L++X,ts⟩):=by
 obtain⟨X,hX⟩:=jng c dv ds hd ok hl L ts p hp;refine⟨X,?_⟩
 have hk:(0<=jeg ds c.name ds.length 0)↔∃j,j<ds.length/\(ds.getD j Col.none).name=c.name:=by
  rw[jjG];constructor
  ·rintro⟨j,_,h2,h3⟩;exact⟨j,by omega,h3⟩
  ·rintro⟨j,h2,h3⟩;exact⟨j,by omega,by omega,h3⟩
 refine jbZ rfl rfl jxD rfl (by simp[Tryz.f231]) (by simp[Tryz.f231]) ?_;refine jaC ?_;by_cases hq:∃j,j<ds.length/\(ds.getD j Col.none).name=c.name
 ·have c0:0<=jeg ds c.name ds.length 0:=hk.2 hq;simp only[Tryz.f231,simprocAttr,zK,Vq,hX,c0];simp only[jaz,hq,decide_true,and_self]
 ·have c0:¬0<=jeg ds c.name ds.length 0:=λh=>hq (hk.1 h)
  simp only[Tryz.f231,simprocAttr,zK,Vq,hX,c0];simp only[jaz,hq,decide_false,and_self]
theorem jxE:env.P.funcs[238]? = some Tryz.f238:=by kernel_rfl
theorem jjH:∀(cs:List Col) (i:Nat),(jaN cs).take (i*4)=jaN (cs.take i)
 |cs,0=>by simp[jaN]
 | [],i+1=>by simp[jaN]
 |c::cs,i+1=>by
  rw[jbI,show(i+1)*4=i*4+1+1+1+1 by omega];simp only[Jv,jjH cs i,jbI]
theorem juF {v:V}{cs:List Col}(h:IsC v cs){i:Nat}(hi:i<cs.length):∃u,jb9 env 36 v none (some (.int .i64 (i:Int))) none=some u/\IsC u (cs.take i):=by
 rcases h with⟨rfl,rfl⟩|⟨q,_,rfl⟩
 ·simp at hi
 ·refine⟨.row (jaN (cs.take i)) i .unk,?_,.inr ⟨.unk,.inl rfl,by simp[Q7,X5 (Nat.le_of_lt hi)]⟩⟩
  have hb:ja2 (some (.int .i64 (i:Int))) cs.length cs.length=some i:=by
   simp only[ja2];simp;omega
  simp only[jb9,tys2,Kn,jcW,hb];simp[ja2,show ¬i=cs.length by omega,jjH]
theorem jlL(cs:List Col){i j:Nat}(h:j<i):(cs.take i).getD j Col.none=cs.getD j Col.none:=by
 simp[List.getD,Jt,h]
open Classical in
theorem jd5(cv:V)(cs:List Col)(hc:IsC cv cs)(ok:OkC cs)(hl:cs.length<=1000)(i:Nat)(hlt:i<cs.length)(hsc:jdC (cs.getD i Col.none))(U:S) :
  jah env (ev env) 238 [cv,.int .i64 i] U=some (.int .i64 (colX cs i),U):=by
 refine jak (by simp[V.closed,V.closed.closedL,ja3 hc ok]) jxE rfl ?_ U;have hwc:=ok.at hlt;have hic:=jbd hwc;by_cases hnm:jaZ (cs.getD i Col.none).name
 case neg =>
  have hX:colX cs i=19:=by simp only[colX];rw[Kh hnm]
  simp only[Tryz.f238,simprocAttr,zK,Vq,tys2,jeb hc hlt,jdc,jaL,z44,jaj,Qo,jaa,Jd,Q9,K7,J8,Kv,Qr,Xa,jae,jac,hic,YW,jc7 _ hsc.1,hnm];simp only[jaz,jai,jau,hX]
 obtain⟨u,hu,hcu⟩:=juF hc hlt;have oku:OkC (cs.take i):=λc h=>ok c (Vs h)
 obtain⟨X,hX⟩:=ji7 (cs.getD i Col.none) u (cs.take i) hcu oku (by simp;omega) [.cells [.str (cs.getD i Col.none).name,.int .i64 (cs.getD i Col.none).lo,.int .i64 (cs.getD i Col.none).hi,(cs.getD i Col.none).w] 41] [] 0 rfl
 have hk:(∃j,j<(cs.take i).length/\((cs.take i).getD j Col.none).name=(cs.getD i Col.none).name)↔∃k,k<i/\(cs.getD k Col.none).name=(cs.getD i Col.none).name:=by
  have hli:(cs.take i).length=i:=by simp;omega
  rw[hli];constructor
  ·rintro⟨j,h1,h2⟩;exact⟨j,h1,by rwa[jlL cs h1]at h2⟩
  ·rintro⟨j,h1,h2⟩;exact⟨j,h1,by rwa[jlL cs h1]⟩
 simp only[hk,Jr,Je]at hX;by_cases hd:∃k,k<i/\(cs.getD k Col.none).name=(cs.getD i Col.none).name
 ·have hE:colX cs i=8:=by simp only[colX];rw[Ke (not_not_intro hnm),Kh hd]
  simp only[hd,decide_true]at hX;simp only[Tryz.f238,simprocAttr,zK,Vq,tys2,jeb hc hlt,jdc,jaL,z44,jaj,Qo,jaa,Jd,Q9,K7,J8,Kv,Qr,Xa,jae,jac,hic,YW,jc7 _ hsc.1,hnm,jb0,jb1,jca,hu,hX];simp only[jaz,jai,jau,hE]
 have hE:colX cs i=colE (cs.getD i Col.none):=by simp only[colX];rw[Ke (not_not_intro hnm),Ke hd]
 simp only[hd,decide_false]at hX;have hL:jab (.cells [.str (cs.getD i Col.none).name,.int .i64 (cs.getD i Col.none).lo,.int .i64 (cs.getD i Col.none).hi,(cs.getD i Col.none).w] 41::X) 4 (.ptr 0 0)=some [.str (cs.getD i Col.none).name,.int .i64 (cs.getD i Col.none).lo,.int .i64 (cs.getD i Col.none).hi,(cs.getD i Col.none).w]:=jcb rfl;by_cases h0:(0:Int)<((cs.getD i Col.none).ws.length:Int)
 ·have hne:(cs.getD i Col.none).ws.length ≠ 0:=by omega
  simp only[Tryz.f238,simprocAttr,zK,Vq,tys2,jeb hc hlt,jdc,jaL,z44,jaj,Qo,jaa,Jd,Q9,K7,J8,Kv,Qr,Xa,jae,jac,hic,YW,jc7 _ hsc.1,hnm,jb0,jb1,jca,hu,hX,jcV hwc,h0,hL,jpv _ hwc hsc hne];simp only[jaz,jai,jau,hE]
 have hz:(cs.getD i Col.none).ws.length=0:=by omega
 by_cases h1:(cs.getD i Col.none).lo < -1000000
 ·have he:colE (cs.getD i Col.none)=2:=by simp only[colE,hz,Kl];rw[Kh (.inl h1)]
  simp only[Tryz.f238,simprocAttr,zK,Vq,tys2,jeb hc hlt,jdc,jaL,z44,jaj,Qo,jaa,Jd,Q9,K7,J8,Kv,Qr,Xa,jae,jac,hic,YW,jc7 _ hsc.1,hnm,jb0,jb1,jca,hu,hX,jcV hwc,h0,h1];simp only[jaz,jai,jau,hE,he]
 by_cases h2:1000000<(cs.getD i Col.none).hi
 ·have he:colE (cs.getD i Col.none)=2:=by simp only[colE,hz,Kl];rw[Kh (.inr (.inl h2))]
  simp only[Tryz.f238,simprocAttr,zK,Vq,tys2,jeb hc hlt,jdc,jaL,z44,jaj,Qo,jaa,Jd,Q9,K7,J8,Kv,Qr,Xa,jae,jac,hic,YW,jc7 _ hsc.1,hnm,jb0,jb1,jca,hu,hX,jcV hwc,h0,h1,h2];simp only[jaz,jai,jau,hE,he]
 by_cases h3:(cs.getD i Col.none).hi<(cs.getD i Col.none).lo
 ·have he:colE (cs.getD i Col.none)=2:=by simp only[colE,hz,Kl];rw[Kh (.inr (.inr h3))]
  simp only[Tryz.f238,simprocAttr,zK,Vq,tys2,jeb hc hlt,jdc,jaL,z44,jaj,Qo,jaa,Jd,Q9,K7,J8,Kv,Qr,Xa,jae,jac,hic,YW,jc7 _ hsc.1,hnm,jb0,jb1,jca,hu,hX,jcV hwc,h0,h1,h2,h3];simp only[jaz,jai,jau,hE,he]
 ·have he:colE (cs.getD i Col.none)=0:=by simp only[colE,hz,Kl];rw[Ke (by omega)]
  simp only[Tryz.f238,simprocAttr,zK,Vq,tys2,jeb hc hlt,jdc,jaL,z44,jaj,Qo,jaa,Jd,Q9,K7,J8,Kv,Qr,Xa,jae,jac,hic,YW,jc7 _ hsc.1,hnm,jb0,jb1,jca,hu,hX,jcV hwc,h0,h1,h2,h3];simp only[jaz,jai,jau,hE,he]
theorem jxF:env.P.funcs[254]? = some Tryz.f254:=by kernel_rfl
theorem jxG:env.P.funcs[255]? = some Tryz.f255:=by kernel_rfl
theorem jxH:env.P.funcs[256]? = some Tryz.f256:=by kernel_rfl
theorem jxI:env.P.funcs[258]? = some Tryz.f258:=by kernel_rfl
theorem jxJ:env.P.funcs[259]? = some Tryz.f259:=by kernel_rfl
theorem jxK:env.P.funcs[260]? = some Tryz.f260:=by kernel_rfl
theorem jxL:env.P.funcs[223]? = some Tryz.f223:=by kernel_rfl
theorem tys3:sz env 64=some 1/\sz env 32=some 1/\sz env 224=some 1/\env.P.underlying 222=some (.slice 224)/\(∀h p,jaH env h 64 p=(jab h 1 p).bind (·[0]?))/\(∀h p,jaH env h 32 p=(jab h 1 p).bind (·[0]?))/\(∀h p,jaH env h 224 p=(jab h 1 p).bind (·[0]?)):=by
 have g30:aggT env 64=some false:=by kernel_rfl
 have g32:aggT env 32=some false:=by kernel_rfl
 have g76:aggT env 224=some false:=by kernel_rfl
 exact⟨by kernel_rfl,by kernel_rfl,by kernel_rfl,by kernel_rfl,λ_ _=>jav g30,λ_ _=>jav g32,λ_ _=>jav g76⟩
theorem jpx(g:FuncId)(e:Int)(L:List AObj)(ts:List Nat) :
  jah env (ev env) 254 [.func g [] [],.int .i64 e] ⟨L,ts⟩=some (.func 255 [] [.ptr L.length 0,.ptr (L.length+1) 0],⟨L++[.cells [.func g [] []] 64,.cells [.int .i64 e] 32],ts⟩):=by
 refine jbZ rfl rfl jxF rfl (by simp[Tryz.f254]) (by simp[Tryz.f254]) ?_;refine jaC ?_;simp -implicitDefEqProofs only[Tryz.f254,simprocAttr,zK,Vq,tys2,tys3,jpq,Y6,jsK];simp only[jaz,K6,Jr,Je,and_self]
def Says(g:FuncId)(sc:List V)(b:Bool):Prop:=∀L ts,jah env (ev env) g [.agg sc] ⟨L,ts⟩=some (.bool b,⟨L++[.cells sc 38],ts⟩)
theorem jgB(g:FuncId)(e:Int)(a b c d:V)(r:Bool)(hg:Says g [a,b,c,d] r)(L:List AObj)(ts:List Nat)(p q:Nat)(hp:L[p]? = some (.cells [.func g [] []] 64))(hq:L[q]? = some (.cells [.int .i64 e] 32)) :
  jah env (ev env) 255 [.agg [a,b,c,d],.ptr p 0,.ptr q 0] ⟨L,ts⟩=some (.tup [.int .i64 (if r=true then e else 0),.int .i64 (-1)],⟨L++[.cells [a,b,c,d] 38,.cells [a,b,c,d] 38],ts⟩):=by
 refine jbZ rfl rfl jxG rfl (by simp[Tryz.f255]) (by simp[Tryz.f255]) ?_;refine jaC ?_;cases r<;>
 ·simp -implicitDefEqProofs only[Tryz.f255,simprocAttr,zK,Vq,tys2,tys3,YW,jhM (jaG hp _),jhM (jaG (jaG hp _) _),jhM (jaG (jaG hq _) _),jhM (jaG hq _),jaG hp,jaG hq,jen,jds,hg _ _];simp[jaz]
theorem ck90(nm:List UInt8)(hn:nm.length<2^63)(b c d:V):Says 256 [.str nm,b,c,d] (!decide (jaZ nm)):=by
 intro L ts;refine jbZ rfl rfl jxH rfl (by simp[Tryz.f256]) (by simp[Tryz.f256]) ?_;refine jaC ?_;by_cases h:jaZ nm<;>
 ·simp -implicitDefEqProofs only[Tryz.f256,simprocAttr,zK,Vq,tys2,tys3,YW,jad,jc7 nm hn,h,Jg,Jy];simp[jaz]
theorem ck92(a b c:V)(cv:V)(cs:List Col)(hc:IsC cv cs):Says 259 [a,b,c,cv] (decide (cs.length=0)):=by
 intro L ts;refine jbZ rfl rfl jxJ rfl (by simp[Tryz.f259]) (by simp[Tryz.f259]) ?_;refine jaC ?_;by_cases h:(cs.length:Int)=0
 ·have h':cs.length=0:=by omega
  simp -implicitDefEqProofs only[Tryz.f259,simprocAttr,zK,Vq,tys2,tys3,YW,jad,jfu hc,h];simp[jaz,h']
 ·have h':¬cs.length=0:=by omega
  simp -implicitDefEqProofs only[Tryz.f259,simprocAttr,zK,Vq,tys2,tys3,YW,jad,jfu hc,h];simp[jaz,h']
theorem ck93(a b c:V)(cv:V)(cs:List Col)(hc:IsC cv cs):Says 260 [a,b,c,cv] (decide (16<cs.length)):=by
 intro L ts;refine jbZ rfl rfl jxK rfl (by simp[Tryz.f260]) (by simp[Tryz.f260]) ?_;refine jaC ?_;by_cases h:(16:Int)<(cs.length:Int)
 ·have h':16<cs.length:=by omega
  simp -implicitDefEqProofs only[Tryz.f260,simprocAttr,zK,Vq,tys2,tys3,YW,jad,jfu hc,h];simp[jaz,h']
 ·have h':¬16<cs.length:=by omega
  simp -implicitDefEqProofs only[Tryz.f260,simprocAttr,zK,Vq,tys2,tys3,YW,jad,jfu hc,h];simp[jaz,h']
theorem ck91(a d:V)(pb:Bool)(many:Int):Says 258 [a,.bool pb,.int .i64 many,d] (decide ((pb=true/\many ≠ 0)\/(pb=false/\(many<1\/50<many)))):=by
 intro L ts;refine jbZ rfl rfl jxI rfl (by simp[Tryz.f258]) (by simp[Tryz.f258]) ?_;refine jaC ?_;cases pb with
 | true =>
  by_cases h:many=0<;>
  ·simp -implicitDefEqProofs only[Tryz.f258,simprocAttr,zK,Vq,tys2,tys3,YW,jad,h];simp[jaz,h]
 | false =>
  by_cases h:many<1
  ·simp -implicitDefEqProofs only[Tryz.f258,simprocAttr,zK,Vq,tys2,tys3,YW,jad,h];simp[jaz,h]
  ·by_cases h2:50<many<;>
   ·simp -implicitDefEqProofs only[Tryz.f258,simprocAttr,zK,Vq,tys2,tys3,YW,jad,h,h2];simp[jaz,h,h2]
theorem jxM:env.P.funcs[261]? = some Tryz.f261:=by kernel_rfl
theorem ck94(nm:List UInt8)(pb:Bool)(many:Int)(cv:V)(cs:List Col)(hc:IsC cv cs)(ok:OkC cs)(hl:cs.length<=1000)(hs:∀i,i<cs.length->jdC (cs.getD i Col.none))(L:List AObj)(ts:List Nat) :
  ∃X,jah env (ev env) 261 [.agg [.str nm,.bool pb,.int .i64 many,cv]] ⟨L,ts⟩=some (.tup [.int .i64 (jcn cs cs.length 0).1,.int .i64 (jcn cs cs.length 0).2],⟨L++X,ts⟩):=by
 suffices h:∃v U',jah env (ev env) 261 [.agg [.str nm,.bool pb,.int .i64 many,cv]] ⟨L,ts⟩=some (v,U')/\(v=.tup [.int .i64 (jcn cs cs.length 0).1,.int .i64 (jcn cs cs.length 0).2]/\∃X,U'=⟨L++X,ts⟩) by
  obtain⟨v,U',h1,rfl,X,rfl⟩:=h;exact⟨X,h1⟩
 refine jaF jxM rfl ?_;simp only[Tryz.f261,simprocAttr,zK,Vq,tys2,tys3,YW,jad,jfu hc];refine jax (λm T D U=>D=[]/\U=⟨L++[.cells [.str nm,.bool pb,.int .i64 many,cv] 38],ts⟩/\T 1=.ptr L.length 0/\T 8=.int .i64 cs.length/\∃i:Nat,T 9=.int .i64 i/\i<=cs.length/\m=cs.length-i/\jcn cs cs.length 0=jcn cs (cs.length-i) i) ?_ _ _ _ _ ⟨rfl,rfl,rfl,rfl,0,rfl,by omega,rfl,rfl⟩;rintro m T D U ⟨rfl,rfl,t1,t8,i,t9,hi,rfl,hf⟩;refine jaC ?_;by_cases hlt:i<cs.length
 ·have c1:(i:Int)<(cs.length:Int):=by omega
  have e1:=wS i (by omega)
  obtain⟨q,hq⟩:∃q,cs.length-i=q+1:=⟨cs.length-i-1,by omega⟩;have hq2:q=cs.length-(i+1):=by omega
  have hstep:jcn cs (cs.length-i) i=if colX cs i=0 then jcn cs q (i+1)else(colX cs i,(i:Int)):=by rw[hq];rfl
  rw[hstep]at hf;by_cases hz:colX cs i=0
  ·rw[Kh hz,hq2]at hf;simp only[simprocAttr,zK,Vq,tys2,tys3,t1,t8,t9,c1,e1,jad,jd5 cv cs hc ok hl i hlt (hs i hlt),hz];exact⟨cs.length-(i+1),by omega,i+1,rfl,by omega,rfl,hf⟩
  ·rw[Ke hz]at hf;simp only[simprocAttr,zK,Vq,tys2,tys3,t1,t8,t9,c1,e1,jad,jd5 cv cs hc ok hl i hlt (hs i hlt),hz];exact⟨by rw[hf];rfl,_,rfl⟩
 ·have hi2:i=cs.length:=by omega
  subst hi2;have c1:¬(cs.length:Int)<(cs.length:Int):=by omega
  rw[Xk]at hf;simp only[simprocAttr,zK,Vq,t1,t8,t9,c1];exact⟨by rw[hf];rfl,_,rfl⟩
def jdP(g:FuncId)(n:Nat):V:=.func 255 [] [.ptr n 0,.ptr (n+1) 0]
def je2:V:=.row [jdP 256 1,jdP 258 3,jdP 259 5,jdP 260 7,.func 261 [] []] 5 .full
def jeo(o:AObj):List AObj:=[o,.cells [.func 256 [] []] 64,.cells [.int .i64 19] 32,.cells [.func 258 [] []] 64,.cells [.int .i64 2] 32,.cells [.func 259 [] []] 64,.cells [.int .i64 3] 32,.cells [.func 260 [] []] 64,.cells [.int .i64 4] 32]
theorem jpy:rowO env 222 5 [(0,.func 255 [] [.ptr 1 0,.ptr 2 0]),(1,.func 255 [] [.ptr 3 0,.ptr 4 0]),(2,.func 255 [] [.ptr 5 0,.ptr 6 0]),(3,.func 255 [] [.ptr 7 0,.ptr 8 0]),(4,.func 261 [] [])]=some je2:=by kernel_rfl
theorem jnh(o:AObj):jah env (ev env) 223 [] ⟨[o],[]⟩=some (je2,⟨jeo o,[]⟩):=by
 refine jbZ rfl rfl jxL rfl (by simp[Tryz.f223]) (by simp[Tryz.f223]) ?_;refine jaC ?_;simp only[Tryz.f223,simprocAttr,zK,Vq,tys2,tys3,jpx,jap,jpy];simp[jaz,jeo]
theorem jd6(cs:List Col):∀m i,(jcn cs m i).1=0->jcn cs m i=(0,-1)
 |0,i,_=>rfl
 |m+1,i,h=>by
  simp only[jcn]at h ⊢;by_cases hz:colX cs i=0
  ·rw[Kh hz]at h ⊢;exact jd6 cs m (i+1) h
  ·rw[Ke hz]at h;exact absurd h hz
open Classical in
noncomputable def jhb(nm:List UInt8)(pb:Bool)(many:Int)(cs:List Col):Nat->Int × Int
 |0=>jdd nm pb many cs
 |1=>if(pb=true/\many ≠ 0)\/(pb=false/\(many<1\/50<many))then(2,-1)else if cs.length=0 then(3,-1)else if 16<cs.length then(4,-1)else jcn cs cs.length 0
 |2=>if cs.length=0 then(3,-1)else if 16<cs.length then(4,-1)else jcn cs cs.length 0
 |3=>if 16<cs.length then(4,-1)else jcn cs cs.length 0
 |4=>jcn cs cs.length 0
 |_=>(0,-1)
theorem jv8:jaw 1 je2 (.int .i64 0)=some (.rptr [jdP 256 1,jdP 258 3,jdP 259 5,jdP 260 7,.func 261 [] []]):=rfl
theorem jv9:jaw 1 je2 (.int .i64 1)=some (.rptr [jdP 258 3,jdP 259 5,jdP 260 7,.func 261 [] []]):=rfl
theorem jwa:jaw 1 je2 (.int .i64 2)=some (.rptr [jdP 259 5,jdP 260 7,.func 261 [] []]):=rfl
theorem jwb:jaw 1 je2 (.int .i64 3)=some (.rptr [jdP 260 7,.func 261 [] []]):=rfl
theorem jwc:jaw 1 je2 (.int .i64 4)=some (.rptr [.func 261 [] []]):=rfl
theorem lenF:ja9 (some (.slice 224)) je2=some (.int .i64 5):=rfl
theorem jxN:env.P.funcs[171]? = some Tryz.f171:=by kernel_rfl
theorem ji8:IntKind.i64.wrap (0+1)=1/\IntKind.i64.wrap (1+1)=2/\IntKind.i64.wrap (2+1)=3/\IntKind.i64.wrap (3+1)=4/\IntKind.i64.wrap (4+1)=5:=by
 refine⟨?_,?_,?_,?_,?_⟩<;>rw[wrap_i64 (by omega) (by omega)]<;>rfl
open Classical in
theorem check_call(nm:List UInt8)(pb:Bool)(many:Int)(cv:V)(cs:List Col)(hc:IsC cv cs)(ok:OkC cs)(hn:nm.length<2^63)(hl:cs.length<=1000)(hs:∀i,i<cs.length->jdC (cs.getD i Col.none))(U:S) :
  jah env (ev env) 171 [.agg [.str nm,.bool pb,.int .i64 many,cv]] U=some (.tup [.int .i64 (jdd nm pb many cs).1,.int .i64 (jdd nm pb many cs).2],U):=by
 refine jak (by simp[V.closed,V.closed.closedL,ja3 hc ok]) jxN rfl ?_ U;simp only[Tryz.f171,simprocAttr,zK,Vq,tys2,tys3,jaj,YW,jnh,lenF];generalize hr:jdd nm pb many cs=r
 refine jax (λm T D U=>D=[]/\T 1=.ptr 0 0/\T 8=je2/\T 9=.int .i64 5/\∃(i:Nat) (X:List AObj),U=⟨jeo (.cells [.str nm,.bool pb,.int .i64 many,cv] 38)++X,[]⟩/\T 10=.int .i64 i/\i<=5/\m=5-i/\jhb nm pb many cs i=r) ?_ _ _ _ _
  ⟨rfl,rfl,rfl,rfl,0,[],by rw[Jb],rfl,by omega,rfl,hr⟩
 clear hr;rintro m T D U ⟨rfl,t1,t8,t9,i,X,rfl,t10,hi,rfl,hr⟩;refine jaC ?_
 have hfin:∀a b:Int,(a,b)=r->jaM (jeo (.cells [.str nm,.bool pb,.int .i64 many,cv] 38)++X) jai (jaz [V.int .i64 a,V.int .i64 b])=some (.tup [.int .i64 r.1,.int .i64 r.2]):=λa b h=>by
  subst h;simp only[jaz,jai,jbT,jal,jaR,jau,Kn,Qh]
 have hfin2:∀(Y:List AObj) (a b:Int),(a,b)=r->jaM Y jai (jaz [V.int .i64 a,V.int .i64 b])=some (.tup [.int .i64 r.1,.int .i64 r.2]):=λY a b h=>by
  subst h;simp only[jaz,jai,jbT,jal,jaR,jau,Kn,Qh]
 have hL:jab (jeo (.cells [.str nm,.bool pb,.int .i64 many,cv] 38)++X) 4 (.ptr 0 0)=some [.str nm,.bool pb,.int .i64 many,cv]:=jcb rfl;have hi':i=0\/i=1\/i=2\/i=3\/i=4\/i=5:=by omega
 rcases hi' with rfl|rfl|rfl|rfl|rfl|rfl
 ·have hC:=jgB 256 19 _ _ _ _ _ (ck90 nm hn (.bool pb) (.int .i64 many) cv) (jeo (.cells [.str nm,.bool pb,.int .i64 many,cv] 38)++X) [] 1 2 rfl rfl;by_cases h:jaZ nm
  ·simp only[h,decide_true,Jg,Kr,Km]at hC;have hr1:jhb nm pb many cs 1=r:=by rw[<- hr];show _=jdd nm pb many cs;unfold jdd;rw[Ke (by simp[h])];rfl
   simp only[simprocAttr,zK,Vq,tys2,tys3,t1,t8,t9,t10,Us,jv8,jas,jen,hL,jdP,hC,ji8];exact⟨4,by omega,1,_,by rw[K6],rfl,by omega,rfl,hr1⟩
  ·simp only[h,decide_false,Jy,Kl]at hC;have hr1:(19,-1)=r:=by rw[<- hr];show _=jdd nm pb many cs;unfold jdd;rw[Kh (by simp[h])]
   simp only[simprocAttr,zK,Vq,tys2,tys3,t1,t8,t9,t10,Us,jv8,jas,jen,hL,jdP,hC,ji8];exact hfin2 _ _ _ hr1
 ·have hC:=jgB 258 2 _ _ _ _ _ (ck91 (.str nm) cv pb many) (jeo (.cells [.str nm,.bool pb,.int .i64 many,cv] 38)++X) [] 3 4 rfl rfl;by_cases h:(pb=true/\many ≠ 0)\/(pb=false/\(many<1\/50<many))
  ·simp only[h,decide_true,Kl]at hC;have hr1:(2,-1)=r:=by rw[<- hr];simp only[jhb];rw[Kh h]
   simp only[simprocAttr,zK,Vq,tys2,tys3,t1,t8,t9,t10,Xm,jv9,jas,jen,hL,jdP,hC,ji8];exact hfin2 _ _ _ hr1
  ·simp only[h,decide_false,Kr,Km]at hC;have hr1:jhb nm pb many cs 2=r:=by rw[<- hr];simp only[jhb];rw[Ke h]
   simp only[simprocAttr,zK,Vq,tys2,tys3,t1,t8,t9,t10,Xm,jv9,jas,jen,hL,jdP,hC,ji8];exact⟨3,by omega,2,_,by rw[K6],rfl,by omega,rfl,hr1⟩
 ·have hC:=jgB 259 3 _ _ _ _ _ (ck92 (.str nm) (.bool pb) (.int .i64 many) cv cs hc) (jeo (.cells [.str nm,.bool pb,.int .i64 many,cv] 38)++X) [] 5 6 rfl rfl;by_cases h:cs.length=0
  ·simp only[h,decide_true,Kl]at hC;have hr1:(3,-1)=r:=by rw[<- hr];simp only[jhb];rw[Kh h]
   simp only[simprocAttr,zK,Vq,tys2,tys3,t1,t8,t9,t10,Xm,jwa,jas,jen,hL,jdP,hC,ji8];exact hfin2 _ _ _ hr1
  ·simp only[h,decide_false,Kr,Km]at hC;have hr1:jhb nm pb many cs 3=r:=by rw[<- hr];simp only[jhb];rw[Ke h]
   simp only[simprocAttr,zK,Vq,tys2,tys3,t1,t8,t9,t10,Xm,jwa,jas,jen,hL,jdP,hC,ji8];exact⟨2,by omega,3,_,by rw[K6],rfl,by omega,rfl,hr1⟩
 ·have hC:=jgB 260 4 _ _ _ _ _ (ck93 (.str nm) (.bool pb) (.int .i64 many) cv cs hc) (jeo (.cells [.str nm,.bool pb,.int .i64 many,cv] 38)++X) [] 7 8 rfl rfl;by_cases h:16<cs.length
  ·simp only[h,decide_true,Kl]at hC;have hr1:(4,-1)=r:=by rw[<- hr];simp only[jhb];rw[Kh h]
   simp only[simprocAttr,zK,Vq,tys2,tys3,t1,t8,t9,t10,Xm,jwb,jas,jen,hL,jdP,hC,ji8];exact hfin2 _ _ _ hr1
  ·simp only[h,decide_false,Kr,Km]at hC;have hr1:jhb nm pb many cs 4=r:=by rw[<- hr];simp only[jhb];rw[Ke h]
   simp only[simprocAttr,zK,Vq,tys2,tys3,t1,t8,t9,t10,Xm,jwb,jas,jen,hL,jdP,hC,ji8];exact⟨1,by omega,4,_,by rw[K6],rfl,by omega,rfl,hr1⟩
 ·obtain⟨Y,hC⟩:=ck94 nm pb many cv cs hc ok hl hs (jeo (.cells [.str nm,.bool pb,.int .i64 many,cv] 38)++X) [];have hr1:jcn cs cs.length 0=r:=by rw[<- hr];simp only[jhb]
  by_cases h:(jcn cs cs.length 0).1=0
  ·have h2:=jd6 cs _ _ h;simp only[h2]at hC;simp only[simprocAttr,zK,Vq,tys2,tys3,t1,t8,t9,t10,Xm,jwc,jas,jen,hL,jdP,hC,ji8];exact⟨0,by omega,5,_,by rw[K6],rfl,by omega,rfl,by rw[<- hr1,h2];rfl⟩
  ·simp only[simprocAttr,zK,Vq,tys2,tys3,t1,t8,t9,t10,Xm,jwc,jas,jen,hL,jdP,hC,ji8,h];exact hfin2 _ _ _ hr1
 ·have hr1:(0,-1)=r:=by rw[<- hr];simp only[jhb]
  simp only[simprocAttr,zK,Vq,tys2,tys3,t1,t8,t9,t10,Xm];exact hfin2 _ _ _ hr1
end Go.Proofs.YtajaampgajieeaaGreatDoor
