/- Proved here: a schema is checked. Conditions: each theorem's own. -/
import Derived.Test.YtajaampgajieeaaGreatDoorScA
set_option linter.unusedSimpArgs false
set_option maxHeartbeats 16000000
set_option maxRecDepth 1000000
set_option linter.unusedVariables false
set_option linter.unusedSectionVars false
namespace Go.Proofs.YtajaampgajieeaaGreatDoor
open Go.Ab
theorem jyc:env.P.funcs[296]? = some Tryz.f296:=ac
theorem jyd:env.P.funcs[297]? = some Tryz.f297:=ac
theorem jye:env.P.funcs[325]? = some Tryz.f325:=ac
theorem jyf:env.P.funcs[270]? = some Tryz.f270:=ac
theorem jhy(s:List UInt8)(hs:s.length<2^63)(U:S):jah env (ev env) 297 [.str s] U=some (.bool (!decide (jaZ s)),U):=by
 refine jaj rfl jyd rfl ?_ U;by_cases h:jaZ s<;>
 ·simp only[Tryz.f297,simprocAttr,zK,Vq,jc8 s hs,h];simp only[jaB,jak,jaA,Q8,Ji]
noncomputable def jeA(ws:List (List UInt8)):Nat->Nat->Int
 |0,_ => -1
 |m+1,i=>if jaZ (ws.getD i [])then jeA ws m (i+1)else i
theorem jjT (ws:List (List UInt8)):∀m i,0<=jeA ws m i↔∃j,i<=j/\j<i+m/\¬jaZ (ws.getD j [])
  | 0, i => by simp only[jeA];constructor
               · intro h;omega
               · rintro⟨j,h1,h2,_⟩;omega
  | m+1,i=>by
    simp only[jeA];by_cases h:jaZ (ws.getD i [])
    · rw [Kg h,jjT ws m (i+1)]
      constructor
      · rintro⟨j,h1,h2,h3⟩;exact⟨j,aa,aa,h3⟩
      · rintro⟨j,h1,h2,h3⟩
        refine⟨j,?_,aa,h3⟩
        rcases Ql i j with h4|h4
        · omega
        · have:j=i:=by omega
          subst this;exact absurd h h3
    · rw[Ke h]
      exact⟨λ_=>⟨i,aa,aa,h⟩,λ_=>aa⟩
theorem jjU(w:V)(ws:List (List UInt8))(h:IsW w ws)(hl:ws.length<=1000)(hs:∀i,i<ws.length->(ws.getD i []).length<2^63)(U:S) :
  jah env (ev env) 325 [w,.func 297 [] []] U=some (.int .i64 (jeA ws ws.length 0),U):=by
 refine jaj (by simp[V.closed,V.closed.closedL,jct h]) jye rfl ?_ U;simp only[Tryz.f325,simprocAttr,zK,Vq,jcX h];refine jau (λm T D U=>D=[]/\U=S.empty/\T 0=w/\T 1=.func 297 [] []/\T 7=.int .i64 ws.length/\∃i:Nat,T 8=.int .i64 i/\i<=ws.length/\m=ws.length-i/\jeA ws ws.length 0=jeA ws (ws.length-i) i) ?_ _ _ _ _ ⟨rfl,rfl,rfl,rfl,rfl,0,rfl,aa,rfl,rfl⟩;rintro m T D U ⟨rfl,rfl,t0,t1,t7,i,t8,hi,rfl,hf⟩;refine jaC ?_;by_cases hlt:i<ws.length
 ·have c1:(i:Int)<(ws.length:Int):=by omega
  have e1:IntKind.i64.wrap ((i:Int)+1)=((i+1:Nat):Int):=by rw[wrap_i64 aa aa];omega
  have hx:=jnm h hlt;obtain⟨q,hq⟩:∃q,ws.length-i=q+1:=⟨ws.length-i-1,aa⟩;have hq2:q=ws.length-(i+1):=aa;have hstep:jeA ws (ws.length-i) i=if jaZ (ws.getD i [])then jeA ws q (i+1)else i:=by rw[hq];rfl
  rw[hstep]at hf;by_cases hn:jaZ (ws.getD i [])
  ·rw[Kg hn,hq2]at hf;simp only[simprocAttr,zK,Vq,t0,t1,t7,t8,c1,e1,hx,jaq,jhy _ (hs i hlt),hn,Q8];exact⟨ws.length-(i+1),aa,i+1,rfl,aa,rfl,hf⟩
  ·rw[Ke hn]at hf;simp only[simprocAttr,zK,Vq,t0,t1,t7,t8,c1,e1,hx,jaq,jhy _ (hs i hlt),hn,Ji];simp only[jaB,jak,jav,hf]
 ·have hi2:i=ws.length:=by omega
  subst hi2;have c1:¬(ws.length:Int)<(ws.length:Int):=aa;have hf2:jeA ws ws.length 0 = -1:=by rw[hf,Xn];rfl
  simp only[simprocAttr,zK,Vq,t0,t1,t7,t8,c1];simp only[jaB,jak,jav,hf2]
open Classical in
theorem jc9(w:V)(ws:List (List UInt8))(h:IsW w ws)(hl:ws.length<=1000)(hs:∀i,i<ws.length->(ws.getD i []).length<2^63)(U:S) :
  jah env (ev env) 296 [w,.func 297 [] []] U=some (.bool (decide (∃i,i<ws.length/\¬jaZ (ws.getD i []))),U):=by
 refine jaj (by simp[V.closed,V.closed.closedL,jct h]) jyc rfl ?_ U
 have hk:(0<=jeA ws ws.length 0)↔∃i,i<ws.length/\¬jaZ (ws.getD i []):=by
  rw[jjT];constructor
  ·rintro⟨j,_,h2,h3⟩;exact⟨j,aa,h3⟩
  ·rintro⟨j,h2,h3⟩;exact⟨j,aa,aa,h3⟩
 by_cases hp:∃i,i<ws.length/\¬jaZ (ws.getD i [])
 ·have c0:0<=jeA ws ws.length 0:=hk.2 hp;simp only[Tryz.f296,simprocAttr,zK,Vq,jjU w ws h hl hs,c0];simp only[jaB,jak,jaA,hp,decide_true]
 ·have c0:¬0<=jeA ws ws.length 0:=λh=>hp (hk.1 h)
  simp only[Tryz.f296,simprocAttr,zK,Vq,jjU w ws h hl hs,c0];simp only[jaB,jak,jaA,hp,decide_false]
theorem jyg:env.P.funcs[298]? = some Tryz.f298:=ac
def keyV(s:List UInt8):V:=.agg [.str s,.bool false]
theorem jrG(a b:List UInt8):eqT env 8 309 (keyV a) (keyV b)=some (a==b):=by
 have h:eqT env 8 309 (keyV a) (keyV b)=(some (a==b)).bind λr=>if r then some true else some false:=ac
 rw[h];cases a==b<;>rfl
theorem jrH(a:List UInt8):jcY env 8 309 (keyV a)=true:=ac
theorem jtw(a:List UInt8):jhH 8 (keyV a) (keyV a)=true:=by simp[jhH,keyV]
def entV(p:List UInt8 × Nat):V × V × Nat:=(keyV p.1,.agg [],p.2)
def keys(ps:List (List UInt8 × Nat)):List (List UInt8):=ps.map (·.1)
theorem jrI(s:List UInt8):∀(ps:List (List UInt8 × Nat)) (i:Nat),s ∉ keys ps->jcj env 309 (keyV s) (ps.map entV) i=some none
 | [],i,h=>rfl
 |p::ps,i,h=>by
  have h1:¬s=p.1:=λe=>h (by simp[keys,e])
  have h2:s ∉ keys ps:=λe=>h (by simp only[keys,K6,Jg];exact .inr e)
  simp only[K6,jcj,entV,jrG,Kq,beq_eq_false_iff_ne.2 h1,Ku,Kn];exact jrI s ps (i+1) h2
theorem joP(s:List UInt8):∀(ps:List (List UInt8 × Nat)) (i:Nat),s∈keys ps->∃j n,jcj env 309 (keyV s) (ps.map entV) i=some (some (i+j))/\ps[j]? = some (s,n)
 | [],i,h=>by simp[keys]at h
 | p::ps,i,h=>by
  by_cases h1:s=p.1
  ·refine⟨0,p.2,?_,by simp[h1]⟩;simp only[K6,jcj,entV,jrG,Kq,h1,beq_self_eq_true,Kl,Vo]
  ·have h2:s∈keys ps:=by
    simp only[keys,K6,Jg]at h;exact h.resolve_left h1
   obtain⟨j,n,h3,h4⟩:=joP s ps (i+1) h2;refine⟨j+1,n,?_,by simpa using h4⟩;simp only[K6,jcj,entV,jrG,Kq,beq_eq_false_iff_ne.2 h1,Ku,Kn];rw[show i+(j+1)=i+1+j by omega];exact h3
def jiD (E:Env)(t:TypeId)(mv kv xv:V)(U:S):Option (V × S) :=
    match E.P.underlying t,mv with
    | some (.map kt _),.map b =>
      match U.heap[b]? with
      | some (.map es clock) =>
        if jcY E 8 kt kv then
          match jcj E kt kv es 0 with
          |some none=>some (.tup [],U.set b (.map (es++[(kv,xv,clock)]) (clock+1)))
          | some (some j) =>
            match es[j]? with
            |some e=>if jhH 8 e.1 kv then some (.tup [],U.set b (.map (es.set j (kv,xv,e.2.2)) clock))else none
            |none=>none
          |none=>none
        else none
      |_=>none
    |_,_=>none
theorem jeB {E:Env}{m:Bool}{T:Tm}{U:S}(t:TypeId)(a b c:Operand):opT E m T U (.mapUpdate t a b c)=(jaN E T a).bind λmv=>(jaN E T b).bind λkv=>(jaN E T c).bind λxv=>jiD E t mv kv xv U:=rfl
theorem u164:env.P.underlying 306=some (.map 309 307):=ac
theorem jrJ(s:List UInt8)(ps:List (List UInt8 × Nat))(clock:Nat)(hp:List AObj)(b:Nat)(ts:List Nat)(hh:hp[b]? = some (.map (ps.map entV) clock)) :
  ∃ps' clock',jiD env 306 (.map b) (keyV s) (.agg []) ⟨hp,ts⟩=some (.tup [],⟨hp.set b (.map (ps'.map entV) clock'),ts⟩)/\keys ps'=if s∈keys ps then keys ps else keys ps++[s]:=by
 unfold jiD;simp only[u164,hh,jrH,Kl];by_cases h:s∈keys ps
 ·obtain⟨j,n,h1,h2⟩:=joP s ps 0 h;rw[Jk]at h1;have h3:(ps.map entV)[j]? = some (entV (s,n)):=by simp[h2]
  have h4:(ps.map entV).set j (keyV s,.agg [],n)=ps.map entV:=by
   apply Xp;intro i;by_cases e:i=j
   ·subst e
    have:i<(ps.map entV).length:=by
     rcases Ql i (ps.map entV).length with h|h
     ·exact h
     ·rw[Qo h]at h3;simp at h3
    rw[Km this,h3];rfl
   ·rw[Kh (λh=>e h.symm)]
  refine⟨ps,clock,?_,by rw[Kg h]⟩;simp only[h1,h3,entV,jtw,Kl,S.set];rw[h4]
 ·refine⟨ps++[(s,clock)],clock+1,?_,by rw[Ke h];simp[keys]⟩;simp only[jrI s ps 0 h,S.set,Js,K6,J5,entV]
theorem jrK(s:List UInt8):jbD env 309 [(0,.str s)]=some (keyV s):=ac
theorem jpK:jbD env 307 []=some (.agg []):=ac
theorem jno {T:Tm}{U:S}{m:Bool}:opT env m T U (.makeMap 306 none)=some (.map U.heap.length,U.push (.map [] 0)):=by
 unfold opT;simp only[jbK,jbh,jbG,u164]
theorem upd0(s:List UInt8)(ps:List (List UInt8 × Nat))(clock:Nat):∃ps' clock',jiD env 306 (.map 0) (keyV s) (.agg []) ⟨[.map (ps.map entV) clock],[]⟩=some (.tup [],⟨[.map (ps'.map entV) clock'],[]⟩)/\keys ps'=if s∈keys ps then keys ps else keys ps++[s] :=
 jrJ s ps clock [.map (ps.map entV) clock] 0 [] rfl
theorem jwN(ps:List (List UInt8 × Nat))(clock:Nat)(ts:List Nat):lenO ⟨[.map (ps.map entV) clock],ts⟩ (some (.map 309 307)) (.map 0)=some (.int .i64 (keys ps).length,⟨[.map (ps.map entV) clock],ts⟩):=by
 rw[jtp (es:=ps.map entV) (c:=clock) _ _ _ _ rfl];simp[keys]
def Dup(ws:List (List UInt8))(i:Nat):Prop:=∃k j,k<j/\j<i/\ws.getD k []=ws.getD j []
open Classical in
theorem jeW(w:V)(ws:List (List UInt8))(h:IsW w ws)(hl:ws.length<=1000)(U:S):jah env (ev env) 298 [w] U=some (.bool (decide (jiB ws)),U):=by
 refine jaj (by simp[jct h]) jyg rfl ?_ U;simp only[Tryz.f298,simprocAttr,zK,Vq,jai,jcX h,jno]
 refine jau (λm T D U=>D=[]/\T 0=w/\T 3=.map 0/\T 7=w/\T 8=.int .i64 ws.length/\∃(i clock:Nat) (ps:List (List UInt8 × Nat)),U=⟨[.map (ps.map entV) clock],[]⟩/\T 9=.int .i64 i/\i<=ws.length/\m=ws.length-i /\
  (∀s,s∈keys ps↔∃j,j<i/\ws.getD j []=s)/\(keys ps).length<=i/\((keys ps).length<i↔Dup ws i)) ?_ _ _ _ _
  ⟨rfl,rfl,rfl,rfl,rfl,0,0,[],rfl,rfl,aa,rfl,λs=>⟨λh=>by simp[keys]at h,λ⟨j,h,_⟩=>aa⟩,by simp[keys],⟨λh=>aa,λ⟨k,j,_,h,_⟩=>aa⟩⟩
 rintro m T D U ⟨rfl,t0,t3,t7,t8,i,clock,ps,rfl,t9,hi,rfl,hmem,hlen,hdup⟩;refine jaC ?_;by_cases hlt:i<ws.length
 ·have c1:(i:Int)<(ws.length:Int):=by omega
  have e1:IntKind.i64.wrap ((i:Int)+1)=((i+1:Nat):Int):=by rw[wrap_i64 aa aa];omega
  have hx:=jnm h hlt;obtain⟨ps',clock',hU,hk⟩:=upd0 (ws.getD i []) ps clock;simp only[simprocAttr,zK,Vq,t0,t3,t7,t8,t9,c1,e1,hx,jaq,jeB,jrK,jpK,hU];refine⟨ws.length-(i+1),aa,i+1,clock',ps',rfl,rfl,aa,rfl,λs => ?_,?_,?_⟩
  ·rw[hk];constructor
   ·intro hs;split at hs
    ·obtain⟨j,h1,h2⟩:=(hmem s).1 hs;exact⟨j,aa,h2⟩
    ·rcases Jl.1 hs with hs|hs
     ·obtain⟨j,h1,h2⟩:=(hmem s).1 hs;exact⟨j,aa,h2⟩
     ·exact⟨i,aa,(J4.1 hs).symm⟩
   ·rintro⟨j,h1,h2⟩;have hj:j<i\/j=i:=aa;split
    ·rename_i hin
     rcases hj with hj|rfl
     ·exact(hmem s).2 ⟨j,hj,h2⟩
     ·rw[<- h2];exact hin
    ·rcases hj with hj|rfl
     ·exact List.mem_append_left _ ((hmem s).2 ⟨j,hj,h2⟩)
     ·rw[<- h2];simp
  ·rw[hk];split
   ·omega
   ·simp only[Kk,Qh,Qr];omega
  ·rw[hk];split
   ·rename_i hin;obtain⟨j,h1,h2⟩:=(hmem _).1 hin;exact⟨λ_=>⟨j,i,h1,aa,h2⟩,λ_=>aa⟩
   ·rename_i hin;simp only[Kk,Qh,Qr];constructor
    ·intro hh;obtain⟨k,j,h1,h2,h3⟩:=hdup.1 aa;exact⟨k,j,h1,aa,h3⟩
    ·rintro⟨k,j,h1,h2,h3⟩;have hj:j<i\/j=i:=aa
     rcases hj with hj|rfl
     ·have:=hdup.2 ⟨k,j,h1,hj,h3⟩;omega
     ·exact absurd ((hmem _).2 ⟨k,h1,h3⟩) hin
 ·have hi2:i=ws.length:=by omega
  subst hi2;have c1:¬(ws.length:Int)<(ws.length:Int):=aa
  have hT:((keys ps).length:Int)<(ws.length:Int)↔jiB ws:=by
   have:Dup ws ws.length↔jiB ws:=Iff.rfl;rw[<- this,<- hdup];omega
  by_cases hp:((keys ps).length:Int)<(ws.length:Int)
  ·have h2:=hT.1 hp;simp only[simprocAttr,zK,Vq,t0,t3,t7,t8,t9,c1,u164,jwN,jcX h,hp];simp only[jaB,jak,jaA,h2,decide_true]
  ·have h2:¬jiB ws:=λq=>hp (hT.2 q)
   simp only[simprocAttr,zK,Vq,t0,t3,t7,t8,t9,c1,u164,jwN,jcX h,hp];simp only[jaB,jak,jaA,h2,decide_false]
open Classical in
theorem jpL(c:Col)(h:IsW c.w c.ws)(hs:jdL c)(h0:c.ws.length ≠ 0)(U:S):jah env (ev env) 270 [.agg [.str c.name,.int .i64 c.lo,.int .i64 c.hi,c.w]] U=some (.int .i64 (colE c),U):=by
 refine jaj (by simp[V.closed,V.closed.closedL,jct h]) jyf rfl ?_ U;obtain⟨hs1,hs2,hs3⟩:=hs;have hic:=jbf h;obtain⟨nm,lo,hi,w,ws⟩:=c;simp only at h hs1 hs2 hs3 hic h0 ⊢;by_cases h1:(64:Int)<(ws.length:Int)
 ·have he:colE ⟨nm,lo,hi,w,ws⟩=4:=by simp only[colE];rw[Ke h0,Kg aa]
  simp only[Tryz.f270,simprocAttr,zK,Vq,tys2,jai,jcX h,h1];simp only[jaB,jak,jav,he]
 by_cases hp:∃i,i<ws.length/\¬jaZ (ws.getD i [])
 ·have he:colE ⟨nm,lo,hi,w,ws⟩=19:=by simp only[colE];rw[Ke h0,Ke aa,Kg hp]
  simp only[Tryz.f270,simprocAttr,zK,Vq,tys2,jai,jcX h,h1,jc9 w ws h hs2 hs3,hp];simp only[jaB,jak,jav,he]
 by_cases h2:jiB ws
 ·have he:colE ⟨nm,lo,hi,w,ws⟩=8:=by simp only[colE];rw[Ke h0,Ke aa,Ke hp,Kg h2]
  simp only[Tryz.f270,simprocAttr,zK,Vq,tys2,jai,jcX h,h1,jc9 w ws h hs2 hs3,hp,jeW w ws h hs2,h2];simp only[jaB,jak,jav,he]
 have e2:IntKind.i64.wrap ((ws.length:Int)-1)=(ws.length:Int)-1:=wrap_i64 aa aa;by_cases h3:lo=0
 ·by_cases h4:hi=(ws.length:Int)-1
  ·have he:colE ⟨nm,lo,hi,w,ws⟩=0:=by simp only[colE];rw[Ke h0,Ke aa,Ke hp,Ke h2,Ke (by rintro(h|h);exact h h3;exact h h4)]
   simp only[Tryz.f270,simprocAttr,zK,Vq,tys2,jai,jcX h,h1,jc9 w ws h hs2 hs3,hp,jeW w ws h hs2,h2,h3,e2,h4];simp only[jaB,jak,jav,<- h3,<- h4,he]
  ·have he:colE ⟨nm,lo,hi,w,ws⟩=2:=by simp only[colE];rw[Ke h0,Ke aa,Ke hp,Ke h2,Kg (.inr h4)]
   simp only[Tryz.f270,simprocAttr,zK,Vq,tys2,jai,jcX h,h1,jc9 w ws h hs2 hs3,hp,jeW w ws h hs2,h2,h3,e2,h4];simp only[jaB,jak,jav,<- h3,he]
 ·have he:colE ⟨nm,lo,hi,w,ws⟩=2:=by simp only[colE];rw[Ke h0,Ke aa,Ke hp,Ke h2,Kg (.inl h3)]
  simp only[Tryz.f270,simprocAttr,zK,Vq,tys2,jai,jcX h,h1,jc9 w ws h hs2 hs3,hp,jeW w ws h hs2,h2,h3];simp only[jaB,jak,jav,he]
theorem jyh:env.P.funcs[269]? = some Tryz.f269:=ac
theorem jpM(c d:Col)(hd:IsW d.w d.ws)(L:List AObj)(ts:List Nat)(p:Nat)(hp:L[p]? = some (.cells [.str c.name,.int .i64 c.lo,.int .i64 c.hi,c.w] 41)) :
  jah env (ev env) 269 [.agg [.str d.name,.int .i64 d.lo,.int .i64 d.hi,d.w],.ptr p 0] ⟨L,ts⟩=some (.bool (decide (d.name=c.name)),⟨L++[.cells [.str d.name,.int .i64 d.lo,.int .i64 d.hi,d.w] 41],ts⟩):=by
 refine jb0 rfl rfl jyh rfl (by simp[Tryz.f269]) (by simp[Tryz.f269]) ?_;refine jaC ?_
 have hlt:p<L.length:=by
  rcases Ql p L.length with h|h
  ·exact h
  ·rw[Qo h]at hp;simp at hp
 have hE:∀o,(L++[o])[p]? = some (.cells [.str c.name,.int .i64 c.lo,.int .i64 c.hi,c.w] 41):=λo=>by rw[Kj hlt];exact hp
 by_cases h:d.name=c.name<;>
 ·simp only[Tryz.f269,simprocAttr,zK,Vq,tys2,YW,jad,hE,jax,h];simp[jaB,h]
theorem jtx:env.P.funcs[200]? = some Tryz.f200:=ac
theorem jyi:env.P.funcs[231]? = some Tryz.f231:=ac
def jeh(ds:List Col)(nm:List UInt8):Nat->Nat->Int
 |0,_ => -1
 |m+1,i=>if(ds.getD i Col.none).name=nm then i else jeh ds nm m (i+1)
theorem jjV (ds:List Col)(nm:List UInt8):∀m i,0<=jeh ds nm m i↔∃j,i<=j/\j<i+m/\(ds.getD j Col.none).name=nm
  | 0, i => by simp only[jeh];constructor
               · intro h;omega
               · rintro⟨j,h1,h2,_⟩;omega
  | m+1,i=>by
    simp only[jeh];by_cases h:(ds.getD i Col.none).name=nm
    · rw[Kg h]
      exact⟨λ_=>⟨i,aa,aa,h⟩,λ_=>aa⟩
    · rw [Ke h,jjV ds nm m (i+1)]
      constructor
      · rintro⟨j,h1,h2,h3⟩;exact⟨j,aa,aa,h3⟩
      · rintro⟨j,h1,h2,h3⟩
        refine⟨j,?_,aa,h3⟩
        rcases Ql i j with h4|h4
        · omega
        · have:j=i:=by omega
          subst this;exact absurd h3 h
theorem jnp(c:Col)(dv:V)(ds:List Col)(hd:IsC dv ds)(ok:OkC ds)(hl:ds.length<=1000)(L:List AObj)(ts:List Nat)(p:Nat)(hp:L[p]? = some (.cells [.str c.name,.int .i64 c.lo,.int .i64 c.hi,c.w] 41)) :
  ∃X,jah env (ev env) 200 [dv,.func 269 [] [.ptr p 0]] ⟨L,ts⟩=some (.int .i64 (jeh ds c.name ds.length 0),⟨L++X,ts⟩):=by
 have hlt0:p<L.length:=by
  rcases Ql p L.length with h|h
  ·exact h
  ·rw[Qo h]at hp;simp at hp
 suffices h:∃v U',jah env (ev env) 200 [dv,.func 269 [] [.ptr p 0]] ⟨L,ts⟩=some (v,U')/\(v=.int .i64 (jeh ds c.name ds.length 0)/\∃X,U'=⟨L++X,ts⟩) by
  obtain⟨v,U',h1,rfl,X,rfl⟩:=h;exact⟨X,h1⟩
 refine jaD jtx rfl ?_;simp only[Tryz.f200,simprocAttr,zK,Vq,tys2,jfs hd];refine jau (λm T D U=>D=[]/\T 0=dv/\T 1=.func 269 [] [.ptr p 0]/\T 7=.int .i64 ds.length/\∃(i:Nat) (X:List AObj),U=⟨L++X,ts⟩/\T 8=.int .i64 i/\i<=ds.length/\m=ds.length-i/\jeh ds c.name ds.length 0=jeh ds c.name (ds.length-i) i) ?_ _ _ _ _ ⟨rfl,rfl,rfl,rfl,0,[],ae,rfl,aa,rfl,rfl⟩;rintro m T D U ⟨rfl,t0,t1,t7,i,X,rfl,t8,hi,rfl,hf⟩;refine jaC ?_;by_cases hlt:i<ds.length
 ·have c1:(i:Int)<(ds.length:Int):=by omega
  have e1:IntKind.i64.wrap ((i:Int)+1)=((i+1:Nat):Int):=by rw[wrap_i64 aa aa];omega
  have hx:=jel hd hlt;have hN:=jpM c (ds.getD i Col.none) (ok.at hlt) (L++X) ts p (by rw[Kj hlt0];exact hp);obtain⟨q,hq⟩:∃q,ds.length-i=q+1:=⟨ds.length-i-1,aa⟩;have hq2:q=ds.length-(i+1):=aa;have hstep:jeh ds c.name (ds.length-i) i=if(ds.getD i Col.none).name=c.name then(i:Int)else jeh ds c.name q (i+1):=by rw[hq];rfl
  rw[hstep]at hf;by_cases hn:(ds.getD i Col.none).name=c.name
  ·rw[Kg hn]at hf;simp only[hn,decide_true]at hN;simp only[simprocAttr,zK,Vq,tys2,t0,t1,t7,t8,c1,e1,hx,jdg,jaM,hn,hN];exact⟨by rw[hf];rfl,_,by rw[K7]⟩
  ·rw[Ke hn,hq2]at hf;simp only[hn,decide_false]at hN;simp only[simprocAttr,zK,Vq,tys2,t0,t1,t7,t8,c1,e1,hx,jdg,jaM,hN];exact⟨ds.length-(i+1),aa,i+1,_,by rw[K7],rfl,aa,rfl,hf⟩
 ·have hi2:i=ds.length:=by omega
  subst hi2;have c1:¬(ds.length:Int)<(ds.length:Int):=aa;have hf2:jeh ds c.name ds.length 0 = -1:=by rw[hf,Xn];rfl
  simp only[simprocAttr,zK,Vq,t0,t1,t7,t8,c1];exact⟨by rw[hf2];rfl,X,rfl⟩
open Classical in
theorem jjl(c:Col)(dv:V)(ds:List Col)(hd:IsC dv ds)(ok:OkC ds)(hl:ds.length<=1000)(L:List AObj)(ts:List Nat)(p:Nat)(hp:L[p]? = some (.cells [.str c.name,.int .i64 c.lo,.int .i64 c.hi,c.w] 41)) :
  ∃X,jah env (ev env) 231 [dv,.func 269 [] [.ptr p 0]] ⟨L,ts⟩=some (.bool (decide (∃j,j<ds.length/\(ds.getD j Col.none).name=c.name)),⟨L++X,ts⟩):=by
 obtain⟨X,hX⟩:=jnp c dv ds hd ok hl L ts p hp;refine⟨X,?_⟩
 have hk:(0<=jeh ds c.name ds.length 0)↔∃j,j<ds.length/\(ds.getD j Col.none).name=c.name:=by
  rw[jjV];constructor
  ·rintro⟨j,_,h2,h3⟩;exact⟨j,aa,h3⟩
  ·rintro⟨j,h2,h3⟩;exact⟨j,aa,aa,h3⟩
 refine jb0 rfl rfl jyi rfl (by simp[Tryz.f231]) (by simp[Tryz.f231]) ?_;refine jaC ?_;by_cases hq:∃j,j<ds.length/\(ds.getD j Col.none).name=c.name
 ·have c0:0<=jeh ds c.name ds.length 0:=hk.2 hq;simp only[Tryz.f231,simprocAttr,zK,Vq,hX,c0];simp only[jaB,hq,decide_true,and_self]
 ·have c0:¬0<=jeh ds c.name ds.length 0:=λh=>hq (hk.1 h)
  simp only[Tryz.f231,simprocAttr,zK,Vq,hX,c0];simp only[jaB,hq,decide_false,and_self]
theorem jyj:env.P.funcs[238]? = some Tryz.f238:=ac
theorem jjW:∀(cs:List Col) (i:Nat),(jaO cs).take (i*4)=jaO (cs.take i)
 |cs,0=>by simp[jaO]
 | [],i+1=>by simp[jaO]
 |c::cs,i+1=>by
  rw[jbI,show(i+1)*4=i*4+1+1+1+1 by omega];simp only[Jx,jjW cs i,jbI]
theorem jvr {v:V}{cs:List Col}(h:IsC v cs){i:Nat}(hi:i<cs.length):∃u,jbN env 36 v none (some (.int .i64 (i:Int))) none=some u/\IsC u (cs.take i):=by
 rcases h with⟨rfl,rfl⟩|⟨q,_,rfl⟩
 ·simp at hi
 ·refine⟨.row (jaO (cs.take i)) i .unk,?_,.inr ⟨.unk,.inl rfl,by simp[Qx,Xt (Nat.le_of_lt hi)]⟩⟩
  have hb:ja0 (some (.int .i64 (i:Int))) cs.length cs.length=some i:=by
   simp only[ja0];simp;omega
  simp only[jbN,tys2,Kq,jcM,hb];simp[ja0,show ¬i=cs.length by omega,jjW]
theorem jlY(cs:List Col){i j:Nat}(h:j<i):(cs.take i).getD j Col.none=cs.getD j Col.none:=by
 simp[List.getD,Jw,h]
open Classical in
theorem jd7(cv:V)(cs:List Col)(hc:IsC cv cs)(ok:OkC cs)(hl:cs.length<=1000)(i:Nat)(hlt:i<cs.length)(hsc:jdL (cs.getD i Col.none))(U:S) :
  jah env (ev env) 238 [cv,.int .i64 i] U=some (.int .i64 (colX cs i),U):=by
 refine jaj (by simp[V.closed,V.closed.closedL,ja9 hc ok]) jyj rfl ?_ U;have hwc:=ok.at hlt;have hic:=jbf hwc;by_cases hnm:jaZ (cs.getD i Col.none).name
 case neg =>
  have hX:colX cs i=19:=by simp only[colX];rw[Kg hnm]
  simp only[Tryz.f238,simprocAttr,zK,Vq,tys2,jel hc hlt,jdg,jaM,z44,jai,Qr,jaa,Jj,Qz,K5,Xa,Ks,Qn,Xd,jae,jac,hic,YW,jc8 _ hsc.1,hnm];simp only[jaB,jak,jav,hX]
 obtain⟨u,hu,hcu⟩:=jvr hc hlt;have oku:OkC (cs.take i):=λc h=>ok c (Xw h)
 obtain⟨X,hX⟩:=jjl (cs.getD i Col.none) u (cs.take i) hcu oku (by simp;omega) [.cells [.str (cs.getD i Col.none).name,.int .i64 (cs.getD i Col.none).lo,.int .i64 (cs.getD i Col.none).hi,(cs.getD i Col.none).w] 41] [] 0 rfl
 have hk:(∃j,j<(cs.take i).length/\((cs.take i).getD j Col.none).name=(cs.getD i Col.none).name)↔∃k,k<i/\(cs.getD k Col.none).name=(cs.getD i Col.none).name:=by
  have hli:(cs.take i).length=i:=by simp;omega
  rw[hli];constructor
  ·rintro⟨j,h1,h2⟩;exact⟨j,h1,by rwa[jlY cs h1]at h2⟩
  ·rintro⟨j,h1,h2⟩;exact⟨j,h1,by rwa[jlY cs h1]⟩
 simp only[hk,Jn,Ja]at hX;by_cases hd:∃k,k<i/\(cs.getD k Col.none).name=(cs.getD i Col.none).name
 ·have hE:colX cs i=8:=by simp only[colX];rw[Ke (not_not_intro hnm),Kg hd]
  simp only[hd,decide_true]at hX;simp only[Tryz.f238,simprocAttr,zK,Vq,tys2,jel hc hlt,jdg,jaM,z44,jai,Qr,jaa,Jj,Qz,K5,Xa,Ks,Qn,Xd,jae,jac,hic,YW,jc8 _ hsc.1,hnm,jbO,jbP,jbT,hu,hX];simp only[jaB,jak,jav,hE]
 have hE:colX cs i=colE (cs.getD i Col.none):=by simp only[colX];rw[Ke (not_not_intro hnm),Ke hd]
 simp only[hd,decide_false]at hX;have hL:jab (.cells [.str (cs.getD i Col.none).name,.int .i64 (cs.getD i Col.none).lo,.int .i64 (cs.getD i Col.none).hi,(cs.getD i Col.none).w] 41::X) 4 (.ptr 0 0)=some [.str (cs.getD i Col.none).name,.int .i64 (cs.getD i Col.none).lo,.int .i64 (cs.getD i Col.none).hi,(cs.getD i Col.none).w]:=jb7 rfl;by_cases h0:(0:Int)<((cs.getD i Col.none).ws.length:Int)
 ·have hne:(cs.getD i Col.none).ws.length ≠ 0:=by omega
  simp only[Tryz.f238,simprocAttr,zK,Vq,tys2,jel hc hlt,jdg,jaM,z44,jai,Qr,jaa,Jj,Qz,K5,Xa,Ks,Qn,Xd,jae,jac,hic,YW,jc8 _ hsc.1,hnm,jbO,jbP,jbT,hu,hX,jcX hwc,h0,hL,jpL _ hwc hsc hne];simp only[jaB,jak,jav,hE]
 have hz:(cs.getD i Col.none).ws.length=0:=aa;by_cases h1:(cs.getD i Col.none).lo < -1000000
 ·have he:colE (cs.getD i Col.none)=2:=by simp only[colE,hz,Kl];rw[Kg (.inl h1)]
  simp only[Tryz.f238,simprocAttr,zK,Vq,tys2,jel hc hlt,jdg,jaM,z44,jai,Qr,jaa,Jj,Qz,K5,Xa,Ks,Qn,Xd,jae,jac,hic,YW,jc8 _ hsc.1,hnm,jbO,jbP,jbT,hu,hX,jcX hwc,h0,h1];simp only[jaB,jak,jav,hE,he]
 by_cases h2:1000000<(cs.getD i Col.none).hi
 ·have he:colE (cs.getD i Col.none)=2:=by simp only[colE,hz,Kl];rw[Kg (.inr (.inl h2))]
  simp only[Tryz.f238,simprocAttr,zK,Vq,tys2,jel hc hlt,jdg,jaM,z44,jai,Qr,jaa,Jj,Qz,K5,Xa,Ks,Qn,Xd,jae,jac,hic,YW,jc8 _ hsc.1,hnm,jbO,jbP,jbT,hu,hX,jcX hwc,h0,h1,h2];simp only[jaB,jak,jav,hE,he]
 by_cases h3:(cs.getD i Col.none).hi<(cs.getD i Col.none).lo
 ·have he:colE (cs.getD i Col.none)=2:=by simp only[colE,hz,Kl];rw[Kg (.inr (.inr h3))]
  simp only[Tryz.f238,simprocAttr,zK,Vq,tys2,jel hc hlt,jdg,jaM,z44,jai,Qr,jaa,Jj,Qz,K5,Xa,Ks,Qn,Xd,jae,jac,hic,YW,jc8 _ hsc.1,hnm,jbO,jbP,jbT,hu,hX,jcX hwc,h0,h1,h2,h3];simp only[jaB,jak,jav,hE,he]
 ·have he:colE (cs.getD i Col.none)=0:=by simp only[colE,hz,Kl];rw[Ke aa]
  simp only[Tryz.f238,simprocAttr,zK,Vq,tys2,jel hc hlt,jdg,jaM,z44,jai,Qr,jaa,Jj,Qz,K5,Xa,Ks,Qn,Xd,jae,jac,hic,YW,jc8 _ hsc.1,hnm,jbO,jbP,jbT,hu,hX,jcX hwc,h0,h1,h2,h3];simp only[jaB,jak,jav,hE,he]
theorem jyk:env.P.funcs[254]? = some Tryz.f254:=ac
theorem jyl:env.P.funcs[255]? = some Tryz.f255:=ac
theorem jym:env.P.funcs[256]? = some Tryz.f256:=ac
theorem jyn:env.P.funcs[258]? = some Tryz.f258:=ac
theorem jyo:env.P.funcs[259]? = some Tryz.f259:=ac
theorem jyp:env.P.funcs[260]? = some Tryz.f260:=ac
theorem jyq:env.P.funcs[223]? = some Tryz.f223:=ac
theorem tys3:sz env 64=some 1/\sz env 32=some 1/\sz env 224=some 1/\env.P.underlying 222=some (.slice 224)/\(∀h p,jaH env h 64 p=(jab h 1 p).bind (·[0]?))/\(∀h p,jaH env h 32 p=(jab h 1 p).bind (·[0]?))/\(∀h p,jaH env h 224 p=(jab h 1 p).bind (·[0]?)):=by
 have g30:aggT env 64=some false:=ac;have g32:aggT env 32=some false:=ac;have g76:aggT env 224=some false:=ac;exact⟨ac,ac,ac,ac,λ_ _=>jay g30,λ_ _=>jay g32,λ_ _=>jay g76⟩
theorem jpN(g:FuncId)(e:Int)(L:List AObj)(ts:List Nat) :
  jah env (ev env) 254 [.func g [] [],.int .i64 e] ⟨L,ts⟩=some (.func 255 [] [.ptr L.length 0,.ptr (L.length+1) 0],⟨L++[.cells [.func g [] []] 64,.cells [.int .i64 e] 32],ts⟩):=by
 refine jb0 rfl rfl jyk rfl (by simp[Tryz.f254]) (by simp[Tryz.f254]) ?_;refine jaC ?_;simp -implicitDefEqProofs only[Tryz.f254,simprocAttr,zK,Vq,tys2,tys3,jpE,Y6,jtv];simp only[jaB,K7,Jn,Ja,and_self]
def Says(g:FuncId)(sc:List V)(b:Bool):Prop:=∀L ts,jah env (ev env) g [.agg sc] ⟨L,ts⟩=some (.bool b,⟨L++[.cells sc 38],ts⟩)
theorem jgG(g:FuncId)(e:Int)(a b c d:V)(r:Bool)(hg:Says g [a,b,c,d] r)(L:List AObj)(ts:List Nat)(p q:Nat)(hp:L[p]? = some (.cells [.func g [] []] 64))(hq:L[q]? = some (.cells [.int .i64 e] 32)) :
  jah env (ev env) 255 [.agg [a,b,c,d],.ptr p 0,.ptr q 0] ⟨L,ts⟩=some (.tup [.int .i64 (if r=true then e else 0),.int .i64 (-1)],⟨L++[.cells [a,b,c,d] 38,.cells [a,b,c,d] 38],ts⟩):=by
 refine jb0 rfl rfl jyl rfl (by simp[Tryz.f255]) (by simp[Tryz.f255]) ?_;refine jaC ?_;cases r<;>
 ·simp -implicitDefEqProofs only[Tryz.f255,simprocAttr,zK,Vq,tys2,tys3,YW,jhR (jaE hp _),jhR (jaE (jaE hp _) _),jhR (jaE (jaE hq _) _),jhR (jaE hq _),jaE hp,jaE hq,jem,jdA,hg _ _];simp[jaB]
theorem ck90(nm:List UInt8)(hn:nm.length<2^63)(b c d:V):Says 256 [.str nm,b,c,d] (!decide (jaZ nm)):=by
 intro L ts;refine jb0 rfl rfl jym rfl (by simp[Tryz.f256]) (by simp[Tryz.f256]) ?_;refine jaC ?_;by_cases h:jaZ nm<;>
 ·simp -implicitDefEqProofs only[Tryz.f256,simprocAttr,zK,Vq,tys2,tys3,YW,jad,jc8 nm hn,h,Q8,Ji];simp[jaB]
theorem ck92(a b c:V)(cv:V)(cs:List Col)(hc:IsC cv cs):Says 259 [a,b,c,cv] (decide (cs.length=0)):=by
 intro L ts;refine jb0 rfl rfl jyo rfl (by simp[Tryz.f259]) (by simp[Tryz.f259]) ?_;refine jaC ?_;by_cases h:(cs.length:Int)=0
 ·have h':cs.length=0:=by omega
  simp -implicitDefEqProofs only[Tryz.f259,simprocAttr,zK,Vq,tys2,tys3,YW,jad,jfs hc,h];simp[jaB,h']
 ·have h':¬cs.length=0:=by omega
  simp -implicitDefEqProofs only[Tryz.f259,simprocAttr,zK,Vq,tys2,tys3,YW,jad,jfs hc,h];simp[jaB,h']
theorem ck93(a b c:V)(cv:V)(cs:List Col)(hc:IsC cv cs):Says 260 [a,b,c,cv] (decide (16<cs.length)):=by
 intro L ts;refine jb0 rfl rfl jyp rfl (by simp[Tryz.f260]) (by simp[Tryz.f260]) ?_;refine jaC ?_;by_cases h:(16:Int)<(cs.length:Int)
 ·have h':16<cs.length:=by omega
  simp -implicitDefEqProofs only[Tryz.f260,simprocAttr,zK,Vq,tys2,tys3,YW,jad,jfs hc,h];simp[jaB,h']
 ·have h':¬16<cs.length:=by omega
  simp -implicitDefEqProofs only[Tryz.f260,simprocAttr,zK,Vq,tys2,tys3,YW,jad,jfs hc,h];simp[jaB,h']
theorem ck91(a d:V)(pb:Bool)(many:Int):Says 258 [a,.bool pb,.int .i64 many,d] (decide ((pb=true/\many ≠ 0)\/(pb=false/\(many<1\/50<many)))):=by
 intro L ts;refine jb0 rfl rfl jyn rfl (by simp[Tryz.f258]) (by simp[Tryz.f258]) ?_;refine jaC ?_;cases pb with
 | true =>
  by_cases h:many=0<;>
  ·simp -implicitDefEqProofs only[Tryz.f258,simprocAttr,zK,Vq,tys2,tys3,YW,jad,h];simp[jaB,h]
 | false =>
  by_cases h:many<1
  ·simp -implicitDefEqProofs only[Tryz.f258,simprocAttr,zK,Vq,tys2,tys3,YW,jad,h];simp[jaB,h]
  ·by_cases h2:50<many<;>
   ·simp -implicitDefEqProofs only[Tryz.f258,simprocAttr,zK,Vq,tys2,tys3,YW,jad,h,h2];simp[jaB,h,h2]
theorem jyr:env.P.funcs[261]? = some Tryz.f261:=ac
theorem ck94(nm:List UInt8)(pb:Bool)(many:Int)(cv:V)(cs:List Col)(hc:IsC cv cs)(ok:OkC cs)(hl:cs.length<=1000)(hs:∀i,i<cs.length->jdL (cs.getD i Col.none))(L:List AObj)(ts:List Nat) :
  ∃X,jah env (ev env) 261 [.agg [.str nm,.bool pb,.int .i64 many,cv]] ⟨L,ts⟩=some (.tup [.int .i64 (jcm cs cs.length 0).1,.int .i64 (jcm cs cs.length 0).2],⟨L++X,ts⟩):=by
 suffices h:∃v U',jah env (ev env) 261 [.agg [.str nm,.bool pb,.int .i64 many,cv]] ⟨L,ts⟩=some (v,U')/\(v=.tup [.int .i64 (jcm cs cs.length 0).1,.int .i64 (jcm cs cs.length 0).2]/\∃X,U'=⟨L++X,ts⟩) by
  obtain⟨v,U',h1,rfl,X,rfl⟩:=h;exact⟨X,h1⟩
 refine jaD jyr rfl ?_;simp only[Tryz.f261,simprocAttr,zK,Vq,tys2,tys3,YW,jad,jfs hc];refine jau (λm T D U=>D=[]/\U=⟨L++[.cells [.str nm,.bool pb,.int .i64 many,cv] 38],ts⟩/\T 1=.ptr L.length 0/\T 8=.int .i64 cs.length/\∃i:Nat,T 9=.int .i64 i/\i<=cs.length/\m=cs.length-i/\jcm cs cs.length 0=jcm cs (cs.length-i) i) ?_ _ _ _ _ ⟨rfl,rfl,rfl,rfl,0,rfl,aa,rfl,rfl⟩;rintro m T D U ⟨rfl,rfl,t1,t8,i,t9,hi,rfl,hf⟩;refine jaC ?_;by_cases hlt:i<cs.length
 ·have c1:(i:Int)<(cs.length:Int):=by omega
  have e1:IntKind.i64.wrap ((i:Int)+1)=((i+1:Nat):Int):=by rw[wrap_i64 aa aa];omega
  obtain⟨q,hq⟩:∃q,cs.length-i=q+1:=⟨cs.length-i-1,aa⟩;have hq2:q=cs.length-(i+1):=aa;have hstep:jcm cs (cs.length-i) i=if colX cs i=0 then jcm cs q (i+1)else(colX cs i,(i:Int)):=by rw[hq];rfl
  rw[hstep]at hf;by_cases hz:colX cs i=0
  ·rw[Kg hz,hq2]at hf;simp only[simprocAttr,zK,Vq,tys2,tys3,t1,t8,t9,c1,e1,jad,jd7 cv cs hc ok hl i hlt (hs i hlt),hz];exact⟨cs.length-(i+1),aa,i+1,rfl,aa,rfl,hf⟩
  ·rw[Ke hz]at hf;simp only[simprocAttr,zK,Vq,tys2,tys3,t1,t8,t9,c1,e1,jad,jd7 cv cs hc ok hl i hlt (hs i hlt),hz];exact⟨by rw[hf];rfl,_,rfl⟩
 ·have hi2:i=cs.length:=by omega
  subst hi2;have c1:¬(cs.length:Int)<(cs.length:Int):=aa;rw[Xn]at hf;simp only[simprocAttr,zK,Vq,t1,t8,t9,c1];exact⟨by rw[hf];rfl,_,rfl⟩
def jdU(g:FuncId)(n:Nat):V:=.func 255 [] [.ptr n 0,.ptr (n+1) 0]
def jeX:V:=.row [jdU 256 1,jdU 258 3,jdU 259 5,jdU 260 7,.func 261 [] []] 5 .full
def jen(o:AObj):List AObj:=[o,.cells [.func 256 [] []] 64,.cells [.int .i64 19] 32,.cells [.func 258 [] []] 64,.cells [.int .i64 2] 32,.cells [.func 259 [] []] 64,.cells [.int .i64 3] 32,.cells [.func 260 [] []] 64,.cells [.int .i64 4] 32]
theorem jpO:rowO env 222 5 [(0,.func 255 [] [.ptr 1 0,.ptr 2 0]),(1,.func 255 [] [.ptr 3 0,.ptr 4 0]),(2,.func 255 [] [.ptr 5 0,.ptr 6 0]),(3,.func 255 [] [.ptr 7 0,.ptr 8 0]),(4,.func 261 [] [])]=some jeX:=ac
theorem jnq(o:AObj):jah env (ev env) 223 [] ⟨[o],[]⟩=some (jeX,⟨jen o,[]⟩):=by
 refine jb0 rfl rfl jyq rfl (by simp[Tryz.f223]) (by simp[Tryz.f223]) ?_;refine jaC ?_;simp only[Tryz.f223,simprocAttr,zK,Vq,tys2,tys3,jpN,jar,jpO];simp[jaB,jen]
theorem jd8(cs:List Col):∀m i,(jcm cs m i).1=0->jcm cs m i=(0,-1)
 |0,i,_=>rfl
 |m+1,i,h=>by
  simp only[jcm]at h ⊢;by_cases hz:colX cs i=0
  ·rw[Kg hz]at h ⊢;exact jd8 cs m (i+1) h
  ·rw[Ke hz]at h;exact absurd h hz
open Classical in
noncomputable def jhd(nm:List UInt8)(pb:Bool)(many:Int)(cs:List Col):Nat->Int × Int
 |0=>jdh nm pb many cs
 |1=>if(pb=true/\many ≠ 0)\/(pb=false/\(many<1\/50<many))then(2,-1)else if cs.length=0 then(3,-1)else if 16<cs.length then(4,-1)else jcm cs cs.length 0
 |2=>if cs.length=0 then(3,-1)else if 16<cs.length then(4,-1)else jcm cs cs.length 0
 |3=>if 16<cs.length then(4,-1)else jcm cs cs.length 0
 |4=>jcm cs cs.length 0
 |_=>(0,-1)
theorem jwO:jaw 1 jeX (.int .i64 0)=some (.rptr [jdU 256 1,jdU 258 3,jdU 259 5,jdU 260 7,.func 261 [] []]):=rfl
theorem jwP:jaw 1 jeX (.int .i64 1)=some (.rptr [jdU 258 3,jdU 259 5,jdU 260 7,.func 261 [] []]):=rfl
theorem jwQ:jaw 1 jeX (.int .i64 2)=some (.rptr [jdU 259 5,jdU 260 7,.func 261 [] []]):=rfl
theorem jwR:jaw 1 jeX (.int .i64 3)=some (.rptr [jdU 260 7,.func 261 [] []]):=rfl
theorem jwS:jaw 1 jeX (.int .i64 4)=some (.rptr [.func 261 [] []]):=rfl
theorem lenF:jbb (some (.slice 224)) jeX=some (.int .i64 5):=rfl
theorem jys:env.P.funcs[171]? = some Tryz.f171:=ac
theorem jjm:IntKind.i64.wrap (0+1)=1/\IntKind.i64.wrap (1+1)=2/\IntKind.i64.wrap (2+1)=3/\IntKind.i64.wrap (3+1)=4/\IntKind.i64.wrap (4+1)=5:=by
 refine⟨?_,?_,?_,?_,?_⟩<;>rw[wrap_i64 aa aa]<;>rfl
open Classical in
theorem check_call(nm:List UInt8)(pb:Bool)(many:Int)(cv:V)(cs:List Col)(hc:IsC cv cs)(ok:OkC cs)(hn:nm.length<2^63)(hl:cs.length<=1000)(hs:∀i,i<cs.length->jdL (cs.getD i Col.none))(U:S) :
  jah env (ev env) 171 [.agg [.str nm,.bool pb,.int .i64 many,cv]] U=some (.tup [.int .i64 (jdh nm pb many cs).1,.int .i64 (jdh nm pb many cs).2],U):=by
 refine jaj (by simp[V.closed,V.closed.closedL,ja9 hc ok]) jys rfl ?_ U;simp only[Tryz.f171,simprocAttr,zK,Vq,tys2,tys3,jai,YW,jnq,lenF];generalize hr:jdh nm pb many cs=r
 refine jau (λm T D U=>D=[]/\T 1=.ptr 0 0/\T 8=jeX/\T 9=.int .i64 5/\∃(i:Nat) (X:List AObj),U=⟨jen (.cells [.str nm,.bool pb,.int .i64 many,cv] 38)++X,[]⟩/\T 10=.int .i64 i/\i<=5/\m=5-i/\jhd nm pb many cs i=r) ?_ _ _ _ _
  ⟨rfl,rfl,rfl,rfl,0,[],by rw[Jb],rfl,aa,rfl,hr⟩
 clear hr;rintro m T D U ⟨rfl,t1,t8,t9,i,X,rfl,t10,hi,rfl,hr⟩;refine jaC ?_
 have hfin:∀a b:Int,(a,b)=r->jaK (jen (.cells [.str nm,.bool pb,.int .i64 many,cv] 38)++X) jak (jaB [V.int .i64 a,V.int .i64 b])=some (.tup [.int .i64 r.1,.int .i64 r.2]):=λa b h=>by
  subst h;simp only[jaB,jak,jbS,jal,jaR,jav,Kq,K9]
 have hfin2:∀(Y:List AObj) (a b:Int),(a,b)=r->jaK Y jak (jaB [V.int .i64 a,V.int .i64 b])=some (.tup [.int .i64 r.1,.int .i64 r.2]):=λY a b h=>by
  subst h;simp only[jaB,jak,jbS,jal,jaR,jav,Kq,K9]
 have hL:jab (jen (.cells [.str nm,.bool pb,.int .i64 many,cv] 38)++X) 4 (.ptr 0 0)=some [.str nm,.bool pb,.int .i64 many,cv]:=jb7 rfl;have hi':i=0\/i=1\/i=2\/i=3\/i=4\/i=5:=aa
 rcases hi' with rfl|rfl|rfl|rfl|rfl|rfl
 ·have hC:=jgG 256 19 _ _ _ _ _ (ck90 nm hn (.bool pb) (.int .i64 many) cv) (jen (.cells [.str nm,.bool pb,.int .i64 many,cv] 38)++X) [] 1 2 rfl rfl;by_cases h:jaZ nm
  ·simp only[h,decide_true,Q8,Ku,Kn]at hC;have hr1:jhd nm pb many cs 1=r:=by rw[<- hr];show _=jdh nm pb many cs;unfold jdh;rw[Ke (by simp[h])];rfl
   simp only[simprocAttr,zK,Vq,tys2,tys3,t1,t8,t9,t10,Uk,jwO,jaq,jem,hL,jdU,hC,jjm];exact⟨4,aa,1,_,by rw[K7],rfl,aa,rfl,hr1⟩
  ·simp only[h,decide_false,Ji,Kl]at hC;have hr1:(19,-1)=r:=by rw[<- hr];show _=jdh nm pb many cs;unfold jdh;rw[Kg (by simp[h])]
   simp only[simprocAttr,zK,Vq,tys2,tys3,t1,t8,t9,t10,Uk,jwO,jaq,jem,hL,jdU,hC,jjm];exact hfin2 _ _ _ hr1
 ·have hC:=jgG 258 2 _ _ _ _ _ (ck91 (.str nm) cv pb many) (jen (.cells [.str nm,.bool pb,.int .i64 many,cv] 38)++X) [] 3 4 rfl rfl;by_cases h:(pb=true/\many ≠ 0)\/(pb=false/\(many<1\/50<many))
  ·simp only[h,decide_true,Kl]at hC;have hr1:(2,-1)=r:=by rw[<- hr];simp only[jhd];rw[Kg h]
   simp only[simprocAttr,zK,Vq,tys2,tys3,t1,t8,t9,t10,Xk,jwP,jaq,jem,hL,jdU,hC,jjm];exact hfin2 _ _ _ hr1
  ·simp only[h,decide_false,Ku,Kn]at hC;have hr1:jhd nm pb many cs 2=r:=by rw[<- hr];simp only[jhd];rw[Ke h]
   simp only[simprocAttr,zK,Vq,tys2,tys3,t1,t8,t9,t10,Xk,jwP,jaq,jem,hL,jdU,hC,jjm];exact⟨3,aa,2,_,by rw[K7],rfl,aa,rfl,hr1⟩
 ·have hC:=jgG 259 3 _ _ _ _ _ (ck92 (.str nm) (.bool pb) (.int .i64 many) cv cs hc) (jen (.cells [.str nm,.bool pb,.int .i64 many,cv] 38)++X) [] 5 6 rfl rfl;by_cases h:cs.length=0
  ·simp only[h,decide_true,Kl]at hC;have hr1:(3,-1)=r:=by rw[<- hr];simp only[jhd];rw[Kg h]
   simp only[simprocAttr,zK,Vq,tys2,tys3,t1,t8,t9,t10,Xk,jwQ,jaq,jem,hL,jdU,hC,jjm];exact hfin2 _ _ _ hr1
  ·simp only[h,decide_false,Ku,Kn]at hC;have hr1:jhd nm pb many cs 3=r:=by rw[<- hr];simp only[jhd];rw[Ke h]
   simp only[simprocAttr,zK,Vq,tys2,tys3,t1,t8,t9,t10,Xk,jwQ,jaq,jem,hL,jdU,hC,jjm];exact⟨2,aa,3,_,by rw[K7],rfl,aa,rfl,hr1⟩
 ·have hC:=jgG 260 4 _ _ _ _ _ (ck93 (.str nm) (.bool pb) (.int .i64 many) cv cs hc) (jen (.cells [.str nm,.bool pb,.int .i64 many,cv] 38)++X) [] 7 8 rfl rfl;by_cases h:16<cs.length
  ·simp only[h,decide_true,Kl]at hC;have hr1:(4,-1)=r:=by rw[<- hr];simp only[jhd];rw[Kg h]
   simp only[simprocAttr,zK,Vq,tys2,tys3,t1,t8,t9,t10,Xk,jwR,jaq,jem,hL,jdU,hC,jjm];exact hfin2 _ _ _ hr1
  ·simp only[h,decide_false,Ku,Kn]at hC;have hr1:jhd nm pb many cs 4=r:=by rw[<- hr];simp only[jhd];rw[Ke h]
   simp only[simprocAttr,zK,Vq,tys2,tys3,t1,t8,t9,t10,Xk,jwR,jaq,jem,hL,jdU,hC,jjm];exact⟨1,aa,4,_,by rw[K7],rfl,aa,rfl,hr1⟩
 ·obtain⟨Y,hC⟩:=ck94 nm pb many cv cs hc ok hl hs (jen (.cells [.str nm,.bool pb,.int .i64 many,cv] 38)++X) [];have hr1:jcm cs cs.length 0=r:=by rw[<- hr];simp only[jhd]
  by_cases h:(jcm cs cs.length 0).1=0
  ·have h2:=jd8 cs _ _ h;simp only[h2]at hC;simp only[simprocAttr,zK,Vq,tys2,tys3,t1,t8,t9,t10,Xk,jwS,jaq,jem,hL,jdU,hC,jjm];exact⟨0,aa,5,_,by rw[K7],rfl,aa,rfl,by rw[<- hr1,h2];rfl⟩
  ·simp only[simprocAttr,zK,Vq,tys2,tys3,t1,t8,t9,t10,Xk,jwS,jaq,jem,hL,jdU,hC,jjm,h];exact hfin2 _ _ _ hr1
 ·have hr1:(0,-1)=r:=by rw[<- hr];simp only[jhd]
  simp only[simprocAttr,zK,Vq,tys2,tys3,t1,t8,t9,t10,Xk];exact hfin2 _ _ _ hr1
end Go.Proofs.YtajaampgajieeaaGreatDoor
