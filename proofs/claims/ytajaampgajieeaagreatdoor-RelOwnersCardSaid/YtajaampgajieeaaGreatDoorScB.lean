/- Proved here: a schema is checked. Conditions: each theorem's own. -/
import Derived.Test.YtajaampgajieeaaGreatDoorScA
set_option linter.unusedSimpArgs false
set_option maxHeartbeats 16000000
set_option maxRecDepth 1000000
set_option linter.unusedVariables false
set_option linter.unusedSectionVars false
namespace Go.Proofs.YtajaampgajieeaaGreatDoor
open Go.Ab
theorem jwQ:env.P.funcs[296]? = some Tryz.f296:=ac
theorem jwR:env.P.funcs[297]? = some Tryz.f297:=ac
theorem jwS:env.P.funcs[325]? = some Tryz.f325:=ac
theorem jwT:env.P.funcs[270]? = some Tryz.f270:=ac
theorem jhg(s:List UInt8)(hs:s.length<2^63)(U:S):jaf env (ev env) 297 [.str s] U=some (.bool (!decide (jaZ s)),U):=by
 refine jak rfl jwR rfl ?_ U;by_cases h:jaZ s<;>
 ·simp only[Tryz.f297,simprocAttr,zK,Vq,jc4 s hs,h];simp only[jay,jai,jaz,Q7,Jd]
noncomputable def jep(ws:List (List UInt8)):Nat->Nat->Int
 |0,_ => -1
 |m+1,i=>if jaZ (ws.getD i [])then jep ws m (i+1)else i
theorem jjh (ws:List (List UInt8)):∀m i,0<=jep ws m i↔∃j,i<=j/\j<i+m/\¬jaZ (ws.getD j [])
  | 0, i => by simp only[jep];constructor
               · intro h;omega
               · rintro⟨j,h1,h2,_⟩;omega
  | m+1,i=>by
    simp only[jep];by_cases h:jaZ (ws.getD i [])
    · rw [Kj h,jjh ws m (i+1)]
      constructor
      · rintro⟨j,h1,h2,h3⟩;exact⟨j,aa,aa,h3⟩
      · rintro⟨j,h1,h2,h3⟩
        refine⟨j,?_,aa,h3⟩
        rcases Qm i j with h4|h4
        · omega
        · have:j=i:=by omega
          subst this;exact absurd h h3
    · rw[Kh h]
      exact⟨λ_=>⟨i,aa,aa,h⟩,λ_=>aa⟩
theorem jji(w:V)(ws:List (List UInt8))(h:IsW w ws)(hl:ws.length<=1000)(hs:∀i,i<ws.length->(ws.getD i []).length<2^63)(U:S) :
  jaf env (ev env) 325 [w,.func 297 [] []] U=some (.int .i64 (jep ws ws.length 0),U):=by
 refine jak (by simp[V.closed,V.closed.closedL,jcn h]) jwS rfl ?_ U;simp only[Tryz.f325,simprocAttr,zK,Vq,jcU h];refine jax (λm T D U=>D=[]/\U=S.empty/\T 0=w/\T 1=.func 297 [] []/\T 7=.int .i64 ws.length/\∃i:Nat,T 8=.int .i64 i/\i<=ws.length/\m=ws.length-i/\jep ws ws.length 0=jep ws (ws.length-i) i) ?_ _ _ _ _ ⟨rfl,rfl,rfl,rfl,rfl,0,rfl,aa,rfl,rfl⟩;rintro m T D U ⟨rfl,rfl,t0,t1,t7,i,t8,hi,rfl,hf⟩;refine jaB ?_;by_cases hlt:i<ws.length
 ·have c1:(i:Int)<(ws.length:Int):=by omega
  have e1:IntKind.i64.wrap ((i:Int)+1)=((i+1:Nat):Int):=by rw[wrap_i64 aa aa];omega
  have hx:=jmC h hlt;obtain⟨q,hq⟩:∃q,ws.length-i=q+1:=⟨ws.length-i-1,aa⟩;have hq2:q=ws.length-(i+1):=aa;have hstep:jep ws (ws.length-i) i=if jaZ (ws.getD i [])then jep ws q (i+1)else i:=by rw[hq];rfl
  rw[hstep]at hf;by_cases hn:jaZ (ws.getD i [])
  ·rw[Kj hn,hq2]at hf;simp only[simprocAttr,zK,Vq,t0,t1,t7,t8,c1,e1,hx,jar,jhg _ (hs i hlt),hn,Q7];exact⟨ws.length-(i+1),aa,i+1,rfl,aa,rfl,hf⟩
  ·rw[Kh hn]at hf;simp only[simprocAttr,zK,Vq,t0,t1,t7,t8,c1,e1,hx,jar,jhg _ (hs i hlt),hn,Jd];simp only[jay,jai,jav,hf]
 ·have hi2:i=ws.length:=by omega
  subst hi2;have c1:¬(ws.length:Int)<(ws.length:Int):=aa;have hf2:jep ws ws.length 0 = -1:=by rw[hf,Xh];rfl
  simp only[simprocAttr,zK,Vq,t0,t1,t7,t8,c1];simp only[jay,jai,jav,hf2]
open Classical in
theorem jc5(w:V)(ws:List (List UInt8))(h:IsW w ws)(hl:ws.length<=1000)(hs:∀i,i<ws.length->(ws.getD i []).length<2^63)(U:S) :
  jaf env (ev env) 296 [w,.func 297 [] []] U=some (.bool (decide (∃i,i<ws.length/\¬jaZ (ws.getD i []))),U):=by
 refine jak (by simp[V.closed,V.closed.closedL,jcn h]) jwQ rfl ?_ U
 have hk:(0<=jep ws ws.length 0)↔∃i,i<ws.length/\¬jaZ (ws.getD i []):=by
  rw[jjh];constructor
  ·rintro⟨j,_,h2,h3⟩;exact⟨j,aa,h3⟩
  ·rintro⟨j,h2,h3⟩;exact⟨j,aa,aa,h3⟩
 by_cases hp:∃i,i<ws.length/\¬jaZ (ws.getD i [])
 ·have c0:0<=jep ws ws.length 0:=hk.2 hp;simp only[Tryz.f296,simprocAttr,zK,Vq,jji w ws h hl hs,c0];simp only[jay,jai,jaz,hp,decide_true]
 ·have c0:¬0<=jep ws ws.length 0:=λh=>hp (hk.1 h)
  simp only[Tryz.f296,simprocAttr,zK,Vq,jji w ws h hl hs,c0];simp only[jay,jai,jaz,hp,decide_false]
theorem jwU:env.P.funcs[298]? = some Tryz.f298:=ac
def keyV(s:List UInt8):V:=.agg [.str s,.bool false]
theorem jqr(a b:List UInt8):eqT env 8 309 (keyV a) (keyV b)=some (a==b):=by
 have h:eqT env 8 309 (keyV a) (keyV b)=(some (a==b)).bind λr=>if r then some true else some false:=ac
 rw[h];cases a==b<;>rfl
theorem jqs(a:List UInt8):jdy env 8 309 (keyV a)=true:=ac
theorem jrW(a:List UInt8):jhL 8 (keyV a) (keyV a)=true:=by simp[jhL,keyV]
def entV(p:List UInt8 × Nat):V × V × Nat:=(keyV p.1,.agg [],p.2)
def keys(ps:List (List UInt8 × Nat)):List (List UInt8):=ps.map (·.1)
theorem jqt(s:List UInt8):∀(ps:List (List UInt8 × Nat)) (i:Nat),s ∉ keys ps->jdh env 309 (keyV s) (ps.map entV) i=some none
 | [],i,h=>rfl
 |p::ps,i,h=>by
  have h1:¬s=p.1:=λe=>h (by simp[keys,e])
  have h2:s ∉ keys ps:=λe=>h (by simp only[keys,K7,Jh];exact .inr e)
  simp only[K7,jdh,entV,jqr,Kl,beq_eq_false_iff_ne.2 h1,Kr,Kq];exact jqt s ps (i+1) h2
theorem jnT(s:List UInt8):∀(ps:List (List UInt8 × Nat)) (i:Nat),s∈keys ps->∃j n,jdh env 309 (keyV s) (ps.map entV) i=some (some (i+j))/\ps[j]? = some (s,n)
 | [],i,h=>by simp[keys]at h
 | p::ps,i,h=>by
  by_cases h1:s=p.1
  ·refine⟨0,p.2,?_,by simp[h1]⟩;simp only[K7,jdh,entV,jqr,Kl,h1,beq_self_eq_true,Km,Vh]
  ·have h2:s∈keys ps:=by
    simp only[keys,K7,Jh]at h;exact h.resolve_left h1
   obtain⟨j,n,h3,h4⟩:=jnT s ps (i+1) h2;refine⟨j+1,n,?_,by simpa using h4⟩;simp only[K7,jdh,entV,jqr,Kl,beq_eq_false_iff_ne.2 h1,Kr,Kq];rw[show i+(j+1)=i+1+j by omega];exact h3
def jih (E:Env)(t:TypeId)(mv kv xv:V)(U:S):Option (V × S) :=
    match E.P.underlying t,mv with
    | some (.map kt _),.map b =>
      match U.heap[b]? with
      | some (.map es clock) =>
        if jdy E 8 kt kv then
          match jdh E kt kv es 0 with
          |some none=>some (.tup [],U.set b (.map (es++[(kv,xv,clock)]) (clock+1)))
          | some (some j) =>
            match es[j]? with
            |some e=>if jhL 8 e.1 kv then some (.tup [],U.set b (.map (es.set j (kv,xv,e.2.2)) clock))else none
            |none=>none
          |none=>none
        else none
      |_=>none
    |_,_=>none
theorem jeq {E:Env}{m:Bool}{T:Tm}{U:S}(t:TypeId)(a b c:Operand):opT E m T U (.mapUpdate t a b c)=(jaP E T a).bind λmv=>(jaP E T b).bind λkv=>(jaP E T c).bind λxv=>jih E t mv kv xv U:=rfl
theorem u164:env.P.underlying 306=some (.map 309 307):=ac
theorem jqu(s:List UInt8)(ps:List (List UInt8 × Nat))(clock:Nat)(hp:List AObj)(b:Nat)(ts:List Nat)(hh:hp[b]? = some (.map (ps.map entV) clock)) :
  ∃ps' clock',jih env 306 (.map b) (keyV s) (.agg []) ⟨hp,ts⟩=some (.tup [],⟨hp.set b (.map (ps'.map entV) clock'),ts⟩)/\keys ps'=if s∈keys ps then keys ps else keys ps++[s]:=by
 unfold jih;simp only[u164,hh,jqs,Km];by_cases h:s∈keys ps
 ·obtain⟨j,n,h1,h2⟩:=jnT s ps 0 h;rw[Jn]at h1;have h3:(ps.map entV)[j]? = some (entV (s,n)):=by simp[h2]
  have h4:(ps.map entV).set j (keyV s,.agg [],n)=ps.map entV:=by
   apply Xv;intro i;by_cases e:i=j
   ·subst e
    have:i<(ps.map entV).length:=by
     rcases Qm i (ps.map entV).length with h|h
     ·exact h
     ·rw[Ql h]at h3;simp at h3
    rw[Kn this,h3];rfl
   ·rw[Kg (λh=>e h.symm)]
  refine⟨ps,clock,?_,by rw[Kj h]⟩;simp only[h1,h3,entV,jrW,Km,S.set];rw[h4]
 ·refine⟨ps++[(s,clock)],clock+1,?_,by rw[Kh h];simp[keys]⟩;simp only[jqt s ps 0 h,S.set,Js,K7,Jv,entV]
theorem jqv(s:List UInt8):jbV env 309 [(0,.str s)]=some (keyV s):=ac
theorem joI:jbV env 307 []=some (.agg []):=ac
theorem jmE {T:Tm}{U:S}{m:Bool}:opT env m T U (.makeMap 306 none)=some (.map U.heap.length,U.push (.map [] 0)):=by
 unfold opT;simp only[jba,jbp,jbs,u164]
theorem upd0(s:List UInt8)(ps:List (List UInt8 × Nat))(clock:Nat):∃ps' clock',jih env 306 (.map 0) (keyV s) (.agg []) ⟨[.map (ps.map entV) clock],[]⟩=some (.tup [],⟨[.map (ps'.map entV) clock'],[]⟩)/\keys ps'=if s∈keys ps then keys ps else keys ps++[s] :=
 jqu s ps clock [.map (ps.map entV) clock] 0 [] rfl
theorem ju9(ps:List (List UInt8 × Nat))(clock:Nat)(ts:List Nat):lenO ⟨[.map (ps.map entV) clock],ts⟩ (some (.map 309 307)) (.map 0)=some (.int .i64 (keys ps).length,⟨[.map (ps.map entV) clock],ts⟩):=by
 rw[jrQ (es:=ps.map entV) (c:=clock) _ _ _ _ rfl];simp[keys]
def Dup(ws:List (List UInt8))(i:Nat):Prop:=∃k j,k<j/\j<i/\ws.getD k []=ws.getD j []
open Classical in
theorem jeI(w:V)(ws:List (List UInt8))(h:IsW w ws)(hl:ws.length<=1000)(U:S):jaf env (ev env) 298 [w] U=some (.bool (decide (jiO ws)),U):=by
 refine jak (by simp[jcn h]) jwU rfl ?_ U;simp only[Tryz.f298,simprocAttr,zK,Vq,jaj,jcU h,jmE]
 refine jax (λm T D U=>D=[]/\T 0=w/\T 3=.map 0/\T 7=w/\T 8=.int .i64 ws.length/\∃(i clock:Nat) (ps:List (List UInt8 × Nat)),U=⟨[.map (ps.map entV) clock],[]⟩/\T 9=.int .i64 i/\i<=ws.length/\m=ws.length-i /\
  (∀s,s∈keys ps↔∃j,j<i/\ws.getD j []=s)/\(keys ps).length<=i/\((keys ps).length<i↔Dup ws i)) ?_ _ _ _ _
  ⟨rfl,rfl,rfl,rfl,rfl,0,0,[],rfl,rfl,aa,rfl,λs=>⟨λh=>by simp[keys]at h,λ⟨j,h,_⟩=>aa⟩,by simp[keys],⟨λh=>aa,λ⟨k,j,_,h,_⟩=>aa⟩⟩
 rintro m T D U ⟨rfl,t0,t3,t7,t8,i,clock,ps,rfl,t9,hi,rfl,hmem,hlen,hdup⟩;refine jaB ?_;by_cases hlt:i<ws.length
 ·have c1:(i:Int)<(ws.length:Int):=by omega
  have e1:IntKind.i64.wrap ((i:Int)+1)=((i+1:Nat):Int):=by rw[wrap_i64 aa aa];omega
  have hx:=jmC h hlt;obtain⟨ps',clock',hU,hk⟩:=upd0 (ws.getD i []) ps clock;simp only[simprocAttr,zK,Vq,t0,t3,t7,t8,t9,c1,e1,hx,jar,jeq,jqv,joI,hU];refine⟨ws.length-(i+1),aa,i+1,clock',ps',rfl,rfl,aa,rfl,λs => ?_,?_,?_⟩
  ·rw[hk];constructor
   ·intro hs;split at hs
    ·obtain⟨j,h1,h2⟩:=(hmem s).1 hs;exact⟨j,aa,h2⟩
    ·rcases Jx.1 hs with hs|hs
     ·obtain⟨j,h1,h2⟩:=(hmem s).1 hs;exact⟨j,aa,h2⟩
     ·exact⟨i,aa,(J9.1 hs).symm⟩
   ·rintro⟨j,h1,h2⟩;have hj:j<i\/j=i:=aa;split
    ·rename_i hin
     rcases hj with hj|rfl
     ·exact(hmem s).2 ⟨j,hj,h2⟩
     ·rw[<- h2];exact hin
    ·rcases hj with hj|rfl
     ·exact List.mem_append_left _ ((hmem s).2 ⟨j,hj,h2⟩)
     ·rw[<- h2];simp
  ·rw[hk];split
   ·omega
   ·simp only[Kk,Qn,Qx];omega
  ·rw[hk];split
   ·rename_i hin;obtain⟨j,h1,h2⟩:=(hmem _).1 hin;exact⟨λ_=>⟨j,i,h1,aa,h2⟩,λ_=>aa⟩
   ·rename_i hin;simp only[Kk,Qn,Qx];constructor
    ·intro hh;obtain⟨k,j,h1,h2,h3⟩:=hdup.1 aa;exact⟨k,j,h1,aa,h3⟩
    ·rintro⟨k,j,h1,h2,h3⟩;have hj:j<i\/j=i:=aa
     rcases hj with hj|rfl
     ·have:=hdup.2 ⟨k,j,h1,hj,h3⟩;omega
     ·exact absurd ((hmem _).2 ⟨k,h1,h3⟩) hin
 ·have hi2:i=ws.length:=by omega
  subst hi2;have c1:¬(ws.length:Int)<(ws.length:Int):=aa
  have hT:((keys ps).length:Int)<(ws.length:Int)↔jiO ws:=by
   have:Dup ws ws.length↔jiO ws:=Iff.rfl;rw[<- this,<- hdup];omega
  by_cases hp:((keys ps).length:Int)<(ws.length:Int)
  ·have h2:=hT.1 hp;simp only[simprocAttr,zK,Vq,t0,t3,t7,t8,t9,c1,u164,ju9,jcU h,hp];simp only[jay,jai,jaz,h2,decide_true]
  ·have h2:¬jiO ws:=λq=>hp (hT.2 q)
   simp only[simprocAttr,zK,Vq,t0,t3,t7,t8,t9,c1,u164,ju9,jcU h,hp];simp only[jay,jai,jaz,h2,decide_false]
open Classical in
theorem joJ(c:Col)(h:IsW c.w c.ws)(hs:jdS c)(h0:c.ws.length ≠ 0)(U:S):jaf env (ev env) 270 [.agg [.str c.name,.int .i64 c.lo,.int .i64 c.hi,c.w]] U=some (.int .i64 (colE c),U):=by
 refine jak (by simp[V.closed,V.closed.closedL,jcn h]) jwT rfl ?_ U;obtain⟨hs1,hs2,hs3⟩:=hs;have hic:=jbe h;obtain⟨nm,lo,hi,w,ws⟩:=c;simp only at h hs1 hs2 hs3 hic h0 ⊢;by_cases h1:(64:Int)<(ws.length:Int)
 ·have he:colE ⟨nm,lo,hi,w,ws⟩=4:=by simp only[colE];rw[Kh h0,Kj aa]
  simp only[Tryz.f270,simprocAttr,zK,Vq,tys2,jaj,jcU h,h1];simp only[jay,jai,jav,he]
 by_cases hp:∃i,i<ws.length/\¬jaZ (ws.getD i [])
 ·have he:colE ⟨nm,lo,hi,w,ws⟩=19:=by simp only[colE];rw[Kh h0,Kh aa,Kj hp]
  simp only[Tryz.f270,simprocAttr,zK,Vq,tys2,jaj,jcU h,h1,jc5 w ws h hs2 hs3,hp];simp only[jay,jai,jav,he]
 by_cases h2:jiO ws
 ·have he:colE ⟨nm,lo,hi,w,ws⟩=8:=by simp only[colE];rw[Kh h0,Kh aa,Kh hp,Kj h2]
  simp only[Tryz.f270,simprocAttr,zK,Vq,tys2,jaj,jcU h,h1,jc5 w ws h hs2 hs3,hp,jeI w ws h hs2,h2];simp only[jay,jai,jav,he]
 have e2:IntKind.i64.wrap ((ws.length:Int)-1)=(ws.length:Int)-1:=wrap_i64 aa aa;by_cases h3:lo=0
 ·by_cases h4:hi=(ws.length:Int)-1
  ·have he:colE ⟨nm,lo,hi,w,ws⟩=0:=by simp only[colE];rw[Kh h0,Kh aa,Kh hp,Kh h2,Kh (by rintro(h|h);exact h h3;exact h h4)]
   simp only[Tryz.f270,simprocAttr,zK,Vq,tys2,jaj,jcU h,h1,jc5 w ws h hs2 hs3,hp,jeI w ws h hs2,h2,h3,e2,h4];simp only[jay,jai,jav,<- h3,<- h4,he]
  ·have he:colE ⟨nm,lo,hi,w,ws⟩=2:=by simp only[colE];rw[Kh h0,Kh aa,Kh hp,Kh h2,Kj (.inr h4)]
   simp only[Tryz.f270,simprocAttr,zK,Vq,tys2,jaj,jcU h,h1,jc5 w ws h hs2 hs3,hp,jeI w ws h hs2,h2,h3,e2,h4];simp only[jay,jai,jav,<- h3,he]
 ·have he:colE ⟨nm,lo,hi,w,ws⟩=2:=by simp only[colE];rw[Kh h0,Kh aa,Kh hp,Kh h2,Kj (.inl h3)]
  simp only[Tryz.f270,simprocAttr,zK,Vq,tys2,jaj,jcU h,h1,jc5 w ws h hs2 hs3,hp,jeI w ws h hs2,h2,h3];simp only[jay,jai,jav,he]
theorem jwV:env.P.funcs[269]? = some Tryz.f269:=ac
theorem joK(c d:Col)(hd:IsW d.w d.ws)(L:List AObj)(ts:List Nat)(p:Nat)(hp:L[p]? = some (.cells [.str c.name,.int .i64 c.lo,.int .i64 c.hi,c.w] 41)) :
  jaf env (ev env) 269 [.agg [.str d.name,.int .i64 d.lo,.int .i64 d.hi,d.w],.ptr p 0] ⟨L,ts⟩=some (.bool (decide (d.name=c.name)),⟨L++[.cells [.str d.name,.int .i64 d.lo,.int .i64 d.hi,d.w] 41],ts⟩):=by
 refine jbW rfl rfl jwV rfl (by simp[Tryz.f269]) (by simp[Tryz.f269]) ?_;refine jaB ?_
 have hlt:p<L.length:=by
  rcases Qm p L.length with h|h
  ·exact h
  ·rw[Ql h]at hp;simp at hp
 have hE:∀o,(L++[o])[p]? = some (.cells [.str c.name,.int .i64 c.lo,.int .i64 c.hi,c.w] 41):=λo=>by rw[Ki hlt];exact hp
 by_cases h:d.name=c.name<;>
 ·simp only[Tryz.f269,simprocAttr,zK,Vq,tys2,YW,jad,hE,jaA,h];simp[jay,h]
theorem jrX:env.P.funcs[200]? = some Tryz.f200:=ac
theorem jwW:env.P.funcs[231]? = some Tryz.f231:=ac
def jd5(ds:List Col)(nm:List UInt8):Nat->Nat->Int
 |0,_ => -1
 |m+1,i=>if(ds.getD i Col.none).name=nm then i else jd5 ds nm m (i+1)
theorem jjj (ds:List Col)(nm:List UInt8):∀m i,0<=jd5 ds nm m i↔∃j,i<=j/\j<i+m/\(ds.getD j Col.none).name=nm
  | 0, i => by simp only[jd5];constructor
               · intro h;omega
               · rintro⟨j,h1,h2,_⟩;omega
  | m+1,i=>by
    simp only[jd5];by_cases h:(ds.getD i Col.none).name=nm
    · rw[Kj h]
      exact⟨λ_=>⟨i,aa,aa,h⟩,λ_=>aa⟩
    · rw [Kh h,jjj ds nm m (i+1)]
      constructor
      · rintro⟨j,h1,h2,h3⟩;exact⟨j,aa,aa,h3⟩
      · rintro⟨j,h1,h2,h3⟩
        refine⟨j,?_,aa,h3⟩
        rcases Qm i j with h4|h4
        · omega
        · have:j=i:=by omega
          subst this;exact absurd h3 h
theorem jmF(c:Col)(dv:V)(ds:List Col)(hd:IsC dv ds)(ok:OkC ds)(hl:ds.length<=1000)(L:List AObj)(ts:List Nat)(p:Nat)(hp:L[p]? = some (.cells [.str c.name,.int .i64 c.lo,.int .i64 c.hi,c.w] 41)) :
  ∃X,jaf env (ev env) 200 [dv,.func 269 [] [.ptr p 0]] ⟨L,ts⟩=some (.int .i64 (jd5 ds c.name ds.length 0),⟨L++X,ts⟩):=by
 have hlt0:p<L.length:=by
  rcases Qm p L.length with h|h
  ·exact h
  ·rw[Ql h]at hp;simp at hp
 suffices h:∃v U',jaf env (ev env) 200 [dv,.func 269 [] [.ptr p 0]] ⟨L,ts⟩=some (v,U')/\(v=.int .i64 (jd5 ds c.name ds.length 0)/\∃X,U'=⟨L++X,ts⟩) by
  obtain⟨v,U',h1,rfl,X,rfl⟩:=h;exact⟨X,h1⟩
 refine jaD jrX rfl ?_;simp only[Tryz.f200,simprocAttr,zK,Vq,tys2,je9 hd];refine jax (λm T D U=>D=[]/\T 0=dv/\T 1=.func 269 [] [.ptr p 0]/\T 7=.int .i64 ds.length/\∃(i:Nat) (X:List AObj),U=⟨L++X,ts⟩/\T 8=.int .i64 i/\i<=ds.length/\m=ds.length-i/\jd5 ds c.name ds.length 0=jd5 ds c.name (ds.length-i) i) ?_ _ _ _ _ ⟨rfl,rfl,rfl,rfl,0,[],ae,rfl,aa,rfl,rfl⟩;rintro m T D U ⟨rfl,t0,t1,t7,i,X,rfl,t8,hi,rfl,hf⟩;refine jaB ?_;by_cases hlt:i<ds.length
 ·have c1:(i:Int)<(ds.length:Int):=by omega
  have e1:IntKind.i64.wrap ((i:Int)+1)=((i+1:Nat):Int):=by rw[wrap_i64 aa aa];omega
  have hx:=jeS hd hlt;have hN:=joK c (ds.getD i Col.none) (ok.at hlt) (L++X) ts p (by rw[Ki hlt0];exact hp);obtain⟨q,hq⟩:∃q,ds.length-i=q+1:=⟨ds.length-i-1,aa⟩;have hq2:q=ds.length-(i+1):=aa;have hstep:jd5 ds c.name (ds.length-i) i=if(ds.getD i Col.none).name=c.name then(i:Int)else jd5 ds c.name q (i+1):=by rw[hq];rfl
  rw[hstep]at hf;by_cases hn:(ds.getD i Col.none).name=c.name
  ·rw[Kj hn]at hf;simp only[hn,decide_true]at hN;simp only[simprocAttr,zK,Vq,tys2,t0,t1,t7,t8,c1,e1,hx,jc9,jaK,hn,hN];exact⟨by rw[hf];rfl,_,by rw[Qg]⟩
  ·rw[Kh hn,hq2]at hf;simp only[hn,decide_false]at hN;simp only[simprocAttr,zK,Vq,tys2,t0,t1,t7,t8,c1,e1,hx,jc9,jaK,hN];exact⟨ds.length-(i+1),aa,i+1,_,by rw[Qg],rfl,aa,rfl,hf⟩
 ·have hi2:i=ds.length:=by omega
  subst hi2;have c1:¬(ds.length:Int)<(ds.length:Int):=aa;have hf2:jd5 ds c.name ds.length 0 = -1:=by rw[hf,Xh];rfl
  simp only[simprocAttr,zK,Vq,t0,t1,t7,t8,c1];exact⟨by rw[hf2];rfl,X,rfl⟩
open Classical in
theorem jiP(c:Col)(dv:V)(ds:List Col)(hd:IsC dv ds)(ok:OkC ds)(hl:ds.length<=1000)(L:List AObj)(ts:List Nat)(p:Nat)(hp:L[p]? = some (.cells [.str c.name,.int .i64 c.lo,.int .i64 c.hi,c.w] 41)) :
  ∃X,jaf env (ev env) 231 [dv,.func 269 [] [.ptr p 0]] ⟨L,ts⟩=some (.bool (decide (∃j,j<ds.length/\(ds.getD j Col.none).name=c.name)),⟨L++X,ts⟩):=by
 obtain⟨X,hX⟩:=jmF c dv ds hd ok hl L ts p hp;refine⟨X,?_⟩
 have hk:(0<=jd5 ds c.name ds.length 0)↔∃j,j<ds.length/\(ds.getD j Col.none).name=c.name:=by
  rw[jjj];constructor
  ·rintro⟨j,_,h2,h3⟩;exact⟨j,aa,h3⟩
  ·rintro⟨j,h2,h3⟩;exact⟨j,aa,aa,h3⟩
 refine jbW rfl rfl jwW rfl (by simp[Tryz.f231]) (by simp[Tryz.f231]) ?_;refine jaB ?_;by_cases hq:∃j,j<ds.length/\(ds.getD j Col.none).name=c.name
 ·have c0:0<=jd5 ds c.name ds.length 0:=hk.2 hq;simp only[Tryz.f231,simprocAttr,zK,Vq,hX,c0];simp only[jay,hq,decide_true,and_self]
 ·have c0:¬0<=jd5 ds c.name ds.length 0:=λh=>hq (hk.1 h)
  simp only[Tryz.f231,simprocAttr,zK,Vq,hX,c0];simp only[jay,hq,decide_false,and_self]
theorem jwX:env.P.funcs[238]? = some Tryz.f238:=ac
theorem jjk:∀(cs:List Col) (i:Nat),(jaM cs).take (i*4)=jaM (cs.take i)
 |cs,0=>by simp[jaM]
 | [],i+1=>by simp[jaM]
 |c::cs,i+1=>by
  rw[jbE,show(i+1)*4=i*4+1+1+1+1 by omega];simp only[Ju,jjk cs i,jbE]
theorem jtG {v:V}{cs:List Col}(h:IsC v cs){i:Nat}(hi:i<cs.length):∃u,jb2 env 36 v none (some (.int .i64 (i:Int))) none=some u/\IsC u (cs.take i):=by
 rcases h with⟨rfl,rfl⟩|⟨q,_,rfl⟩
 ·simp at hi
 ·refine⟨.row (jaM (cs.take i)) i .unk,?_,.inr ⟨.unk,.inl rfl,by simp[Qz,Xy (Nat.le_of_lt hi)]⟩⟩
  have hb:ja4 (some (.int .i64 (i:Int))) cs.length cs.length=some i:=by
   simp only[ja4];simp;omega
  simp only[jb2,tys2,Kl,jcV,hb];simp[ja4,show ¬i=cs.length by omega,jjk]
theorem jlj(cs:List Col){i j:Nat}(h:j<i):(cs.take i).getD j Col.none=cs.getD j Col.none:=by
 simp[List.getD,Jr,h]
open Classical in
theorem jdT(cv:V)(cs:List Col)(hc:IsC cv cs)(ok:OkC cs)(hl:cs.length<=1000)(i:Nat)(hlt:i<cs.length)(hsc:jdS (cs.getD i Col.none))(U:S) :
  jaf env (ev env) 238 [cv,.int .i64 i] U=some (.int .i64 (colX cs i),U):=by
 refine jak (by simp[V.closed,V.closed.closedL,ja5 hc ok]) jwX rfl ?_ U;have hwc:=ok.at hlt;have hic:=jbe hwc;by_cases hnm:jaZ (cs.getD i Col.none).name
 case neg =>
  have hX:colX cs i=19:=by simp only[colX];rw[Kj hnm]
  simp only[Tryz.f238,simprocAttr,zK,Vq,tys2,jeS hc hlt,jc9,jaK,z44,jaj,Qx,jaa,Jj,Q6,K9,J7,Ku,Qk,J8,jae,jac,hic,YW,jc4 _ hsc.1,hnm];simp only[jay,jai,jav,hX]
 obtain⟨u,hu,hcu⟩:=jtG hc hlt;have oku:OkC (cs.take i):=λc h=>ok c (List.mem_of_mem_take h)
 obtain⟨X,hX⟩:=jiP (cs.getD i Col.none) u (cs.take i) hcu oku (by simp;omega) [.cells [.str (cs.getD i Col.none).name,.int .i64 (cs.getD i Col.none).lo,.int .i64 (cs.getD i Col.none).hi,(cs.getD i Col.none).w] 41] [] 0 rfl
 have hk:(∃j,j<(cs.take i).length/\((cs.take i).getD j Col.none).name=(cs.getD i Col.none).name)↔∃k,k<i/\(cs.getD k Col.none).name=(cs.getD i Col.none).name:=by
  have hli:(cs.take i).length=i:=by simp;omega
  rw[hli];constructor
  ·rintro⟨j,h1,h2⟩;exact⟨j,h1,by rwa[jlj cs h1]at h2⟩
  ·rintro⟨j,h1,h2⟩;exact⟨j,h1,by rwa[jlj cs h1]⟩
 simp only[hk,Jz,Jk]at hX;by_cases hd:∃k,k<i/\(cs.getD k Col.none).name=(cs.getD i Col.none).name
 ·have hE:colX cs i=8:=by simp only[colX];rw[Kh (not_not_intro hnm),Kj hd]
  simp only[hd,decide_true]at hX;simp only[Tryz.f238,simprocAttr,zK,Vq,tys2,jeS hc hlt,jc9,jaK,z44,jaj,Qx,jaa,Jj,Q6,K9,J7,Ku,Qk,J8,jae,jac,hic,YW,jc4 _ hsc.1,hnm,jbX,jbY,jb3,hu,hX];simp only[jay,jai,jav,hE]
 have hE:colX cs i=colE (cs.getD i Col.none):=by simp only[colX];rw[Kh (not_not_intro hnm),Kh hd]
 simp only[hd,decide_false]at hX;have hL:jab (.cells [.str (cs.getD i Col.none).name,.int .i64 (cs.getD i Col.none).lo,.int .i64 (cs.getD i Col.none).hi,(cs.getD i Col.none).w] 41::X) 4 (.ptr 0 0)=some [.str (cs.getD i Col.none).name,.int .i64 (cs.getD i Col.none).lo,.int .i64 (cs.getD i Col.none).hi,(cs.getD i Col.none).w]:=jb4 rfl;by_cases h0:(0:Int)<((cs.getD i Col.none).ws.length:Int)
 ·have hne:(cs.getD i Col.none).ws.length ≠ 0:=by omega
  simp only[Tryz.f238,simprocAttr,zK,Vq,tys2,jeS hc hlt,jc9,jaK,z44,jaj,Qx,jaa,Jj,Q6,K9,J7,Ku,Qk,J8,jae,jac,hic,YW,jc4 _ hsc.1,hnm,jbX,jbY,jb3,hu,hX,jcU hwc,h0,hL,joJ _ hwc hsc hne];simp only[jay,jai,jav,hE]
 have hz:(cs.getD i Col.none).ws.length=0:=aa;by_cases h1:(cs.getD i Col.none).lo < -1000000
 ·have he:colE (cs.getD i Col.none)=2:=by simp only[colE,hz,Km];rw[Kj (.inl h1)]
  simp only[Tryz.f238,simprocAttr,zK,Vq,tys2,jeS hc hlt,jc9,jaK,z44,jaj,Qx,jaa,Jj,Q6,K9,J7,Ku,Qk,J8,jae,jac,hic,YW,jc4 _ hsc.1,hnm,jbX,jbY,jb3,hu,hX,jcU hwc,h0,h1];simp only[jay,jai,jav,hE,he]
 by_cases h2:1000000<(cs.getD i Col.none).hi
 ·have he:colE (cs.getD i Col.none)=2:=by simp only[colE,hz,Km];rw[Kj (.inr (.inl h2))]
  simp only[Tryz.f238,simprocAttr,zK,Vq,tys2,jeS hc hlt,jc9,jaK,z44,jaj,Qx,jaa,Jj,Q6,K9,J7,Ku,Qk,J8,jae,jac,hic,YW,jc4 _ hsc.1,hnm,jbX,jbY,jb3,hu,hX,jcU hwc,h0,h1,h2];simp only[jay,jai,jav,hE,he]
 by_cases h3:(cs.getD i Col.none).hi<(cs.getD i Col.none).lo
 ·have he:colE (cs.getD i Col.none)=2:=by simp only[colE,hz,Km];rw[Kj (.inr (.inr h3))]
  simp only[Tryz.f238,simprocAttr,zK,Vq,tys2,jeS hc hlt,jc9,jaK,z44,jaj,Qx,jaa,Jj,Q6,K9,J7,Ku,Qk,J8,jae,jac,hic,YW,jc4 _ hsc.1,hnm,jbX,jbY,jb3,hu,hX,jcU hwc,h0,h1,h2,h3];simp only[jay,jai,jav,hE,he]
 ·have he:colE (cs.getD i Col.none)=0:=by simp only[colE,hz,Km];rw[Kh aa]
  simp only[Tryz.f238,simprocAttr,zK,Vq,tys2,jeS hc hlt,jc9,jaK,z44,jaj,Qx,jaa,Jj,Q6,K9,J7,Ku,Qk,J8,jae,jac,hic,YW,jc4 _ hsc.1,hnm,jbX,jbY,jb3,hu,hX,jcU hwc,h0,h1,h2,h3];simp only[jay,jai,jav,hE,he]
theorem jwY:env.P.funcs[254]? = some Tryz.f254:=ac
theorem jwZ:env.P.funcs[255]? = some Tryz.f255:=ac
theorem jw0:env.P.funcs[256]? = some Tryz.f256:=ac
theorem jw1:env.P.funcs[258]? = some Tryz.f258:=ac
theorem jw2:env.P.funcs[259]? = some Tryz.f259:=ac
theorem jw3:env.P.funcs[260]? = some Tryz.f260:=ac
theorem jw4:env.P.funcs[223]? = some Tryz.f223:=ac
theorem tys3:sz env 64=some 1/\sz env 32=some 1/\sz env 224=some 1/\env.P.underlying 222=some (.slice 224)/\(∀h p,jaF env h 64 p=(jab h 1 p).bind (·[0]?))/\(∀h p,jaF env h 32 p=(jab h 1 p).bind (·[0]?))/\(∀h p,jaF env h 224 p=(jab h 1 p).bind (·[0]?)):=by
 have g30:aggT env 64=some false:=ac;have g32:aggT env 32=some false:=ac;have g76:aggT env 224=some false:=ac;exact⟨ac,ac,ac,ac,λ_ _=>jau g30,λ_ _=>jau g32,λ_ _=>jau g76⟩
theorem joL(g:FuncId)(e:Int)(L:List AObj)(ts:List Nat) :
  jaf env (ev env) 254 [.func g [] [],.int .i64 e] ⟨L,ts⟩=some (.func 255 [] [.ptr L.length 0,.ptr (L.length+1) 0],⟨L++[.cells [.func g [] []] 64,.cells [.int .i64 e] 32],ts⟩):=by
 refine jbW rfl rfl jwY rfl (by simp[Tryz.f254]) (by simp[Tryz.f254]) ?_;refine jaB ?_;simp -implicitDefEqProofs only[Tryz.f254,simprocAttr,zK,Vq,tys2,tys3,joE,Y6,jrV];simp only[jay,Qg,Jz,Jk,and_self]
def Says(g:FuncId)(sc:List V)(b:Bool):Prop:=∀L ts,jaf env (ev env) g [.agg sc] ⟨L,ts⟩=some (.bool b,⟨L++[.cells sc 38],ts⟩)
theorem jgp(g:FuncId)(e:Int)(a b c d:V)(r:Bool)(hg:Says g [a,b,c,d] r)(L:List AObj)(ts:List Nat)(p q:Nat)(hp:L[p]? = some (.cells [.func g [] []] 64))(hq:L[q]? = some (.cells [.int .i64 e] 32)) :
  jaf env (ev env) 255 [.agg [a,b,c,d],.ptr p 0,.ptr q 0] ⟨L,ts⟩=some (.tup [.int .i64 (if r=true then e else 0),.int .i64 (-1)],⟨L++[.cells [a,b,c,d] 38,.cells [a,b,c,d] 38],ts⟩):=by
 refine jbW rfl rfl jwZ rfl (by simp[Tryz.f255]) (by simp[Tryz.f255]) ?_;refine jaB ?_;cases r<;>
 ·simp -implicitDefEqProofs only[Tryz.f255,simprocAttr,zK,Vq,tys2,tys3,YW,jhy (jaG hp _),jhy (jaG (jaG hp _) _),jhy (jaG (jaG hq _) _),jhy (jaG hq _),jaG hp,jaG hq,jee,jdp,hg _ _];simp[jay]
theorem ck90(nm:List UInt8)(hn:nm.length<2^63)(b c d:V):Says 256 [.str nm,b,c,d] (!decide (jaZ nm)):=by
 intro L ts;refine jbW rfl rfl jw0 rfl (by simp[Tryz.f256]) (by simp[Tryz.f256]) ?_;refine jaB ?_;by_cases h:jaZ nm<;>
 ·simp -implicitDefEqProofs only[Tryz.f256,simprocAttr,zK,Vq,tys2,tys3,YW,jad,jc4 nm hn,h,Q7,Jd];simp[jay]
theorem ck92(a b c:V)(cv:V)(cs:List Col)(hc:IsC cv cs):Says 259 [a,b,c,cv] (decide (cs.length=0)):=by
 intro L ts;refine jbW rfl rfl jw2 rfl (by simp[Tryz.f259]) (by simp[Tryz.f259]) ?_;refine jaB ?_;by_cases h:(cs.length:Int)=0
 ·have h':cs.length=0:=by omega
  simp -implicitDefEqProofs only[Tryz.f259,simprocAttr,zK,Vq,tys2,tys3,YW,jad,je9 hc,h];simp[jay,h']
 ·have h':¬cs.length=0:=by omega
  simp -implicitDefEqProofs only[Tryz.f259,simprocAttr,zK,Vq,tys2,tys3,YW,jad,je9 hc,h];simp[jay,h']
theorem ck93(a b c:V)(cv:V)(cs:List Col)(hc:IsC cv cs):Says 260 [a,b,c,cv] (decide (16<cs.length)):=by
 intro L ts;refine jbW rfl rfl jw3 rfl (by simp[Tryz.f260]) (by simp[Tryz.f260]) ?_;refine jaB ?_;by_cases h:(16:Int)<(cs.length:Int)
 ·have h':16<cs.length:=by omega
  simp -implicitDefEqProofs only[Tryz.f260,simprocAttr,zK,Vq,tys2,tys3,YW,jad,je9 hc,h];simp[jay,h']
 ·have h':¬16<cs.length:=by omega
  simp -implicitDefEqProofs only[Tryz.f260,simprocAttr,zK,Vq,tys2,tys3,YW,jad,je9 hc,h];simp[jay,h']
theorem ck91(a d:V)(pb:Bool)(many:Int):Says 258 [a,.bool pb,.int .i64 many,d] (decide ((pb=true/\many ≠ 0)\/(pb=false/\(many<1\/50<many)))):=by
 intro L ts;refine jbW rfl rfl jw1 rfl (by simp[Tryz.f258]) (by simp[Tryz.f258]) ?_;refine jaB ?_;cases pb with
 | true =>
  by_cases h:many=0<;>
  ·simp -implicitDefEqProofs only[Tryz.f258,simprocAttr,zK,Vq,tys2,tys3,YW,jad,h];simp[jay,h]
 | false =>
  by_cases h:many<1
  ·simp -implicitDefEqProofs only[Tryz.f258,simprocAttr,zK,Vq,tys2,tys3,YW,jad,h];simp[jay,h]
  ·by_cases h2:50<many<;>
   ·simp -implicitDefEqProofs only[Tryz.f258,simprocAttr,zK,Vq,tys2,tys3,YW,jad,h,h2];simp[jay,h,h2]
theorem jw5:env.P.funcs[261]? = some Tryz.f261:=ac
theorem ck94(nm:List UInt8)(pb:Bool)(many:Int)(cv:V)(cs:List Col)(hc:IsC cv cs)(ok:OkC cs)(hl:cs.length<=1000)(hs:∀i,i<cs.length->jdS (cs.getD i Col.none))(L:List AObj)(ts:List Nat) :
  ∃X,jaf env (ev env) 261 [.agg [.str nm,.bool pb,.int .i64 many,cv]] ⟨L,ts⟩=some (.tup [.int .i64 (jce cs cs.length 0).1,.int .i64 (jce cs cs.length 0).2],⟨L++X,ts⟩):=by
 suffices h:∃v U',jaf env (ev env) 261 [.agg [.str nm,.bool pb,.int .i64 many,cv]] ⟨L,ts⟩=some (v,U')/\(v=.tup [.int .i64 (jce cs cs.length 0).1,.int .i64 (jce cs cs.length 0).2]/\∃X,U'=⟨L++X,ts⟩) by
  obtain⟨v,U',h1,rfl,X,rfl⟩:=h;exact⟨X,h1⟩
 refine jaD jw5 rfl ?_;simp only[Tryz.f261,simprocAttr,zK,Vq,tys2,tys3,YW,jad,je9 hc];refine jax (λm T D U=>D=[]/\U=⟨L++[.cells [.str nm,.bool pb,.int .i64 many,cv] 38],ts⟩/\T 1=.ptr L.length 0/\T 8=.int .i64 cs.length/\∃i:Nat,T 9=.int .i64 i/\i<=cs.length/\m=cs.length-i/\jce cs cs.length 0=jce cs (cs.length-i) i) ?_ _ _ _ _ ⟨rfl,rfl,rfl,rfl,0,rfl,aa,rfl,rfl⟩;rintro m T D U ⟨rfl,rfl,t1,t8,i,t9,hi,rfl,hf⟩;refine jaB ?_;by_cases hlt:i<cs.length
 ·have c1:(i:Int)<(cs.length:Int):=by omega
  have e1:IntKind.i64.wrap ((i:Int)+1)=((i+1:Nat):Int):=by rw[wrap_i64 aa aa];omega
  obtain⟨q,hq⟩:∃q,cs.length-i=q+1:=⟨cs.length-i-1,aa⟩;have hq2:q=cs.length-(i+1):=aa;have hstep:jce cs (cs.length-i) i=if colX cs i=0 then jce cs q (i+1)else(colX cs i,(i:Int)):=by rw[hq];rfl
  rw[hstep]at hf;by_cases hz:colX cs i=0
  ·rw[Kj hz,hq2]at hf;simp only[simprocAttr,zK,Vq,tys2,tys3,t1,t8,t9,c1,e1,jad,jdT cv cs hc ok hl i hlt (hs i hlt),hz];exact⟨cs.length-(i+1),aa,i+1,rfl,aa,rfl,hf⟩
  ·rw[Kh hz]at hf;simp only[simprocAttr,zK,Vq,tys2,tys3,t1,t8,t9,c1,e1,jad,jdT cv cs hc ok hl i hlt (hs i hlt),hz];exact⟨by rw[hf];rfl,_,rfl⟩
 ·have hi2:i=cs.length:=by omega
  subst hi2;have c1:¬(cs.length:Int)<(cs.length:Int):=aa;rw[Xh]at hf;simp only[simprocAttr,zK,Vq,t1,t8,t9,c1];exact⟨by rw[hf];rfl,_,rfl⟩
def jdF(g:FuncId)(n:Nat):V:=.func 255 [] [.ptr n 0,.ptr (n+1) 0]
def jeJ:V:=.row [jdF 256 1,jdF 258 3,jdF 259 5,jdF 260 7,.func 261 [] []] 5 .full
def jef(o:AObj):List AObj:=[o,.cells [.func 256 [] []] 64,.cells [.int .i64 19] 32,.cells [.func 258 [] []] 64,.cells [.int .i64 2] 32,.cells [.func 259 [] []] 64,.cells [.int .i64 3] 32,.cells [.func 260 [] []] 64,.cells [.int .i64 4] 32]
theorem joM:rowO env 222 5 [(0,.func 255 [] [.ptr 1 0,.ptr 2 0]),(1,.func 255 [] [.ptr 3 0,.ptr 4 0]),(2,.func 255 [] [.ptr 5 0,.ptr 6 0]),(3,.func 255 [] [.ptr 7 0,.ptr 8 0]),(4,.func 261 [] [])]=some jeJ:=ac
theorem jmG(o:AObj):jaf env (ev env) 223 [] ⟨[o],[]⟩=some (jeJ,⟨jef o,[]⟩):=by
 refine jbW rfl rfl jw4 rfl (by simp[Tryz.f223]) (by simp[Tryz.f223]) ?_;refine jaB ?_;simp only[Tryz.f223,simprocAttr,zK,Vq,tys2,tys3,joL,jaq,joM];simp[jay,jef]
theorem jdU(cs:List Col):∀m i,(jce cs m i).1=0->jce cs m i=(0,-1)
 |0,i,_=>rfl
 |m+1,i,h=>by
  simp only[jce]at h ⊢;by_cases hz:colX cs i=0
  ·rw[Kj hz]at h ⊢;exact jdU cs m (i+1) h
  ·rw[Kh hz]at h;exact absurd h hz
open Classical in
noncomputable def jg0(nm:List UInt8)(pb:Bool)(many:Int)(cs:List Col):Nat->Int × Int
 |0=>jda nm pb many cs
 |1=>if(pb=true/\many ≠ 0)\/(pb=false/\(many<1\/50<many))then(2,-1)else if cs.length=0 then(3,-1)else if 16<cs.length then(4,-1)else jce cs cs.length 0
 |2=>if cs.length=0 then(3,-1)else if 16<cs.length then(4,-1)else jce cs cs.length 0
 |3=>if 16<cs.length then(4,-1)else jce cs cs.length 0
 |4=>jce cs cs.length 0
 |_=>(0,-1)
theorem jva:jaw 1 jeJ (.int .i64 0)=some (.rptr [jdF 256 1,jdF 258 3,jdF 259 5,jdF 260 7,.func 261 [] []]):=rfl
theorem jvb:jaw 1 jeJ (.int .i64 1)=some (.rptr [jdF 258 3,jdF 259 5,jdF 260 7,.func 261 [] []]):=rfl
theorem jvc:jaw 1 jeJ (.int .i64 2)=some (.rptr [jdF 259 5,jdF 260 7,.func 261 [] []]):=rfl
theorem jvd:jaw 1 jeJ (.int .i64 3)=some (.rptr [jdF 260 7,.func 261 [] []]):=rfl
theorem jve:jaw 1 jeJ (.int .i64 4)=some (.rptr [.func 261 [] []]):=rfl
theorem lenF:ja9 (some (.slice 224)) jeJ=some (.int .i64 5):=rfl
theorem jw6:env.P.funcs[171]? = some Tryz.f171:=ac
theorem jiQ:IntKind.i64.wrap (0+1)=1/\IntKind.i64.wrap (1+1)=2/\IntKind.i64.wrap (2+1)=3/\IntKind.i64.wrap (3+1)=4/\IntKind.i64.wrap (4+1)=5:=by
 refine⟨?_,?_,?_,?_,?_⟩<;>rw[wrap_i64 aa aa]<;>rfl
open Classical in
theorem check_call(nm:List UInt8)(pb:Bool)(many:Int)(cv:V)(cs:List Col)(hc:IsC cv cs)(ok:OkC cs)(hn:nm.length<2^63)(hl:cs.length<=1000)(hs:∀i,i<cs.length->jdS (cs.getD i Col.none))(U:S) :
  jaf env (ev env) 171 [.agg [.str nm,.bool pb,.int .i64 many,cv]] U=some (.tup [.int .i64 (jda nm pb many cs).1,.int .i64 (jda nm pb many cs).2],U):=by
 refine jak (by simp[V.closed,V.closed.closedL,ja5 hc ok]) jw6 rfl ?_ U;simp only[Tryz.f171,simprocAttr,zK,Vq,tys2,tys3,jaj,YW,jmG,lenF];generalize hr:jda nm pb many cs=r
 refine jax (λm T D U=>D=[]/\T 1=.ptr 0 0/\T 8=jeJ/\T 9=.int .i64 5/\∃(i:Nat) (X:List AObj),U=⟨jef (.cells [.str nm,.bool pb,.int .i64 many,cv] 38)++X,[]⟩/\T 10=.int .i64 i/\i<=5/\m=5-i/\jg0 nm pb many cs i=r) ?_ _ _ _ _
  ⟨rfl,rfl,rfl,rfl,0,[],by rw[Jl],rfl,aa,rfl,hr⟩
 clear hr;rintro m T D U ⟨rfl,t1,t8,t9,i,X,rfl,t10,hi,rfl,hr⟩;refine jaB ?_
 have hfin:∀a b:Int,(a,b)=r->jaL (jef (.cells [.str nm,.bool pb,.int .i64 many,cv] 38)++X) jai (jay [V.int .i64 a,V.int .i64 b])=some (.tup [.int .i64 r.1,.int .i64 r.2]):=λa b h=>by
  subst h;simp only[jay,jai,jbM,jal,jaQ,jav,Kl,Kw]
 have hfin2:∀(Y:List AObj) (a b:Int),(a,b)=r->jaL Y jai (jay [V.int .i64 a,V.int .i64 b])=some (.tup [.int .i64 r.1,.int .i64 r.2]):=λY a b h=>by
  subst h;simp only[jay,jai,jbM,jal,jaQ,jav,Kl,Kw]
 have hL:jab (jef (.cells [.str nm,.bool pb,.int .i64 many,cv] 38)++X) 4 (.ptr 0 0)=some [.str nm,.bool pb,.int .i64 many,cv]:=jb4 rfl;have hi':i=0\/i=1\/i=2\/i=3\/i=4\/i=5:=aa
 rcases hi' with rfl|rfl|rfl|rfl|rfl|rfl
 ·have hC:=jgp 256 19 _ _ _ _ _ (ck90 nm hn (.bool pb) (.int .i64 many) cv) (jef (.cells [.str nm,.bool pb,.int .i64 many,cv] 38)++X) [] 1 2 rfl rfl;by_cases h:jaZ nm
  ·simp only[h,decide_true,Q7,Kr,Kq]at hC;have hr1:jg0 nm pb many cs 1=r:=by rw[<- hr];show _=jda nm pb many cs;unfold jda;rw[Kh (by simp[h])];rfl
   simp only[simprocAttr,zK,Vq,tys2,tys3,t1,t8,t9,t10,Uw,jva,jar,jee,hL,jdF,hC,jiQ];exact⟨4,aa,1,_,by rw[Qg],rfl,aa,rfl,hr1⟩
  ·simp only[h,decide_false,Jd,Km]at hC;have hr1:(19,-1)=r:=by rw[<- hr];show _=jda nm pb many cs;unfold jda;rw[Kj (by simp[h])]
   simp only[simprocAttr,zK,Vq,tys2,tys3,t1,t8,t9,t10,Uw,jva,jar,jee,hL,jdF,hC,jiQ];exact hfin2 _ _ _ hr1
 ·have hC:=jgp 258 2 _ _ _ _ _ (ck91 (.str nm) cv pb many) (jef (.cells [.str nm,.bool pb,.int .i64 many,cv] 38)++X) [] 3 4 rfl rfl;by_cases h:(pb=true/\many ≠ 0)\/(pb=false/\(many<1\/50<many))
  ·simp only[h,decide_true,Km]at hC;have hr1:(2,-1)=r:=by rw[<- hr];simp only[jg0];rw[Kj h]
   simp only[simprocAttr,zK,Vq,tys2,tys3,t1,t8,t9,t10,Xk,jvb,jar,jee,hL,jdF,hC,jiQ];exact hfin2 _ _ _ hr1
  ·simp only[h,decide_false,Kr,Kq]at hC;have hr1:jg0 nm pb many cs 2=r:=by rw[<- hr];simp only[jg0];rw[Kh h]
   simp only[simprocAttr,zK,Vq,tys2,tys3,t1,t8,t9,t10,Xk,jvb,jar,jee,hL,jdF,hC,jiQ];exact⟨3,aa,2,_,by rw[Qg],rfl,aa,rfl,hr1⟩
 ·have hC:=jgp 259 3 _ _ _ _ _ (ck92 (.str nm) (.bool pb) (.int .i64 many) cv cs hc) (jef (.cells [.str nm,.bool pb,.int .i64 many,cv] 38)++X) [] 5 6 rfl rfl;by_cases h:cs.length=0
  ·simp only[h,decide_true,Km]at hC;have hr1:(3,-1)=r:=by rw[<- hr];simp only[jg0];rw[Kj h]
   simp only[simprocAttr,zK,Vq,tys2,tys3,t1,t8,t9,t10,Xk,jvc,jar,jee,hL,jdF,hC,jiQ];exact hfin2 _ _ _ hr1
  ·simp only[h,decide_false,Kr,Kq]at hC;have hr1:jg0 nm pb many cs 3=r:=by rw[<- hr];simp only[jg0];rw[Kh h]
   simp only[simprocAttr,zK,Vq,tys2,tys3,t1,t8,t9,t10,Xk,jvc,jar,jee,hL,jdF,hC,jiQ];exact⟨2,aa,3,_,by rw[Qg],rfl,aa,rfl,hr1⟩
 ·have hC:=jgp 260 4 _ _ _ _ _ (ck93 (.str nm) (.bool pb) (.int .i64 many) cv cs hc) (jef (.cells [.str nm,.bool pb,.int .i64 many,cv] 38)++X) [] 7 8 rfl rfl;by_cases h:16<cs.length
  ·simp only[h,decide_true,Km]at hC;have hr1:(4,-1)=r:=by rw[<- hr];simp only[jg0];rw[Kj h]
   simp only[simprocAttr,zK,Vq,tys2,tys3,t1,t8,t9,t10,Xk,jvd,jar,jee,hL,jdF,hC,jiQ];exact hfin2 _ _ _ hr1
  ·simp only[h,decide_false,Kr,Kq]at hC;have hr1:jg0 nm pb many cs 4=r:=by rw[<- hr];simp only[jg0];rw[Kh h]
   simp only[simprocAttr,zK,Vq,tys2,tys3,t1,t8,t9,t10,Xk,jvd,jar,jee,hL,jdF,hC,jiQ];exact⟨1,aa,4,_,by rw[Qg],rfl,aa,rfl,hr1⟩
 ·obtain⟨Y,hC⟩:=ck94 nm pb many cv cs hc ok hl hs (jef (.cells [.str nm,.bool pb,.int .i64 many,cv] 38)++X) [];have hr1:jce cs cs.length 0=r:=by rw[<- hr];simp only[jg0]
  by_cases h:(jce cs cs.length 0).1=0
  ·have h2:=jdU cs _ _ h;simp only[h2]at hC;simp only[simprocAttr,zK,Vq,tys2,tys3,t1,t8,t9,t10,Xk,jve,jar,jee,hL,jdF,hC,jiQ];exact⟨0,aa,5,_,by rw[Qg],rfl,aa,rfl,by rw[<- hr1,h2];rfl⟩
  ·simp only[simprocAttr,zK,Vq,tys2,tys3,t1,t8,t9,t10,Xk,jve,jar,jee,hL,jdF,hC,jiQ,h];exact hfin2 _ _ _ hr1
 ·have hr1:(0,-1)=r:=by rw[<- hr];simp only[jg0]
  simp only[simprocAttr,zK,Vq,tys2,tys3,t1,t8,t9,t10,Xk];exact hfin2 _ _ _ hr1
end Go.Proofs.YtajaampgajieeaaGreatDoor
