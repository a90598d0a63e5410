/- Proved here: a schema is checked. Conditions: each theorem's own. -/
import Derived.Test.YtajaampgajieeaaGreatDoorScA
set_option linter.unusedSimpArgs false
set_option maxHeartbeats 16000000
set_option maxRecDepth 1000000
set_option linter.unusedVariables false
set_option linter.unusedSectionVars false
namespace Go.Proofs.YtajaampgajieeaaGreatDoor
open Go.Ab
theorem jxn:env.P.funcs[296]? = some Tryz.f296:=ac
theorem jxo:env.P.funcs[297]? = some Tryz.f297:=ac
theorem jxp:env.P.funcs[325]? = some Tryz.f325:=ac
theorem jxq:env.P.funcs[270]? = some Tryz.f270:=ac
theorem jhr(s:List UInt8)(hs:s.length<2^63)(U:S):jah env (ev env) 297 [.str s] U=some (.bool (!decide (jaY s)),U):=by
 refine jaj rfl jxo rfl ?_ U;by_cases h:jaY s<;>
 ·simp only[Tryz.f297,simprocAttr,zK,Vq,jc2 s hs,h];simp only[jaz,jak,jay,Q8,Jh]
noncomputable def jeq(ws:List (List UInt8)):Nat->Nat->Int
 |0,_ => -1
 |m+1,i=>if jaY (ws.getD i [])then jeq ws m (i+1)else i
theorem jjA (ws:List (List UInt8)):∀m i,0<=jeq ws m i↔∃j,i<=j/\j<i+m/\¬jaY (ws.getD j [])
  | 0, i => by simp only[jeq];constructor
               · intro h;omega
               · rintro⟨j,h1,h2,_⟩;omega
  | m+1,i=>by
    simp only[jeq];by_cases h:jaY (ws.getD i [])
    · rw [Kh h,jjA ws m (i+1)]
      constructor
      · rintro⟨j,h1,h2,h3⟩;exact⟨j,aa,aa,h3⟩
      · rintro⟨j,h1,h2,h3⟩
        refine⟨j,?_,aa,h3⟩
        rcases Qm i j with h4|h4
        · omega
        · have:j=i:=by omega
          subst this;exact absurd h h3
    · rw[Ke h]
      exact⟨λ_=>⟨i,aa,aa,h⟩,λ_=>aa⟩
theorem jjB(w:V)(ws:List (List UInt8))(h:IsW w ws)(hl:ws.length<=1000)(hs:∀i,i<ws.length->(ws.getD i []).length<2^63)(U:S) :
  jah env (ev env) 325 [w,.func 297 [] []] U=some (.int .i64 (jeq ws ws.length 0),U):=by
 refine jaj (by simp[V.closed,V.closed.closedL,jcr h]) jxp rfl ?_ U;simp only[Tryz.f325,simprocAttr,zK,Vq,jcQ h];refine jaw (λm T D U=>D=[]/\U=S.empty/\T 0=w/\T 1=.func 297 [] []/\T 7=.int .i64 ws.length/\∃i:Nat,T 8=.int .i64 i/\i<=ws.length/\m=ws.length-i/\jeq ws ws.length 0=jeq ws (ws.length-i) i) ?_ _ _ _ _ ⟨rfl,rfl,rfl,rfl,rfl,0,rfl,aa,rfl,rfl⟩;rintro m T D U ⟨rfl,rfl,t0,t1,t7,i,t8,hi,rfl,hf⟩;refine jaB ?_;by_cases hlt:i<ws.length
 ·have c1:(i:Int)<(ws.length:Int):=by omega
  have e1:IntKind.i64.wrap ((i:Int)+1)=((i+1:Nat):Int):=by rw[wrap_i64 aa aa];omega
  have hx:=jng h hlt;obtain⟨q,hq⟩:∃q,ws.length-i=q+1:=⟨ws.length-i-1,aa⟩;have hq2:q=ws.length-(i+1):=aa;have hstep:jeq ws (ws.length-i) i=if jaY (ws.getD i [])then jeq ws q (i+1)else i:=by rw[hq];rfl
  rw[hstep]at hf;by_cases hn:jaY (ws.getD i [])
  ·rw[Kh hn,hq2]at hf;simp only[simprocAttr,zK,Vq,t0,t1,t7,t8,c1,e1,hx,jar,jhr _ (hs i hlt),hn,Q8];exact⟨ws.length-(i+1),aa,i+1,rfl,aa,rfl,hf⟩
  ·rw[Ke hn]at hf;simp only[simprocAttr,zK,Vq,t0,t1,t7,t8,c1,e1,hx,jar,jhr _ (hs i hlt),hn,Jh];simp only[jaz,jak,jau,hf]
 ·have hi2:i=ws.length:=by omega
  subst hi2;have c1:¬(ws.length:Int)<(ws.length:Int):=aa;have hf2:jeq ws ws.length 0 = -1:=by rw[hf,Xo];rfl
  simp only[simprocAttr,zK,Vq,t0,t1,t7,t8,c1];simp only[jaz,jak,jau,hf2]
open Classical in
theorem jc3(w:V)(ws:List (List UInt8))(h:IsW w ws)(hl:ws.length<=1000)(hs:∀i,i<ws.length->(ws.getD i []).length<2^63)(U:S) :
  jah env (ev env) 296 [w,.func 297 [] []] U=some (.bool (decide (∃i,i<ws.length/\¬jaY (ws.getD i []))),U):=by
 refine jaj (by simp[V.closed,V.closed.closedL,jcr h]) jxn rfl ?_ U
 have hk:(0<=jeq ws ws.length 0)↔∃i,i<ws.length/\¬jaY (ws.getD i []):=by
  rw[jjA];constructor
  ·rintro⟨j,_,h2,h3⟩;exact⟨j,aa,h3⟩
  ·rintro⟨j,h2,h3⟩;exact⟨j,aa,aa,h3⟩
 by_cases hp:∃i,i<ws.length/\¬jaY (ws.getD i [])
 ·have c0:0<=jeq ws ws.length 0:=hk.2 hp;simp only[Tryz.f296,simprocAttr,zK,Vq,jjB w ws h hl hs,c0];simp only[jaz,jak,jay,hp,decide_true]
 ·have c0:¬0<=jeq ws ws.length 0:=λh=>hp (hk.1 h)
  simp only[Tryz.f296,simprocAttr,zK,Vq,jjB w ws h hl hs,c0];simp only[jaz,jak,jay,hp,decide_false]
theorem jxr:env.P.funcs[298]? = some Tryz.f298:=ac
def keyV(s:List UInt8):V:=.agg [.str s,.bool false]
theorem jri(a b:List UInt8):eqT env 8 309 (keyV a) (keyV b)=some (a==b):=by
 have h:eqT env 8 309 (keyV a) (keyV b)=(some (a==b)).bind λr=>if r then some true else some false:=ac
 rw[h];cases a==b<;>rfl
theorem jrj(a:List UInt8):jcS env 8 309 (keyV a)=true:=ac
theorem jsV(a:List UInt8):jhB 8 (keyV a) (keyV a)=true:=by simp[jhB,keyV]
def entV(p:List UInt8 × Nat):V × V × Nat:=(keyV p.1,.agg [],p.2)
def keys(ps:List (List UInt8 × Nat)):List (List UInt8):=ps.map (·.1)
theorem jrk(s:List UInt8):∀(ps:List (List UInt8 × Nat)) (i:Nat),s ∉ keys ps->jcf env 309 (keyV s) (ps.map entV) i=some none
 | [],i,h=>rfl
 |p::ps,i,h=>by
  have h1:¬s=p.1:=λe=>h (by simp[keys,e])
  have h2:s ∉ keys ps:=λe=>h (by simp only[keys,Kw,Jg];exact .inr e)
  simp only[Kw,jcf,entV,jri,Kq,beq_eq_false_iff_ne.2 h1,Kr,Ko];exact jrk s ps (i+1) h2
theorem joD(s:List UInt8):∀(ps:List (List UInt8 × Nat)) (i:Nat),s∈keys ps->∃j n,jcf env 309 (keyV s) (ps.map entV) i=some (some (i+j))/\ps[j]? = some (s,n)
 | [],i,h=>by simp[keys]at h
 | p::ps,i,h=>by
  by_cases h1:s=p.1
  ·refine⟨0,p.2,?_,by simp[h1]⟩;simp only[Kw,jcf,entV,jri,Kq,h1,beq_self_eq_true,Km,Vr]
  ·have h2:s∈keys ps:=by
    simp only[keys,Kw,Jg]at h;exact h.resolve_left h1
   obtain⟨j,n,h3,h4⟩:=joD s ps (i+1) h2;refine⟨j+1,n,?_,by simpa using h4⟩;simp only[Kw,jcf,entV,jri,Kq,beq_eq_false_iff_ne.2 h1,Kr,Ko];rw[show i+(j+1)=i+1+j by omega];exact h3
def jiv (E:Env)(t:TypeId)(mv kv xv:V)(U:S):Option (V × S) :=
    match E.P.underlying t,mv with
    | some (.map kt _),.map b =>
      match U.heap[b]? with
      | some (.map es clock) =>
        if jcS E 8 kt kv then
          match jcf E kt kv es 0 with
          |some none=>some (.tup [],U.set b (.map (es++[(kv,xv,clock)]) (clock+1)))
          | some (some j) =>
            match es[j]? with
            |some e=>if jhB 8 e.1 kv then some (.tup [],U.set b (.map (es.set j (kv,xv,e.2.2)) clock))else none
            |none=>none
          |none=>none
        else none
      |_=>none
    |_,_=>none
theorem jer {E:Env}{m:Bool}{T:Tm}{U:S}(t:TypeId)(a b c:Operand):opT E m T U (.mapUpdate t a b c)=(jaM E T a).bind λmv=>(jaM E T b).bind λkv=>(jaM E T c).bind λxv=>jiv E t mv kv xv U:=rfl
theorem u164:env.P.underlying 306=some (.map 309 307):=ac
theorem jrl(s:List UInt8)(ps:List (List UInt8 × Nat))(clock:Nat)(hp:List AObj)(b:Nat)(ts:List Nat)(hh:hp[b]? = some (.map (ps.map entV) clock)) :
  ∃ps' clock',jiv env 306 (.map b) (keyV s) (.agg []) ⟨hp,ts⟩=some (.tup [],⟨hp.set b (.map (ps'.map entV) clock'),ts⟩)/\keys ps'=if s∈keys ps then keys ps else keys ps++[s]:=by
 unfold jiv;simp only[u164,hh,jrj,Km];by_cases h:s∈keys ps
 ·obtain⟨j,n,h1,h2⟩:=joD s ps 0 h;rw[Jl]at h1;have h3:(ps.map entV)[j]? = some (entV (s,n)):=by simp[h2]
  have h4:(ps.map entV).set j (keyV s,.agg [],n)=ps.map entV:=by
   apply Xx;intro i;by_cases e:i=j
   ·subst e
    have:i<(ps.map entV).length:=by
     rcases Qm i (ps.map entV).length with h|h
     ·exact h
     ·rw[Qq h]at h3;simp at h3
    rw[Kl this,h3];rfl
   ·rw[Kg (λh=>e h.symm)]
  refine⟨ps,clock,?_,by rw[Kh h]⟩;simp only[h1,h3,entV,jsV,Km,S.set];rw[h4]
 ·refine⟨ps++[(s,clock)],clock+1,?_,by rw[Ke h];simp[keys]⟩;simp only[jrk s ps 0 h,S.set,Jq,Kw,Xc,entV]
theorem jrm(s:List UInt8):jbE env 309 [(0,.str s)]=some (keyV s):=ac
theorem jpw:jbE env 307 []=some (.agg []):=ac
theorem jni {T:Tm}{U:S}{m:Bool}:opT env m T U (.makeMap 306 none)=some (.map U.heap.length,U.push (.map [] 0)):=by
 unfold opT;simp only[jbH,jbf,jbD,u164]
theorem upd0(s:List UInt8)(ps:List (List UInt8 × Nat))(clock:Nat):∃ps' clock',jiv env 306 (.map 0) (keyV s) (.agg []) ⟨[.map (ps.map entV) clock],[]⟩=some (.tup [],⟨[.map (ps'.map entV) clock'],[]⟩)/\keys ps'=if s∈keys ps then keys ps else keys ps++[s] :=
 jrl s ps clock [.map (ps.map entV) clock] 0 [] rfl
theorem jvX(ps:List (List UInt8 × Nat))(clock:Nat)(ts:List Nat):lenO ⟨[.map (ps.map entV) clock],ts⟩ (some (.map 309 307)) (.map 0)=some (.int .i64 (keys ps).length,⟨[.map (ps.map entV) clock],ts⟩):=by
 rw[jsO (es:=ps.map entV) (c:=clock) _ _ _ _ rfl];simp[keys]
def Dup(ws:List (List UInt8))(i:Nat):Prop:=∃k j,k<j/\j<i/\ws.getD k []=ws.getD j []
open Classical in
theorem jeM(w:V)(ws:List (List UInt8))(h:IsW w ws)(hl:ws.length<=1000)(U:S):jah env (ev env) 298 [w] U=some (.bool (decide (jit ws)),U):=by
 refine jaj (by simp[jcr h]) jxr rfl ?_ U;simp only[Tryz.f298,simprocAttr,zK,Vq,jai,jcQ h,jni]
 refine jaw (λm T D U=>D=[]/\T 0=w/\T 3=.map 0/\T 7=w/\T 8=.int .i64 ws.length/\∃(i clock:Nat) (ps:List (List UInt8 × Nat)),U=⟨[.map (ps.map entV) clock],[]⟩/\T 9=.int .i64 i/\i<=ws.length/\m=ws.length-i /\
  (∀s,s∈keys ps↔∃j,j<i/\ws.getD j []=s)/\(keys ps).length<=i/\((keys ps).length<i↔Dup ws i)) ?_ _ _ _ _
  ⟨rfl,rfl,rfl,rfl,rfl,0,0,[],rfl,rfl,aa,rfl,λs=>⟨λh=>by simp[keys]at h,λ⟨j,h,_⟩=>aa⟩,by simp[keys],⟨λh=>aa,λ⟨k,j,_,h,_⟩=>aa⟩⟩
 rintro m T D U ⟨rfl,t0,t3,t7,t8,i,clock,ps,rfl,t9,hi,rfl,hmem,hlen,hdup⟩;refine jaB ?_;by_cases hlt:i<ws.length
 ·have c1:(i:Int)<(ws.length:Int):=by omega
  have e1:IntKind.i64.wrap ((i:Int)+1)=((i+1:Nat):Int):=by rw[wrap_i64 aa aa];omega
  have hx:=jng h hlt;obtain⟨ps',clock',hU,hk⟩:=upd0 (ws.getD i []) ps clock;simp only[simprocAttr,zK,Vq,t0,t3,t7,t8,t9,c1,e1,hx,jar,jer,jrm,jpw,hU];refine⟨ws.length-(i+1),aa,i+1,clock',ps',rfl,rfl,aa,rfl,λs => ?_,?_,?_⟩
  ·rw[hk];constructor
   ·intro hs;split at hs
    ·obtain⟨j,h1,h2⟩:=(hmem s).1 hs;exact⟨j,aa,h2⟩
    ·rcases Jx.1 hs with hs|hs
     ·obtain⟨j,h1,h2⟩:=(hmem s).1 hs;exact⟨j,aa,h2⟩
     ·exact⟨i,aa,(Xb.1 hs).symm⟩
   ·rintro⟨j,h1,h2⟩;have hj:j<i\/j=i:=aa;split
    ·rename_i hin
     rcases hj with hj|rfl
     ·exact(hmem s).2 ⟨j,hj,h2⟩
     ·rw[<- h2];exact hin
    ·rcases hj with hj|rfl
     ·exact List.mem_append_left _ ((hmem s).2 ⟨j,hj,h2⟩)
     ·rw[<- h2];simp
  ·rw[hk];split
   ·omega
   ·simp only[Kk,Qh,Qz];omega
  ·rw[hk];split
   ·rename_i hin;obtain⟨j,h1,h2⟩:=(hmem _).1 hin;exact⟨λ_=>⟨j,i,h1,aa,h2⟩,λ_=>aa⟩
   ·rename_i hin;simp only[Kk,Qh,Qz];constructor
    ·intro hh;obtain⟨k,j,h1,h2,h3⟩:=hdup.1 aa;exact⟨k,j,h1,aa,h3⟩
    ·rintro⟨k,j,h1,h2,h3⟩;have hj:j<i\/j=i:=aa
     rcases hj with hj|rfl
     ·have:=hdup.2 ⟨k,j,h1,hj,h3⟩;omega
     ·exact absurd ((hmem _).2 ⟨k,h1,h3⟩) hin
 ·have hi2:i=ws.length:=by omega
  subst hi2;have c1:¬(ws.length:Int)<(ws.length:Int):=aa
  have hT:((keys ps).length:Int)<(ws.length:Int)↔jit ws:=by
   have:Dup ws ws.length↔jit ws:=Iff.rfl;rw[<- this,<- hdup];omega
  by_cases hp:((keys ps).length:Int)<(ws.length:Int)
  ·have h2:=hT.1 hp;simp only[simprocAttr,zK,Vq,t0,t3,t7,t8,t9,c1,u164,jvX,jcQ h,hp];simp only[jaz,jak,jay,h2,decide_true]
  ·have h2:¬jit ws:=λq=>hp (hT.2 q)
   simp only[simprocAttr,zK,Vq,t0,t3,t7,t8,t9,c1,u164,jvX,jcQ h,hp];simp only[jaz,jak,jay,h2,decide_false]
open Classical in
theorem jpx(c:Col)(h:IsW c.w c.ws)(hs:jdB c)(h0:c.ws.length ≠ 0)(U:S):jah env (ev env) 270 [.agg [.str c.name,.int .i64 c.lo,.int .i64 c.hi,c.w]] U=some (.int .i64 (colE c),U):=by
 refine jaj (by simp[V.closed,V.closed.closedL,jcr h]) jxq rfl ?_ U;obtain⟨hs1,hs2,hs3⟩:=hs;have hic:=jbh h;obtain⟨nm,lo,hi,w,ws⟩:=c;simp only at h hs1 hs2 hs3 hic h0 ⊢;by_cases h1:(64:Int)<(ws.length:Int)
 ·have he:colE ⟨nm,lo,hi,w,ws⟩=4:=by simp only[colE];rw[Ke h0,Kh aa]
  simp only[Tryz.f270,simprocAttr,zK,Vq,tys2,jai,jcQ h,h1];simp only[jaz,jak,jau,he]
 by_cases hp:∃i,i<ws.length/\¬jaY (ws.getD i [])
 ·have he:colE ⟨nm,lo,hi,w,ws⟩=19:=by simp only[colE];rw[Ke h0,Ke aa,Kh hp]
  simp only[Tryz.f270,simprocAttr,zK,Vq,tys2,jai,jcQ h,h1,jc3 w ws h hs2 hs3,hp];simp only[jaz,jak,jau,he]
 by_cases h2:jit ws
 ·have he:colE ⟨nm,lo,hi,w,ws⟩=8:=by simp only[colE];rw[Ke h0,Ke aa,Ke hp,Kh h2]
  simp only[Tryz.f270,simprocAttr,zK,Vq,tys2,jai,jcQ h,h1,jc3 w ws h hs2 hs3,hp,jeM w ws h hs2,h2];simp only[jaz,jak,jau,he]
 have e2:IntKind.i64.wrap ((ws.length:Int)-1)=(ws.length:Int)-1:=wrap_i64 aa aa;by_cases h3:lo=0
 ·by_cases h4:hi=(ws.length:Int)-1
  ·have he:colE ⟨nm,lo,hi,w,ws⟩=0:=by simp only[colE];rw[Ke h0,Ke aa,Ke hp,Ke h2,Ke (by rintro(h|h);exact h h3;exact h h4)]
   simp only[Tryz.f270,simprocAttr,zK,Vq,tys2,jai,jcQ h,h1,jc3 w ws h hs2 hs3,hp,jeM w ws h hs2,h2,h3,e2,h4];simp only[jaz,jak,jau,<- h3,<- h4,he]
  ·have he:colE ⟨nm,lo,hi,w,ws⟩=2:=by simp only[colE];rw[Ke h0,Ke aa,Ke hp,Ke h2,Kh (.inr h4)]
   simp only[Tryz.f270,simprocAttr,zK,Vq,tys2,jai,jcQ h,h1,jc3 w ws h hs2 hs3,hp,jeM w ws h hs2,h2,h3,e2,h4];simp only[jaz,jak,jau,<- h3,he]
 ·have he:colE ⟨nm,lo,hi,w,ws⟩=2:=by simp only[colE];rw[Ke h0,Ke aa,Ke hp,Ke h2,Kh (.inl h3)]
  simp only[Tryz.f270,simprocAttr,zK,Vq,tys2,jai,jcQ h,h1,jc3 w ws h hs2 hs3,hp,jeM w ws h hs2,h2,h3];simp only[jaz,jak,jau,he]
theorem jxs:env.P.funcs[269]? = some Tryz.f269:=ac
theorem jpy(c d:Col)(hd:IsW d.w d.ws)(L:List AObj)(ts:List Nat)(p:Nat)(hp:L[p]? = some (.cells [.str c.name,.int .i64 c.lo,.int .i64 c.hi,c.w] 41)) :
  jah env (ev env) 269 [.agg [.str d.name,.int .i64 d.lo,.int .i64 d.hi,d.w],.ptr p 0] ⟨L,ts⟩=some (.bool (decide (d.name=c.name)),⟨L++[.cells [.str d.name,.int .i64 d.lo,.int .i64 d.hi,d.w] 41],ts⟩):=by
 refine jbW rfl rfl jxs rfl (by simp[Tryz.f269]) (by simp[Tryz.f269]) ?_;refine jaB ?_
 have hlt:p<L.length:=by
  rcases Qm p L.length with h|h
  ·exact h
  ·rw[Qq h]at hp;simp at hp
 have hE:∀o,(L++[o])[p]? = some (.cells [.str c.name,.int .i64 c.lo,.int .i64 c.hi,c.w] 41):=λo=>by rw[Kj hlt];exact hp
 by_cases h:d.name=c.name<;>
 ·simp only[Tryz.f269,simprocAttr,zK,Vq,tys2,YW,jad,hE,jaA,h];simp[jaz,h]
theorem jsW:env.P.funcs[200]? = some Tryz.f200:=ac
theorem jxt:env.P.funcs[231]? = some Tryz.f231:=ac
def jd8(ds:List Col)(nm:List UInt8):Nat->Nat->Int
 |0,_ => -1
 |m+1,i=>if(ds.getD i Col.none).name=nm then i else jd8 ds nm m (i+1)
theorem jjC (ds:List Col)(nm:List UInt8):∀m i,0<=jd8 ds nm m i↔∃j,i<=j/\j<i+m/\(ds.getD j Col.none).name=nm
  | 0, i => by simp only[jd8];constructor
               · intro h;omega
               · rintro⟨j,h1,h2,_⟩;omega
  | m+1,i=>by
    simp only[jd8];by_cases h:(ds.getD i Col.none).name=nm
    · rw[Kh h]
      exact⟨λ_=>⟨i,aa,aa,h⟩,λ_=>aa⟩
    · rw [Ke h,jjC ds nm m (i+1)]
      constructor
      · rintro⟨j,h1,h2,h3⟩;exact⟨j,aa,aa,h3⟩
      · rintro⟨j,h1,h2,h3⟩
        refine⟨j,?_,aa,h3⟩
        rcases Qm i j with h4|h4
        · omega
        · have:j=i:=by omega
          subst this;exact absurd h3 h
theorem jnj(c:Col)(dv:V)(ds:List Col)(hd:IsC dv ds)(ok:OkC ds)(hl:ds.length<=1000)(L:List AObj)(ts:List Nat)(p:Nat)(hp:L[p]? = some (.cells [.str c.name,.int .i64 c.lo,.int .i64 c.hi,c.w] 41)) :
  ∃X,jah env (ev env) 200 [dv,.func 269 [] [.ptr p 0]] ⟨L,ts⟩=some (.int .i64 (jd8 ds c.name ds.length 0),⟨L++X,ts⟩):=by
 have hlt0:p<L.length:=by
  rcases Qm p L.length with h|h
  ·exact h
  ·rw[Qq h]at hp;simp at hp
 suffices h:∃v U',jah env (ev env) 200 [dv,.func 269 [] [.ptr p 0]] ⟨L,ts⟩=some (v,U')/\(v=.int .i64 (jd8 ds c.name ds.length 0)/\∃X,U'=⟨L++X,ts⟩) by
  obtain⟨v,U',h1,rfl,X,rfl⟩:=h;exact⟨X,h1⟩
 refine jaD jsW rfl ?_;simp only[Tryz.f200,simprocAttr,zK,Vq,tys2,jfe hd];refine jaw (λm T D U=>D=[]/\T 0=dv/\T 1=.func 269 [] [.ptr p 0]/\T 7=.int .i64 ds.length/\∃(i:Nat) (X:List AObj),U=⟨L++X,ts⟩/\T 8=.int .i64 i/\i<=ds.length/\m=ds.length-i/\jd8 ds c.name ds.length 0=jd8 ds c.name (ds.length-i) i) ?_ _ _ _ _ ⟨rfl,rfl,rfl,rfl,0,[],ae,rfl,aa,rfl,rfl⟩;rintro m T D U ⟨rfl,t0,t1,t7,i,X,rfl,t8,hi,rfl,hf⟩;refine jaB ?_;by_cases hlt:i<ds.length
 ·have c1:(i:Int)<(ds.length:Int):=by omega
  have e1:IntKind.i64.wrap ((i:Int)+1)=((i+1:Nat):Int):=by rw[wrap_i64 aa aa];omega
  have hx:=jeL hd hlt;have hN:=jpy c (ds.getD i Col.none) (ok.at hlt) (L++X) ts p (by rw[Kj hlt0];exact hp);obtain⟨q,hq⟩:∃q,ds.length-i=q+1:=⟨ds.length-i-1,aa⟩;have hq2:q=ds.length-(i+1):=aa;have hstep:jd8 ds c.name (ds.length-i) i=if(ds.getD i Col.none).name=c.name then(i:Int)else jd8 ds c.name q (i+1):=by rw[hq];rfl
  rw[hstep]at hf;by_cases hn:(ds.getD i Col.none).name=c.name
  ·rw[Kh hn]at hf;simp only[hn,decide_true]at hN;simp only[simprocAttr,zK,Vq,tys2,t0,t1,t7,t8,c1,e1,hx,jc9,jaL,hn,hN];exact⟨by rw[hf];rfl,_,by rw[K9]⟩
  ·rw[Ke hn,hq2]at hf;simp only[hn,decide_false]at hN;simp only[simprocAttr,zK,Vq,tys2,t0,t1,t7,t8,c1,e1,hx,jc9,jaL,hN];exact⟨ds.length-(i+1),aa,i+1,_,by rw[K9],rfl,aa,rfl,hf⟩
 ·have hi2:i=ds.length:=by omega
  subst hi2;have c1:¬(ds.length:Int)<(ds.length:Int):=aa;have hf2:jd8 ds c.name ds.length 0 = -1:=by rw[hf,Xo];rfl
  simp only[simprocAttr,zK,Vq,t0,t1,t7,t8,c1];exact⟨by rw[hf2];rfl,X,rfl⟩
open Classical in
theorem ji8(c:Col)(dv:V)(ds:List Col)(hd:IsC dv ds)(ok:OkC ds)(hl:ds.length<=1000)(L:List AObj)(ts:List Nat)(p:Nat)(hp:L[p]? = some (.cells [.str c.name,.int .i64 c.lo,.int .i64 c.hi,c.w] 41)) :
  ∃X,jah env (ev env) 231 [dv,.func 269 [] [.ptr p 0]] ⟨L,ts⟩=some (.bool (decide (∃j,j<ds.length/\(ds.getD j Col.none).name=c.name)),⟨L++X,ts⟩):=by
 obtain⟨X,hX⟩:=jnj c dv ds hd ok hl L ts p hp;refine⟨X,?_⟩
 have hk:(0<=jd8 ds c.name ds.length 0)↔∃j,j<ds.length/\(ds.getD j Col.none).name=c.name:=by
  rw[jjC];constructor
  ·rintro⟨j,_,h2,h3⟩;exact⟨j,aa,h3⟩
  ·rintro⟨j,h2,h3⟩;exact⟨j,aa,aa,h3⟩
 refine jbW rfl rfl jxt rfl (by simp[Tryz.f231]) (by simp[Tryz.f231]) ?_;refine jaB ?_;by_cases hq:∃j,j<ds.length/\(ds.getD j Col.none).name=c.name
 ·have c0:0<=jd8 ds c.name ds.length 0:=hk.2 hq;simp only[Tryz.f231,simprocAttr,zK,Vq,hX,c0];simp only[jaz,hq,decide_true,and_self]
 ·have c0:¬0<=jd8 ds c.name ds.length 0:=λh=>hq (hk.1 h)
  simp only[Tryz.f231,simprocAttr,zK,Vq,hX,c0];simp only[jaz,hq,decide_false,and_self]
theorem jxu:env.P.funcs[238]? = some Tryz.f238:=ac
theorem jjD:∀(cs:List Col) (i:Nat),(jaN cs).take (i*4)=jaN (cs.take i)
 |cs,0=>by simp[jaN]
 | [],i+1=>by simp[jaN]
 |c::cs,i+1=>by
  rw[jbF,show(i+1)*4=i*4+1+1+1+1 by omega];simp only[Jw,jjD cs i,jbF]
theorem juJ {v:V}{cs:List Col}(h:IsC v cs){i:Nat}(hi:i<cs.length):∃u,jb2 env 36 v none (some (.int .i64 (i:Int))) none=some u/\IsC u (cs.take i):=by
 rcases h with⟨rfl,rfl⟩|⟨q,_,rfl⟩
 ·simp at hi
 ·refine⟨.row (jaN (cs.take i)) i .unk,?_,.inr ⟨.unk,.inl rfl,by simp[Q7,X9 (Nat.le_of_lt hi)]⟩⟩
  have hb:ja1 (some (.int .i64 (i:Int))) cs.length cs.length=some i:=by
   simp only[ja1];simp;omega
  simp only[jb2,tys2,Kq,jcR,hb];simp[ja1,show ¬i=cs.length by omega,jjD]
theorem jlN(cs:List Col){i j:Nat}(h:j<i):(cs.take i).getD j Col.none=cs.getD j Col.none:=by
 simp[List.getD,Jv,h]
open Classical in
theorem jdX(cv:V)(cs:List Col)(hc:IsC cv cs)(ok:OkC cs)(hl:cs.length<=1000)(i:Nat)(hlt:i<cs.length)(hsc:jdB (cs.getD i Col.none))(U:S) :
  jah env (ev env) 238 [cv,.int .i64 i] U=some (.int .i64 (colX cs i),U):=by
 refine jaj (by simp[V.closed,V.closed.closedL,ja2 hc ok]) jxu rfl ?_ U;have hwc:=ok.at hlt;have hic:=jbh hwc;by_cases hnm:jaY (cs.getD i Col.none).name
 case neg =>
  have hX:colX cs i=19:=by simp only[colX];rw[Kh hnm]
  simp only[Tryz.f238,simprocAttr,zK,Vq,tys2,jeL hc hlt,jc9,jaL,z44,jai,Qz,jaa,Jm,Qx,K5,J8,Ks,Qo,Xa,jae,jac,hic,YW,jc2 _ hsc.1,hnm];simp only[jaz,jak,jau,hX]
 obtain⟨u,hu,hcu⟩:=juJ hc hlt;have oku:OkC (cs.take i):=λc h=>ok c (List.mem_of_mem_take h)
 obtain⟨X,hX⟩:=ji8 (cs.getD i Col.none) u (cs.take i) hcu oku (by simp;omega) [.cells [.str (cs.getD i Col.none).name,.int .i64 (cs.getD i Col.none).lo,.int .i64 (cs.getD i Col.none).hi,(cs.getD i Col.none).w] 41] [] 0 rfl
 have hk:(∃j,j<(cs.take i).length/\((cs.take i).getD j Col.none).name=(cs.getD i Col.none).name)↔∃k,k<i/\(cs.getD k Col.none).name=(cs.getD i Col.none).name:=by
  have hli:(cs.take i).length=i:=by simp;omega
  rw[hli];constructor
  ·rintro⟨j,h1,h2⟩;exact⟨j,h1,by rwa[jlN cs h1]at h2⟩
  ·rintro⟨j,h1,h2⟩;exact⟨j,h1,by rwa[jlN cs h1]⟩
 simp only[hk,Ju,Jd]at hX;by_cases hd:∃k,k<i/\(cs.getD k Col.none).name=(cs.getD i Col.none).name
 ·have hE:colX cs i=8:=by simp only[colX];rw[Ke (not_not_intro hnm),Kh hd]
  simp only[hd,decide_true]at hX;simp only[Tryz.f238,simprocAttr,zK,Vq,tys2,jeL hc hlt,jc9,jaL,z44,jai,Qz,jaa,Jm,Qx,K5,J8,Ks,Qo,Xa,jae,jac,hic,YW,jc2 _ hsc.1,hnm,jbX,jbY,jb3,hu,hX];simp only[jaz,jak,jau,hE]
 have hE:colX cs i=colE (cs.getD i Col.none):=by simp only[colX];rw[Ke (not_not_intro hnm),Ke hd]
 simp only[hd,decide_false]at hX;have hL:jab (.cells [.str (cs.getD i Col.none).name,.int .i64 (cs.getD i Col.none).lo,.int .i64 (cs.getD i Col.none).hi,(cs.getD i Col.none).w] 41::X) 4 (.ptr 0 0)=some [.str (cs.getD i Col.none).name,.int .i64 (cs.getD i Col.none).lo,.int .i64 (cs.getD i Col.none).hi,(cs.getD i Col.none).w]:=jb5 rfl;by_cases h0:(0:Int)<((cs.getD i Col.none).ws.length:Int)
 ·have hne:(cs.getD i Col.none).ws.length ≠ 0:=by omega
  simp only[Tryz.f238,simprocAttr,zK,Vq,tys2,jeL hc hlt,jc9,jaL,z44,jai,Qz,jaa,Jm,Qx,K5,J8,Ks,Qo,Xa,jae,jac,hic,YW,jc2 _ hsc.1,hnm,jbX,jbY,jb3,hu,hX,jcQ hwc,h0,hL,jpx _ hwc hsc hne];simp only[jaz,jak,jau,hE]
 have hz:(cs.getD i Col.none).ws.length=0:=aa;by_cases h1:(cs.getD i Col.none).lo < -1000000
 ·have he:colE (cs.getD i Col.none)=2:=by simp only[colE,hz,Km];rw[Kh (.inl h1)]
  simp only[Tryz.f238,simprocAttr,zK,Vq,tys2,jeL hc hlt,jc9,jaL,z44,jai,Qz,jaa,Jm,Qx,K5,J8,Ks,Qo,Xa,jae,jac,hic,YW,jc2 _ hsc.1,hnm,jbX,jbY,jb3,hu,hX,jcQ hwc,h0,h1];simp only[jaz,jak,jau,hE,he]
 by_cases h2:1000000<(cs.getD i Col.none).hi
 ·have he:colE (cs.getD i Col.none)=2:=by simp only[colE,hz,Km];rw[Kh (.inr (.inl h2))]
  simp only[Tryz.f238,simprocAttr,zK,Vq,tys2,jeL hc hlt,jc9,jaL,z44,jai,Qz,jaa,Jm,Qx,K5,J8,Ks,Qo,Xa,jae,jac,hic,YW,jc2 _ hsc.1,hnm,jbX,jbY,jb3,hu,hX,jcQ hwc,h0,h1,h2];simp only[jaz,jak,jau,hE,he]
 by_cases h3:(cs.getD i Col.none).hi<(cs.getD i Col.none).lo
 ·have he:colE (cs.getD i Col.none)=2:=by simp only[colE,hz,Km];rw[Kh (.inr (.inr h3))]
  simp only[Tryz.f238,simprocAttr,zK,Vq,tys2,jeL hc hlt,jc9,jaL,z44,jai,Qz,jaa,Jm,Qx,K5,J8,Ks,Qo,Xa,jae,jac,hic,YW,jc2 _ hsc.1,hnm,jbX,jbY,jb3,hu,hX,jcQ hwc,h0,h1,h2,h3];simp only[jaz,jak,jau,hE,he]
 ·have he:colE (cs.getD i Col.none)=0:=by simp only[colE,hz,Km];rw[Ke aa]
  simp only[Tryz.f238,simprocAttr,zK,Vq,tys2,jeL hc hlt,jc9,jaL,z44,jai,Qz,jaa,Jm,Qx,K5,J8,Ks,Qo,Xa,jae,jac,hic,YW,jc2 _ hsc.1,hnm,jbX,jbY,jb3,hu,hX,jcQ hwc,h0,h1,h2,h3];simp only[jaz,jak,jau,hE,he]
theorem jxv:env.P.funcs[254]? = some Tryz.f254:=ac
theorem jxw:env.P.funcs[255]? = some Tryz.f255:=ac
theorem jxx:env.P.funcs[256]? = some Tryz.f256:=ac
theorem jxy:env.P.funcs[258]? = some Tryz.f258:=ac
theorem jxz:env.P.funcs[259]? = some Tryz.f259:=ac
theorem jxA:env.P.funcs[260]? = some Tryz.f260:=ac
theorem jxB:env.P.funcs[223]? = some Tryz.f223:=ac
theorem tys3:sz env 64=some 1/\sz env 32=some 1/\sz env 224=some 1/\env.P.underlying 222=some (.slice 224)/\(∀h p,jaH env h 64 p=(jab h 1 p).bind (·[0]?))/\(∀h p,jaH env h 32 p=(jab h 1 p).bind (·[0]?))/\(∀h p,jaH env h 224 p=(jab h 1 p).bind (·[0]?)):=by
 have g30:aggT env 64=some false:=ac;have g32:aggT env 32=some false:=ac;have g76:aggT env 224=some false:=ac;exact⟨ac,ac,ac,ac,λ_ _=>jav g30,λ_ _=>jav g32,λ_ _=>jav g76⟩
theorem jpz(g:FuncId)(e:Int)(L:List AObj)(ts:List Nat) :
  jah env (ev env) 254 [.func g [] [],.int .i64 e] ⟨L,ts⟩=some (.func 255 [] [.ptr L.length 0,.ptr (L.length+1) 0],⟨L++[.cells [.func g [] []] 64,.cells [.int .i64 e] 32],ts⟩):=by
 refine jbW rfl rfl jxv rfl (by simp[Tryz.f254]) (by simp[Tryz.f254]) ?_;refine jaB ?_;simp -implicitDefEqProofs only[Tryz.f254,simprocAttr,zK,Vq,tys2,tys3,jpq,Y6,jsU];simp only[jaz,K9,Ju,Jd,and_self]
def Says(g:FuncId)(sc:List V)(b:Bool):Prop:=∀L ts,jah env (ev env) g [.agg sc] ⟨L,ts⟩=some (.bool b,⟨L++[.cells sc 38],ts⟩)
theorem jgx(g:FuncId)(e:Int)(a b c d:V)(r:Bool)(hg:Says g [a,b,c,d] r)(L:List AObj)(ts:List Nat)(p q:Nat)(hp:L[p]? = some (.cells [.func g [] []] 64))(hq:L[q]? = some (.cells [.int .i64 e] 32)) :
  jah env (ev env) 255 [.agg [a,b,c,d],.ptr p 0,.ptr q 0] ⟨L,ts⟩=some (.tup [.int .i64 (if r=true then e else 0),.int .i64 (-1)],⟨L++[.cells [a,b,c,d] 38,.cells [a,b,c,d] 38],ts⟩):=by
 refine jbW rfl rfl jxw rfl (by simp[Tryz.f255]) (by simp[Tryz.f255]) ?_;refine jaB ?_;cases r<;>
 ·simp -implicitDefEqProofs only[Tryz.f255,simprocAttr,zK,Vq,tys2,tys3,YW,jhM (jaE hp _),jhM (jaE (jaE hp _) _),jhM (jaE (jaE hq _) _),jhM (jaE hq _),jaE hp,jaE hq,jee,jdr,hg _ _];simp[jaz]
theorem ck90(nm:List UInt8)(hn:nm.length<2^63)(b c d:V):Says 256 [.str nm,b,c,d] (!decide (jaY nm)):=by
 intro L ts;refine jbW rfl rfl jxx rfl (by simp[Tryz.f256]) (by simp[Tryz.f256]) ?_;refine jaB ?_;by_cases h:jaY nm<;>
 ·simp -implicitDefEqProofs only[Tryz.f256,simprocAttr,zK,Vq,tys2,tys3,YW,jad,jc2 nm hn,h,Q8,Jh];simp[jaz]
theorem ck92(a b c:V)(cv:V)(cs:List Col)(hc:IsC cv cs):Says 259 [a,b,c,cv] (decide (cs.length=0)):=by
 intro L ts;refine jbW rfl rfl jxz rfl (by simp[Tryz.f259]) (by simp[Tryz.f259]) ?_;refine jaB ?_;by_cases h:(cs.length:Int)=0
 ·have h':cs.length=0:=by omega
  simp -implicitDefEqProofs only[Tryz.f259,simprocAttr,zK,Vq,tys2,tys3,YW,jad,jfe hc,h];simp[jaz,h']
 ·have h':¬cs.length=0:=by omega
  simp -implicitDefEqProofs only[Tryz.f259,simprocAttr,zK,Vq,tys2,tys3,YW,jad,jfe hc,h];simp[jaz,h']
theorem ck93(a b c:V)(cv:V)(cs:List Col)(hc:IsC cv cs):Says 260 [a,b,c,cv] (decide (16<cs.length)):=by
 intro L ts;refine jbW rfl rfl jxA rfl (by simp[Tryz.f260]) (by simp[Tryz.f260]) ?_;refine jaB ?_;by_cases h:(16:Int)<(cs.length:Int)
 ·have h':16<cs.length:=by omega
  simp -implicitDefEqProofs only[Tryz.f260,simprocAttr,zK,Vq,tys2,tys3,YW,jad,jfe hc,h];simp[jaz,h']
 ·have h':¬16<cs.length:=by omega
  simp -implicitDefEqProofs only[Tryz.f260,simprocAttr,zK,Vq,tys2,tys3,YW,jad,jfe hc,h];simp[jaz,h']
theorem ck91(a d:V)(pb:Bool)(many:Int):Says 258 [a,.bool pb,.int .i64 many,d] (decide ((pb=true/\many ≠ 0)\/(pb=false/\(many<1\/50<many)))):=by
 intro L ts;refine jbW rfl rfl jxy rfl (by simp[Tryz.f258]) (by simp[Tryz.f258]) ?_;refine jaB ?_;cases pb with
 | true =>
  by_cases h:many=0<;>
  ·simp -implicitDefEqProofs only[Tryz.f258,simprocAttr,zK,Vq,tys2,tys3,YW,jad,h];simp[jaz,h]
 | false =>
  by_cases h:many<1
  ·simp -implicitDefEqProofs only[Tryz.f258,simprocAttr,zK,Vq,tys2,tys3,YW,jad,h];simp[jaz,h]
  ·by_cases h2:50<many<;>
   ·simp -implicitDefEqProofs only[Tryz.f258,simprocAttr,zK,Vq,tys2,tys3,YW,jad,h,h2];simp[jaz,h,h2]
theorem jxC:env.P.funcs[261]? = some Tryz.f261:=ac
theorem ck94(nm:List UInt8)(pb:Bool)(many:Int)(cv:V)(cs:List Col)(hc:IsC cv cs)(ok:OkC cs)(hl:cs.length<=1000)(hs:∀i,i<cs.length->jdB (cs.getD i Col.none))(L:List AObj)(ts:List Nat) :
  ∃X,jah env (ev env) 261 [.agg [.str nm,.bool pb,.int .i64 many,cv]] ⟨L,ts⟩=some (.tup [.int .i64 (jcj cs cs.length 0).1,.int .i64 (jcj cs cs.length 0).2],⟨L++X,ts⟩):=by
 suffices h:∃v U',jah env (ev env) 261 [.agg [.str nm,.bool pb,.int .i64 many,cv]] ⟨L,ts⟩=some (v,U')/\(v=.tup [.int .i64 (jcj cs cs.length 0).1,.int .i64 (jcj cs cs.length 0).2]/\∃X,U'=⟨L++X,ts⟩) by
  obtain⟨v,U',h1,rfl,X,rfl⟩:=h;exact⟨X,h1⟩
 refine jaD jxC rfl ?_;simp only[Tryz.f261,simprocAttr,zK,Vq,tys2,tys3,YW,jad,jfe hc];refine jaw (λm T D U=>D=[]/\U=⟨L++[.cells [.str nm,.bool pb,.int .i64 many,cv] 38],ts⟩/\T 1=.ptr L.length 0/\T 8=.int .i64 cs.length/\∃i:Nat,T 9=.int .i64 i/\i<=cs.length/\m=cs.length-i/\jcj cs cs.length 0=jcj cs (cs.length-i) i) ?_ _ _ _ _ ⟨rfl,rfl,rfl,rfl,0,rfl,aa,rfl,rfl⟩;rintro m T D U ⟨rfl,rfl,t1,t8,i,t9,hi,rfl,hf⟩;refine jaB ?_;by_cases hlt:i<cs.length
 ·have c1:(i:Int)<(cs.length:Int):=by omega
  have e1:IntKind.i64.wrap ((i:Int)+1)=((i+1:Nat):Int):=by rw[wrap_i64 aa aa];omega
  obtain⟨q,hq⟩:∃q,cs.length-i=q+1:=⟨cs.length-i-1,aa⟩;have hq2:q=cs.length-(i+1):=aa;have hstep:jcj cs (cs.length-i) i=if colX cs i=0 then jcj cs q (i+1)else(colX cs i,(i:Int)):=by rw[hq];rfl
  rw[hstep]at hf;by_cases hz:colX cs i=0
  ·rw[Kh hz,hq2]at hf;simp only[simprocAttr,zK,Vq,tys2,tys3,t1,t8,t9,c1,e1,jad,jdX cv cs hc ok hl i hlt (hs i hlt),hz];exact⟨cs.length-(i+1),aa,i+1,rfl,aa,rfl,hf⟩
  ·rw[Ke hz]at hf;simp only[simprocAttr,zK,Vq,tys2,tys3,t1,t8,t9,c1,e1,jad,jdX cv cs hc ok hl i hlt (hs i hlt),hz];exact⟨by rw[hf];rfl,_,rfl⟩
 ·have hi2:i=cs.length:=by omega
  subst hi2;have c1:¬(cs.length:Int)<(cs.length:Int):=aa;rw[Xo]at hf;simp only[simprocAttr,zK,Vq,t1,t8,t9,c1];exact⟨by rw[hf];rfl,_,rfl⟩
def jdJ(g:FuncId)(n:Nat):V:=.func 255 [] [.ptr n 0,.ptr (n+1) 0]
def jeN:V:=.row [jdJ 256 1,jdJ 258 3,jdJ 259 5,jdJ 260 7,.func 261 [] []] 5 .full
def jef(o:AObj):List AObj:=[o,.cells [.func 256 [] []] 64,.cells [.int .i64 19] 32,.cells [.func 258 [] []] 64,.cells [.int .i64 2] 32,.cells [.func 259 [] []] 64,.cells [.int .i64 3] 32,.cells [.func 260 [] []] 64,.cells [.int .i64 4] 32]
theorem jpA:rowO env 222 5 [(0,.func 255 [] [.ptr 1 0,.ptr 2 0]),(1,.func 255 [] [.ptr 3 0,.ptr 4 0]),(2,.func 255 [] [.ptr 5 0,.ptr 6 0]),(3,.func 255 [] [.ptr 7 0,.ptr 8 0]),(4,.func 261 [] [])]=some jeN:=ac
theorem jnk(o:AObj):jah env (ev env) 223 [] ⟨[o],[]⟩=some (jeN,⟨jef o,[]⟩):=by
 refine jbW rfl rfl jxB rfl (by simp[Tryz.f223]) (by simp[Tryz.f223]) ?_;refine jaB ?_;simp only[Tryz.f223,simprocAttr,zK,Vq,tys2,tys3,jpz,jap,jpA];simp[jaz,jef]
theorem jdY(cs:List Col):∀m i,(jcj cs m i).1=0->jcj cs m i=(0,-1)
 |0,i,_=>rfl
 |m+1,i,h=>by
  simp only[jcj]at h ⊢;by_cases hz:colX cs i=0
  ·rw[Kh hz]at h ⊢;exact jdY cs m (i+1) h
  ·rw[Ke hz]at h;exact absurd h hz
open Classical in
noncomputable def jg8(nm:List UInt8)(pb:Bool)(many:Int)(cs:List Col):Nat->Int × Int
 |0=>jda nm pb many cs
 |1=>if(pb=true/\many ≠ 0)\/(pb=false/\(many<1\/50<many))then(2,-1)else if cs.length=0 then(3,-1)else if 16<cs.length then(4,-1)else jcj cs cs.length 0
 |2=>if cs.length=0 then(3,-1)else if 16<cs.length then(4,-1)else jcj cs cs.length 0
 |3=>if 16<cs.length then(4,-1)else jcj cs cs.length 0
 |4=>jcj cs cs.length 0
 |_=>(0,-1)
theorem jvY:jax 1 jeN (.int .i64 0)=some (.rptr [jdJ 256 1,jdJ 258 3,jdJ 259 5,jdJ 260 7,.func 261 [] []]):=rfl
theorem jvZ:jax 1 jeN (.int .i64 1)=some (.rptr [jdJ 258 3,jdJ 259 5,jdJ 260 7,.func 261 [] []]):=rfl
theorem jv0:jax 1 jeN (.int .i64 2)=some (.rptr [jdJ 259 5,jdJ 260 7,.func 261 [] []]):=rfl
theorem jv1:jax 1 jeN (.int .i64 3)=some (.rptr [jdJ 260 7,.func 261 [] []]):=rfl
theorem jv2:jax 1 jeN (.int .i64 4)=some (.rptr [.func 261 [] []]):=rfl
theorem lenF:jbc (some (.slice 224)) jeN=some (.int .i64 5):=rfl
theorem jxD:env.P.funcs[171]? = some Tryz.f171:=ac
theorem ji9:IntKind.i64.wrap (0+1)=1/\IntKind.i64.wrap (1+1)=2/\IntKind.i64.wrap (2+1)=3/\IntKind.i64.wrap (3+1)=4/\IntKind.i64.wrap (4+1)=5:=by
 refine⟨?_,?_,?_,?_,?_⟩<;>rw[wrap_i64 aa aa]<;>rfl
open Classical in
theorem check_call(nm:List UInt8)(pb:Bool)(many:Int)(cv:V)(cs:List Col)(hc:IsC cv cs)(ok:OkC cs)(hn:nm.length<2^63)(hl:cs.length<=1000)(hs:∀i,i<cs.length->jdB (cs.getD i Col.none))(U:S) :
  jah env (ev env) 171 [.agg [.str nm,.bool pb,.int .i64 many,cv]] U=some (.tup [.int .i64 (jda nm pb many cs).1,.int .i64 (jda nm pb many cs).2],U):=by
 refine jaj (by simp[V.closed,V.closed.closedL,ja2 hc ok]) jxD rfl ?_ U;simp only[Tryz.f171,simprocAttr,zK,Vq,tys2,tys3,jai,YW,jnk,lenF];generalize hr:jda nm pb many cs=r
 refine jaw (λm T D U=>D=[]/\T 1=.ptr 0 0/\T 8=jeN/\T 9=.int .i64 5/\∃(i:Nat) (X:List AObj),U=⟨jef (.cells [.str nm,.bool pb,.int .i64 many,cv] 38)++X,[]⟩/\T 10=.int .i64 i/\i<=5/\m=5-i/\jg8 nm pb many cs i=r) ?_ _ _ _ _
  ⟨rfl,rfl,rfl,rfl,0,[],by rw[Jn],rfl,aa,rfl,hr⟩
 clear hr;rintro m T D U ⟨rfl,t1,t8,t9,i,X,rfl,t10,hi,rfl,hr⟩;refine jaB ?_
 have hfin:∀a b:Int,(a,b)=r->jaK (jef (.cells [.str nm,.bool pb,.int .i64 many,cv] 38)++X) jak (jaz [V.int .i64 a,V.int .i64 b])=some (.tup [.int .i64 r.1,.int .i64 r.2]):=λa b h=>by
  subst h;simp only[jaz,jak,jbO,jal,jaQ,jau,Kq,Qg]
 have hfin2:∀(Y:List AObj) (a b:Int),(a,b)=r->jaK Y jak (jaz [V.int .i64 a,V.int .i64 b])=some (.tup [.int .i64 r.1,.int .i64 r.2]):=λY a b h=>by
  subst h;simp only[jaz,jak,jbO,jal,jaQ,jau,Kq,Qg]
 have hL:jab (jef (.cells [.str nm,.bool pb,.int .i64 many,cv] 38)++X) 4 (.ptr 0 0)=some [.str nm,.bool pb,.int .i64 many,cv]:=jb5 rfl;have hi':i=0\/i=1\/i=2\/i=3\/i=4\/i=5:=aa
 rcases hi' with rfl|rfl|rfl|rfl|rfl|rfl
 ·have hC:=jgx 256 19 _ _ _ _ _ (ck90 nm hn (.bool pb) (.int .i64 many) cv) (jef (.cells [.str nm,.bool pb,.int .i64 many,cv] 38)++X) [] 1 2 rfl rfl;by_cases h:jaY nm
  ·simp only[h,decide_true,Q8,Kr,Ko]at hC;have hr1:jg8 nm pb many cs 1=r:=by rw[<- hr];show _=jda nm pb many cs;unfold jda;rw[Ke (by simp[h])];rfl
   simp only[simprocAttr,zK,Vq,tys2,tys3,t1,t8,t9,t10,U5,jvY,jar,jee,hL,jdJ,hC,ji9];exact⟨4,aa,1,_,by rw[K9],rfl,aa,rfl,hr1⟩
  ·simp only[h,decide_false,Jh,Km]at hC;have hr1:(19,-1)=r:=by rw[<- hr];show _=jda nm pb many cs;unfold jda;rw[Kh (by simp[h])]
   simp only[simprocAttr,zK,Vq,tys2,tys3,t1,t8,t9,t10,U5,jvY,jar,jee,hL,jdJ,hC,ji9];exact hfin2 _ _ _ hr1
 ·have hC:=jgx 258 2 _ _ _ _ _ (ck91 (.str nm) cv pb many) (jef (.cells [.str nm,.bool pb,.int .i64 many,cv] 38)++X) [] 3 4 rfl rfl;by_cases h:(pb=true/\many ≠ 0)\/(pb=false/\(many<1\/50<many))
  ·simp only[h,decide_true,Km]at hC;have hr1:(2,-1)=r:=by rw[<- hr];simp only[jg8];rw[Kh h]
   simp only[simprocAttr,zK,Vq,tys2,tys3,t1,t8,t9,t10,Xp,jvZ,jar,jee,hL,jdJ,hC,ji9];exact hfin2 _ _ _ hr1
  ·simp only[h,decide_false,Kr,Ko]at hC;have hr1:jg8 nm pb many cs 2=r:=by rw[<- hr];simp only[jg8];rw[Ke h]
   simp only[simprocAttr,zK,Vq,tys2,tys3,t1,t8,t9,t10,Xp,jvZ,jar,jee,hL,jdJ,hC,ji9];exact⟨3,aa,2,_,by rw[K9],rfl,aa,rfl,hr1⟩
 ·have hC:=jgx 259 3 _ _ _ _ _ (ck92 (.str nm) (.bool pb) (.int .i64 many) cv cs hc) (jef (.cells [.str nm,.bool pb,.int .i64 many,cv] 38)++X) [] 5 6 rfl rfl;by_cases h:cs.length=0
  ·simp only[h,decide_true,Km]at hC;have hr1:(3,-1)=r:=by rw[<- hr];simp only[jg8];rw[Kh h]
   simp only[simprocAttr,zK,Vq,tys2,tys3,t1,t8,t9,t10,Xp,jv0,jar,jee,hL,jdJ,hC,ji9];exact hfin2 _ _ _ hr1
  ·simp only[h,decide_false,Kr,Ko]at hC;have hr1:jg8 nm pb many cs 3=r:=by rw[<- hr];simp only[jg8];rw[Ke h]
   simp only[simprocAttr,zK,Vq,tys2,tys3,t1,t8,t9,t10,Xp,jv0,jar,jee,hL,jdJ,hC,ji9];exact⟨2,aa,3,_,by rw[K9],rfl,aa,rfl,hr1⟩
 ·have hC:=jgx 260 4 _ _ _ _ _ (ck93 (.str nm) (.bool pb) (.int .i64 many) cv cs hc) (jef (.cells [.str nm,.bool pb,.int .i64 many,cv] 38)++X) [] 7 8 rfl rfl;by_cases h:16<cs.length
  ·simp only[h,decide_true,Km]at hC;have hr1:(4,-1)=r:=by rw[<- hr];simp only[jg8];rw[Kh h]
   simp only[simprocAttr,zK,Vq,tys2,tys3,t1,t8,t9,t10,Xp,jv1,jar,jee,hL,jdJ,hC,ji9];exact hfin2 _ _ _ hr1
  ·simp only[h,decide_false,Kr,Ko]at hC;have hr1:jg8 nm pb many cs 4=r:=by rw[<- hr];simp only[jg8];rw[Ke h]
   simp only[simprocAttr,zK,Vq,tys2,tys3,t1,t8,t9,t10,Xp,jv1,jar,jee,hL,jdJ,hC,ji9];exact⟨1,aa,4,_,by rw[K9],rfl,aa,rfl,hr1⟩
 ·obtain⟨Y,hC⟩:=ck94 nm pb many cv cs hc ok hl hs (jef (.cells [.str nm,.bool pb,.int .i64 many,cv] 38)++X) [];have hr1:jcj cs cs.length 0=r:=by rw[<- hr];simp only[jg8]
  by_cases h:(jcj cs cs.length 0).1=0
  ·have h2:=jdY cs _ _ h;simp only[h2]at hC;simp only[simprocAttr,zK,Vq,tys2,tys3,t1,t8,t9,t10,Xp,jv2,jar,jee,hL,jdJ,hC,ji9];exact⟨0,aa,5,_,by rw[K9],rfl,aa,rfl,by rw[<- hr1,h2];rfl⟩
  ·simp only[simprocAttr,zK,Vq,tys2,tys3,t1,t8,t9,t10,Xp,jv2,jar,jee,hL,jdJ,hC,ji9,h];exact hfin2 _ _ _ hr1
 ·have hr1:(0,-1)=r:=by rw[<- hr];simp only[jg8]
  simp only[simprocAttr,zK,Vq,tys2,tys3,t1,t8,t9,t10,Xp];exact hfin2 _ _ _ hr1
end Go.Proofs.YtajaampgajieeaaGreatDoor
