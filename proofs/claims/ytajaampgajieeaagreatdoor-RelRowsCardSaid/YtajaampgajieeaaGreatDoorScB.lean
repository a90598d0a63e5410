/- Proved here: a schema is checked. Conditions: those of each theorem; no statement of the seat is proved in this text. -/
import Derived.Test.YtajaampgajieeaaGreatDoorScA
set_option linter.unusedSimpArgs false
set_option maxHeartbeats 16000000
set_option maxRecDepth 1000000
set_option linter.unusedVariables false
set_option linter.unusedSectionVars false
namespace Go.Proofs.YtajaampgajieeaaGreatDoor
open Go.Ab
theorem jw1:env.P.funcs[296]? = some Tryz.f296:=by kernel_rfl
theorem jw2:env.P.funcs[297]? = some Tryz.f297:=by kernel_rfl
theorem jw3:env.P.funcs[325]? = some Tryz.f325:=by kernel_rfl
theorem jw4:env.P.funcs[270]? = some Tryz.f270:=by kernel_rfl
theorem jhk(s:List UInt8)(hs:s.length<2^63)(U:S):jai env (ev env) 297 [.str s] U=some (.bool (!decide (jaY s)),U):=by
 refine jal rfl rfl rfl jw2 rfl (by simp[Tryz.f297]) (by simp[Tryz.f297]) (jah ?_) U;by_cases h:jaY s<;>
 ·simp only[Tryz.f297,Ka,simprocAttr,Ys,Y0,Kc,Vq,jc1 s hs,h];simp only[jaz,jaj,jaA,Q8,Jl]
noncomputable def jeq(ws:List (List UInt8)):Nat->Nat->Int
 |0,_ => -1
 |m+1,i=>if jaY (ws.getD i [])then jeq ws m (i+1)else i
theorem jjj (ws:List (List UInt8)):∀m i,0<=jeq ws m i↔∃j,i<=j/\j<i+m/\¬jaY (ws.getD j [])
  | 0, i => by simp only[jeq];constructor
               · intro h;omega
               · rintro⟨j,h1,h2,_⟩;omega
  | m+1,i=>by
    simp only[jeq];by_cases h:jaY (ws.getD i [])
    · rw [Kh h,jjj ws m (i+1)]
      constructor
      · rintro⟨j,h1,h2,h3⟩;exact⟨j,by omega,by omega,h3⟩
      · rintro⟨j,h1,h2,h3⟩
        refine⟨j,?_,by omega,h3⟩
        rcases Qf i j with h4|h4
        · omega
        · have:j=i:=by omega
          subst this;exact absurd h h3
    · rw[Ke h]
      exact⟨λ_=>⟨i,by omega,by omega,h⟩,λ_=>by omega⟩
theorem jjk(w:V)(ws:List (List UInt8))(h:IsW w ws)(hl:ws.length<=1000)(hs:∀i,i<ws.length->(ws.getD i []).length<2^63)(U:S) :
  jai env (ev env) 325 [w,.func 297 [] []] U=some (.int .i64 (jeq ws ws.length 0),U):=by
 refine jal rfl rfl (by simp[V.closed,V.closed.closedL,jco h]) jw3 rfl (by simp[Tryz.f325]) (by simp[Tryz.f325]) (jah ?_) U;simp only[Tryz.f325,Ka,simprocAttr,Ys,Y0,Kc,Vq,jcR h];refine jay (λm T D U=>D=[]/\U=S.empty/\T 0=w/\T 1=.func 297 [] []/\T 7=.int .i64 ws.length/\∃i:Nat,T 8=.int .i64 i/\i<=ws.length/\m=ws.length-i/\jeq ws ws.length 0=jeq ws (ws.length-i) i) ?_ _ _ _ _ ⟨rfl,rfl,rfl,rfl,rfl,0,rfl,by omega,rfl,rfl⟩;rintro m T D U ⟨rfl,rfl,t0,t1,t7,i,t8,hi,rfl,hf⟩;refine jah ?_;by_cases hlt:i<ws.length
 ·have c1:(i:Int)<(ws.length:Int):=by omega
  have e1:=wS i (by omega)
  have hx:=jmK h hlt;obtain⟨q,hq⟩:∃q,ws.length-i=q+1:=⟨ws.length-i-1,by omega⟩;have hq2:q=ws.length-(i+1):=by omega
  have hstep:jeq ws (ws.length-i) i=if jaY (ws.getD i [])then jeq ws q (i+1)else i:=by rw[hq];rfl
  rw[hstep]at hf;by_cases hn:jaY (ws.getD i [])
  ·rw[Kh hn,hq2]at hf;simp only[Ka,simprocAttr,Ys,Y0,Kc,Vq,t0,t1,t7,t8,c1,e1,hx,jaq,jhk _ (hs i hlt),hn,Q8];exact⟨ws.length-(i+1),by omega,i+1,rfl,by omega,rfl,hf⟩
  ·rw[Ke hn]at hf;simp only[Ka,simprocAttr,Ys,Y0,Kc,Vq,t0,t1,t7,t8,c1,e1,hx,jaq,jhk _ (hs i hlt),hn,Jl];simp only[jaz,jaj,jav,hf]
 ·have hi2:i=ws.length:=by omega
  subst hi2;have c1:¬(ws.length:Int)<(ws.length:Int):=by omega
  have hf2:jeq ws ws.length 0 = -1:=by rw[hf,J6];rfl
  simp only[Ka,simprocAttr,Ys,Y0,Kc,Vq,t0,t1,t7,t8,c1];simp only[jaz,jaj,jav,hf2]
open Classical in
theorem jc2(w:V)(ws:List (List UInt8))(h:IsW w ws)(hl:ws.length<=1000)(hs:∀i,i<ws.length->(ws.getD i []).length<2^63)(U:S) :
  jai env (ev env) 296 [w,.func 297 [] []] U=some (.bool (decide (∃i,i<ws.length/\¬jaY (ws.getD i []))),U):=by
 refine jal rfl rfl (by simp[V.closed,V.closed.closedL,jco h]) jw1 rfl (by simp[Tryz.f296]) (by simp[Tryz.f296]) (jah ?_) U
 have hk:(0<=jeq ws ws.length 0)↔∃i,i<ws.length/\¬jaY (ws.getD i []):=by
  rw[jjj];constructor
  ·rintro⟨j,_,h2,h3⟩;exact⟨j,by omega,h3⟩
  ·rintro⟨j,h2,h3⟩;exact⟨j,by omega,by omega,h3⟩
 by_cases hp:∃i,i<ws.length/\¬jaY (ws.getD i [])
 ·have c0:0<=jeq ws ws.length 0:=hk.2 hp;simp only[Tryz.f296,Ka,simprocAttr,Ys,Y0,Kc,Vq,jjk w ws h hl hs,c0];simp only[jaz,jaj,jaA,hp,decide_true]
 ·have c0:¬0<=jeq ws ws.length 0:=λh=>hp (hk.1 h)
  simp only[Tryz.f296,Ka,simprocAttr,Ys,Y0,Kc,Vq,jjk w ws h hl hs,c0];simp only[jaz,jaj,jaA,hp,decide_false]
theorem jw5:env.P.funcs[298]? = some Tryz.f298:=by kernel_rfl
def keyV(s:List UInt8):V:=.agg [.str s,.bool false]
theorem jqL(a b:List UInt8):eqT env 8 309 (keyV a) (keyV b)=some (a==b):=by
 have h:eqT env 8 309 (keyV a) (keyV b)=(some (a==b)).bind λr=>if r then some true else some false:=by kernel_rfl
 rw[h];cases a==b<;>rfl
theorem jqM(a:List UInt8):jdw env 8 309 (keyV a)=true:=by kernel_rfl
theorem jse(a:List UInt8):jhP 8 (keyV a) (keyV a)=true:=by simp[jhP,keyV]
def entV(p:List UInt8 × Nat):V × V × Nat:=(keyV p.1,.agg [],p.2)
def keys(ps:List (List UInt8 × Nat)):List (List UInt8):=ps.map (·.1)
theorem jqN(s:List UInt8):∀(ps:List (List UInt8 × Nat)) (i:Nat),s ∉ keys ps->jdg env 309 (keyV s) (ps.map entV) i=some none
 | [],i,h=>rfl
 |p::ps,i,h=>by
  have h1:¬s=p.1:=λe=>h (by simp[keys,e])
  have h2:s ∉ keys ps:=λe=>h (by simp only[keys,K4,Q9];exact .inr e)
  simp only[K4,jdg,entV,jqL,Kl,beq_eq_false_iff_ne.2 h1,Kq,Kn];exact jqN s ps (i+1) h2
theorem jn8(s:List UInt8):∀(ps:List (List UInt8 × Nat)) (i:Nat),s∈keys ps->∃j n,jdg env 309 (keyV s) (ps.map entV) i=some (some (i+j))/\ps[j]? = some (s,n)
 | [],i,h=>by simp[keys]at h
 | p::ps,i,h=>by
  by_cases h1:s=p.1
  ·refine⟨0,p.2,?_,by simp[h1]⟩;simp only[K4,jdg,entV,jqL,Kl,h1,beq_self_eq_true,Kk,Xv]
  ·have h2:s∈keys ps:=by
    simp only[keys,K4,Q9]at h;exact h.resolve_left h1
   obtain⟨j,n,h3,h4⟩:=jn8 s ps (i+1) h2;refine⟨j+1,n,?_,by simpa using h4⟩;simp only[K4,jdg,entV,jqL,Kl,beq_eq_false_iff_ne.2 h1,Kq,Kn];rw[show i+(j+1)=i+1+j by omega];exact h3
def jij (E:Env)(t:TypeId)(mv kv xv:V)(U:S):Option (V × S) :=
    match E.P.underlying t,mv with
    | some (.map kt _),.map b =>
      match U.heap[b]? with
      | some (.map es clock) =>
        if jdw E 8 kt kv then
          match jdg E kt kv es 0 with
          |some none=>some (.tup [],U.set b (.map (es++[(kv,xv,clock)]) (clock+1)))
          | some (some j) =>
            match es[j]? with
            |some e=>if jhP 8 e.1 kv then some (.tup [],U.set b (.map (es.set j (kv,xv,e.2.2)) clock))else none
            |none=>none
          |none=>none
        else none
      |_=>none
    |_,_=>none
theorem jer {E:Env}{m:Bool}{T:Tm}{U:S}(t:TypeId)(a b c:Operand):opT E m T U (.mapUpdate t a b c)=(jaP E T a).bind λmv=>(jaP E T b).bind λkv=>(jaP E T c).bind λxv=>jij E t mv kv xv U:=rfl
theorem u164:env.P.underlying 306=some (.map 309 307):=by kernel_rfl
theorem jqO(s:List UInt8)(ps:List (List UInt8 × Nat))(clock:Nat)(hp:List AObj)(b:Nat)(ts:List Nat)(hh:hp[b]? = some (.map (ps.map entV) clock)) :
  ∃ps' clock',jij env 306 (.map b) (keyV s) (.agg []) ⟨hp,ts⟩=some (.tup [],⟨hp.set b (.map (ps'.map entV) clock'),ts⟩)/\keys ps'=if s∈keys ps then keys ps else keys ps++[s]:=by
 unfold jij;simp only[u164,hh,jqM,Kk];by_cases h:s∈keys ps
 ·obtain⟨j,n,h1,h2⟩:=jn8 s ps 0 h;rw[Jc]at h1;have h3:(ps.map entV)[j]? = some (entV (s,n)):=by simp[h2]
  have h4:(ps.map entV).set j (keyV s,.agg [],n)=ps.map entV:=by
   apply Xg;intro i;by_cases e:i=j
   ·subst e
    have:i<(ps.map entV).length:=by
     rcases Qf i (ps.map entV).length with h|h
     ·exact h
     ·rw[Qg h]at h3;simp at h3
    rw[Ko this,h3];rfl
   ·rw[Kg (λh=>e h.symm)]
  refine⟨ps,clock,?_,by rw[Kh h]⟩;simp only[h1,h3,entV,jse,Kk,S.set];rw[h4]
 ·refine⟨ps++[(s,clock)],clock+1,?_,by rw[Ke h];simp[keys]⟩;simp only[jqN s ps 0 h,S.set,J2,K4,Jq,entV]
theorem jqP(s:List UInt8):jbW env 309 [(0,.str s)]=some (keyV s):=by kernel_rfl
theorem joZ:jbW env 307 []=some (.agg []):=by kernel_rfl
theorem jmM {T:Tm}{U:S}{m:Bool}:opT env m T U (.makeMap 306 none)=some (.map U.heap.length,U.push (.map [] 0)):=by
 unfold opT;simp only[ja3,jbs,jbw,u164]
theorem upd0(s:List UInt8)(ps:List (List UInt8 × Nat))(clock:Nat):∃ps' clock',jij env 306 (.map 0) (keyV s) (.agg []) ⟨[.map (ps.map entV) clock],[]⟩=some (.tup [],⟨[.map (ps'.map entV) clock'],[]⟩)/\keys ps'=if s∈keys ps then keys ps else keys ps++[s] :=
 jqO s ps clock [.map (ps.map entV) clock] 0 [] rfl
theorem jvi(ps:List (List UInt8 × Nat))(clock:Nat)(ts:List Nat):lenO ⟨[.map (ps.map entV) clock],ts⟩ (some (.map 309 307)) (.map 0)=some (.int .i64 (keys ps).length,⟨[.map (ps.map entV) clock],ts⟩):=by
 rw[jr8 (es:=ps.map entV) (c:=clock) _ _ _ _ rfl];simp[keys]
def Dup(ws:List (List UInt8))(i:Nat):Prop:=∃k j,k<j/\j<i/\ws.getD k []=ws.getD j []
open Classical in
theorem jeK(w:V)(ws:List (List UInt8))(h:IsW w ws)(hl:ws.length<=1000)(U:S):jai env (ev env) 298 [w] U=some (.bool (decide (jiQ ws)),U):=by
 refine jal rfl rfl (by simp[jco h]) jw5 rfl (by simp[Tryz.f298]) (by simp[Tryz.f298]) (jah ?_) U;simp only[Tryz.f298,Ka,simprocAttr,Ys,Y0,Kc,Vq,jak,jcR h,jmM]
 refine jay (λm T D U=>D=[]/\T 0=w/\T 3=.map 0/\T 7=w/\T 8=.int .i64 ws.length/\∃(i clock:Nat) (ps:List (List UInt8 × Nat)),U=⟨[.map (ps.map entV) clock],[]⟩/\T 9=.int .i64 i/\i<=ws.length/\m=ws.length-i /\
  (∀s,s∈keys ps↔∃j,j<i/\ws.getD j []=s)/\(keys ps).length<=i/\((keys ps).length<i↔Dup ws i)) ?_ _ _ _ _
  ⟨rfl,rfl,rfl,rfl,rfl,0,0,[],rfl,rfl,by omega,rfl,λs=>⟨λh=>by simp[keys]at h,λ⟨j,h,_⟩=>by omega⟩,by simp[keys],⟨λh=>by omega,λ⟨k,j,_,h,_⟩=>by omega⟩⟩
 rintro m T D U ⟨rfl,t0,t3,t7,t8,i,clock,ps,rfl,t9,hi,rfl,hmem,hlen,hdup⟩;refine jah ?_;by_cases hlt:i<ws.length
 ·have c1:(i:Int)<(ws.length:Int):=by omega
  have e1:=wS i (by omega)
  have hx:=jmK h hlt;obtain⟨ps',clock',hU,hk⟩:=upd0 (ws.getD i []) ps clock;simp only[Ka,simprocAttr,Ys,Y0,Kc,Vq,t0,t3,t7,t8,t9,c1,e1,hx,jaq,jer,jqP,joZ,hU];refine⟨ws.length-(i+1),by omega,i+1,clock',ps',rfl,rfl,by omega,rfl,λs => ?_,?_,?_⟩
  ·rw[hk];constructor
   ·intro hs;split at hs
    ·obtain⟨j,h1,h2⟩:=(hmem s).1 hs;exact⟨j,by omega,h2⟩
    ·rcases Jk.1 hs with hs|hs
     ·obtain⟨j,h1,h2⟩:=(hmem s).1 hs;exact⟨j,by omega,h2⟩
     ·exact⟨i,by omega,(Jv.1 hs).symm⟩
   ·rintro⟨j,h1,h2⟩;have hj:j<i\/j=i:=by omega
    split
    ·rename_i hin
     rcases hj with hj|rfl
     ·exact(hmem s).2 ⟨j,hj,h2⟩
     ·rw[<- h2];exact hin
    ·rcases hj with hj|rfl
     ·exact List.mem_append_left _ ((hmem s).2 ⟨j,hj,h2⟩)
     ·rw[<- h2];simp
  ·rw[hk];split
   ·omega
   ·simp only[Kj,K9,Qh];omega
  ·rw[hk];split
   ·rename_i hin;obtain⟨j,h1,h2⟩:=(hmem _).1 hin;exact⟨λ_=>⟨j,i,h1,by omega,h2⟩,λ_=>by omega⟩
   ·rename_i hin;simp only[Kj,K9,Qh];constructor
    ·intro hh;obtain⟨k,j,h1,h2,h3⟩:=hdup.1 (by omega);exact⟨k,j,h1,by omega,h3⟩
    ·rintro⟨k,j,h1,h2,h3⟩;have hj:j<i\/j=i:=by omega
     rcases hj with hj|rfl
     ·have:=hdup.2 ⟨k,j,h1,hj,h3⟩;omega
     ·exact absurd ((hmem _).2 ⟨k,h1,h3⟩) hin
 ·have hi2:i=ws.length:=by omega
  subst hi2;have c1:¬(ws.length:Int)<(ws.length:Int):=by omega
  have hT:((keys ps).length:Int)<(ws.length:Int)↔jiQ ws:=by
   have:Dup ws ws.length↔jiQ ws:=Iff.rfl;rw[<- this,<- hdup];omega
  by_cases hp:((keys ps).length:Int)<(ws.length:Int)
  ·have h2:=hT.1 hp;simp only[Ka,simprocAttr,Ys,Y0,Kc,Vq,t0,t3,t7,t8,t9,c1,u164,jvi,jcR h,hp];simp only[jaz,jaj,jaA,h2,decide_true]
  ·have h2:¬jiQ ws:=λq=>hp (hT.2 q)
   simp only[Ka,simprocAttr,Ys,Y0,Kc,Vq,t0,t3,t7,t8,t9,c1,u164,jvi,jcR h,hp];simp only[jaz,jaj,jaA,h2,decide_false]
open Classical in
theorem jo0(c:Col)(h:IsW c.w c.ws)(hs:jdT c)(h0:c.ws.length ≠ 0)(U:S):jai env (ev env) 270 [.agg [.str c.name,.int .i64 c.lo,.int .i64 c.hi,c.w]] U=some (.int .i64 (colE c),U):=by
 refine jal rfl rfl (by simp[V.closed,V.closed.closedL,jco h]) jw4 rfl (by simp[Tryz.f270]) (by simp[Tryz.f270]) (jah ?_) U;obtain⟨hs1,hs2,hs3⟩:=hs;have hic:=ja8 h;obtain⟨nm,lo,hi,w,ws⟩:=c;simp only at h hs1 hs2 hs3 hic h0 ⊢;by_cases h1:(64:Int)<(ws.length:Int)
 ·have he:colE ⟨nm,lo,hi,w,ws⟩=4:=by simp only[colE];rw[Ke h0,Kh (by omega)]
  simp only[Tryz.f270,Ka,simprocAttr,Ys,Y0,Kc,Vq,tys2,jak,jcR h,h1];simp only[jaz,jaj,jav,he]
 by_cases hp:∃i,i<ws.length/\¬jaY (ws.getD i [])
 ·have he:colE ⟨nm,lo,hi,w,ws⟩=19:=by simp only[colE];rw[Ke h0,Ke (by omega),Kh hp]
  simp only[Tryz.f270,Ka,simprocAttr,Ys,Y0,Kc,Vq,tys2,jak,jcR h,h1,jc2 w ws h hs2 hs3,hp];simp only[jaz,jaj,jav,he]
 by_cases h2:jiQ ws
 ·have he:colE ⟨nm,lo,hi,w,ws⟩=8:=by simp only[colE];rw[Ke h0,Ke (by omega),Ke hp,Kh h2]
  simp only[Tryz.f270,Ka,simprocAttr,Ys,Y0,Kc,Vq,tys2,jak,jcR h,h1,jc2 w ws h hs2 hs3,hp,jeK w ws h hs2,h2];simp only[jaz,jaj,jav,he]
 have e2:IntKind.i64.wrap ((ws.length:Int)-1)=(ws.length:Int)-1:=wrap_i64 (by omega) (by omega);by_cases h3:lo=0
 ·by_cases h4:hi=(ws.length:Int)-1
  ·have he:colE ⟨nm,lo,hi,w,ws⟩=0:=by simp only[colE];rw[Ke h0,Ke (by omega),Ke hp,Ke h2,Ke (by rintro(h|h);exact h h3;exact h h4)]
   simp only[Tryz.f270,Ka,simprocAttr,Ys,Y0,Kc,Vq,tys2,jak,jcR h,h1,jc2 w ws h hs2 hs3,hp,jeK w ws h hs2,h2,h3,e2,h4];simp only[jaz,jaj,jav,<- h3,<- h4,he]
  ·have he:colE ⟨nm,lo,hi,w,ws⟩=2:=by simp only[colE];rw[Ke h0,Ke (by omega),Ke hp,Ke h2,Kh (.inr h4)]
   simp only[Tryz.f270,Ka,simprocAttr,Ys,Y0,Kc,Vq,tys2,jak,jcR h,h1,jc2 w ws h hs2 hs3,hp,jeK w ws h hs2,h2,h3,e2,h4];simp only[jaz,jaj,jav,<- h3,he]
 ·have he:colE ⟨nm,lo,hi,w,ws⟩=2:=by simp only[colE];rw[Ke h0,Ke (by omega),Ke hp,Ke h2,Kh (.inl h3)]
  simp only[Tryz.f270,Ka,simprocAttr,Ys,Y0,Kc,Vq,tys2,jak,jcR h,h1,jc2 w ws h hs2 hs3,hp,jeK w ws h hs2,h2,h3];simp only[jaz,jaj,jav,he]
theorem jw6:env.P.funcs[269]? = some Tryz.f269:=by kernel_rfl
theorem jo1(c d:Col)(hd:IsW d.w d.ws)(L:List AObj)(ts:List Nat)(p:Nat)(hp:L[p]? = some (.cells [.str c.name,.int .i64 c.lo,.int .i64 c.hi,c.w] 41)) :
  jai env (ev env) 269 [.agg [.str d.name,.int .i64 d.lo,.int .i64 d.hi,d.w],.ptr p 0] ⟨L,ts⟩=some (.bool (decide (d.name=c.name)),⟨L++[.cells [.str d.name,.int .i64 d.lo,.int .i64 d.hi,d.w] 41],ts⟩):=by
 refine jaE rfl rfl jw6 rfl (by simp[Tryz.f269]) (by simp[Tryz.f269]) ?_;refine jah ?_
 have hlt:p<L.length:=by
  rcases Qf p L.length with h|h
  ·exact h
  ·rw[Qg h]at hp;simp at hp
 have hE:∀o,(L++[o])[p]? = some (.cells [.str c.name,.int .i64 c.lo,.int .i64 c.hi,c.w] 41):=λo=>by rw[Ki hlt];exact hp
 by_cases h:d.name=c.name<;>
 ·simp only[Tryz.f269,Ka,simprocAttr,Ys,Y0,Kc,Vq,tys2,YW,jad,hE,jaB,h];simp[jaz,h]
theorem jsf:env.P.funcs[200]? = some Tryz.f200:=by kernel_rfl
theorem jw7:env.P.funcs[231]? = some Tryz.f231:=by kernel_rfl
def jd3(ds:List Col)(nm:List UInt8):Nat->Nat->Int
 |0,_ => -1
 |m+1,i=>if(ds.getD i Col.none).name=nm then i else jd3 ds nm m (i+1)
theorem jjl (ds:List Col)(nm:List UInt8):∀m i,0<=jd3 ds nm m i↔∃j,i<=j/\j<i+m/\(ds.getD j Col.none).name=nm
  | 0, i => by simp only[jd3];constructor
               · intro h;omega
               · rintro⟨j,h1,h2,_⟩;omega
  | m+1,i=>by
    simp only[jd3];by_cases h:(ds.getD i Col.none).name=nm
    · rw[Kh h]
      exact⟨λ_=>⟨i,by omega,by omega,h⟩,λ_=>by omega⟩
    · rw [Ke h,jjl ds nm m (i+1)]
      constructor
      · rintro⟨j,h1,h2,h3⟩;exact⟨j,by omega,by omega,h3⟩
      · rintro⟨j,h1,h2,h3⟩
        refine⟨j,?_,by omega,h3⟩
        rcases Qf i j with h4|h4
        · omega
        · have:j=i:=by omega
          subst this;exact absurd h3 h
theorem jmN(c:Col)(dv:V)(ds:List Col)(hd:IsC dv ds)(ok:OkC ds)(hl:ds.length<=1000)(L:List AObj)(ts:List Nat)(p:Nat)(hp:L[p]? = some (.cells [.str c.name,.int .i64 c.lo,.int .i64 c.hi,c.w] 41)) :
  ∃X,jai env (ev env) 200 [dv,.func 269 [] [.ptr p 0]] ⟨L,ts⟩=some (.int .i64 (jd3 ds c.name ds.length 0),⟨L++X,ts⟩):=by
 have hlt0:p<L.length:=by
  rcases Qf p L.length with h|h
  ·exact h
  ·rw[Qg h]at hp;simp at hp
 suffices h:∃v U',jai env (ev env) 200 [dv,.func 269 [] [.ptr p 0]] ⟨L,ts⟩=some (v,U')/\(v=.int .i64 (jd3 ds c.name ds.length 0)/\∃X,U'=⟨L++X,ts⟩) by
  obtain⟨v,U',h1,rfl,X,rfl⟩:=h;exact⟨X,h1⟩
 refine jaI rfl rfl jsf rfl (by simp[Tryz.f200]) (by simp[Tryz.f200]) (jah ?_);simp only[Tryz.f200,Ka,simprocAttr,Ys,Y0,Kc,Vq,tys2,jfe hd];refine jay (λm T D U=>D=[]/\T 0=dv/\T 1=.func 269 [] [.ptr p 0]/\T 7=.int .i64 ds.length/\∃(i:Nat) (X:List AObj),U=⟨L++X,ts⟩/\T 8=.int .i64 i/\i<=ds.length/\m=ds.length-i/\jd3 ds c.name ds.length 0=jd3 ds c.name (ds.length-i) i) ?_ _ _ _ _ ⟨rfl,rfl,rfl,rfl,0,[],by simp,rfl,by omega,rfl,rfl⟩;rintro m T D U ⟨rfl,t0,t1,t7,i,X,rfl,t8,hi,rfl,hf⟩;refine jah ?_;by_cases hlt:i<ds.length
 ·have c1:(i:Int)<(ds.length:Int):=by omega
  have e1:=wS i (by omega)
  have hx:=jeW hd hlt;have hN:=jo1 c (ds.getD i Col.none) (ok.at hlt) (L++X) ts p (by rw[Ki hlt0];exact hp);obtain⟨q,hq⟩:∃q,ds.length-i=q+1:=⟨ds.length-i-1,by omega⟩;have hq2:q=ds.length-(i+1):=by omega
  have hstep:jd3 ds c.name (ds.length-i) i=if(ds.getD i Col.none).name=c.name then(i:Int)else jd3 ds c.name q (i+1):=by rw[hq];rfl
  rw[hstep]at hf;by_cases hn:(ds.getD i Col.none).name=c.name
  ·rw[Kh hn]at hf;simp only[hn,decide_true]at hN;simp only[Ka,simprocAttr,Ys,Y0,Kc,Vq,tys2,t0,t1,t7,t8,c1,e1,hx,jc6,jaK,hn,hN];exact⟨by rw[hf];rfl,_,by rw[K1]⟩
  ·rw[Ke hn,hq2]at hf;simp only[hn,decide_false]at hN;simp only[Ka,simprocAttr,Ys,Y0,Kc,Vq,tys2,t0,t1,t7,t8,c1,e1,hx,jc6,jaK,hN];exact⟨ds.length-(i+1),by omega,i+1,_,by rw[K1],rfl,by omega,rfl,hf⟩
 ·have hi2:i=ds.length:=by omega
  subst hi2;have c1:¬(ds.length:Int)<(ds.length:Int):=by omega
  have hf2:jd3 ds c.name ds.length 0 = -1:=by rw[hf,J6];rfl
  simp only[Ka,simprocAttr,Ys,Y0,Kc,Vq,t0,t1,t7,t8,c1];exact⟨by rw[hf2];rfl,X,rfl⟩
open Classical in
theorem jiR(c:Col)(dv:V)(ds:List Col)(hd:IsC dv ds)(ok:OkC ds)(hl:ds.length<=1000)(L:List AObj)(ts:List Nat)(p:Nat)(hp:L[p]? = some (.cells [.str c.name,.int .i64 c.lo,.int .i64 c.hi,c.w] 41)) :
  ∃X,jai env (ev env) 231 [dv,.func 269 [] [.ptr p 0]] ⟨L,ts⟩=some (.bool (decide (∃j,j<ds.length/\(ds.getD j Col.none).name=c.name)),⟨L++X,ts⟩):=by
 obtain⟨X,hX⟩:=jmN c dv ds hd ok hl L ts p hp;refine⟨X,?_⟩
 have hk:(0<=jd3 ds c.name ds.length 0)↔∃j,j<ds.length/\(ds.getD j Col.none).name=c.name:=by
  rw[jjl];constructor
  ·rintro⟨j,_,h2,h3⟩;exact⟨j,by omega,h3⟩
  ·rintro⟨j,h2,h3⟩;exact⟨j,by omega,by omega,h3⟩
 refine jaE rfl rfl jw7 rfl (by simp[Tryz.f231]) (by simp[Tryz.f231]) ?_;refine jah ?_;by_cases hq:∃j,j<ds.length/\(ds.getD j Col.none).name=c.name
 ·have c0:0<=jd3 ds c.name ds.length 0:=hk.2 hq;simp only[Tryz.f231,Ka,simprocAttr,Ys,Y0,Kc,Vq,hX,c0];simp only[jaz,hq,decide_true,and_self]
 ·have c0:¬0<=jd3 ds c.name ds.length 0:=λh=>hq (hk.1 h)
  simp only[Tryz.f231,Ka,simprocAttr,Ys,Y0,Kc,Vq,hX,c0];simp only[jaz,hq,decide_false,and_self]
theorem jw8:env.P.funcs[238]? = some Tryz.f238:=by kernel_rfl
theorem jjm:∀(cs:List Col) (i:Nat),(jaL cs).take (i*4)=jaL (cs.take i)
 |cs,0=>by simp[jaL]
 | [],i+1=>by simp[jaL]
 |c::cs,i+1=>by
  rw[jbC,show(i+1)*4=i*4+1+1+1+1 by omega];simp only[Jm,jjm cs i,jbC]
theorem jtX {v:V}{cs:List Col}(h:IsC v cs){i:Nat}(hi:i<cs.length):∃u,jb2 env 36 v none (some (.int .i64 (i:Int))) none=some u/\IsC u (cs.take i):=by
 rcases h with⟨rfl,rfl⟩|⟨q,_,rfl⟩
 ·simp at hi
 ·refine⟨.row (jaL (cs.take i)) i .unk,?_,.inr ⟨.unk,.inl rfl,by simp[Qt,Xn (Nat.le_of_lt hi)]⟩⟩
  have hb:ja1 (some (.int .i64 (i:Int))) cs.length cs.length=some i:=by
   simp only[ja1];simp;omega
  simp only[jb2,tys2,Kl,jcS,hb];simp[ja1,show ¬i=cs.length by omega,jjm]
theorem jlo(cs:List Col){i j:Nat}(h:j<i):(cs.take i).getD j Col.none=cs.getD j Col.none:=by
 simp[List.getD,Jj,h]
open Classical in
theorem jdU(cv:V)(cs:List Col)(hc:IsC cv cs)(ok:OkC cs)(hl:cs.length<=1000)(i:Nat)(hlt:i<cs.length)(hsc:jdT (cs.getD i Col.none))(U:S) :
  jai env (ev env) 238 [cv,.int .i64 i] U=some (.int .i64 (colX cs i),U):=by
 refine jal rfl rfl (by simp[V.closed,V.closed.closedL,ja4 hc ok]) jw8 rfl (by simp[Tryz.f238]) (by simp[Tryz.f238]) (jah ?_) U;have hwc:=ok.at hlt;have hic:=ja8 hwc;by_cases hnm:jaY (cs.getD i Col.none).name
 case neg =>
  have hX:colX cs i=19:=by simp only[colX];rw[Kh hnm]
  simp only[Tryz.f238,Ka,simprocAttr,Ys,Y0,Kc,Vq,tys2,jeW hc hlt,jc6,jaK,z44,jak,Qh,jaa,Jb,Qk,Kv,Jt,Ku,Qj,Ju,jae,jac,hic,YW,jc1 _ hsc.1,hnm];simp only[jaz,jaj,jav,hX]
 obtain⟨u,hu,hcu⟩:=jtX hc hlt;have oku:OkC (cs.take i):=λc h=>ok c (List.mem_of_mem_take h)
 obtain⟨X,hX⟩:=jiR (cs.getD i Col.none) u (cs.take i) hcu oku (by simp;omega) [.cells [.str (cs.getD i Col.none).name,.int .i64 (cs.getD i Col.none).lo,.int .i64 (cs.getD i Col.none).hi,(cs.getD i Col.none).w] 41] [] 0 rfl
 have hk:(∃j,j<(cs.take i).length/\((cs.take i).getD j Col.none).name=(cs.getD i Col.none).name)↔∃k,k<i/\(cs.getD k Col.none).name=(cs.getD i Col.none).name:=by
  have hli:(cs.take i).length=i:=by simp;omega
  rw[hli];constructor
  ·rintro⟨j,h1,h2⟩;exact⟨j,h1,by rwa[jlo cs h1]at h2⟩
  ·rintro⟨j,h1,h2⟩;exact⟨j,h1,by rwa[jlo cs h1]⟩
 simp only[hk,Jf,Q6]at hX;by_cases hd:∃k,k<i/\(cs.getD k Col.none).name=(cs.getD i Col.none).name
 ·have hE:colX cs i=8:=by simp only[colX];rw[Ke (not_not_intro hnm),Kh hd]
  simp only[hd,decide_true]at hX;simp only[Tryz.f238,Ka,simprocAttr,Ys,Y0,Kc,Vq,tys2,jeW hc hlt,jc6,jaK,z44,jak,Qh,jaa,Jb,Qk,Kv,Jt,Ku,Qj,Ju,jae,jac,hic,YW,jc1 _ hsc.1,hnm,jbX,jbY,jb3,hu,hX];simp only[jaz,jaj,jav,hE]
 have hE:colX cs i=colE (cs.getD i Col.none):=by simp only[colX];rw[Ke (not_not_intro hnm),Ke hd]
 simp only[hd,decide_false]at hX;have hL:jab (.cells [.str (cs.getD i Col.none).name,.int .i64 (cs.getD i Col.none).lo,.int .i64 (cs.getD i Col.none).hi,(cs.getD i Col.none).w] 41::X) 4 (.ptr 0 0)=some [.str (cs.getD i Col.none).name,.int .i64 (cs.getD i Col.none).lo,.int .i64 (cs.getD i Col.none).hi,(cs.getD i Col.none).w]:=jb4 rfl;by_cases h0:(0:Int)<((cs.getD i Col.none).ws.length:Int)
 ·have hne:(cs.getD i Col.none).ws.length ≠ 0:=by omega
  simp only[Tryz.f238,Ka,simprocAttr,Ys,Y0,Kc,Vq,tys2,jeW hc hlt,jc6,jaK,z44,jak,Qh,jaa,Jb,Qk,Kv,Jt,Ku,Qj,Ju,jae,jac,hic,YW,jc1 _ hsc.1,hnm,jbX,jbY,jb3,hu,hX,jcR hwc,h0,hL,jo0 _ hwc hsc hne];simp only[jaz,jaj,jav,hE]
 have hz:(cs.getD i Col.none).ws.length=0:=by omega
 by_cases h1:(cs.getD i Col.none).lo < -1000000
 ·have he:colE (cs.getD i Col.none)=2:=by simp only[colE,hz,Kk];rw[Kh (.inl h1)]
  simp only[Tryz.f238,Ka,simprocAttr,Ys,Y0,Kc,Vq,tys2,jeW hc hlt,jc6,jaK,z44,jak,Qh,jaa,Jb,Qk,Kv,Jt,Ku,Qj,Ju,jae,jac,hic,YW,jc1 _ hsc.1,hnm,jbX,jbY,jb3,hu,hX,jcR hwc,h0,h1];simp only[jaz,jaj,jav,hE,he]
 by_cases h2:1000000<(cs.getD i Col.none).hi
 ·have he:colE (cs.getD i Col.none)=2:=by simp only[colE,hz,Kk];rw[Kh (.inr (.inl h2))]
  simp only[Tryz.f238,Ka,simprocAttr,Ys,Y0,Kc,Vq,tys2,jeW hc hlt,jc6,jaK,z44,jak,Qh,jaa,Jb,Qk,Kv,Jt,Ku,Qj,Ju,jae,jac,hic,YW,jc1 _ hsc.1,hnm,jbX,jbY,jb3,hu,hX,jcR hwc,h0,h1,h2];simp only[jaz,jaj,jav,hE,he]
 by_cases h3:(cs.getD i Col.none).hi<(cs.getD i Col.none).lo
 ·have he:colE (cs.getD i Col.none)=2:=by simp only[colE,hz,Kk];rw[Kh (.inr (.inr h3))]
  simp only[Tryz.f238,Ka,simprocAttr,Ys,Y0,Kc,Vq,tys2,jeW hc hlt,jc6,jaK,z44,jak,Qh,jaa,Jb,Qk,Kv,Jt,Ku,Qj,Ju,jae,jac,hic,YW,jc1 _ hsc.1,hnm,jbX,jbY,jb3,hu,hX,jcR hwc,h0,h1,h2,h3];simp only[jaz,jaj,jav,hE,he]
 ·have he:colE (cs.getD i Col.none)=0:=by simp only[colE,hz,Kk];rw[Ke (by omega)]
  simp only[Tryz.f238,Ka,simprocAttr,Ys,Y0,Kc,Vq,tys2,jeW hc hlt,jc6,jaK,z44,jak,Qh,jaa,Jb,Qk,Kv,Jt,Ku,Qj,Ju,jae,jac,hic,YW,jc1 _ hsc.1,hnm,jbX,jbY,jb3,hu,hX,jcR hwc,h0,h1,h2,h3];simp only[jaz,jaj,jav,hE,he]
theorem jw9:env.P.funcs[254]? = some Tryz.f254:=by kernel_rfl
theorem jxa:env.P.funcs[255]? = some Tryz.f255:=by kernel_rfl
theorem jxb:env.P.funcs[256]? = some Tryz.f256:=by kernel_rfl
theorem jxc:env.P.funcs[258]? = some Tryz.f258:=by kernel_rfl
theorem jxd:env.P.funcs[259]? = some Tryz.f259:=by kernel_rfl
theorem jxe:env.P.funcs[260]? = some Tryz.f260:=by kernel_rfl
theorem jxf:env.P.funcs[223]? = some Tryz.f223:=by kernel_rfl
theorem tys3:sz env 64=some 1/\sz env 32=some 1/\sz env 224=some 1/\env.P.underlying 222=some (.slice 224)/\(∀h p,jaF env h 64 p=(jab h 1 p).bind (·[0]?))/\(∀h p,jaF env h 32 p=(jab h 1 p).bind (·[0]?))/\(∀h p,jaF env h 224 p=(jab h 1 p).bind (·[0]?)):=by
 have g30:aggT env 64=some false:=by kernel_rfl
 have g32:aggT env 32=some false:=by kernel_rfl
 have g76:aggT env 224=some false:=by kernel_rfl
 exact⟨by kernel_rfl,by kernel_rfl,by kernel_rfl,by kernel_rfl,λ_ _=>jaw g30,λ_ _=>jaw g32,λ_ _=>jaw g76⟩
theorem jo2(g:FuncId)(e:Int)(L:List AObj)(ts:List Nat) :
  jai env (ev env) 254 [.func g [] [],.int .i64 e] ⟨L,ts⟩=some (.func 255 [] [.ptr L.length 0,.ptr (L.length+1) 0],⟨L++[.cells [.func g [] []] 64,.cells [.int .i64 e] 32],ts⟩):=by
 refine jaE rfl rfl jw9 rfl (by simp[Tryz.f254]) (by simp[Tryz.f254]) ?_;refine jah ?_;simp -implicitDefEqProofs only[Tryz.f254,Ka,simprocAttr,Ys,Y0,Kc,Vq,tys2,tys3,joV,Y6,jsd];simp only[jaz,K1,Jf,Q6,and_self]
def Says(g:FuncId)(sc:List V)(b:Bool):Prop:=∀L ts,jai env (ev env) g [.agg sc] ⟨L,ts⟩=some (.bool b,⟨L++[.cells sc 38],ts⟩)
theorem jgn(g:FuncId)(e:Int)(a b c d:V)(r:Bool)(hg:Says g [a,b,c,d] r)(L:List AObj)(ts:List Nat)(p q:Nat)(hp:L[p]? = some (.cells [.func g [] []] 64))(hq:L[q]? = some (.cells [.int .i64 e] 32)) :
  jai env (ev env) 255 [.agg [a,b,c,d],.ptr p 0,.ptr q 0] ⟨L,ts⟩=some (.tup [.int .i64 (if r=true then e else 0),.int .i64 (-1)],⟨L++[.cells [a,b,c,d] 38,.cells [a,b,c,d] 38],ts⟩):=by
 refine jaE rfl rfl jxa rfl (by simp[Tryz.f255]) (by simp[Tryz.f255]) ?_;refine jah ?_;cases r<;>
 ·simp -implicitDefEqProofs only[Tryz.f255,Ka,simprocAttr,Ys,Y0,Kc,Vq,tys2,tys3,YW,jhA (jaG hp _),jhA (jaG (jaG hp _) _),jhA (jaG (jaG hq _) _),jhA (jaG hq _),jaG hp,jaG hq,jec,jdm,hg _ _];simp[jaz]
theorem ck90(nm:List UInt8)(hn:nm.length<2^63)(b c d:V):Says 256 [.str nm,b,c,d] (!decide (jaY nm)):=by
 intro L ts;refine jaE rfl rfl jxb rfl (by simp[Tryz.f256]) (by simp[Tryz.f256]) ?_;refine jah ?_;by_cases h:jaY nm<;>
 ·simp -implicitDefEqProofs only[Tryz.f256,Ka,simprocAttr,Ys,Y0,Kc,Vq,tys2,tys3,YW,jad,jc1 nm hn,h,Q8,Jl];simp[jaz]
theorem ck92(a b c:V)(cv:V)(cs:List Col)(hc:IsC cv cs):Says 259 [a,b,c,cv] (decide (cs.length=0)):=by
 intro L ts;refine jaE rfl rfl jxd rfl (by simp[Tryz.f259]) (by simp[Tryz.f259]) ?_;refine jah ?_;by_cases h:(cs.length:Int)=0
 ·have h':cs.length=0:=by omega
  simp -implicitDefEqProofs only[Tryz.f259,Ka,simprocAttr,Ys,Y0,Kc,Vq,tys2,tys3,YW,jad,jfe hc,h];simp[jaz,h']
 ·have h':¬cs.length=0:=by omega
  simp -implicitDefEqProofs only[Tryz.f259,Ka,simprocAttr,Ys,Y0,Kc,Vq,tys2,tys3,YW,jad,jfe hc,h];simp[jaz,h']
theorem ck93(a b c:V)(cv:V)(cs:List Col)(hc:IsC cv cs):Says 260 [a,b,c,cv] (decide (16<cs.length)):=by
 intro L ts;refine jaE rfl rfl jxe rfl (by simp[Tryz.f260]) (by simp[Tryz.f260]) ?_;refine jah ?_;by_cases h:(16:Int)<(cs.length:Int)
 ·have h':16<cs.length:=by omega
  simp -implicitDefEqProofs only[Tryz.f260,Ka,simprocAttr,Ys,Y0,Kc,Vq,tys2,tys3,YW,jad,jfe hc,h];simp[jaz,h']
 ·have h':¬16<cs.length:=by omega
  simp -implicitDefEqProofs only[Tryz.f260,Ka,simprocAttr,Ys,Y0,Kc,Vq,tys2,tys3,YW,jad,jfe hc,h];simp[jaz,h']
theorem ck91(a d:V)(pb:Bool)(many:Int):Says 258 [a,.bool pb,.int .i64 many,d] (decide ((pb=true/\many ≠ 0)\/(pb=false/\(many<1\/50<many)))):=by
 intro L ts;refine jaE rfl rfl jxc rfl (by simp[Tryz.f258]) (by simp[Tryz.f258]) ?_;refine jah ?_;cases pb with
 | true =>
  by_cases h:many=0<;>
  ·simp -implicitDefEqProofs only[Tryz.f258,Ka,simprocAttr,Ys,Y0,Kc,Vq,tys2,tys3,YW,jad,h];simp[jaz,h]
 | false =>
  by_cases h:many<1
  ·simp -implicitDefEqProofs only[Tryz.f258,Ka,simprocAttr,Ys,Y0,Kc,Vq,tys2,tys3,YW,jad,h];simp[jaz,h]
  ·by_cases h2:50<many<;>
   ·simp -implicitDefEqProofs only[Tryz.f258,Ka,simprocAttr,Ys,Y0,Kc,Vq,tys2,tys3,YW,jad,h,h2];simp[jaz,h,h2]
theorem jxg:env.P.funcs[261]? = some Tryz.f261:=by kernel_rfl
theorem ck94(nm:List UInt8)(pb:Bool)(many:Int)(cv:V)(cs:List Col)(hc:IsC cv cs)(ok:OkC cs)(hl:cs.length<=1000)(hs:∀i,i<cs.length->jdT (cs.getD i Col.none))(L:List AObj)(ts:List Nat) :
  ∃X,jai env (ev env) 261 [.agg [.str nm,.bool pb,.int .i64 many,cv]] ⟨L,ts⟩=some (.tup [.int .i64 (jce cs cs.length 0).1,.int .i64 (jce cs cs.length 0).2],⟨L++X,ts⟩):=by
 suffices h:∃v U',jai env (ev env) 261 [.agg [.str nm,.bool pb,.int .i64 many,cv]] ⟨L,ts⟩=some (v,U')/\(v=.tup [.int .i64 (jce cs cs.length 0).1,.int .i64 (jce cs cs.length 0).2]/\∃X,U'=⟨L++X,ts⟩) by
  obtain⟨v,U',h1,rfl,X,rfl⟩:=h;exact⟨X,h1⟩
 refine jaI rfl rfl jxg rfl (by simp[Tryz.f261]) (by simp[Tryz.f261]) (jah ?_);simp only[Tryz.f261,Ka,simprocAttr,Ys,Y0,Kc,Vq,tys2,tys3,YW,jad,jfe hc];refine jay (λm T D U=>D=[]/\U=⟨L++[.cells [.str nm,.bool pb,.int .i64 many,cv] 38],ts⟩/\T 1=.ptr L.length 0/\T 8=.int .i64 cs.length/\∃i:Nat,T 9=.int .i64 i/\i<=cs.length/\m=cs.length-i/\jce cs cs.length 0=jce cs (cs.length-i) i) ?_ _ _ _ _ ⟨rfl,rfl,rfl,rfl,0,rfl,by omega,rfl,rfl⟩;rintro m T D U ⟨rfl,rfl,t1,t8,i,t9,hi,rfl,hf⟩;refine jah ?_;by_cases hlt:i<cs.length
 ·have c1:(i:Int)<(cs.length:Int):=by omega
  have e1:=wS i (by omega)
  obtain⟨q,hq⟩:∃q,cs.length-i=q+1:=⟨cs.length-i-1,by omega⟩;have hq2:q=cs.length-(i+1):=by omega
  have hstep:jce cs (cs.length-i) i=if colX cs i=0 then jce cs q (i+1)else(colX cs i,(i:Int)):=by rw[hq];rfl
  rw[hstep]at hf;by_cases hz:colX cs i=0
  ·rw[Kh hz,hq2]at hf;simp only[Ka,simprocAttr,Ys,Y0,Kc,Vq,tys2,tys3,t1,t8,t9,c1,e1,jad,jdU cv cs hc ok hl i hlt (hs i hlt),hz];exact⟨cs.length-(i+1),by omega,i+1,rfl,by omega,rfl,hf⟩
  ·rw[Ke hz]at hf;simp only[Ka,simprocAttr,Ys,Y0,Kc,Vq,tys2,tys3,t1,t8,t9,c1,e1,jad,jdU cv cs hc ok hl i hlt (hs i hlt),hz];exact⟨by rw[hf];rfl,_,rfl⟩
 ·have hi2:i=cs.length:=by omega
  subst hi2;have c1:¬(cs.length:Int)<(cs.length:Int):=by omega
  rw[J6]at hf;simp only[Ka,simprocAttr,Ys,Y0,Kc,Vq,t1,t8,t9,c1];exact⟨by rw[hf];rfl,_,rfl⟩
def jdE(g:FuncId)(n:Nat):V:=.func 255 [] [.ptr n 0,.ptr (n+1) 0]
def jeL:V:=.row [jdE 256 1,jdE 258 3,jdE 259 5,jdE 260 7,.func 261 [] []] 5 .full
def jed(o:AObj):List AObj:=[o,.cells [.func 256 [] []] 64,.cells [.int .i64 19] 32,.cells [.func 258 [] []] 64,.cells [.int .i64 2] 32,.cells [.func 259 [] []] 64,.cells [.int .i64 3] 32,.cells [.func 260 [] []] 64,.cells [.int .i64 4] 32]
theorem jo3:rowO env 222 5 [(0,.func 255 [] [.ptr 1 0,.ptr 2 0]),(1,.func 255 [] [.ptr 3 0,.ptr 4 0]),(2,.func 255 [] [.ptr 5 0,.ptr 6 0]),(3,.func 255 [] [.ptr 7 0,.ptr 8 0]),(4,.func 261 [] [])]=some jeL:=by kernel_rfl
theorem jmO(o:AObj):jai env (ev env) 223 [] ⟨[o],[]⟩=some (jeL,⟨jed o,[]⟩):=by
 refine jaE rfl rfl jxf rfl (by simp[Tryz.f223]) (by simp[Tryz.f223]) ?_;refine jah ?_;simp only[Tryz.f223,Ka,simprocAttr,Ys,Y0,Kc,Vq,tys2,tys3,jo2,jar,jo3];simp[jaz,jed]
theorem jdV(cs:List Col):∀m i,(jce cs m i).1=0->jce cs m i=(0,-1)
 |0,i,_=>rfl
 |m+1,i,h=>by
  simp only[jce]at h ⊢;by_cases hz:colX cs i=0
  ·rw[Kh hz]at h ⊢;exact jdV cs m (i+1) h
  ·rw[Ke hz]at h;exact absurd h hz
open Classical in
noncomputable def jgY(nm:List UInt8)(pb:Bool)(many:Int)(cs:List Col):Nat->Int × Int
 |0=>jc7 nm pb many cs
 |1=>if(pb=true/\many ≠ 0)\/(pb=false/\(many<1\/50<many))then(2,-1)else if cs.length=0 then(3,-1)else if 16<cs.length then(4,-1)else jce cs cs.length 0
 |2=>if cs.length=0 then(3,-1)else if 16<cs.length then(4,-1)else jce cs cs.length 0
 |3=>if 16<cs.length then(4,-1)else jce cs cs.length 0
 |4=>jce cs cs.length 0
 |_=>(0,-1)
theorem jvj:jax 1 jeL (.int .i64 0)=some (.rptr [jdE 256 1,jdE 258 3,jdE 259 5,jdE 260 7,.func 261 [] []]):=rfl
theorem jvk:jax 1 jeL (.int .i64 1)=some (.rptr [jdE 258 3,jdE 259 5,jdE 260 7,.func 261 [] []]):=rfl
theorem jvl:jax 1 jeL (.int .i64 2)=some (.rptr [jdE 259 5,jdE 260 7,.func 261 [] []]):=rfl
theorem jvm:jax 1 jeL (.int .i64 3)=some (.rptr [jdE 260 7,.func 261 [] []]):=rfl
theorem jvn:jax 1 jeL (.int .i64 4)=some (.rptr [.func 261 [] []]):=rfl
theorem lenF:ja5 (some (.slice 224)) jeL=some (.int .i64 5):=rfl
theorem jxh:env.P.funcs[171]? = some Tryz.f171:=by kernel_rfl
theorem jiS:IntKind.i64.wrap (0+1)=1/\IntKind.i64.wrap (1+1)=2/\IntKind.i64.wrap (2+1)=3/\IntKind.i64.wrap (3+1)=4/\IntKind.i64.wrap (4+1)=5:=by
 refine⟨?_,?_,?_,?_,?_⟩<;>rw[wrap_i64 (by omega) (by omega)]<;>rfl
open Classical in
theorem check_call(nm:List UInt8)(pb:Bool)(many:Int)(cv:V)(cs:List Col)(hc:IsC cv cs)(ok:OkC cs)(hn:nm.length<2^63)(hl:cs.length<=1000)(hs:∀i,i<cs.length->jdT (cs.getD i Col.none))(U:S) :
  jai env (ev env) 171 [.agg [.str nm,.bool pb,.int .i64 many,cv]] U=some (.tup [.int .i64 (jc7 nm pb many cs).1,.int .i64 (jc7 nm pb many cs).2],U):=by
 refine jal rfl rfl (by simp[V.closed,V.closed.closedL,ja4 hc ok]) jxh rfl (by simp[Tryz.f171]) (by simp[Tryz.f171]) (jah ?_) U;simp only[Tryz.f171,Ka,simprocAttr,Ys,Y0,Kc,Vq,tys2,tys3,jak,YW,jmO,lenF];generalize hr:jc7 nm pb many cs=r
 refine jay (λm T D U=>D=[]/\T 1=.ptr 0 0/\T 8=jeL/\T 9=.int .i64 5/\∃(i:Nat) (X:List AObj),U=⟨jed (.cells [.str nm,.bool pb,.int .i64 many,cv] 38)++X,[]⟩/\T 10=.int .i64 i/\i<=5/\m=5-i/\jgY nm pb many cs i=r) ?_ _ _ _ _
  ⟨rfl,rfl,rfl,rfl,0,[],by rw[Q5],rfl,by omega,rfl,hr⟩
 clear hr;rintro m T D U ⟨rfl,t1,t8,t9,i,X,rfl,t10,hi,rfl,hr⟩;refine jah ?_
 have hfin:∀a b:Int,(a,b)=r->jaO (jed (.cells [.str nm,.bool pb,.int .i64 many,cv] 38)++X) jaj (jaz [V.int .i64 a,V.int .i64 b])=some (.tup [.int .i64 r.1,.int .i64 r.2]):=λa b h=>by
  subst h;simp only[jaz,jaj,jbN,jam,jaQ,jav,Kl,K6]
 have hfin2:∀(Y:List AObj) (a b:Int),(a,b)=r->jaO Y jaj (jaz [V.int .i64 a,V.int .i64 b])=some (.tup [.int .i64 r.1,.int .i64 r.2]):=λY a b h=>by
  subst h;simp only[jaz,jaj,jbN,jam,jaQ,jav,Kl,K6]
 have hL:jab (jed (.cells [.str nm,.bool pb,.int .i64 many,cv] 38)++X) 4 (.ptr 0 0)=some [.str nm,.bool pb,.int .i64 many,cv]:=jb4 rfl;have hi':i=0\/i=1\/i=2\/i=3\/i=4\/i=5:=by omega
 rcases hi' with rfl|rfl|rfl|rfl|rfl|rfl
 ·have hC:=jgn 256 19 _ _ _ _ _ (ck90 nm hn (.bool pb) (.int .i64 many) cv) (jed (.cells [.str nm,.bool pb,.int .i64 many,cv] 38)++X) [] 1 2 rfl rfl;by_cases h:jaY nm
  ·simp only[h,decide_true,Q8,Kq,Kn]at hC;have hr1:jgY nm pb many cs 1=r:=by rw[<- hr];show _=jc7 nm pb many cs;unfold jc7;rw[Ke (by simp[h])];rfl
   simp only[Ka,simprocAttr,Ys,Y0,Kc,Vq,tys2,tys3,t1,t8,t9,t10,Vy,jvj,jaq,jec,hL,jdE,hC,jiS];exact⟨4,by omega,1,_,by rw[K1],rfl,by omega,rfl,hr1⟩
  ·simp only[h,decide_false,Jl,Kk]at hC;have hr1:(19,-1)=r:=by rw[<- hr];show _=jc7 nm pb many cs;unfold jc7;rw[Kh (by simp[h])]
   simp only[Ka,simprocAttr,Ys,Y0,Kc,Vq,tys2,tys3,t1,t8,t9,t10,Vy,jvj,jaq,jec,hL,jdE,hC,jiS];exact hfin2 _ _ _ hr1
 ·have hC:=jgn 258 2 _ _ _ _ _ (ck91 (.str nm) cv pb many) (jed (.cells [.str nm,.bool pb,.int .i64 many,cv] 38)++X) [] 3 4 rfl rfl;by_cases h:(pb=true/\many ≠ 0)\/(pb=false/\(many<1\/50<many))
  ·simp only[h,decide_true,Kk]at hC;have hr1:(2,-1)=r:=by rw[<- hr];simp only[jgY];rw[Kh h]
   simp only[Ka,simprocAttr,Ys,Y0,Kc,Vq,tys2,tys3,t1,t8,t9,t10,J8,jvk,jaq,jec,hL,jdE,hC,jiS];exact hfin2 _ _ _ hr1
  ·simp only[h,decide_false,Kq,Kn]at hC;have hr1:jgY nm pb many cs 2=r:=by rw[<- hr];simp only[jgY];rw[Ke h]
   simp only[Ka,simprocAttr,Ys,Y0,Kc,Vq,tys2,tys3,t1,t8,t9,t10,J8,jvk,jaq,jec,hL,jdE,hC,jiS];exact⟨3,by omega,2,_,by rw[K1],rfl,by omega,rfl,hr1⟩
 ·have hC:=jgn 259 3 _ _ _ _ _ (ck92 (.str nm) (.bool pb) (.int .i64 many) cv cs hc) (jed (.cells [.str nm,.bool pb,.int .i64 many,cv] 38)++X) [] 5 6 rfl rfl;by_cases h:cs.length=0
  ·simp only[h,decide_true,Kk]at hC;have hr1:(3,-1)=r:=by rw[<- hr];simp only[jgY];rw[Kh h]
   simp only[Ka,simprocAttr,Ys,Y0,Kc,Vq,tys2,tys3,t1,t8,t9,t10,J8,jvl,jaq,jec,hL,jdE,hC,jiS];exact hfin2 _ _ _ hr1
  ·simp only[h,decide_false,Kq,Kn]at hC;have hr1:jgY nm pb many cs 3=r:=by rw[<- hr];simp only[jgY];rw[Ke h]
   simp only[Ka,simprocAttr,Ys,Y0,Kc,Vq,tys2,tys3,t1,t8,t9,t10,J8,jvl,jaq,jec,hL,jdE,hC,jiS];exact⟨2,by omega,3,_,by rw[K1],rfl,by omega,rfl,hr1⟩
 ·have hC:=jgn 260 4 _ _ _ _ _ (ck93 (.str nm) (.bool pb) (.int .i64 many) cv cs hc) (jed (.cells [.str nm,.bool pb,.int .i64 many,cv] 38)++X) [] 7 8 rfl rfl;by_cases h:16<cs.length
  ·simp only[h,decide_true,Kk]at hC;have hr1:(4,-1)=r:=by rw[<- hr];simp only[jgY];rw[Kh h]
   simp only[Ka,simprocAttr,Ys,Y0,Kc,Vq,tys2,tys3,t1,t8,t9,t10,J8,jvm,jaq,jec,hL,jdE,hC,jiS];exact hfin2 _ _ _ hr1
  ·simp only[h,decide_false,Kq,Kn]at hC;have hr1:jgY nm pb many cs 4=r:=by rw[<- hr];simp only[jgY];rw[Ke h]
   simp only[Ka,simprocAttr,Ys,Y0,Kc,Vq,tys2,tys3,t1,t8,t9,t10,J8,jvm,jaq,jec,hL,jdE,hC,jiS];exact⟨1,by omega,4,_,by rw[K1],rfl,by omega,rfl,hr1⟩
 ·obtain⟨Y,hC⟩:=ck94 nm pb many cv cs hc ok hl hs (jed (.cells [.str nm,.bool pb,.int .i64 many,cv] 38)++X) [];have hr1:jce cs cs.length 0=r:=by rw[<- hr];simp only[jgY]
  by_cases h:(jce cs cs.length 0).1=0
  ·have h2:=jdV cs _ _ h;simp only[h2]at hC;simp only[Ka,simprocAttr,Ys,Y0,Kc,Vq,tys2,tys3,t1,t8,t9,t10,J8,jvn,jaq,jec,hL,jdE,hC,jiS];exact⟨0,by omega,5,_,by rw[K1],rfl,by omega,rfl,by rw[<- hr1,h2];rfl⟩
  ·simp only[Ka,simprocAttr,Ys,Y0,Kc,Vq,tys2,tys3,t1,t8,t9,t10,J8,jvn,jaq,jec,hL,jdE,hC,jiS,h];exact hfin2 _ _ _ hr1
 ·have hr1:(0,-1)=r:=by rw[<- hr];simp only[jgY]
  simp only[Ka,simprocAttr,Ys,Y0,Kc,Vq,tys2,tys3,t1,t8,t9,t10,J8];exact hfin2 _ _ _ hr1
end Go.Proofs.YtajaampgajieeaaGreatDoor
