/- Proved here: fractions of small numbers. Conditions: those of each theorem; no statement of the seat is proved in this text. -/
import Derived.Test.YtpclebdkhpapjaaGreatDoorTkB
import Derived.Test.YtpclebdkhpapjaaGreatDoorItA
set_option linter.unusedSimpArgs false
set_option linter.unusedVariables false
set_option linter.unusedSectionVars false
namespace Go.Proofs.YtpclebdkhpapjaaGreatDoor
open Go.Ab
set_option maxHeartbeats 8000000
set_option maxRecDepth 1000000
namespace T
def splitD(s:List UInt8):V :=
 if 2000<s.length then .tup [.nilsl,.agg [.int .i64 4,.int .i64 2000]]else
 match toksD s with
 |(l,none)=>.tup [toksV l,.agg [.int .i64 0,.int .i64 0]]
 |(_,some (x,i))=>.tup [.nilsl,.agg [.int .i64 x,.int .i64 i]]
theorem jtE(s:List UInt8):jqE s=splitD s:=by
 unfold jqE splitD;rw[jqI];split
 ·rfl
 ·generalize toksD s=r;obtain⟨l,_|⟨x,i⟩⟩:=r<;>rfl
theorem splitD_call(s:List UInt8)(hl:s.length<=4000)(O:S):jas env (ev env) 19 [.str s] O=some (splitD s,O):=by rw[<- jtE];exact jrs s hl O
end T
namespace A
def jkm:List Nat:=[13,15,10,12,20,34,35,36,37,38,39,40,67,65,42,87,122,124,123,126,158]
def mutL:List Nat:=[47,45,46,88,14,86,171,172,174,140,165,144]
def jwj:List V->Option V
 | [.str s]=>match Nat.ble s.length 4000 with|true=>some (T.splitD s)|false=>none
 |_=>none
def jyS(f:FuncId):Option (List V->Option V):=match Nat.beq f 127 with|true=>some jpT|false=>match Nat.beq f 234 with|true=>some idxV|false=>match Nat.beq f 19 with|true=>some jwj|false=>none
noncomputable def env:Env:={ P:=Tryz.prog,pure:=λf=>memN f jkm,mutb:=λf _=>memN f mutL,gl:=glV,hook:=jyS,pan:=λf=>memN f [27,61,25,10,131,129,62,63,96,132,128,95,160,59,92,28,58] }
theorem env_ok:env.Ok :=
  { mixed := by kernel_rfl
    glc:=jlD
    hook := fun f g h=>by
      simp only[env,jyS]at h;split at h
      · rename_i hf
        have e:=Qw hf;subst e;simp only[Kg]at h;subst h;exact jng (E:=env) (fn:=Tryz.f127) Tryz.func127 (by kernel_rfl) (by kernel_rfl) (by kernel_rfl) rfl
      · split at h
        · rename_i hf
          have e:=Qw hf;subst e;simp only[Kg]at h;subst h;exact jwT (E:=env) (fn:=Tryz.f234) Tryz.func234 (by kernel_rfl) (by kernel_rfl) (by kernel_rfl) rfl
        · split at h
          · rename_i hf
            have e:=Qw hf;subst e;simp only[Kg]at h;subst h;intro args v hv Y O w xs hw hg hx;unfold jwj at hv;split at hv
            · rename_i s
              split at hv
              · rename_i hl
                simp only[Kg]at hv;subst hv;exact jcU T.env_ok (λt r h=>jgB T.env_ok h) (T.splitD_call s (Qq hl) O) hw hg hx
              · simp at hv
            · simp at hv
          · simp at h }
end A
set_option maxRecDepth 100000
open Classical in
noncomputable def jgt(E:Env)(f:FuncId)(args:List V):Option V:=if h:∃v,∀O,jas E (ev E) f args O=some (v,O)then some (Classical.choose h)else none
theorem jfO {E:Env}{f:FuncId}{args:List V}{v:V}(h:∀O,jas E (ev E) f args O=some (v,O)):jgt E f args=some v:=by
 unfold jgt;have he:∃v,∀O,jas E (ev E) f args O=some (v,O):=⟨v,h⟩;rw[dif_pos he];have h1:=Vy he S.empty;rw[h]at h1;simp only[Kg,Kh,and_true]at h1;rw[<- h1]
theorem jfP {E:Env}(hE:E.Ok){f:FuncId}{args:List V}{v:V}(hv:jgt E f args=some v){Y:Ctx}{O:S}{w:World}{xs:Array Value}(hw:WRel Y O w)(hg:GOK E Y)(hx:LRel Y args xs):∃Y' w' y,Moved Y Y' O w w'/\VRel Y' v y/\jmY E.P f xs w y w':=by
 unfold jgt at hv;split at hv
 ·rename_i hh;simp only[Kg]at hv;subst hv;exact jcU hE (λt r h=>jgB hE h) (Vy hh O) hw hg hx
 ·simp at hv
set_option maxRecDepth 1000000
namespace A
def dgsS:List UInt8:=[48,49,50,51,52,53,54,55,56,57]
def setC:List V:=(List.range 256).map λi=>.bool (Nat.ble 48 i && Nat.ble i 57)
theorem set_row:jfi env 197 [.str dgsS] (.tup [.agg setC,.bool true]):=jfj env_ok rfl (k:=80) (by kernel_rfl)
def mil:List UInt8:=[49,48,48,48,48,48,48,48,48,48]
theorem mil_row:jfi env 67 [.str mil,.str mil] (.tup [.str [49],.int .i64 0]):=jfj env_ok rfl (k:=80) (by kernel_rfl)
end A
namespace R
def jkm:List Nat:=[67,98,99,100,101,102,134,135,136,137,138,139,140,143,144,167,168,169,170,171,194,202,203,222,223]
def jve:List V->Option V
 | [.str s]=>if s=A.dgsS then some (.tup [.agg A.setC,.bool true])else none
 |_=>none
noncomputable def jsh(f:FuncId):Option (List V->Option V):=match Nat.beq f 141 with|true=>some (jgt T.env 141)|false=>match Nat.beq f 177 with|true=>some (jgt I.env 177)|false=>match Nat.beq f 197 with|true=>some jve|false=>none
noncomputable def jwk(f:FuncId):Option (List V->S->Option (V × S)):=match Nat.beq f 46 with|true=>some (jas T.env (ev T.env) 46)|false=>match Nat.beq f 47 with|true=>some (jas T.env (ev T.env) 47)|false=>none
noncomputable def env:Env:={ P:=Tryz.prog,pure:=λf=>memN f jkm,mutb:=λf _=>f==171,gl:=glV,hook:=jsh,hookS:=jwk,stab:=λf r=>f==171 && (r==5 ||r==6) }
theorem env_ok:env.Ok :=
  { mixed := by kernel_rfl
    glc:=jlD
    hook := fun f g h=>by
      simp only[env,jsh]at h;split at h
      · rename_i hf
        have e:=Qw hf;subst e;simp only[Kg]at h;subst h;intro args v hv Y O w xs hw hg hx;exact jfP T.env_ok hv hw hg hx
      · split at h
        · rename_i hf
          have e:=Qw hf;subst e;simp only[Kg]at h;subst h;intro args v hv Y O w xs hw hg hx;exact jfP I.env_ok hv hw hg hx
        · split at h
          · rename_i hf
            have e:=Qw hf;subst e;simp only[Kg]at h;subst h;intro args v hv Y O w xs hw hg hx;unfold jve at hv;split at hv
            · split at hv
              · rename_i hs
                subst hs;simp only[Kg]at hv;subst hv;exact A.set_row Y O w xs hw hg hx
              · simp at hv
            · simp at hv
          · simp at h
    hookS:=by
      intro f g h args O v O' hv Y w xs hw hg hx;simp only[env,jwk]at h;split at h
      · rename_i hf
        have e:=Qw hf;subst e;simp only[Kg]at h;subst h;exact jcU T.env_ok (λt r h=>jgB T.env_ok h) hv hw hg hx
      · split at h
        · rename_i hf
          have e:=Qw hf;subst e;simp only[Kg]at h;subst h;exact jcU T.env_ok (λt r h=>jgB T.env_ok h) hv hw hg hx
        · simp at h }
theorem jtF {args:List V}{v:V}(h:∀O,jas T.env (ev T.env) 141 args O=some (v,O))(rec:Task->Option Res)(O:S):jas env rec 141 args O=some (v,O):=by
 have hf:env.hook 141=some (jgt T.env 141):=rfl;unfold jas;rw[hf];simp only[jfO h,Kx]
theorem jvf {args:List V}{v:V}(h:∀O,jas I.env (ev I.env) 177 args O=some (v,O))(rec:Task->Option Res)(O:S):jas env rec 177 args O=some (v,O):=by
 have hf:env.hook 177=some (jgt I.env 177):=rfl;unfold jas;rw[hf];simp only[jfO h,Kx]
theorem jps(rec:Task->Option Res)(args:List V)(O:S):jas env rec 46 args O=jas T.env (ev T.env) 46 args O:=by
 have hf:env.hook 46=none:=rfl;have hS:env.hookS 46=some (jas T.env (ev T.env) 46):=rfl
 conv=>lhs;unfold jas
 rw[hf,hS];rfl
theorem jxi(rec:Task->Option Res)(args:List V)(O:S):jas env rec 47 args O=jas T.env (ev T.env) 47 args O:=by
 have hf:env.hook 47=none:=rfl;have hS:env.hookS 47=some (jas T.env (ev T.env) 47):=rfl
 conv=>lhs;unfold jas
 rw[hf,hS];rfl
theorem jvg(O:S):jas env (ev env) 197 [.str A.dgsS] O=some (.tup [.agg A.setC,.bool true],O):=by
 have hf:env.hook 197=some jve:=rfl;unfold jas;rw[hf];simp only[jve,Ku,Kx]
end R
end Go.Proofs.YtpclebdkhpapjaaGreatDoor
namespace Go.Proofs.YtpclebdkhpapjaaGreatDoor.R
open Go.Ab
set_option maxHeartbeats 8000000
set_option maxRecDepth 100000
theorem tys:env.P.underlying 3=some (.int .i64)/\env.P.underlying 4=some .bool/\env.P.underlying 5=some (.int .u8)/\env.P.underlying 9=some .string/\env.P.underlying 27=some .string/\env.P.underlying 159=some (.int .u64)/\env.P.underlying 124=some (.slice 159) /\
  sz env 9=some 1/\sz env 3=some 1/\sz env 4=some 1/\sz env 5=some 1/\sz env 27=some 1/\sz env 159=some 1/\sz env 124=some 1:=by
 exact⟨by kernel_rfl,by kernel_rfl,by kernel_rfl,by kernel_rfl,by kernel_rfl,by kernel_rfl,by kernel_rfl,by kernel_rfl,by kernel_rfl,by kernel_rfl,by kernel_rfl,by kernel_rfl,by kernel_rfl,by kernel_rfl⟩
theorem u3:env.P.underlying 3=some (.int .i64):=tys.1
theorem u9:env.P.underlying 9=some .string:=tys.2.2.2.1
theorem u27:env.P.underlying 27=some .string:=tys.2.2.2.2.1
theorem u124:env.P.underlying 124=some (.slice 159):=tys.2.2.2.2.2.2.1
theorem s159:sz env 159=some 1:=tys.2.2.2.2.2.2.2.2.2.2.2.2.1
theorem mb(f:FuncId)(r:Nat)(h:(f==171)=false):env.mutb f r=false:=h
theorem stb(f:FuncId)(r:Nat)(h:(f==171 && (r==5 ||r==6))=false):env.stab f r=false:=h
theorem Ke:type_of% (Kf @mb (Kf @stb @tys)):=Kf @mb (Kf @stb @tys)
theorem jhm(h:List AObj)(p:V):jbi env h 159 p=(jai h 1 p).bind (·[0]?):=jaY (by kernel_rfl)
theorem jhn(h:List AObj)(p:V):jbi env h 124 p=(jai h 1 p).bind (·[0]?):=jaY (by kernel_rfl)
theorem al3(h:List AObj)(p:V):jbi env h 3 p=(jai h 1 p).bind (·[0]?):=jaY (by kernel_rfl)
theorem al4(h:List AObj)(p:V):jbi env h 4 p=(jai h 1 p).bind (·[0]?):=jaY (by kernel_rfl)
theorem jAv:env.P.funcs[136]? = some Tryz.f136:=by kernel_rfl
theorem jAw:env.P.funcs[138]? = some Tryz.f138:=by kernel_rfl
theorem jAx:env.P.funcs[142]? = some Tryz.f142:=by kernel_rfl
theorem jyT:env.P.funcs[169]? = some Tryz.f169:=by kernel_rfl
def lc(l:List Nat):List V:=(l.map λn=>((n:Nat):Int)).map (V.int .u64)
def IsL(v:V)(l:List Nat):Prop:=(v=.nilsl/\l=[])\/∃z,v=.row (lc (l++z)) l.length .unk
theorem jqM(l:List Nat):(lc l).length=l.length:=by simp[lc]
theorem jyU(l:List Nat)(i:Nat):(lc l)[i]? = if i<l.length then some (.int .u64 (l.getD i 0))else none:=by
 unfold lc;rw[Jy,Jy];by_cases h:i<l.length
 ·simp[h,List.getD]
 ·simp[h]
theorem jyV(l z:List Nat)(i:Nat)(h:i<l.length):(lc (l++z))[i]? = some (.int .u64 (l.getD i 0)):=by
 rw[jyU,Ki (by rw[Kr];omega)];simp only[List.getD,K2 h]
theorem jtG(l:List Nat):V.closed.closedL (lc l)=true:=by
 unfold lc
 induction l with
 |nil=>rfl
 |cons a l ih=>simpa[V.closed,V.closed.closedL]using ih
theorem jcG {v:V}{l:List Nat}(h:IsL v l):v.closed=true:=by
 rcases h with⟨rfl,rfl⟩|⟨z,rfl⟩
 ·rfl
 ·simp[V.closed,jtG]
theorem jkS {v:V}{l:List Nat}(h:IsL v l)(e:TypeId):jes (some (.slice e)) v=some (.int .i64 l.length):=by
 rcases h with⟨rfl,rfl⟩|⟨z,rfl⟩<;>rfl
theorem jea {v:V}{l:List Nat}(h:IsL v l):v.cells=[v]/\v.isCell=true:=by
 rcases h with⟨rfl,rfl⟩|⟨z,rfl⟩<;>exact⟨rfl,rfl⟩
theorem jpt(hp:List AObj)(d:Nat)(l:List Nat):(lc l).mapM (jbn hp (d+1))=some (lc l):=by rw[lc,jkP]
theorem jlP {v:V}{l:List Nat}(h:IsL v l)(hp:List AObj)(d:Nat):jbn hp (d+2) v=some v:=by
 rcases h with⟨rfl,rfl⟩|⟨z,rfl⟩
 ·rfl
 ·rw[jgj,jpt];rfl
def Sl(H:List AObj)(v:V)(l:List Nat):Prop:=(v=.nilsl/\l=[])\/(∃z q,v=.row (lc (l++z)) l.length q)\/∃b cap ex z t,v=.hsl b 0 l.length cap ex/\H[b]? = some (.cells (lc (l++z)) t)/\l.length<=cap/\cap<=(l++z).length
theorem IsL.sl {v:V}{l:List Nat}(h:IsL v l)(H:List AObj):Sl H v l:=by
 rcases h with h|⟨z,h⟩
 ·exact .inl h
 ·exact .inr (.inl ⟨z,_,h⟩)
theorem Sl.len {H:List AObj}{v:V}{l:List Nat}(h:Sl H v l)(e:TypeId):jes (some (.slice e)) v=some (.int .i64 l.length):=by
 rcases h with⟨rfl,rfl⟩|⟨z,q,rfl⟩|⟨b,cap,ex,z,t,rfl,_⟩<;>rfl
theorem Sl.at {H:List AObj}{v:V}{l:List Nat}(h:Sl H v l)(i:Nat)(hi:i<l.length):∃p,jaJ 1 v (.int .i64 i)=some p/\(jai H 1 p).bind (·[0]?)=some (.int .u64 (l.getD i 0)):=by
 rcases h with⟨_,rfl⟩|⟨z,q,rfl⟩|⟨b,cap,ex,z,t,rfl,hb,h1,h2⟩
 ·simp at hi
 ·have hg:=jyV l z i hi;refine⟨.rptr ((lc (l++z)).drop i),?_,?_⟩
  ·have h1:(i:Int)<(l.length:Int):=by omega
   simp[jaJ,hi]
  ·simp only[jai,Qo,jqM,Kr];rw[Ki (by omega)];simp only[Kn,Q4,Jo,Q5];simpa using hg
 ·have hg:=jyV l z i hi;refine⟨.ptr b (0+i*1),?_,?_⟩
  ·simp[jaJ,hi]
  ·rw[YA,hb,YB,K7,Qm];exact hg
theorem IsL.at {v:V}{l:List Nat}(h:IsL v l)(i:Nat)(hi:i<l.length):∃p,jaJ 1 v (.int .i64 i)=some p/\∀H:List AObj,(jai H 1 p).bind (·[0]?)=some (.int .u64 (l.getD i 0)):=by
 rcases h with⟨rfl,rfl⟩|⟨z,rfl⟩
 ·simp at hi
 ·obtain⟨p,p1,p2⟩:=Sl.at (H:=[]) (.inr (.inl ⟨z,.unk,rfl⟩)) i hi;refine⟨p,p1,?_⟩;rw[Ys,Ki (by omega)]at p1;simp only[Kg]at p1;subst p1;exact λH=>p2
theorem Sl.cut {H:List AObj}{v:V}{l:List Nat}(h:Sl H v l)(k:Nat)(hk:k<=l.length):∃v',jb0 env 124 v none (some (.int .i64 k)) none=some v'/\Sl H v' (l.take k):=by
 have hlt:(l.take k).length=k:=by rw[K9];omega
 rcases h with⟨rfl,rfl⟩|⟨z,q,rfl⟩|⟨b,cap,ex,z,t,rfl,hb,h1,h2⟩
 ·have:k=0:=by simpa using hk
  subst this;exact⟨.nilsl,by simp[jb0,u124,s159,jcT,jbl],.inl ⟨rfl,rfl⟩⟩
 ·have e:lc (l.take k)=(lc (l++z)).take k:=by
   simp only[lc,<- List.map_take];rw[Vu hk]
  have h5:((k:Nat):Int)<=(l.length:Int):=by omega
  obtain⟨q',he⟩:∃q',jb0 env 124 (.row (lc (l++z)) l.length q) none (some (.int .i64 k)) none=some (.row (lc (l.take k)) k q'):=by
   rw[e];exact⟨_,by simp[jb0,u124,s159,jcT,jbl,h5,hk];rfl⟩
  exact⟨_,he,.inr (.inl ⟨[],q',by rw[hlt,Qx]⟩)⟩
 ·have h5:((k:Nat):Int)<=(cap:Int):=by omega
  have h6:k<=cap:=by omega
  obtain⟨ex',he⟩:∃ex',jb0 env 124 (.hsl b 0 l.length cap ex) none (some (.int .i64 k)) none=some (.hsl b 0 k cap ex'):=by
   cases ex<;>exact⟨_,by simp[jb0,u124,s159,jcT,jbl,h6];rfl⟩
  have e:l++z=l.take k++(l.drop k++z):=by rw[<- Jd,J9]
  refine⟨_,he,.inr (.inr ⟨b,cap,ex',l.drop k++z,t,by rw[hlt],by rw[<- e];exact hb,by omega,by rw[<- e];exact h2⟩)⟩
theorem jtH {H H':List AObj}{v:V}{l:List Nat}(h:Sl H v l)(hm:∀(b:Nat) cs t,H[b]? = some (.cells cs t)->H'[b]? = some (.cells cs t))(d:Nat):∃w,jbn H' (d+2) v=some w/\IsL w l:=by
 rcases h with⟨rfl,rfl⟩|⟨z,q,rfl⟩|⟨b,cap,ex,z,t,rfl,hb,h1,h2⟩
 ·exact⟨_,rfl,.inl ⟨rfl,rfl⟩⟩
 ·exact⟨.row (lc (l++z)) l.length .unk,by rw[jgj,jpt];rfl,.inr ⟨z,rfl⟩⟩
 ·refine⟨.row (lc (l++z)) l.length .unk,?_,.inr ⟨z,rfl⟩⟩;rw[jsC _ _ _ _ _ _ _ _ t (hm _ _ _ hb) h1,Jn,jpt];rfl
theorem jtI {v:V}{l:List Nat}(h:IsL v l)(O:S):jas env (ev env) 136 [v] O=some (.bool (decide ((l.length:Int)=0)),O):=by
 refine jau rfl rfl (by simp[jcG h]) jAv rfl (by simp[Tryz.f136]) (U4 rfl) (jar ?_) O;have hl:=jkS h;by_cases hz:(l.length:Int)=0
 ·have hz2:=eq_true hz;simp only[Tryz.f136,Ka,simprocAttr,Uy,Ke,U2,hl,hz2];rfl
 ·have hz2:=eq_false hz;simp only[Tryz.f136,Ka,simprocAttr,Uy,Ke,U2,hl,hz2];rfl
theorem jmy {v:V}{l:List Nat}(h:IsL v l)(O:S):jas env (ev env) 138 [v] O=some (.bool (decide (l=[1])),O):=by
 refine jau rfl rfl (by simp[jcG h]) jAw rfl (by simp[Tryz.f138]) (U4 rfl) (jar ?_) O;have hl:=jkS h;by_cases h1:(l.length:Int)=1
 ·have hz2:=eq_true h1;obtain⟨a,rfl⟩:∃a,l=[a]:=List.length_eq_one_iff.1 (by omega);obtain⟨p,p1,p2⟩:=h.at 0 (by simp);have p1':jaJ 1 v (.int .i64 0)=some p:=p1;have p2':∀H:List AObj,(jai H 1 p).bind (·[0]?)=some (.int .u64 a):=p2;by_cases ha:(a:Int)=1
  ·have h2:=eq_true ha;have h3:decide ([a]=[1])=true:=by simp;omega
   simp only[Tryz.f138,Ka,simprocAttr,Uy,Ke,U2,hl,p1',p2',jhm,h2,h3];rfl
  ·have h2:=eq_false ha;have h3:decide ([a]=[1])=false:=by simp;omega
   simp only[Tryz.f138,Ka,simprocAttr,Uy,Ke,U2,hl,p1',p2',jhm,h2,h3];rfl
 ·have hz2:=eq_false h1
  have h3:decide (l=[1])=false:=by
   simp only[decide_eq_false_iff_not];rintro rfl;exact h1 rfl
  simp only[Tryz.f138,Ka,simprocAttr,Uy,Ke,U2,hl,hz2,h3];rfl
def jqN(l r:List Nat):Prop:=∃k,k<=l.length/\r=l.take k/\(∀i,k<=i->i<l.length->l.getD i 0=0)/\(k=0\/l.getD (k-1) 0 ≠ 0)
theorem jn4 {L:List AObj}{ts:List Nat}{v:V}{l:List Nat}(h:Sl L v l)(hl:l.length<=2^40):∃v' r,jas env (ev env) 142 [v] ⟨L,ts⟩=some (v',⟨L,ts⟩)/\Sl L v' r/\jqN l r:=by
 obtain⟨v',O',h1,rfl,r,h2,h3⟩:=jcv (k:=λv' O'=>O'=⟨L,ts⟩/\∃r,Sl L v' r/\jqN l r) rfl rfl jAx rfl (by simp[Tryz.f142]) (U4 rfl) (O:=⟨L,ts⟩) (args:=[v]) (E:=env) (jar (by
  simp only[Tryz.f142,Ka,simprocAttr,Uy,Ke,Vq];refine jbo (λm T D O=>D=[]/\O=⟨L,ts⟩/\∃k,k<=l.length/\Sl L (T 0) (l.take k)/\m=k/\∀i,k<=i->i<l.length->l.getD i 0=0) ?_ _ _ _ _ ⟨rfl,rfl,l.length,Kw _,by rw[J4];exact h,rfl,λi h1 h2=>by omega⟩;rintro m T D O ⟨rfl,rfl,k,hk,hs,hm,hz⟩;subst m;refine jar ?_;generalize ht0:T 0=w at hs;have hlt:(l.take k).length=k:=by rw[K9];omega
  have hlen:=hs.len;rw[hlt]at hlen;by_cases h0:0<k
  ·have c0:((0:Int)<(k:Int))=True:=eq_true (by omega);have e1:IntKind.i64.wrap ((k:Int)-1)=((k-1:Nat):Int):=by rw[wrap_i64 (by omega) (by omega)];omega
   obtain⟨p,p1,p2⟩:=hs.at (k-1) (by omega);have e2:(l.take k).getD (k-1) 0=l.getD (k-1) 0:=by simp only[List.getD,Q4];rw[Ki (by omega)]
   rw[e2]at p2;by_cases hl:l.getD (k-1) 0=0
   ·have c1:(((l.getD (k-1) 0:Nat):Int)=0)=True:=eq_true (by omega);obtain⟨w',q1,q2⟩:=hs.cut (k-1) (by omega);simp only[Ka,simprocAttr,Uy,Ke,Vq,ht0,hlen,c0,e1,p1,p2,jhm,c1,jbb,jbc,jbg,q1];refine⟨k-1,by omega,k-1,by omega,?_,rfl,λi a b => ?_⟩
    ·rw[Vw,J1 (by omega)]at q2;exact q2
    ·by_cases hi:i=k-1
     ·subst hi;exact hl
     ·exact hz i (by omega) b
   ·have c1:(((l.getD (k-1) 0:Nat):Int)=0)=False:=eq_false (by omega);simp only[Ka,simprocAttr,Uy,Ke,Vq,ht0,hlen,c0,e1,p1,p2,jhm,c1];exact⟨_,hs,k,hk,rfl,hz,.inr hl⟩
  ·have c0:((0:Int)<(k:Int))=False:=eq_false (by omega);simp only[Ka,simprocAttr,Uy,Ke,Vq,ht0,hlen,c0];exact⟨_,hs,k,hk,rfl,hz,.inl (by omega)⟩))
 exact⟨v',r,h1,h2,h3⟩
def ofL(n:Nat):List Nat:=if n=0 then []else [n]
theorem jwl(k:Int):rowO env 124 1 [(0,.int .u64 k)]=some (.row [.int .u64 k] 1 .full):=by kernel_rfl
theorem jxj(O:S)(k:Int):appO env false O 124 124 .nilsl (.row [.int .u64 k] 1 .full)=some (.row [.int .u64 k] 1 (.tok O.toks.length 0 1),⟨O.heap,O.toks++[0]⟩):=by kernel_rfl
theorem jc2 {h:List AObj}{b:Nat}{v:V}{t:TypeId}(hb:h[b]? = some (.cells [v] t)):(jai h 1 (.ptr b 0)).bind (·[0]?)=some v:=by
 simp[jai,hb]
theorem jtJ(n:Nat)(hn:n<1000000000):∃v,IsL v (ofL n)/\∀O,jas env (ev env) 169 [.int .u64 n] O=some (v,O):=by
 by_cases h0:n=0
 ·subst h0;refine⟨.nilsl,.inl ⟨rfl,rfl⟩,λO => ?_⟩;refine jau rfl rfl rfl jyT rfl (by simp[Tryz.f169]) (U4 rfl) (jar ?_) O;simp only[Tryz.f169,Ka,simprocAttr,Uy,Ke,U2];refine jbo (λm T D O=>D=[]/\O=⟨[],[]⟩/\m=0/\T 0=.int .u64 (0:Nat)/\T 3=.nilsl) ?_ 0 _ _ _ ⟨rfl,rfl,rfl,rfl,rfl⟩;rintro m T D O ⟨rfl,rfl,hm,t0,t3⟩;refine jar ?_;simp only[Ka,simprocAttr,Uy,Ke,Vq,t0,t3,Int.natCast_zero,Int.lt_irrefl];rfl
 ·have e1:ofL n=[n]:=by unfold ofL;rw[Kj h0]
  refine⟨.row [.int .u64 n] 1 .unk,.inr ⟨[],by rw[e1];rfl⟩,λO => ?_⟩;refine jau rfl rfl rfl jyT rfl (by simp[Tryz.f169]) (U4 rfl) (jar ?_) O;simp only[Tryz.f169,Ka,simprocAttr,Uy,Ke,U2];refine jbo (λm T D O=>D=[]/\((m=1/\O=⟨[],[]⟩/\T 0=.int .u64 n/\T 3=.nilsl)\/(m=0/\T 0=.int .u64 (0:Nat)/\∃c,T 3=.row [.int .u64 n] 1 c))) ?_ 1 _ _ _ ⟨rfl,.inl ⟨rfl,rfl,rfl,rfl⟩⟩;rintro m T D O ⟨rfl,⟨hm,rfl,t0,t3⟩|⟨hm,t0,c,t3⟩⟩
  ·refine jar ?_;have c0:((0:Int)<(n:Int))=True:=eq_true (by omega);have e2:(n:Int).tmod 1000000000=n:=Int.tmod_eq_of_lt (by omega) (by omega);have e3:(n:Int).tdiv 1000000000=0:=Int.tdiv_eq_zero_of_lt (by omega) (by omega);have w0:IntKind.u64.wrap 0=0:=by decide
   simp only[Ka,simprocAttr,Uy,Ke,Vq,t0,t3,c0,e2,e3,jag,jwl,jxj,w0];exact⟨0,by omega,.inr ⟨rfl,_,rfl⟩⟩
  ·refine jar ?_;simp only[Ka,simprocAttr,Uy,Ke,Vq,t0,t3,Int.natCast_zero,Int.lt_irrefl];rfl
theorem jAy:env.P.funcs[204]? = some Tryz.f204:=by kernel_rfl
theorem jkA {y v:V}{b:Nat}{l:List Nat}{P:Nat->S->Prop}{R:S->Prop}(hb:∀i O,P i O->O.heap[b]? = some (.cells [v] 124))(hv:IsL v l)(hl:l.length<=2^40)
  (hy:∀i O,i<l.length->P (i+1) O->∃r O',jdt env (ev env) y [.int .i64 i,.int .u64 (l.getD i 0)] O=some (.bool r,O')/\(if r=true then P i O' else R O')) (O:S) (hP:P l.length O) :
  ∃v' O',jas env (ev env) 204 [y,.ptr b 0] O=some (v',O')/\(P 0 O'\/R O'):=by
 refine jcv rfl rfl jAy rfl (by simp[Tryz.f204]) (U4 rfl) (jar ?_);obtain⟨L,ts⟩:=O;have hb1:=jc2 (hb _ _ hP);have hlen:=jkS hv;have e0:IntKind.i64.wrap ((l.length:Int)-1)=(l.length:Int)-1:=wrap_i64 (by omega) (by omega);simp only at hb1;simp only[Tryz.f204,Ka,simprocAttr,Uy,Ke,Vq,jhn,hb1,hlen,e0];refine jbo (λm T D O=>D=[]/\T 0=y/\T 1=.ptr b 0/\∃k:Nat,m=k/\k<=l.length/\T 3=.int .i64 ((k:Int)-1)/\P k O) ?_ l.length _ _ _ ⟨rfl,rfl,rfl,l.length,rfl,Kw _,rfl,hP⟩;clear hb1 hP L ts;rintro m T D ⟨L,ts⟩ ⟨rfl,t0,t1,k,hm,hk,t3,hP⟩;subst m;have hb1:=jc2 (hb _ _ hP);simp only at hb1;refine jar ?_;by_cases h0:0<k
 ·obtain⟨i,rfl⟩:∃i,k=i+1:=⟨k-1,by omega⟩;have e2:((i+1:Nat):Int)-1=(i:Int):=by omega
  rw[e2]at t3;have c0:((0:Int)<=(i:Int))=True:=eq_true (by omega);obtain⟨p,p1,p2⟩:=Sl.at (hv.sl L) i (by omega);obtain⟨r,O',hc,hr⟩:=hy i ⟨L,ts⟩ (by omega) hP;have e3:IntKind.i64.wrap ((i:Int)-1)=(i:Int)-1:=wrap_i64 (by omega) (by omega);cases r
  ·simp only[Ka,simprocAttr,Uy,Ke,Vq,t0,t1,t3,c0,jhn,jhm,hb1,p1,p2,hc];exact .inr hr
  ·simp only[Ka,simprocAttr,Uy,Ke,Vq,t0,t1,t3,c0,jhn,jhm,hb1,p1,p2,hc,e3];exact⟨i,by omega,i,rfl,by omega,rfl,hr⟩
 ·have hk0:k=0:=by omega
  subst hk0;have t3':T 3=.int .i64 (-1):=t3;simp only[Ka,simprocAttr,Uy,Ke,Vq,t0,t1,t3'];exact .inl hP
open Go.Proofs.YtpclebdkhpapjaaGreatDoor.T (asgR bodR rngC jeD)
def val:List Nat->Nat
 | []=>0
 |a::r=>a+1000000000*val r
theorem jvh {l:List Nat}{i:Nat}(h:i<l.length):val (l.drop i)=l.getD i 0+1000000000*val (l.drop (i+1)):=by
 rw[Q8 h];simp[val,List.getD,h]
theorem jAz:env.P.funcs[171]? = some Tryz.f171:=by kernel_rfl
theorem jAA:env.P.funcs[173]? = some Tryz.f173:=by kernel_rfl
theorem jpu(v:V)(hc:v.cells=[v])(L:List AObj)(ts:List Nat):jas env (ev env) 173 [v] ⟨L,ts⟩=some (.func 204 [] [.ptr L.length 0],⟨L++[.cells [v] 124],ts⟩):=by
 refine jbk rfl rfl jAA rfl (by simp[Tryz.f173]) (U4 rfl) (jar ?_);simp only[Tryz.f173,Ka,simprocAttr,Uy,Ke,Vq,YP,jaW,hc]
theorem jwm(q:List Nat)(i x:Nat)(h:i<q.length):jab (lc q) i [.int .u64 x]=lc (q.set i x):=by
 unfold jab lc;rw[Vh,Ki h];simp[List.map_take,List.map_drop]
theorem jyW {r d a:Nat}(hr:r<d)(ha:a<1000000000):(r*1000000000+a)/d<1000000000:=by
 refine(Nat.div_lt_iff_lt_mul (by omega)).2 ?_;have:(r+1)*1000000000<=d*1000000000:=Qj _ hr;omega
def H171(v:V)(d n:Nat)(lo:AObj)(q:List Nat)(r:Nat):S:=⟨[.cells [v] 124,.cells [.int .u64 d] 159,.cells (lc q) 159,.cells [.hsl 2 0 n n .exact] 124,.cells [.int .u64 r] 159,.cells [v] 124,.defd true,lo],[]⟩
def P171(v:V)(l:List Nat)(d:Nat)(lo:AObj)(i:Nat)(O:S):Prop:=∃(q:List Nat) (r:Nat),O=H171 v d l.length lo q r/\q.length=l.length/\(∀x∈q,x<1000000000)/\r=val (l.drop i) % d
theorem jpv {v:V}{l:List Nat}(hv:IsL v l)(hl:l.length<=2^30)(hB:∀x∈l,x<1000000000){d:Nat}(h1:1<=d)(h2:d<1000000000){T:Tm}{tmps:List V}{lo:AObj}(hr:Rep 36 T tmps)
  (hlo:lo=.loop .ready none 171 tmps #[15,16] (asgR (jaz Tryz.f171)) (bodR (jaz Tryz.f171)) 6) (t2:T 2=.ptr 0 0) (t3:T 3=.ptr 1 0) (t6:T 6=.ptr 3 0) (t7:T 7=.ptr 4 0) (i:Nat) (O:S) (hi:i<l.length) (hP:P171 v l d lo (i+1) O) :
  ∃O',jdt env (ev env) (.yld 7) [.int .i64 i,.int .u64 (l.getD i 0)] O=some (.bool true,O')/\P171 v l d lo i O':=by
 obtain⟨q,r,rfl,hq,hqB,hrv⟩:=hP;refine jgI hlo rfl hr rfl (by simp) ?_;intro lb hlb;clear hlb hlo hr;have hrd:r<d:=by rw[hrv];exact J8 _ (by omega)
 have hli:l.getD i 0<1000000000:=by
  have:l.getD i 0=l[i]:=by simp[List.getD,hi]
  rw[this];exact hB _ (J3 hi)
 have hx:r*1000000000+l.getD i 0<1000000000*1000000000:=by
  have:(r+1)*1000000000<=d*1000000000:=Qj _ hrd;omega
 have hmod:(r*1000000000+l.getD i 0) % d=val (l.drop i) % d:=by
  rw[jvh hi,hrv,Jv,Nat.add_mod,Nat.mul_mod,Nat.mod_mod,<- Nat.mul_mod,<- Nat.add_mod,Us]
 have hdiv:=jyW hrd hli;obtain⟨p,p1,hp⟩:=hv.at i hi;generalize hX:r*1000000000+l.getD i 0=X at *;have hm:=J8 X (show 0<d by omega);have e1:IntKind.u64.wrap ((r:Int)*1000000000)=((r*1000000000:Nat):Int):=by rw[wrap_u64 (by omega) (by omega)];omega
 have e2:IntKind.u64.wrap (((r*1000000000:Nat):Int)+(l.getD i 0:Nat))=(X:Int):=by rw[wrap_u64 (by omega) (by omega)];omega
 have e3:((d:Int)=0)=False:=eq_false (by omega);have e4:(X:Int).tdiv (d:Int)=((X/d:Nat):Int):=rfl;have e5:(X:Int).tmod (d:Int)=((X % d:Nat):Int):=rfl;generalize X/d=Qt at *;generalize X % d=Mt at *;have e6:IntKind.u64.wrap (Qt:Int)=(Qt:Int):=wrap_u64 (by omega) (by omega);have e7:IntKind.u64.wrap (Mt:Int)=(Mt:Int):=wrap_u64 (by omega) (by omega);have c1:((0:Int)<=(i:Int)/\(i:Int)<(l.length:Int))=True:=eq_true (by omega)
 have st:∀L ts,storeAt ⟨L,ts⟩ [.int .u64 Qt] 2 (0+i*1) (some (.cells (lc q) 159))=some ⟨L.set 2 (.cells (lc (q.set i Qt)) 159),ts⟩:=λL ts=>by
  rw[YE,Ki ⟨by rw[jqM];simp;omega,rfl⟩,show 0+i*1=i by omega,jwm q i Qt (by omega)];rfl
 refine jar ?_;simp only[asgR,bodR,rngC,jaz,Tryz.f171,Kv,Option.or,H171];simp only[Ka,simprocAttr,Uy,Ke,Uz,jab,Xm,X8,t2,t3,t6,t7,jhm,jhn,p1,hp,e1,e2,e3,e4,e5,e6,e7];refine⟨by kernel_rfl,?_⟩;refine jli rfl (λs=>s.heap[1]? = some (.cells [.int .u64 d] 159)/\s.heap[3]? = some (.cells [.hsl 2 0 l.length l.length .exact] 124)) ⟨rfl,rfl⟩ (by kernel_rfl) ?_;simp only[Ka,simprocAttr,Uy,Ke,Uz,jab,hhWa,hhWb,hhWc,hhWd,t2,t3,t6,t7,jhm,jhn,e3,e4,e5,e6,e7,jbJ,c1,st];refine⟨λs h=>by rw[h.2];rfl,λs h=>by rw[h.1];rfl,λs h=>by rw[h.1];rfl,⟨by rw[jqM];omega,rfl⟩,rfl,q.set i Qt,Mt,?_,by rw[Jh];exact hq,λx hx => ?_,hmod⟩
 ·have:=jwm q i Qt (by omega);unfold jab at this;unfold H171;rw[<- this];rfl
 ·rcases List.mem_or_eq_of_mem_set hx with h|h
  ·exact hqB x h
  ·omega
theorem e124:jf0 env 124=some 159:=by kernel_rfl
theorem b159:bys env 159=some 8:=by kernel_rfl
theorem z159:jbG env 159=some (.int .u64 0):=by kernel_rfl
theorem jAB(r:Nat):env.mutb 171 r=true:=rfl
theorem jxk(n:Nat):lc (List.replicate n 0)=List.replicate n (.int .u64 0):=by simp[lc]
theorem jyX {O:S}(n:Nat)(hn:n ≠ 0)(hl:n<=2^30):jre env true O 124 (.int .i64 n) (.int .i64 n)=some (.hsl O.heap.length 0 n n .exact,O.push (.cells (lc (List.replicate n 0)) 159)):=by
 have hlim:(lim:Nat)=2^40:=rfl;have h1:0<=(n:Int)/\(n:Int)<=n/\(n:Int)<=(lim:Nat)/\(n:Int)*((8:Nat):Int)<=(lim:Nat):=by rw[hlim];omega
 have h2:¬n*1=0:=by omega
 rw[jxk];simp only[jre,e124,s159,b159,z159,Kn,h1,and_self,Ku,K3,h2,Ks,Y6,K0,K6,K7,true_or,T.rep_flat]
theorem jvi(n:Nat):∀x∈List.replicate n 0,x<1000000000:=λx hx=>by rw[(List.mem_replicate.1 hx).2];omega
theorem jbN {E:Env}{f:FuncId}{args:List V}{F:Go.Func}{body:Code}(hp:E.pure f=true)(hk:E.hook f=none)(hc:args.all V.closed=true)(hf:E.P.funcs[f]? = some F)(hb:F.body=some body)
  (hn:F.name ≠ "runtime.NumGoroutine") (hl:args.length<=F.ntmps) (P:V->Prop)
  (hw:wpC E f none F.ntmps body (argT args) [] S.empty ⟨wpR E F.results.toList λv' O'=>∃v,jbn O'.heap jay v'=some v/\P v,λ_ _ _ _=>False,wpR E F.results.toList λv' O'=>∃v,jbn O'.heap jay v'=some v/\P v⟩) :
  ∃v,P v/\∀O,jas E (ev E) f args O=some (v,O):=by
 obtain⟨v',O',h1,v,h2,h3⟩:=jme hf hb hn hl hw;refine⟨v,h3,λO => ?_⟩;unfold jas;simp only[hk,hp,jeU hc,hc,h1,h2,Ku,Kx]
def K171(l:List Nat)(d:Nat)(v:V):Prop:=∃w q,v=.tup [w,.int .u64 (val l % d:Nat)]/\IsL w q/\q.length<=l.length/\∀x∈q,x<1000000000
theorem jfp {v:V}{l:List Nat}(hv:IsL v l)(hne:l ≠ [])(hl:l.length<=2^30)(hB:∀x∈l,x<1000000000){d:Nat}(h1:1<=d)(h2:d<1000000000) :
  ∃u,K171 l d u/\∀O,jas env (ev env) 171 [v,.int .u64 d] O=some (u,O):=by
 have hn0:l.length ≠ 0:=λh=>hne (Qh h)
 have hlen:=jkS hv;have hc:=jea hv;have hmk:∀O:S,jre env true O 124 (.int .i64 l.length) (.int .i64 l.length)=some (.hsl O.heap.length 0 l.length l.length .exact,O.push (.cells (lc (List.replicate l.length 0)) 159)):=λO=>jyX l.length hn0 hl
 have z124:jbG env 124=some .nilsl:=by kernel_rfl
 refine jbN rfl rfl (by simp[jcG hv,V.closed]) jAz rfl (by simp[Tryz.f171]) (U4 rfl) _ (jar ?_);simp only[Tryz.f171,Ka,simprocAttr,Uy,Ke,Uz,jab,jap,jhn,jhm,hlen,hc.1,hc.2,jhJ,jAB,hmk,z124,z159,jpu v hc.1];refine⟨rfl,jsw rfl ?_⟩;intro tmps lo lx hr hlo hlx
 have hrd:∀i O,i<l.length->P171 v l d lo (i+1) O->∃r O',jdt env (ev env) (.yld 7) [.int .i64 i,.int .u64 (l.getD i 0)] O=some (.bool r,O')/\(if r=true then P171 v l d lo i O' else False):=λi O hi hP=>by
  obtain⟨O',a,b⟩:=jpv hv hl hB h1 h2 hr hlo rfl rfl rfl rfl i O hi hP;exact⟨true,O',a,b⟩
 obtain⟨u,O2,hcall,hE⟩:=jkA (y:=.yld 7) (b:=5) (P:=P171 v l d lo) (R:=λ_=>False) (λi O h=>by obtain⟨q,r,rfl,_⟩:=h;rfl) hv (by omega) hrd
  ⟨[.cells [v] 124,.cells [.int .u64 d] 159,.cells (lc (List.replicate l.length 0)) 159,.cells [.hsl 2 0 l.length l.length .exact] 124,.cells [.int .u64 0] 159,.cells [v] 124,.defd true,lo],[]⟩
  ⟨List.replicate l.length 0,0,rfl,Xa,jvi _,by rw[List.drop_length];exact(Nat.zero_mod d).symm⟩
 obtain⟨q,r,rfl,hq,hqB,hrv⟩:=hE.resolve_right (λh=>h);rw[Jn]at hrv;subst hrv;refine⟨u,_,jeD rfl rfl hcall,rfl,?_⟩;clear hcall hrd;have hsl:Sl (H171 v d l.length lx q (val l % d)).heap (.hsl 2 0 l.length l.length .exact) q:=.inr (.inr ⟨2,l.length,.exact,[],159,by rw[hq],by rw[Qx];rfl,by omega,by rw[Qx];omega⟩);obtain⟨w,q',t1,t2,k,k1,k2,k3,k4⟩:=jn4 (ts:=[]) hsl (by omega);unfold H171 at t1 t2;simp only at t1 t2;unfold H171;simp only[Va,jab,simprocAttr,Ka,Uy,Ke,Vq];refine jli rfl (λs=>s.heap[3]? = some (.cells [.hsl 2 0 l.length l.length .exact] 124)/\s.heap[4]? = some (.cells [.int .u64 (val l % d:Nat)] 159)) ⟨rfl,rfl⟩ (by kernel_rfl) ?_;simp only[Ka,simprocAttr,Uy,Ke,Uz,jab,hhWa,hhWb,hhWc,hhWd,jhm,jhn,t1,wpR,jbI]
 obtain⟨w',s1,s2⟩:=jtH (H':=[.cells [v] 124,.cells [.int .u64 d] 159,.cells (lc q) 159,.cells [.hsl 2 0 l.length l.length .exact] 124,.cells [.int .u64 (val l % d:Nat)] 159,.cells [v] 124,.defd false,lx]) t2 (λb cs t hb=>by
  match b,hb with
  |0,hb=>exact hb
  |1,hb=>exact hb
  |2,hb=>exact hb
  |3,hb=>exact hb
  |4,hb=>exact hb
  |5,hb=>exact hb
  |6,hb=>cases hb
  |7,hb=>exact hb
  |n+8,hb=>cases hb) 9
 refine⟨λs h=>by rw[h.1];rfl,λ_=>trivial,λs h=>by rw[h.2];rfl,_,?_,w',q',rfl,s2,?_,?_⟩
 ·simp only[jaW,jay,ja7,jaA,jaF,jaV,s1,Kn,Kx]
 ·rw[k2,K9];omega
 ·rw[k2];exact λx hx=>hqB x (V3 hx)
theorem jAC:env.P.funcs[170]? = some Tryz.f170:=by kernel_rfl
theorem jAD:env.P.funcs[202]? = some Tryz.f202:=by kernel_rfl
theorem jAE:env.P.funcs[203]? = some Tryz.f203:=by kernel_rfl
theorem jAF:env.P.funcs[222]? = some Tryz.f222:=by kernel_rfl
theorem jAG:env.P.funcs[223]? = some Tryz.f223:=by kernel_rfl
def cmpI(a b:Int):Int:=if a<b then -1 else if b<a then 1 else 0
theorem nan1(a:Int)(O:S):jas env (ev env) 222 [.int .i64 a] O=some (.bool false,O):=by
 refine jau rfl rfl rfl jAF rfl (by simp[Tryz.f222]) (U4 rfl) (jar ?_) O;have h:(a=a)=True:=eq_true rfl;simp only[Tryz.f222,Ka,simprocAttr,Uy,Ke,U2,h,ne_eq];rfl
theorem nan2(a:Int)(O:S):jas env (ev env) 223 [.int .u64 a] O=some (.bool false,O):=by
 refine jau rfl rfl rfl jAG rfl (by simp[Tryz.f223]) (U4 rfl) (jar ?_) O;have h:(a=a)=True:=eq_true rfl;simp only[Tryz.f223,Ka,simprocAttr,Uy,Ke,U2,h,ne_eq];rfl
theorem cmp1(a b:Int)(O:S):jas env (ev env) 202 [.int .i64 a,.int .i64 b] O=some (.int .i64 (cmpI a b),O):=by
 refine jau rfl rfl rfl jAD rfl (by simp[Tryz.f202]) (U4 rfl) (jar ?_) O;unfold cmpI;by_cases h1:a<b
 ·have c1:=eq_true h1;simp only[Tryz.f202,Ka,simprocAttr,Uy,Ke,U2,nan1,c1];rfl
 ·have c1:=eq_false h1;by_cases h2:b<a
  ·have c2:=eq_true h2;simp only[Tryz.f202,Ka,simprocAttr,Uy,Ke,U2,nan1,c1,c2];rfl
  ·have c2:=eq_false h2;simp only[Tryz.f202,Ka,simprocAttr,Uy,Ke,U2,nan1,c1,c2];rfl
theorem cmp2(a b:Int)(O:S):jas env (ev env) 203 [.int .u64 a,.int .u64 b] O=some (.int .i64 (cmpI a b),O):=by
 refine jau rfl rfl rfl jAE rfl (by simp[Tryz.f203]) (U4 rfl) (jar ?_) O;unfold cmpI;by_cases h1:a<b
 ·have c1:=eq_true h1;simp only[Tryz.f203,Ka,simprocAttr,Uy,Ke,U2,nan2,c1];rfl
 ·have c1:=eq_false h1;by_cases h2:b<a
  ·have c2:=eq_true h2;simp only[Tryz.f203,Ka,simprocAttr,Uy,Ke,U2,nan2,c1,c2];rfl
  ·have c2:=eq_false h2;simp only[Tryz.f203,Ka,simprocAttr,Uy,Ke,U2,nan2,c1,c2];rfl
def cmpT(a b:List Nat):Nat->Int
 |0=>0
 |i+1=>if a.getD i 0=b.getD i 0 then cmpT a b i else cmpI (a.getD i 0:Nat) (b.getD i 0:Nat)
def cmpL(a b:List Nat):Int:=if a.length=b.length then cmpT a b a.length else cmpI a.length b.length
theorem z3:jbG env 3=some (.int .i64 0):=by kernel_rfl
def H170(u v:V)(c:Int)(lo:AObj):S:=⟨[.cells [u] 124,.cells [v] 124,.cells [.int .i64 c] 3,.cells [u] 124,.defd true,lo],[]⟩
def P170(u v:V)(a b:List Nat)(lo:AObj)(i:Nat)(O:S):Prop:=O=H170 u v 0 lo/\cmpT a b a.length=cmpT a b i
def R170(u v:V)(a b:List Nat)(lr:AObj)(O:S):Prop:=O=H170 u v (cmpT a b a.length) lr
theorem jtK {u v:V}{a b:List Nat}(hu:IsL u a)(hv:IsL v b)(hab:a.length=b.length){T:Tm}{tmps:List V}{lo lr:AObj}(hr:Rep 38 T tmps)
  (hlo:lo=.loop .ready none 170 tmps #[18,19] (asgR (jaz Tryz.f170)) (bodR (jaz Tryz.f170)) 4) (hlr:lr=.loop .done (some .ret) 170 tmps #[18,19] (asgR (jaz Tryz.f170)) (bodR (jaz Tryz.f170)) 4)
  (t2:T 2=.ptr 0 0) (t3:T 3=.ptr 1 0) (t4:T 4=.ptr 2 0) (i:Nat) (O:S) (hi:i<a.length) (hP:P170 u v a b lo (i+1) O) :
  ∃r O',jdt env (ev env) (.yld 5) [.int .i64 i,.int .u64 (a.getD i 0)] O=some (.bool r,O')/\(if r=true then P170 u v a b lo i O' else R170 u v a b lr O'):=by
 obtain⟨rfl,hc⟩:=hP;obtain⟨p,p1,p2⟩:=hu.at i hi;obtain⟨q,q1,q2⟩:=hv.at i (by omega);rw[show cmpT a b (i+1)=if a.getD i 0=b.getD i 0 then cmpT a b i else cmpI (a.getD i 0:Nat) (b.getD i 0:Nat)from rfl]at hc;by_cases h:a.getD i 0=b.getD i 0
 ·rw[Ki h]at hc;have c1:(((a.getD i 0:Nat):Int)=((b.getD i 0:Nat):Int))=True:=eq_true (by omega)
  have hh:∃O',jdt env (ev env) (.yld 5) [.int .i64 i,.int .u64 (a.getD i 0)] (H170 u v 0 lo)=some (.bool true,O')/\P170 u v a b lo i O':=by
   refine jgI hlo rfl hr rfl (by simp) ?_;intro lb hlb;clear hlb hlo hr;refine jar ?_;simp only[asgR,bodR,rngC,jaz,Tryz.f170,Kv,Option.or,H170];simp only[Ka,simprocAttr,Uy,Ke,Uz,jab,Xm,X8,t2,t3,t4,jhm,jhn,p1,p2,q1,q2,c1];exact⟨by kernel_rfl,rfl,hc⟩
  obtain⟨O',h1,h2⟩:=hh;exact⟨true,O',h1,h2⟩
 ·rw[Kj h]at hc;have c1:(((a.getD i 0:Nat):Int)=((b.getD i 0:Nat):Int))=False:=eq_false (by omega)
  have hh:∃O',jdt env (ev env) (.yld 5) [.int .i64 i,.int .u64 (a.getD i 0)] (H170 u v 0 lo)=some (.bool false,O')/\R170 u v a b lr O':=by
   refine jno hlo rfl hr rfl (by simp) ?_;intro lb lr2 hlb hlr2;have hlr3:lr2=lr:=by rw[hlr,hlr2]
   clear hlb hlo hr hlr2 hlr;subst hlr3;refine jar ?_;simp only[asgR,bodR,rngC,jaz,Tryz.f170,Kv,Option.or,H170];simp only[Ka,simprocAttr,Uy,Ke,Uz,jab,Xm,X8,t2,t3,t4,jhm,jhn,p1,p2,q1,q2,c1,cmp2];refine⟨by kernel_rfl,by kernel_rfl,rfl,?_⟩;unfold R170;rw[hc];rfl
  obtain⟨O',h1,h2⟩:=hh;exact⟨false,O',h1,h2⟩
theorem jvj {u v:V}{a b:List Nat}(hu:IsL u a)(hv:IsL v b)(hl:a.length<=2^30)(O:S):jas env (ev env) 170 [u,v] O=some (.int .i64 (cmpL a b),O):=by
 have hlu:=jkS hu;have hlv:=jkS hv;have hcu:=jea hu;have hcv:=jea hv;refine jau rfl rfl (by simp[jcG hu,jcG hv]) jAC rfl (by simp[Tryz.f170]) (U4 rfl) (jar ?_) O;unfold cmpL;by_cases h:a.length=b.length
 ·rw[Ki h];have c1:((a.length:Int)=(b.length:Int))=True:=eq_true (by omega);simp only[Tryz.f170,Ka,simprocAttr,Uy,Ke,Uz,jab,jap,jhn,hlu,hlv,hcu.1,hcv.1,c1,z3,jpu u hcu.1];refine jpX rfl ?_;intro tmps lo lr hr hlo hlr
  obtain⟨w,O2,hcall,hE⟩:=jkA (y:=.yld 5) (b:=3) (P:=P170 u v a b lo) (R:=R170 u v a b lr) (λi O h=>by obtain⟨rfl,_⟩:=h;rfl) hu (by omega) (jtK hu hv h hr hlo hlr rfl rfl rfl)
   ⟨[.cells [u] 124,.cells [v] 124,.cells [.int .i64 0] 3,.cells [u] 124,.defd true,lo],[]⟩ ⟨rfl,rfl⟩
  refine⟨w,O2,jeD rfl rfl hcall,?_⟩
  rcases hE with⟨rfl,hc⟩|rfl
  ·refine .inl ⟨rfl,_,rfl,?_⟩;rw[hc];generalize AObj.loop .exhausted none 170 tmps _ _ _ _=lx;unfold H170 cmpT;simp only[Va,jab,simprocAttr,Ka,Uy,Ke,Vq,wpR,jbI,al3]
   first|exact⟨rfl,rfl⟩|rfl
  ·refine .inr ⟨rfl,_,rfl,?_⟩;generalize AObj.loop .exhausted _ 170 tmps _ _ _ _=lx;unfold H170;simp only[Va,jab,simprocAttr,Ka,Uy,Ke,Vq,wpR,jbI,al3]
   first|exact⟨rfl,rfl⟩|rfl
 ·rw[Kj h];have c1:((a.length:Int)=(b.length:Int))=False:=eq_false (by omega);simp only[Tryz.f170,Ka,simprocAttr,Uy,Ke,Uz,jab,jap,jhn,hlu,hlv,hcu.1,hcv.1,c1,z3,cmp1,al3];exact⟨rfl,rfl⟩
theorem jAH:env.P.funcs[139]? = some Tryz.f139:=by kernel_rfl
theorem jAI:env.P.funcs[140]? = some Tryz.f140:=by kernel_rfl
def numL(n:Nat):List Nat:=if n=0 then []else if n<1000000000 then [n]else [0,1]
theorem jyY {n:Nat}(h:n<1000000000):ofL n=numL n:=by
 unfold ofL numL;by_cases h0:n=0
 ·rw[Ki h0,Ki h0]
 ·rw[Kj h0,Kj h0,Ki h]
theorem jmz {n:Nat}(h:n<=1000000000):val (numL n)=n/\(numL n).length<=2/\∀x∈numL n,x<1000000000:=by
 unfold numL;by_cases h0:n=0
 ·rw[Ki h0];subst h0;exact⟨rfl,by simp,by simp⟩
 ·rw[Kj h0];by_cases h1:n<1000000000
  ·rw[Ki h1];exact⟨by simp[val],by simp,by simpa using h1⟩
  ·rw[Kj h1];exact⟨by simp[val];omega,by simp,by simp⟩
theorem jtL {x y:Nat}(hx:x<=1000000000)(hy:y<=1000000000):cmpL (numL x) (numL y)<0↔x<y:=by
 unfold numL;by_cases x0:x=0
 ·rw[Ki x0];by_cases y0:y=0
  ·rw[Ki y0];subst x0 y0;decide
  ·rw[Kj y0];by_cases y1:y<1000000000
   ·rw[Ki y1];simp[cmpL,cmpI];omega
   ·rw[Kj y1];simp[cmpL,cmpI];omega
 ·rw [Kj x0];by_cases x1:x<1000000000
  ·rw [Ki x1];by_cases y0:y=0
   ·rw[Ki y0];simp[cmpL,cmpI];omega
   ·rw[Kj y0];by_cases y1:y<1000000000
    ·rw[Ki y1];by_cases e:x=y
     ·subst e;simp[cmpL,cmpT]
     ·simp only[cmpL,K0,K6,Ku,cmpT,Vk,Kj e,cmpI];by_cases h:x<y
      ·rw[Ki (by omega)];omega
      ·rw[Kj (by omega),Ki (by omega)];omega
    ·rw[Kj y1];simp[cmpL,cmpI];omega
  ·rw[Kj x1];by_cases y0:y=0
   ·rw[Ki y0];simp[cmpL,cmpI];omega
   ·rw[Kj y0];by_cases y1:y<1000000000
    ·rw[Ki y1];simp[cmpL,cmpI];omega
    ·rw[Kj y1];have h1:¬x<y:=by omega
     simp[cmpL,cmpT,h1]
def KD(x y:Nat)(w:V):Prop:=∃q r ql,w=.tup [q,r]/\IsL q ql/\ql.length<=2/\(∀e∈ql,e<1000000000)/\IsL r (numL (x % y))
theorem jmA {u v:V}{x y:Nat}(hu:IsL u (numL x))(hv:IsL v (numL y))(hx:x<=1000000000)(hy:y<=1000000000)(h1:1<=y)(hxy:¬(x=1000000000/\y=1000000000)) :
  ∃w,KD x y w/\∀O,jas env (ev env) 140 [u,v] O=some (w,O):=by
 obtain⟨vx,lx,bx⟩:=jmz hx;obtain⟨vy,ly,by'⟩:=jmz hy;have hcmp:=jvj hu hv (by omega);refine jbN rfl rfl (by simp[jcG hu,jcG hv]) jAI rfl (by simp[Tryz.f140]) (U4 rfl) _ (jar ?_);by_cases hlt:x<y
 ·have c1:(cmpL (numL x) (numL y)<0)=True:=eq_true ((jtL hx hy).2 hlt);simp only[Tryz.f140,Ka,simprocAttr,Uy,Ke,U2,hcmp,c1];refine⟨.tup [.nilsl,u],?_,.nilsl,u,[],rfl,.inl ⟨rfl,rfl⟩,by simp,by simp,by rw[Xk hlt];exact hu⟩;simp only[jaW,jay,ja7,jaA,jaF,jha,jlP hu,Kn,Kx]
 ·have c1:(cmpL (numL x) (numL y)<0)=False:=eq_false (λh=>hlt ((jtL hx hy).1 h));have hy1:y<1000000000:=by omega
  have ey:numL y=[y]:=by unfold numL;rw[Kj (by omega),Ki hy1]
  rw[ey]at hv;have hlen:=jkS hv;obtain⟨p,p1,p2⟩:=hv.at 0 (by simp);have p1':jaJ 1 v (.int .i64 0)=some p:=p1;have p2':∀H:List AObj,(jai H 1 p).bind (·[0]?)=some (.int .u64 y):=p2;obtain⟨w0,⟨w,q,rfl,k1,k2,k3⟩,hsm⟩:=jfp hu (by intro e;rw[e]at vx;simp[val]at vx;omega) (by omega) bx h1 hy1;rw[vx]at hsm;have hm:=J8 x h1;obtain⟨z,z1,z2⟩:=jtJ (x % y) (by omega);have c2:(((1:Nat):Int)=1)=True:=eq_true rfl;simp only[Tryz.f140,Ka,simprocAttr,Uy,Ke,U2,hcmp,c1,hlen,c2,p1',p2',jhm,hsm,z2];refine⟨.tup [w,z],?_,w,z,q,rfl,k1,by omega,k3,by rw[<- jyY (by omega)];exact z1⟩;simp only[jaW,jay,ja7,jaA,jaF,jlP k1,jlP z1,Kn,Kx]
def KG(x y:Nat)(w:V):Prop:=IsL w (numL (Nat.gcd x y))
theorem jvk {u v:V}{x y:Nat}(hu:IsL u (numL x))(hv:IsL v (numL y))(hx:x<=1000000000)(hy:y<=1000000000)(hxy:¬(x=1000000000/\y=1000000000)) :
  ∃w,KG x y w/\∀O,jas env (ev env) 139 [u,v] O=some (w,O):=by
 refine jbN rfl rfl (by simp[jcG hu,jcG hv]) jAH rfl (by simp[Tryz.f139]) (U4 rfl) _ (jar ?_);simp only[Tryz.f139,Ka,simprocAttr,Uy,Ke,U2];refine jbo (λm T D O=>D=[]/\O=⟨[],[]⟩/\∃a b:Nat,m=b/\IsL (T 0) (numL a)/\IsL (T 1) (numL b)/\a<=1000000000/\b<=1000000000/\¬(a=1000000000/\b=1000000000)/\Nat.gcd a b=Nat.gcd x y) ?_ y _ _ _ ⟨rfl,rfl,x,y,rfl,hu,hv,hx,hy,hxy,rfl⟩;clear hu hv hx hy hxy;rintro m T D O ⟨rfl,rfl,a,b,hm,ha,hb,ha1,hb1,hab,hg⟩;subst m;generalize hT0:T 0=u at ha;generalize hT1:T 1=v at hb;refine jar ?_;have hlen:=jkS hb;by_cases h0:b=0
 ·subst h0;have c0:((0:Int)<((numL 0).length:Int))=False:=eq_false (by simp[numL]);simp only[Ka,simprocAttr,Uy,Ke,Vq,hT0,hT1,hlen,c0];refine⟨u,?_,?_⟩
  ·simp only[jaW,jay,jlP ha]
  ·unfold KG;rw[<- hg,Nat.gcd_zero_right];exact ha
 ·have hl:0<(numL b).length:=by
   unfold numL;rw[Kj h0];split<;>simp
  have c0:((0:Int)<((numL b).length:Int))=True:=eq_true (by omega);obtain⟨w,⟨q,r,ql,rfl,q1,q2,q3,q4⟩,hd⟩:=jmA ha hb ha1 hb1 (by omega) hab;have hm:=J8 a (show 0<b by omega);simp only[Ka,simprocAttr,Uy,Ke,Vq,hT0,hT1,hlen,c0,hd];exact⟨a % b,hm,b,a % b,rfl,hb,q4,hb1,by omega,by omega,by rw[<- hg,Nat.gcd_comm b,<- Nat.gcd_rec,Nat.gcd_comm]⟩
theorem at98:env.P.funcs[98]? = some Tryz.f98:=by kernel_rfl
theorem at99:env.P.funcs[99]? = some Tryz.f99:=by kernel_rfl
theorem jAJ:env.P.funcs[134]? = some Tryz.f134:=by kernel_rfl
theorem jAK:env.P.funcs[135]? = some Tryz.f135:=by kernel_rfl
theorem jAL:env.P.funcs[167]? = some Tryz.f167:=by kernel_rfl
theorem jAM:env.P.funcs[168]? = some Tryz.f168:=by kernel_rfl
theorem jAN:env.P.funcs[194]? = some Tryz.f194:=by kernel_rfl
theorem jAO:env.P.funcs[198]? = some Tryz.f198:=by kernel_rfl
theorem jAP:env.P.funcs[199]? = some Tryz.f199:=by kernel_rfl
theorem jAQ:env.P.funcs[218]? = some Tryz.f218:=by kernel_rfl
theorem u204:env.P.underlying 204=some (.array 256 4):=by kernel_rfl
theorem s4:sz env 4=some 1:=by kernel_rfl
theorem jyZ(c:UInt8):A.setC[c.toNat]? = some (.bool (Nat.ble 48 c.toNat && Nat.ble c.toNat 57)):=by
 have h:c.toNat<256:=c.toNat_lt;unfold A.setC;rw[Jy,List.getElem?_range h];rfl
theorem jqO(L:List AObj)(ts:List Nat)(b:Nat)(hb:L[b]? = some (.cells A.setC 204))(c:UInt8):jas env (ev env) 218 [.ptr b 0,.int .u8 c.toNat] ⟨L,ts⟩=some (.bool (Nat.ble 48 c.toNat && Nat.ble c.toNat 57),⟨L,ts⟩):=by
 refine jbk rfl rfl jAQ rfl (by simp[Tryz.f218]) (U4 rfl) (jar ?_);have h:c.toNat<256:=c.toNat_lt
 have ix:idxO (env.P.underlying 204) (sz env) (some (.ptr b 0)) (some (.int .u8 c.toNat))=some (.ptr b c.toNat):=by
  rw[u204];simp[idxO,s4,jdv];omega
 have ld:jbi env L 4 (.ptr b c.toNat)=some (.bool (Nat.ble 48 c.toNat && Nat.ble c.toNat 57)):=by
  rw[al4,YA,hb,YB,jyZ]
 simp only[Tryz.f218,Ka,simprocAttr,Uy,Ke,Vq,jaa,jae,ix,ld,jaW]
theorem jqP(w:List UInt8)(k:Nat)(h:k<=w.length):jb0 env 9 (.str w) none (some (.int .i64 (k:Int))) none=some (.str (w.take k)):=by
 simp[jb0,u9,jcT,jbl,h]
theorem jqQ(w:List UInt8)(k:Nat)(h:k<=w.length):jb0 env 9 (.str w) (some (.int .i64 (k:Int))) none none=some (.str (w.drop k)):=by
 simp[jb0,u9,jcT,jbl,h];exact Qi (by simp)
theorem jrx(L:List AObj)(ts:List Nat)(b:Nat)(hb:L[b]? = some (.cells A.setC 204))(s:List UInt8)(hl:s.length<=2^30):∃w,jas env (ev env) 199 [.str s,.ptr b 0] ⟨L,ts⟩=some (.str w,⟨L,ts⟩)/\w.length<=s.length:=by
 obtain⟨v',O',h1,rfl,w,rfl,h2⟩:=jcv (E:=env) (f:=199) (args:=[.str s,.ptr b 0]) (O:=⟨L,ts⟩) (k:=λv' O'=>O'=⟨L,ts⟩/\∃w,v'=.str w/\w.length<=s.length) rfl rfl jAP rfl (by simp[Tryz.f199]) (U4 rfl) (jar (by
  simp only[Tryz.f199,Ka,simprocAttr,Uy,Ke,Vq];refine jbo (λm T D O=>D=[]/\O=⟨L,ts⟩/\T 1=.ptr b 0/\∃w:List UInt8,T 0=.str w/\m=w.length/\w.length<=s.length) ?_ s.length _ _ _ ⟨rfl,rfl,rfl,s,rfl,rfl,Kw _⟩;rintro m T D O ⟨rfl,rfl,t1,w,t0,hm,hw⟩;subst m;refine jar ?_;by_cases h0:0<w.length
  ·have c0:((0:Int)<(w.length:Int))=True:=eq_true (by omega);have e1:IntKind.i64.wrap ((w.length:Int)-1)=((w.length-1:Nat):Int):=by rw[wrap_i64 (by omega) (by omega)];omega
   have c2:((0:Int)<=((w.length-1:Nat):Int)/\((w.length-1:Nat):Int)<(w.length:Int))=True:=eq_true (by omega);have hc:=jqO L ts b hb (w.getD (w.length-1) 0);have sl:=jqP w (w.length-1) (by omega);cases hB:(Nat.ble 48 (w.getD (w.length-1) 0).toNat && Nat.ble (w.getD (w.length-1) 0).toNat 57)
   ·rw[hB]at hc;simp only[Ka,simprocAttr,Uy,Ke,Vq,t0,t1,jaL,c0,e1,jaG,jaE u9,c2,hc];exact⟨w,rfl,hw⟩
   ·rw[hB]at hc;simp only[Ka,simprocAttr,Uy,Ke,Vq,t0,t1,jaL,c0,e1,jaG,jaE u9,c2,hc,jbb,jbc,jbg,sl];exact⟨w.length-1,by omega,_,rfl,by rw[K9];omega,by rw[K9];omega⟩
  ·have c0:((0:Int)<(w.length:Int))=False:=eq_false (by omega);simp only[Ka,simprocAttr,Uy,Ke,Vq,t0,t1,jaL,c0];exact⟨w,rfl,hw⟩))
 exact⟨w,h1,h2⟩
theorem jtM(L:List AObj)(ts:List Nat)(b:Nat)(hb:L[b]? = some (.cells A.setC 204))(s:List UInt8)(hl:s.length<=2^30):∃w,jas env (ev env) 198 [.str s,.ptr b 0] ⟨L,ts⟩=some (.str w,⟨L,ts⟩):=by
 obtain⟨v',O',h1,rfl,w,rfl⟩:=jcv (E:=env) (f:=198) (args:=[.str s,.ptr b 0]) (O:=⟨L,ts⟩) (k:=λv' O'=>O'=⟨L,ts⟩/\∃w,v'=.str w) rfl rfl jAO rfl (by simp[Tryz.f198]) (U4 rfl) (jar (by
  simp only[Tryz.f198,Ka,simprocAttr,Uy,Ke,Vq];refine jbo (λm T D O=>D=[]/\O=⟨L,ts⟩/\T 1=.ptr b 0/\∃w:List UInt8,T 0=.str w/\m=w.length) ?_ s.length _ _ _ ⟨rfl,rfl,rfl,s,rfl,rfl⟩;rintro m T D O ⟨rfl,rfl,t1,w,t0,hm⟩;subst m;refine jar ?_;by_cases h0:0<w.length
  ·have c0:((0:Int)<(w.length:Int))=True:=eq_true (by omega);have hc:=jqO L ts b hb (w.getD 0 0);have sl:=jqQ w 1 (by omega);have sl1:jb0 env 9 (.str w) (some (.int .i64 1)) none none=some (.str (w.drop 1)):=sl;cases hB:(Nat.ble 48 (w.getD 0 0).toNat && Nat.ble (w.getD 0 0).toNat 57)
   ·rw[hB]at hc;simp only[Ka,simprocAttr,Uy,Ke,Vq,t0,t1,jaL,c0,jaG,jaE u9,hc];exact⟨w,rfl⟩
   ·rw[hB]at hc;simp only[Ka,simprocAttr,Uy,Ke,Vq,t0,t1,jaL,c0,jaG,jaE u9,hc,jbb,jbc,jbg,sl1];exact⟨w.length-1,by omega,_,rfl,by rw[Qo]⟩
  ·have c0:((0:Int)<(w.length:Int))=False:=eq_false (by omega);simp only[Ka,simprocAttr,Uy,Ke,Vq,t0,t1,jaL,c0];exact⟨w,rfl⟩))
 exact⟨w,h1⟩
theorem jvl:A.setC.length=256:=by kernel_rfl
theorem jtN:A.setC.all V.isCell=true:=by kernel_rfl
theorem z204:jbG env 204=some (.agg (List.replicate 256 (.bool false))):=by kernel_rfl
theorem jmB(T:Tm):jaK env T (.const (.string ⟨(48::49::50::51::52::53::54::55::56::57::[]).toArray⟩))=some (.str A.dgsS):=rfl
theorem jy0:(A.dgsS=[])=False:=eq_false (by decide)
theorem jxl:A.dgsS.length=10:=rfl
theorem jry:(V.agg A.setC).cells=A.setC:=rfl
theorem s204:sz env 204=some 256:=by kernel_rfl
theorem jy1:List.drop 256 (List.replicate 256 (V.bool false))=[]:=by simp
theorem jAR:(List.replicate 256 (V.bool false)).length=256:=by simp
theorem jvm(s:List UInt8)(hl:s.length<=2^30):∃v,(∃w,v=.str w)/\∀O,jas env (ev env) 168 [.str s,.str A.dgsS] O=some (v,O):=by
 refine jbN rfl rfl rfl jAM rfl (by simp[Tryz.f168]) (U4 rfl) _ (jar ?_);by_cases h:s=[]
 ·have c1:=eq_true h;simp only[Tryz.f168,Ka,simprocAttr,Uy,Ke,U2,jac,c1];exact⟨_,rfl,s,rfl⟩
 ·have c1:=eq_false h;obtain⟨w,h1,h2⟩:=jrx [.cells A.setC 204] [] 0 rfl s hl;obtain⟨x,h3⟩:=jtM [.cells A.setC 204] [] 0 rfl w (by omega);simp only[Tryz.f168,Ka,simprocAttr,Uy,Ke,Uz,jab,jap,jac,c1,jy0,jaL,jxl,jvg,z204,jry,s204,jvl,jtN,jy1,jAR,h1,h3];exact⟨_,rfl,x,rfl⟩
theorem jn5(s:List UInt8)(hl:s.length<=2^30):∃v,(∃b,v=.bool b)/\∀O,jas env (ev env) 135 [.str s] O=some (v,O):=by
 obtain⟨_,⟨w,rfl⟩,ht⟩:=jvm s hl;refine jbN rfl rfl rfl jAK rfl (by simp[Tryz.f135]) (U4 rfl) _ (jar ?_);by_cases h:s=[]
 ·have c1:=eq_true h;simp only[Tryz.f135,Ka,simprocAttr,Uy,Ke,U2,jac,jad,c1];exact⟨_,rfl,_,rfl⟩
 ·have c1:=eq_false h;have hp:0<s.length:=by cases s with|nil=>exact absurd rfl h|cons a r=>simp
  have c0:((0:Int)<(s.length:Int))=True:=eq_true (by omega);by_cases h2:s=[48]
  ·have c2:=eq_true h2;simp only[Tryz.f135,Ka,simprocAttr,Uy,Ke,Vq,↓jmB,jap,jac,jad,c1,c2,ht];exact⟨_,rfl,_,rfl⟩
  ·have c2:=eq_false h2;by_cases h3:((s.getD 0 0).toNat:Int)=48
   ·have c3:=eq_true h3;simp only[Tryz.f135,Ka,simprocAttr,Uy,Ke,Vq,↓jmB,jap,jac,jad,c1,c2,jaG,jaE u9,c0,c3];exact⟨_,rfl,_,rfl⟩
   ·have c3:=eq_false h3;simp only[Tryz.f135,Ka,simprocAttr,Uy,Ke,Vq,↓jmB,jap,jac,jad,c1,c2,jaG,jaE u9,c0,c3,ht];exact⟨_,rfl,_,rfl⟩
theorem jiM(s:List UInt8)(hl:s.length<=2^30):∃v,(∃e,v=.int .i64 e)/\∀O,jas env (ev env) 99 [.str s] O=some (v,O):=by
 obtain⟨_,⟨b,rfl⟩,hf⟩:=jn5 s hl;refine jbN rfl rfl rfl at99 rfl (by simp[Tryz.f99]) (U4 rfl) _ (jar ?_);cases b
 ·simp only[Tryz.f99,Ka,simprocAttr,Uy,Ke,U2,hf];exact⟨_,rfl,_,rfl⟩
 ·by_cases h:(4000:Int)<(s.length:Int)
  ·have c:=eq_true h;simp only[Tryz.f99,Ka,simprocAttr,Uy,Ke,U2,hf,jaL,c];exact⟨_,rfl,_,rfl⟩
  ·have c:=eq_false h;simp only[Tryz.f99,Ka,simprocAttr,Uy,Ke,U2,hf,jaL,c];exact⟨_,rfl,_,rfl⟩
theorem jtO(s:List UInt8)(hs:s ≠ [])(h45:s.getD 0 0 ≠ 45)(O:S):jas env (ev env) 194 [.str s,.str [45]] O=some (.bool false,O):=by
 refine jau rfl rfl rfl jAN rfl (by simp[Tryz.f194]) (U4 rfl) (jar ?_) O;have hp:1<=s.length:=by cases s with|nil=>exact absurd rfl hs|cons a r=>simp
 have c0:((1:Int)<=(s.length:Int))=True:=eq_true (by omega);have sl:jb0 env 9 (.str s) none (some (.int .i64 1)) none=some (.str (s.take 1)):=jqP s 1 hp
 have c1:(s.take 1=[45])=False:=eq_false (by
  cases s with
  |nil=>exact absurd rfl hs
  |cons a r=>intro h;simp at h h45;exact h45 h)
 simp only[Tryz.f194,Ka,simprocAttr,Uy,Ke,U2,jaL,c0,jbb,jbc,jbg,sl,jac,c1];rfl
theorem jvn(s:List UInt8)(hs:s ≠ [])(h45:s.getD 0 0 ≠ 45)(O:S):jas env (ev env) 134 [.str s,.str [45]] O=some (.tup [.str s,.bool false],O):=by
 have h1:∀O,jas env (ev env) 167 [.str s,.str [45]] O=some (.tup [.str s,.bool false],O):=λO=>by
  refine jau rfl rfl rfl jAL rfl (by simp[Tryz.f167]) (U4 rfl) (jar ?_) O;simp only[Tryz.f167,Ka,simprocAttr,Uy,Ke,U2,jtO s hs h45];rfl
 refine jau rfl rfl rfl jAJ rfl (by simp[Tryz.f134]) (U4 rfl) (jar ?_) O;simp only[Tryz.f134,Ka,simprocAttr,Uy,Ke,U2,h1];rfl
theorem jn6(s:List UInt8)(hs:s ≠ [])(h45:s.getD 0 0 ≠ 45)(hl:s.length<=2^30):∃v,(∃b,v=.tup [.bool false,.str s,.bool b])/\∀O,jas env (ev env) 98 [.str s] O=some (v,O):=by
 obtain⟨_,⟨b,rfl⟩,hf⟩:=jn5 s hl;have hc:=jvn s hs h45;refine jbN rfl rfl rfl at98 rfl (by simp[Tryz.f98]) (U4 rfl) _ (jar ?_);cases b
 ·simp only[Tryz.f98,Ka,simprocAttr,Uy,Ke,U2,hf,hc];exact⟨_,rfl,_,rfl⟩
 ·simp only[Tryz.f98,Ka,simprocAttr,Uy,Ke,U2,hf,hc];exact⟨_,rfl,_,rfl⟩
open Go.Proofs.YtpclebdkhpapjaaGreatDoor.T (IsDg decV jqB)
theorem jAS:env.P.funcs[101]? = some Tryz.f101:=by kernel_rfl
def jeb:Nat->List UInt8->List Nat->List Nat
 |0,_,acc=>acc
 |f+1,s,acc=>if s=[]then acc else jeb f (s.take (s.length-9)) (acc++[decV 0 (s.drop (s.length-9))])
theorem jlQ:∀(f:Nat) (s:List UInt8) (acc:List Nat),(jeb f s acc).length<=acc.length+s.length
 |0,s,acc=>by unfold jeb;omega
 | f+1,s,acc=>by
  unfold jeb;by_cases h:s=[]
  ·rw[Ki h];omega
  ·rw[Kj h];have h1:0<s.length:=by cases s with|nil=>exact absurd rfl h|cons a r=>simp
   have:=jlQ f (s.take (s.length-9)) (acc++[decV 0 (s.drop (s.length-9))]);rw[Kr,Xp,K9]at this;omega
theorem jy2:Elt env 124 159 1 8:=⟨e124,s159,b159,by kernel_rfl,u124⟩
theorem jrz {base w n:Nat}{ts:List Nat}{v:V}{cs:List V}(g:GrowV base ts w v n cs):(v=.nilsl/\n=0)\/∃q,v=.row cs n q:=by
 cases g with
 |nil=>exact .inl ⟨rfl,rfl⟩
 |full _ _ hl=>exact .inr ⟨_,rfl⟩
 |tok _ _ k e hl hb ht=>exact .inr ⟨_,rfl⟩
theorem jxm {base n:Nat}{ts:List Nat}{v:V}{l:List Nat}(g:GrowV base ts 1 v n (lc l))(H:List AObj):Sl H v l:=by
 have hn:=g.lens;rw[jqM,Qm]at hn;subst hn
 rcases jrz g with⟨rfl,h⟩|⟨q,rfl⟩
 ·exact .inl ⟨rfl,Qh h⟩
 ·exact .inr (.inl ⟨[],q,by rw[Qx]⟩)
theorem jy3(a b:List Nat):lc (a++b)=lc a++lc b:=by simp[lc]
theorem jwn(s:List UInt8)(hd:∀i,i<s.length->IsDg (s.getD i 0))(hl:s.length<=18):decV 0 s<1000000000000000000:=by
 have:=T.dec_small s hd hl s.length (Kw _);rwa[J4]at this
theorem jy4(w:List UInt8)(i k:Nat)(h:k<=w.length)(hi:i<=k):jb0 env 9 (.str w) (some (.int .i64 (i:Int))) (some (.int .i64 (k:Int))) none=some (.str ((w.take k).drop i)):=by
 have h1:((i:Nat):Int)<=(k:Int):=by omega
 simp[jb0,u9,jcT,jbl,h,hi,List.drop_take]
theorem jrA(s:List UInt8)(hd:∀i,i<s.length->IsDg (s.getD i 0))(hl:s.length<=2^30):∃v,(∃r,IsL v r/\jqN (jeb s.length s []) r)/\∀O,jas env (ev env) 101 [.str s] O=some (v,O):=by
 refine jbN rfl rfl rfl jAS rfl (by simp[Tryz.f101]) (U4 rfl) _ (jar ?_);simp only[Tryz.f101,Ka,simprocAttr,Uy,Ke,U2,jaL];generalize hfin:jeb s.length s []=fin
 have hfl:fin.length<=2^30:=by
  have:=jlQ s.length s [];rw[hfin]at this;simp only[K6]at this;omega
 refine jbo (λm T D O=>D=[]/\T 0=.str s/\∃(e:Nat) (x:Int) (acc:List Nat) (fuel:Nat),m=e/\T 4=.int .i64 x/\x<=e/\(x<e->x<=0/\e=0) /\ -9<=x/\e<=s.length/\acc.length<=s.length-e/\e<=fuel/\jeb fuel (s.take e) acc=fin/\O.heap=[]/\GrowV 0 O.toks 1 (T 3) acc.length (lc acc)) ?_ s.length _ _ _
  ⟨rfl,rfl,s.length,s.length,[],s.length,rfl,rfl,Int.le_refl _,λh=>absurd h (by omega),by omega,Kw _,by simp,Kw _,by rw[J4];exact hfin,rfl,.nil⟩
 rintro m T D ⟨H,ts⟩ ⟨rfl,t0,e,x,acc,fuel,hm,t4,hx1,hx2,hx3,he,hal,hef,hf,hH,hg⟩;subst m;simp only at hH hg;subst hH;refine jar ?_;generalize ht3:T 3=w at hg;by_cases h0:0<e
 ·have hxe:x=e:=by omega
  subst hxe;have c0:((0:Int)<(e:Int))=True:=eq_true (by omega);have e1:IntKind.i64.wrap ((e:Int)-9)=(e:Int)-9:=wrap_i64 (by omega) (by omega);have hmax:(if(e:Int)-9>0 then(e:Int)-9 else 0)=((e-9:Nat):Int):=by split<;>omega
  have hsl:=jy4 s (e-9) e he (by omega);generalize hc:(s.take e).drop (e-9)=ch at hsl;have hlen:ch.length=e-(e-9):=by rw[<- hc,Qo,K9];omega
  have hdc:∀i,i<ch.length->IsDg (ch.getD i 0):=by
   intro i hi
   have:ch.getD i 0=s.getD (e-9+i) 0:=by
    rw[<- hc];simp only[List.getD,Jo,Q4];rw[Ki (by omega)]
   rw[this];exact hd _ (by omega)
  have hdl:=jwn ch hdc (by omega);have hu:=jqB ch hdc (by intro h;rw[h]at hlen;simp at hlen;omega) (by omega) (by omega);have hcall:=λO=>jtF hu (ev env) O
  obtain⟨f,rfl⟩:∃f,fuel=f+1:=⟨fuel-1,by omega⟩;have hlt:(s.take e).length=e:=by rw[K9];omega
  have hne:¬s.take e=[]:=by intro h;rw[h]at hlt;simp at hlt;omega
  rw[show jeb (f+1) (s.take e) acc=if s.take e=[]then acc else jeb f ((s.take e).take ((s.take e).length-9)) (acc++[decV 0 ((s.take e).drop ((s.take e).length-9))])from rfl,Kj hne,hlt,hc,Vw,J1 (by omega)]at hf;have hlim:(lim:Nat)=2^40:=rfl;obtain⟨v',ts',a1,a2,a3⟩:=GrowV.push (E:=env) (hp:=[]) (q:=.full) (new:=[.int .u64 (decV 0 ch)]) (t2:=124) jy2 ⟨159,u124⟩ hg (Qk _) rfl rfl ⟨by rw[hlim];omega,by rw[hlim];omega⟩;simp only[Ka,simprocAttr,Uy,Ke,Vq,t0,t4,ht3,c0,e1,hmax,jbb,jbc,jbg,hsl,hcall,jag,jwl,a1];refine⟨e-9,by omega,e-9,(e:Int)-9,acc++[decV 0 ch],f,rfl,rfl,by omega,λh=>by omega,by omega,by omega,?_,by omega,hf,?_⟩
  ·rw[Kr,Xp];omega
  ·rw[Kr,Xp,jy3];exact a2
 ·have he0:e=0:=by omega
  subst he0;have c0:((0:Int)<x)=False:=eq_false (by omega)
  have hfa:acc=fin:=by
   rw[Jl]at hf;cases fuel with
   |zero=>exact hf
   |succ f=>exact hf
  subst hfa;obtain⟨v',r,t1,t2,t5⟩:=jn4 (ts:=ts) (jxm hg []) (by omega);obtain⟨u,s1,s2⟩:=jtH t2 (λb cs t h=>h) 10;simp only[Ka,simprocAttr,Uy,Ke,Vq,t0,t4,ht3,c0,t1];exact⟨u,s1,r,s2,t5⟩
open Go.Proofs.YtpclebdkhpapjaaGreatDoor.T (asgR bodR rngC jeD Bld juQ Stay jh0 jkp z110)
theorem jAT:env.P.funcs[143]? = some Tryz.f143:=by kernel_rfl
theorem jAU:env.P.funcs[144]? = some Tryz.f144:=by kernel_rfl
theorem jAV:env.P.funcs[102]? = some Tryz.f102:=by kernel_rfl
theorem jfN(n:Nat)(hn:n<1000000000):∃s,(∀O,jas env (ev env) 177 [.int .u64 n,.int .i64 10] O=some (.str s,O))/\s.length<=9:=by
 obtain⟨s,h1,h2,h3,h4,h5,h6⟩:=I.sfuint_call n (by omega);refine⟨s,λO=>jvf h1 (ev env) O,?_⟩;by_cases h:s.length<=9
 ·exact h
 ·have:=h6 (by omega);have h7:=Xe (n:=10) (by decide) (show 9<=s.length-1 by omega);omega
theorem jdR {v:V}{l:List Nat}(hv:IsL v l)(hB:∀x∈l,x<1000000000)(hl:l.length<=2^30):∃u,(∃n,u=.int .i64 n)/\∀O,jas env (ev env) 143 [v] O=some (u,O):=by
 have hlen:=jkS hv;refine jbN rfl rfl (by simp[jcG hv]) jAT rfl (by simp[Tryz.f143]) (U4 rfl) _ (jar ?_);by_cases h:(l.length:Int)=0
 ·have c1:=eq_true h;simp only[Tryz.f143,Ka,simprocAttr,Uy,Ke,U2,hlen,c1];exact⟨_,rfl,_,rfl⟩
 ·have c1:=eq_false h;have e1:IntKind.i64.wrap ((l.length:Int)-1)=((l.length-1:Nat):Int):=by rw[wrap_i64 (by omega) (by omega)];omega
  obtain⟨p,p1,p2⟩:=hv.at (l.length-1) (by omega)
  have hx:l.getD (l.length-1) 0<1000000000:=by
   have:l.getD (l.length-1) 0=l[l.length-1]'(by omega):=by simp[List.getD,show l.length-1<l.length by omega]
   rw[this];exact hB _ (J3 _)
  obtain⟨s,hs,_⟩:=jfN _ hx;simp only[Tryz.f143,Ka,simprocAttr,Uy,Ke,U2,hlen,c1,e1,p1,p2,jhm,hs,jaL];exact⟨_,rfl,_,rfl⟩
theorem IsL.cut {v:V}{l:List Nat}(h:IsL v l)(k:Nat)(hk:k<=l.length):∃v',jb0 env 124 v none (some (.int .i64 k)) none=some v'/\IsL v' (l.take k):=by
 have hlt:(l.take k).length=k:=by rw[K9];omega
 rcases h with⟨rfl,rfl⟩|⟨z,rfl⟩
 ·have:k=0:=by simpa using hk
  subst this;exact⟨.nilsl,by simp[jb0,u124,s159,jcT,jbl],.inl ⟨rfl,rfl⟩⟩
 ·have e:lc (l.take k)=(lc (l++z)).take k:=by
   simp only[lc,<- List.map_take];rw[Vu hk]
  have h5:((k:Nat):Int)<=(l.length:Int):=by omega
  refine⟨.row (lc (l.take k++[])) (l.take k).length .unk,?_,.inr ⟨[],rfl⟩⟩;rw[hlt,Qx,e];simp[jb0,u124,s159,jcT,jbl,h5,hk,jhq]
def jja:List UInt8:=[48,48,48,48,48,48,48,48,48]
theorem jvo(T:Tm):jaK env T (.const (.string ⟨(48::48::48::48::48::48::48::48::48::[]).toArray⟩))=some (.str jja):=rfl
structure P144 (u:V) (n b:Nat) (lo:AObj) (i:Nat) (O:S):Prop where
 bld:∃s,Bld O 0 s/\s.length+20*i<=20*n
 box:O.heap[b]? = some (.cells [u] 124)
 dfd:O.heap[b+1]? = some (.defd true)
 lop:O.heap[b+2]? = some lo
theorem jvp(u:V):Stay (.cells [u] 124):=by
 constructor<;>intro c h<;>injection h with _ h2<;>exact absurd h2 (by decide)
theorem jqR(x:Bool):Stay (.defd x):=⟨λ_ h=>(by cases h),λ_ h=>(by cases h)⟩
theorem jkB(st:LoopState)(pe:Option Code)(fn:FuncId)(ts:List V)(ps:Array Tmp)(a b:Code)(d:Nat):Stay (.loop st pe fn ts ps a b d):=⟨λ_ h=>(by cases h),λ_ h=>(by cases h)⟩
theorem jpw {L:List AObj}{ts:List Nat}{p:Nat}{s:List UInt8}(h:Bld ⟨L,ts⟩ p s){q:Nat}{o:AObj}(ho:Stay o)(hq:L[q]? = some o)(o':AObj):Bld ⟨L.set q o',ts⟩ p s:=by
 obtain⟨a,v,hp,ha,hb⟩:=h;simp only at hp hb;have h1:q ≠ p:=by rintro rfl;rw[hp]at hq;cases hq;exact ho.1 _ rfl
 refine⟨a,v,by simp only;rw[Kk h1];exact hp,ha,?_⟩
 rcases hb with h|⟨b,h2,h3,h4⟩
 ·exact .inl h
 ·have h5:q ≠ b:=by rintro rfl;rw[h3]at hq;cases hq;exact ho.2 _ rfl
  exact .inr ⟨b,h2,by simp only;rw[Kk h5];exact h3,h4⟩
theorem jxn {L:List AObj}{ts:List Nat}{p:Nat}{s:List UInt8}(h:Bld ⟨L,ts⟩ p s)(M:List AObj):Bld ⟨L++M,ts⟩ p s:=by
 obtain⟨a,v,hp,ha,hb⟩:=h;refine⟨a,v,jbX hp M,ha,?_⟩
 rcases hb with h|⟨b,h2,h3,h4⟩
 ·exact .inl h
 ·exact .inr ⟨b,h2,jbX h3 M,h4⟩
theorem jtP {u:V}{l:List Nat}{b:Nat}(hB:∀x∈l,x<1000000000)(hl:l.length<=2^20){T:Tm}{tmps:List V}{lo:AObj}{n:Nat}(hn:n<=2^20)(hr:Rep 35 T tmps)
  (hlo:lo=.loop .ready none 144 tmps #[24,25] (asgR (jaz Tryz.f144)) (bodR (jaz Tryz.f144)) (b+1)) (t3:T 3=.ptr 0 0) (i:Nat) (O:S) (hi:i<l.length) (hP:P144 u n b lo (i+1) O) :
  ∃O',jdt env (ev env) (.yld (b+2)) [.int .i64 i,.int .u64 (l.getD i 0)] O=some (.bool true,O')/\P144 u n b lo i O':=by
 obtain⟨L,ts⟩:=O;obtain⟨⟨s,hb,hs⟩,p1,p2,p3⟩:=hP;simp only at p1 p2 p3;refine jgI hlo p3 hr rfl (by simp) ?_;intro lb hlb
 have hx:l.getD i 0<1000000000:=by
  have:l.getD i 0=l[i]:=by simp[List.getD,hi]
  rw[this];exact hB _ (J3 _)
 obtain⟨w,hf,hw⟩:=jfN _ hx;have slo:Stay lo:=by rw[hlo];exact jkB ..
 have slb:Stay lb:=by rw[hlb];exact jkB ..
 clear hlb hlo hr;have hlt:=jaT p3;have hb1:=jpw hb slo p3 lb;obtain⟨L1,c1,b1,k1⟩:=jh0 (L.set (b+2) lb) ts 0 s (jja.drop w.length) hb1 (by simp[jja];omega);obtain⟨L2,c2,b2,k2⟩:=jh0 L1 ts 0 _ w b1 (by simp[jja];omega);have hk:∀(q:Nat) (o:AObj),Stay o->(L.set (b+2) lb)[q]? = some o->L2[q]? = some o:=λq o ho hq=>k2 q o ho (k1 q o ho hq)
 have q0:L2[b+2]? = some lb:=hk _ _ slb (Kl hlt);have q1:L2[b]? = some (.cells [u] 124):=hk _ _ (jvp u) (by rw[Kk (by omega)];exact p1);have q2:L2[b+1]? = some (.defd true):=hk _ _ (jqR true) (by rw[Kk (by omega)];exact p2);have hlt2:=jaT q0;have sl:=jqQ jja w.length (by simp[jja];exact hw);have d1:=λO=>jps (ev env) [.ptr 0 0,.str (jja.drop w.length)] O
 have d2:=λO=>jps (ev env) [.ptr 0 0,.str w] O
 refine jar ?_;simp only[asgR,bodR,rngC,jaz,Tryz.f144,Kv,Option.or];simp only[Ka,simprocAttr,Uy,Ke,Uz,jab,↓jvo,Xm,X8,t3,p3,hf,jaL,jbb,jbc,jbg,sl,d1,d2,c1,c2];refine⟨q0,⟨_,jpw b2 slb q0 lo,?_⟩,?_,?_,?_⟩
 ·simp[jja];omega
 ·simp only;rw[Kk (by omega)];exact q1
 ·simp only;rw[Kk (by omega)];exact q2
 ·simp only;rw[Kl hlt2]
theorem jjb {v:V}{l:List Nat}(hv:IsL v l)(hB:∀x∈l,x<1000000000)(hl:l.length<=2^20):∃u,(∃s,u=.str s/\s.length<=2^25)/\∀O,jas env (ev env) 144 [v] O=some (u,O):=by
 have hlen:=jkS hv;refine jbN rfl rfl (by simp[jcG hv]) jAU rfl (by simp[Tryz.f144]) (U4 rfl) _ (jar ?_);by_cases h:(l.length:Int)=0
 ·have c1:=eq_true h;simp only[Tryz.f144,Ka,simprocAttr,Uy,Ke,U2,hlen,c1];exact⟨_,rfl,_,rfl,by simp⟩
 ·have c1:=eq_false h;have e1:IntKind.i64.wrap ((l.length:Int)-1)=((l.length-1:Nat):Int):=by rw[wrap_i64 (by omega) (by omega)];omega
  obtain⟨p,p1,p2⟩:=hv.at (l.length-1) (by omega)
  have hx:l.getD (l.length-1) 0<1000000000:=by
   have:l.getD (l.length-1) 0=l[l.length-1]'(by omega):=by simp[List.getD,show l.length-1<l.length by omega]
   rw[this];exact hB _ (J3 _)
  obtain⟨s,hs,hs9⟩:=jfN _ hx;obtain⟨u,su,hu⟩:=hv.cut (l.length-1) (by omega);have zb:jbG env 90=some (.agg [.nilptr,.nilsl]):=by kernel_rfl
  have hb0:Bld ⟨[.cells [.nilptr,.nilsl] 90],[]⟩ 0 []:=⟨.nilptr,.nilsl,rfl,.inl ⟨rfl,rfl⟩,.inl ⟨rfl,rfl⟩⟩;obtain⟨L1,w1,b1,k1⟩:=jh0 _ _ 0 [] s hb0 (by simp;omega);have d1:=λO=>jps (ev env) [.ptr 0 0,.str s] O
  have hcu:=jea hu;simp only[Tryz.f144,Ka,simprocAttr,Uy,Ke,Uz,jab,jap,hlen,c1,e1,p1,p2,jhm,hs,zb,d1,w1,jbb,jbc,jbg,su,jpu u hcu.1];have hB2:∀x∈l.take (l.length-1),x<1000000000:=λx hx=>hB x (V3 hx)
  have hlt2:(l.take (l.length-1)).length=l.length-1:=by rw[K9];omega
  have hg0:L1.length ≠ 0:=by
   obtain⟨_,_,hp,_⟩:=b1;have:=jaT hp;simp only at this;omega
  refine jsw rfl ?_;simp only[Kr,Xp];intro tmps lo lx hr hlo hlx;have slo:Stay lo:=by rw[hlo];exact jkB ..
  have hP0:P144 u l.length L1.length lo (l.take (l.length-1)).length ⟨L1++[AObj.cells [u] 124]++[AObj.defd true,lo],[]⟩:=by
   refine⟨⟨s,?_,?_⟩,?_,?_,?_⟩
   ·rw[Jd];exact jxn b1 _
   ·rw[hlt2];omega
   ·simp
   ·simp
   ·simp
  obtain⟨w,O2,hcall,hE⟩:=jkA (y:=.yld (L1.length+2)) (b:=L1.length) (P:=P144 u l.length L1.length lo) (R:=λ_=>False) (λi O h=>h.box) hu (by omega) (λi O hi hP=>by
   obtain⟨O',a,b⟩:=jtP hB2 (by omega) hl hr hlo rfl i O hi hP;exact⟨true,O',a,b⟩) _ hP0
  obtain⟨⟨s2,q1,q2⟩,q3,q4,q5⟩:=hE.resolve_right (λh=>h);obtain⟨L2,ts2⟩:=O2;simp only at q3 q4 q5;refine⟨w,⟨L2,ts2⟩,jeD rfl rfl hcall,q5,?_⟩;have hb3:=jpw q1 slo q5 lx;obtain⟨O3,f1,f2⟩:=jkp _ ts2 0 s2 hb3 (by omega);have q6:=f2 (L1.length+1) _ (jqR true) (by simp only;rw[Kk (by omega)];exact q4);have d3:=λO=>jxi (ev env) [.ptr 0 0] O
  simp only[Va,jab,simprocAttr,Ka,Uy,Ke,Vq,d3,f1,wpR,jbI,q6];exact⟨_,rfl,_,rfl,by omega⟩
theorem at67:env.P.funcs[67]? = some Tryz.f67:=by kernel_rfl
theorem jAW:env.P.funcs[100]? = some Tryz.f100:=by kernel_rfl
theorem jAX:env.P.funcs[137]? = some Tryz.f137:=by kernel_rfl
theorem jvq:ja5 env 126 0=some 0/\ja5 env 126 1=some 1/\ja5 env 126 2=some 2:=⟨by kernel_rfl,by kernel_rfl,by kernel_rfl⟩
theorem s126:sz env 126=some 3:=by kernel_rfl
theorem z126:jbG env 126=some (.agg [.bool false,.nilsl,.nilsl]):=by kernel_rfl
theorem jeY(s:List UInt8)(e:Int)(h:List AObj):jbn h jay (jaW [.str s,.int .i64 e])=some (.tup [.str s,.int .i64 e]):=by
 simp only[jaW,jay,ja7,jaA,jaF,jaV,jch,Kn,Kx]
theorem vBin_sadd(us:Option TypeDesc)(cc:Bool)(a b:List UInt8)(h:a.length+b.length<=2^40):jbZ us cc .add (.str a) (.str b)=some (.str (a++b)):=by
 have hlim:lim=2^40:=rfl;unfold jbZ;simp only[vBin,jkY];rw[hlim,Ki h]
def KN(w:V):Prop:=∃s e,w=.tup [.str s,.int .i64 e]
theorem jvr {u v:V}{a b:List Nat}(hu:IsL u a)(hv:IsL v b)(ha:∀x∈a,x<1000000000)(hb:∀x∈b,x<1000000000)(la:a.length<=2^20)(lb:b.length<=2^20) :
  ∃w,KN w/\∀O,jas env (ev env) 102 [.agg [.bool false,u,v]] O=some (w,O):=by
 obtain⟨_,⟨n1,rfl⟩,d1⟩:=jdR hu ha (by omega);obtain⟨_,⟨n2,rfl⟩,d2⟩:=jdR hv hb (by omega);obtain⟨_,⟨s1,rfl,l1⟩,t1⟩:=jjb hu ha la;obtain⟨_,⟨s2,rfl,l2⟩,t2⟩:=jjb hv hb lb;have o2:=jmy hv;have cu:=jea hu;have cv:=jea hv;have a1:=λus cc=>vBin_sadd us cc [47] s2 (by simp;omega)
 have a2:=λus cc=>vBin_sadd us cc s1 (47::s2) (by simp;omega)
 refine jbN rfl rfl (by simp[V.closed,V.closed.closedL,jcG hu,jcG hv]) jAV rfl (by simp[Tryz.f102]) (U4 rfl) _ (jar ?_);by_cases h1:(4000:Int)<n1
 ·have c1:=eq_true h1;simp only[Tryz.f102,Ka,simprocAttr,Uy,Ke,Uz,jab,jap,jvq,jhn,d1,c1];exact⟨_,jeY _ _ _,_,_,rfl⟩
 ·have c1:=eq_false h1;by_cases h2:(4000:Int)<n2
  ·have c2:=eq_true h2;simp only[Tryz.f102,Ka,simprocAttr,Uy,Ke,Uz,jab,jap,jvq,jhn,d1,d2,c1,c2];exact⟨_,jeY _ _ _,_,_,rfl⟩
  ·have c2:=eq_false h2;cases hO:decide (b=[1])
   ·rw[hO]at o2;simp only[Tryz.f102,Ka,simprocAttr,Uy,Ke,Uz,jab,jap,jvq,jhn,al4,d1,d2,c1,c2,t1,t2,o2,a1,a2];exact⟨_,jeY _ _ _,_,_,rfl⟩
   ·rw[hO]at o2;simp only[Tryz.f102,Ka,simprocAttr,Uy,Ke,Uz,jab,jap,jvq,jhn,al4,d1,d2,c1,c2,t1,t2,o2,a1,a2];exact⟨_,jeY _ _ _,_,_,rfl⟩
def KM(w:V):Prop:=∃u v a b,w=.agg [.bool false,u,v]/\IsL u a/\IsL v b/\(∀x∈a,x<1000000000)/\(∀x∈b,x<1000000000)/\a.length<=2/\b.length<=2
theorem jtQ {u v:V}{a b:List Nat}(m:Bool)(hu:IsL u a)(hv:IsL v b)(h:List AObj):jbn h jay (jaW [.agg [.bool m,u,v]])=some (.agg [.bool m,u,v]):=by
 simp only[jaW,jay,jcJ,jaA,jaF,jbj,jlP hu,jlP hv,Kn,Kx]
theorem jAY {L:List AObj}{p:Nat}{a b c:V}(h:L[p]? = some (.cells [a,b,c] 126)):jbi env L 126 (.ptr p 0)=some (.agg [a,b,c]):=by
 have g:Go.Ab.aggT env 126=some true:=by kernel_rfl
 have l:jai L 3 (.ptr p 0)=some [a,b,c]:=by simp[jai,h]
 unfold jbi;simp only[g,s126,l,Kn,Kx]
theorem jAZ {u:V}{a:List Nat}(h:IsL u a):jci env 126 [(2,u)]=some (.agg [.bool false,.nilsl,u]):=by
 rcases h with⟨rfl,_⟩|⟨z,rfl⟩<;>kernel_rfl
theorem bd3(m:Bool){u v:V}{a b:List Nat}(hu:IsL u a)(hv:IsL v b):jci env 126 [(0,.bool m),(1,u),(2,v)]=some (.agg [.bool m,u,v]):=by
 rcases hu with⟨rfl,_⟩|⟨z,rfl⟩<;>rcases hv with⟨rfl,_⟩|⟨z',rfl⟩<;>kernel_rfl
theorem jeF(b:Bool):(V.bool b).isCell=true:=rfl
theorem jd4:V.nilsl.isCell=true:=rfl
theorem jn7 {K:V->Prop}{u v:V}{a b:List Nat}(hu:IsL u a)(hv:IsL v b)(h:K (.agg [.bool false,u,v])):V1 ((jbi env [AObj.cells [.bool false,u,v] 126] 126 (.ptr 0 0)).bind λv=>some [v]) λvs=>∃w,jbn [AObj.cells [.bool false,u,v] 126] jay (jaW vs)=some w/\K w:=by
 rw[jAY rfl];exact⟨_,rfl,_,jtQ false hu hv _,h⟩
theorem jrB:∃w,(∃v,w=.agg [.bool false,.nilsl,v]/\IsL v [1])/\∀O,jas env (ev env) 137 [] O=some (w,O):=by
 obtain⟨v,h1,h2⟩:=jtJ 1 (by omega);have h2':∀O,jas env (ev env) 169 [.int .u64 1] O=some (v,O):=h2;have hv:IsL v [1]:=h1;have cv:=jea hv;refine jbN rfl rfl rfl jAX rfl (by simp[Tryz.f137]) (U4 rfl) _ (jar ?_);simp only[Tryz.f137,Ka,simprocAttr,Uy,Ke,Uz,jab,jap,z126,s126,h2',jAZ hv,cv.2,jd4,jeF];exact jn7 (a:=[]) (.inl ⟨rfl,rfl⟩) hv ⟨_,rfl,hv⟩
theorem jtR {u v:V}{x y:Nat}(hu:IsL u (numL x))(hv:IsL v (numL y))(hx:x<=1000000000)(hy:y<=1000000000)(h1:1<=y)(hxy:¬(x=1000000000/\y=1000000000)) :
  ∃w,KM w/\∀O,jas env (ev env) 100 [.bool false,u,v] O=some (w,O):=by
 obtain⟨vx,lx,bx⟩:=jmz hx;obtain⟨vy,ly,by'⟩:=jmz hy;have cu:=jea hu;have cv:=jea hv;have z:=jtI hu;have o:=jmy hv;refine jbN rfl rfl (by simp[V.closed,jcG hu,jcG hv]) jAW rfl (by simp[Tryz.f100]) (U4 rfl) _ (jar ?_);by_cases hz:((numL x).length:Int)=0
 ·have c1:decide (((numL x).length:Int)=0)=true:=by simpa using hz
  rw[c1]at z;obtain⟨_,⟨w,rfl,hw⟩,hf⟩:=jrB;have cw:=jea hw;simp only[Tryz.f100,Ka,simprocAttr,Uy,Ke,Uz,jab,jap,z126,s126,z,hf,cw.2,jd4,jeF];exact jn7 (a:=[]) (.inl ⟨rfl,rfl⟩) hw ⟨_,_,[],[1],rfl,.inl ⟨rfl,rfl⟩,hw,by simp,by simp,by simp,by simp⟩
 ·have c1:decide (((numL x).length:Int)=0)=false:=by simpa using hz
  rw[c1]at z;by_cases ho:numL y=[1]
  ·have c2:decide (numL y=[1])=true:=by simpa using ho
   rw[c2]at o;simp only[Tryz.f100,Ka,simprocAttr,Uy,Ke,Uz,jab,jap,z126,s126,z,o,bd3 false hu hv,cu.2,cv.2,jd4,jeF];exact jn7 hu hv ⟨_,_,_,_,rfl,hu,hv,bx,by',lx,ly⟩
  ·have c2:decide (numL y=[1])=false:=by simpa using ho
   rw[c2]at o;obtain⟨g,hg,hgc⟩:=jvk hu hv hx hy hxy;have hg0:=Nat.gcd_pos_of_pos_right x h1;have og:=jmy hg;by_cases hg1:numL (Nat.gcd x y)=[1]
   ·have c3:decide (numL (Nat.gcd x y)=[1])=true:=by simpa using hg1
    rw[c3]at og;simp only[Tryz.f100,Ka,simprocAttr,Uy,Ke,Uz,jab,jap,z126,s126,z,o,hgc,og,bd3 false hu hv,cu.2,cv.2,jd4,jeF];exact jn7 hu hv ⟨_,_,_,_,rfl,hu,hv,bx,by',lx,ly⟩
   ·have c3:decide (numL (Nat.gcd x y)=[1])=false:=by simpa using hg1
    rw[c3]at og;have hgy:Nat.gcd x y<=y:=Nat.gcd_le_right _ h1;have hgx:Nat.gcd x y<=1000000000:=by omega
    have hx0:0<x:=by
     rcases Jr x with h|h
     ·subst h;simp[numL]at hz
     ·exact h
    have hgx2:Nat.gcd x y<=x:=Nat.gcd_le_left _ hx0;obtain⟨_,⟨q1,r1,ql1,rfl,k1,k2,k3,k4⟩,d1⟩:=jmA hu hg hx hgx hg0 (by omega);obtain⟨_,⟨q2,r2,ql2,rfl,m1,m2,m3,m4⟩,d2⟩:=jmA hv hg hy hgx hg0 (by omega);have c4:=jea k1;have c5:=jea m1;simp only[Tryz.f100,Ka,simprocAttr,Uy,Ke,Uz,jab,jap,z126,s126,z,o,hgc,og,d1,d2,bd3 false k1 m1,c4.2,c5.2,jd4,jeF];exact jn7 k1 m1 ⟨_,_,_,_,rfl,k1,m1,k3,m3,k2,m2⟩
open Go.Proofs.YtpclebdkhpapjaaGreatDoor.T (IsDg decV)
theorem jwo:∀(l:List UInt8) (a:Nat),I.decV a l=decV a l
 | [],a=>rfl
 |c::l,a=>jwo l (a*10+(c.toNat-48))
theorem jxo(l:List UInt8):∀a:Nat,decV a l=a*10^l.length+decV 0 l:=by
 induction l with
 |nil =>
  intro a;have e1:decV a []=a:=rfl;have e2:decV 0 []=0:=rfl;rw[e1,e2,K6,Vx,Qm,Q5]
 |cons c l ih =>
  intro a;have e1:decV a (c::l)=decV (a*10+(c.toNat-48)) l:=rfl;have e2:decV 0 (c::l)=decV (0*10+(c.toNat-48)) l:=rfl;rw[e1,e2,ih (a*10+(c.toNat-48)),ih (0*10+(c.toNat-48)),K0,Uc];generalize 10^l.length=P;generalize c.toNat-48=x;rw[Nat.zero_mul,K7,Jb,Nat.mul_assoc,Us 10 P];omega
theorem jxp {n:Nat}{s:List UInt8}(h:I.DgsOf n s)(hn:n<=1000000000):s.length<=9\/(s.length=10/\n=1000000000):=by
 obtain⟨h1,h2,h3,h4,h5⟩:=h;by_cases h9:s.length<=9
 ·exact .inl h9
 ·have:=h5 (by omega);by_cases h10:s.length=10
  ·rw[h10]at this;exact .inr ⟨h10,by omega⟩
  ·have h7:=Xe (n:=10) (by decide) (show 10<=s.length-1 by omega);omega
theorem jvs {n:Nat}{l r:List Nat}(h:(n<1000000000/\l=[n])\/(n=1000000000/\l=[0,1]))(ht:jqN l r):r=numL n:=by
 obtain⟨k,k1,rfl,k3,k4⟩:=ht
 rcases h with⟨hn,rfl⟩|⟨rfl,rfl⟩
 ·unfold numL;by_cases h0:n=0
  ·rw[Ki h0];subst h0
   have:k=0:=by
    rcases k4 with h|h
    ·exact h
    ·simp only[Xp]at k1;have:k=0\/k=1:=by omega
     rcases this with h1|h1
     ·exact h1
     ·subst h1;exact absurd rfl h
   subst this;rfl
  ·rw[Kj h0,Ki hn]
   have:k ≠ 0:=by
    rintro rfl;exact h0 (k3 0 (Kw _) (by simp))
   simp only[Xp]at k1;have:k=1:=by omega
   subst this;rfl
 ·have e:numL 1000000000=[0,1]:=by decide
  rw[e]
  have:k=2:=by
   simp only[K0,K6]at k1;by_cases h:k<=1
   ·have:=k3 1 h (by simp);exact absurd this (by simp)
   ·omega
  subst this;rfl
theorem jn8 {n:Nat}{s:List UInt8}(h:I.DgsOf n s)(hn:n<=1000000000):∃v,IsL v (numL n)/\∀O,jas env (ev env) 101 [.str s] O=some (v,O):=by
 have h10:=jxp h hn;obtain⟨h1,h2,h3,h4,h5⟩:=h;rw[jwo]at h4;have hd:∀i,i<s.length->IsDg (s.getD i 0):=h1;have hp:0<s.length:=by cases s with|nil=>exact absurd rfl h2|cons a r=>simp
 obtain⟨v,⟨r,v1,v2⟩,hc⟩:=jrA s hd (by omega);refine⟨v,?_,hc⟩;rw[<- jvs ?_ v2]
 ·exact v1
 obtain⟨f,hf⟩:∃f,s.length=f+1:=⟨s.length-1,by omega⟩
 rcases h10 with h|⟨h,rfl⟩
 ·left;have hlt:=jwn s hd (by omega)
  have hb:n<1000000000:=by
   have e:=T.dec_bound s hd s.length (Kw _);rw[J4,h4]at e;have:=Xe (n:=10) (by decide) h;omega
  refine⟨hb,?_⟩;rw[hf];show(if s=[]then []else jeb f (s.take (s.length-9)) ([]++[decV 0 (s.drop (s.length-9))]))=_;rw[Kj h2,show s.length-9=0 by omega,Jl,Jn,h4];cases f<;>rfl
 ·right;refine⟨rfl,?_⟩;rw[h];show(if s=[]then []else jeb 9 (s.take (s.length-9)) ([]++[decV 0 (s.drop (s.length-9))]))=_;rw[Kj h2,h];show(if s.take 1=[]then _ else jeb 8 ((s.take 1).take ((s.take 1).length-9)) (([]++[decV 0 (s.drop 1)])++[decV 0 ((s.take 1).drop ((s.take 1).length-9))]))=_;have hl1:(s.take 1).length=1:=by rw[K9];omega
  have hl2:(s.drop 1).length=9:=by rw[Qo];omega
  rw[Kj (by intro h;rw[h]at hl1;simp at hl1),hl1];simp only[Nat.reduceSub,Jl,Jn]
  have e:decV 0 s=decV 0 (s.take 1)*10^9+decV 0 (s.drop 1):=by
   conv=>lhs;rw[<- J9 1 s,T.decV_app,jxo,hl2]
  have hd2:∀i,i<(s.drop 1).length->IsDg ((s.drop 1).getD i 0):=λi hi=>by
   have:(s.drop 1).getD i 0=s.getD (1+i) 0:=by simp[List.getD,Jv]
   rw[this];exact hd _ (by omega)
  have hb:=T.dec_bound (s.drop 1) hd2 _ (Kw _);rw[J4,hl2]at hb;rw[h4]at e;have e1:decV 0 (s.take 1)=1:=by omega
  have e2:decV 0 (s.drop 1)=0:=by omega
  rw[e1,e2];rfl
theorem ratmake_call {n d:Nat}{s t:List UInt8}(hs:I.DgsOf n s)(ht:I.DgsOf d t)(hn:n<=1000000000)(hd:d<=1000000000)(h1:1<=d)(hnd:¬(n=1000000000/\d=1000000000)) :
  ∃w,KN w/\∀O,jas env (ev env) 67 [.str s,.str t] O=some (w,O):=by
 obtain⟨u,hu,pu⟩:=jn8 hs hn;obtain⟨v,hv,pv⟩:=jn8 ht hd;obtain⟨_,⟨fu,fv,a,b,rfl,q1,q2,q3,q4,q5,q6⟩,hm⟩:=jtR hu hv hn hd h1 hnd;obtain⟨_,⟨x,e,rfl⟩,hnum⟩:=jvr q1 q2 q3 q4 (by omega) (by omega);obtain⟨s1,s2,s3,s4,s5⟩:=hs;obtain⟨t1,t2,t3,t4,t5⟩:=ht;have sp:0<s.length:=by cases s with|nil=>exact absurd rfl s2|cons a r=>simp
 have h45:s.getD 0 0 ≠ 45:=λh=>by
  have:=s1 0 sp;rw[h]at this;exact absurd this.1 (by decide)
 obtain⟨_,⟨bi,rfl⟩,hi⟩:=jn6 s s2 h45 (by omega);obtain⟨_,⟨ec,rfl⟩,hck⟩:=jiM t (by omega);refine jbN rfl rfl rfl at67 rfl (by simp[Tryz.f67]) (U4 rfl) _ (jar ?_);have c1:((4000:Int)<(s.length:Int))=False:=eq_false (by omega);cases bi
 ·simp only[Tryz.f67,Ka,simprocAttr,Uy,Ke,U2,hi];exact⟨_,jeY _ _ _,_,_,rfl⟩
 ·by_cases he:ec=0
  ·have c2:=eq_true he;by_cases h48:t=[48]
   ·have c3:=eq_true h48;simp only[Tryz.f67,Ka,simprocAttr,Uy,Ke,U2,hi,jaL,c1,hck,c2,jac,c3];exact⟨_,jeY _ _ _,_,_,rfl⟩
   ·have c3:=eq_false h48;simp only[Tryz.f67,Ka,simprocAttr,Uy,Ke,U2,hi,jaL,c1,hck,c2,jac,c3,pu,pv,hm,hnum];exact⟨_,jeY _ _ _,_,_,rfl⟩
  ·have c2:=eq_false he;simp only[Tryz.f67,Ka,simprocAttr,Uy,Ke,U2,hi,jaL,c1,hck,c2];exact⟨_,jeY _ _ _,_,_,rfl⟩
end Go.Proofs.YtpclebdkhpapjaaGreatDoor.R
