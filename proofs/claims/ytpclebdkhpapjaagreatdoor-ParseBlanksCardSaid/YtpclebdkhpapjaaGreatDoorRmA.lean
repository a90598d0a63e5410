/- Proved here: fractions of small numbers. Conditions: those of each theorem; no statement of the seat is proved in this text. -/
import Derived.Test.YtpclebdkhpapjaaGreatDoorTkB
import Derived.Test.YtpclebdkhpapjaaGreatDoorItA
set_option linter.unusedSimpArgs false
set_option linter.unusedVariables false
set_option linter.unusedSectionVars false
namespace Go.Proofs.YtpclebdkhpapjaaGreatDoor
open Go.Ab
set_option maxHeartbeats 8000000
set_option maxRecDepth 1000000
namespace T
def splitD(s:List UInt8):V :=
 if 2000<s.length then .tup [.nilsl,.agg [.int .i64 4,.int .i64 2000]]else
 match toksD s with
 |(l,none)=>.tup [toksV l,.agg [.int .i64 0,.int .i64 0]]
 |(_,some (x,i))=>.tup [.nilsl,.agg [.int .i64 x,.int .i64 i]]
theorem jtx(s:List UInt8):jqr s=splitD s:=by
 unfold jqr splitD
 rw[jqw]
 split
 ·rfl
 ·generalize toksD s=r
  obtain⟨l,_|⟨x,i⟩⟩:=r<;>rfl
theorem splitD_call(s:List UInt8)(hl:s.length<=4000)(O:S):jar env (ev env) 19 [.str s] O=some (splitD s,O):=by rw[<- jtx];exact jri s hl O
end T
namespace A
def jkc:List Nat:=[13,15,10,12,20,34,35,36,37,38,39,40,67,65,42,87,122,124,123,126,158]
def mutL:List Nat:=[47,45,46,88,14,86,171,172,174,140,165,144]
def jv7:List V->Option V
 | [.str s]=>match Nat.ble s.length 4000 with|true=>some (T.splitD s)|false=>none
 |_=>none
def jyM(f:FuncId):Option (List V->Option V):=match Nat.beq f 127 with|true=>some jpG|false=>match Nat.beq f 234 with|true=>some idxV|false=>match Nat.beq f 19 with|true=>some jv7|false=>none
noncomputable def env:Env:={ P:=Tryz.prog,pure:=λf=>memN f jkc,mutb:=λf _=>memN f mutL,gl:=glV,hook:=jyM,pan:=λf=>memN f [27,61,25,10,131,129,62,63,96,132,128,95,160,59,92,28,58] }
theorem env_ok:env.Ok :=
  { mixed := by kernel_rfl
    glc:=jlt
    hook := fun f g h=>by
      simp only[env,jyM]at h
      split at h
      · rename_i hf
        have e:=Qz hf
        subst e
        simp only[Kg]at h
        subst h
        exact jm5 (E:=env) (fn:=Tryz.f127) Tryz.func127 (by kernel_rfl) (by kernel_rfl) (by kernel_rfl) rfl
      · split at h
        · rename_i hf
          have e:=Qz hf
          subst e
          simp only[Kg]at h
          subst h
          exact jwJ (E:=env) (fn:=Tryz.f234) Tryz.func234 (by kernel_rfl) (by kernel_rfl) (by kernel_rfl) rfl
        · split at h
          · rename_i hf
            have e:=Qz hf
            subst e
            simp only[Kg]at h
            subst h
            intro args v hv Γ O w xs hw hg hx
            unfold jv7 at hv
            split at hv
            · rename_i s
              split at hv
              · rename_i hl
                simp only[Kg]at hv
                subst hv
                exact jcO T.env_ok (λt r h=>jgu T.env_ok h) (T.splitD_call s (Qo hl) O) hw hg hx
              · simp at hv
            · simp at hv
          · simp at h }
end A
set_option maxRecDepth 100000
open Classical in
noncomputable def jgm(E:Env)(f:FuncId)(args:List V):Option V:=if h:∃v,∀O,jar E (ev E) f args O=some (v,O)then some (Classical.choose h)else none
theorem jfI {E:Env}{f:FuncId}{args:List V}{v:V}(h:∀O,jar E (ev E) f args O=some (v,O)):jgm E f args=some v:=by
 unfold jgm
 have he:∃v,∀O,jar E (ev E) f args O=some (v,O):=⟨v,h⟩
 rw[dif_pos he]
 have h1:=Vp he S.empty
 rw[h]at h1
 simp only[Kg,Kh,and_true]at h1
 rw[<- h1]
theorem jfJ {E:Env}(hE:E.Ok){f:FuncId}{args:List V}{v:V}(hv:jgm E f args=some v){Γ:Ctx}{O:S}{w:World}{xs:Array Value}(hw:WRel Γ O w)(hg:GOK E Γ)(hx:LRel Γ args xs):∃Γ' w' y,Moved Γ Γ' O w w'/\VRel Γ' v y/\jmN E.P f xs w y w':=by
 unfold jgm at hv
 split at hv
 ·rename_i hh
  simp only[Kg]at hv
  subst hv
  exact jcO hE (λt r h=>jgu hE h) (Vp hh O) hw hg hx
 ·simp at hv
set_option maxRecDepth 1000000
namespace A
def dgsS:List UInt8:=[48,49,50,51,52,53,54,55,56,57]
def setC:List V:=(List.range 256).map λi=>.bool (Nat.ble 48 i && Nat.ble i 57)
theorem set_row:jfa env 197 [.str dgsS] (.tup [.agg setC,.bool true]):=jfb env_ok rfl (k:=80) (by kernel_rfl)
def mil:List UInt8:=[49,48,48,48,48,48,48,48,48,48]
theorem mil_row:jfa env 67 [.str mil,.str mil] (.tup [.str [49],.int .i64 0]):=jfb env_ok rfl (k:=80) (by kernel_rfl)
end A
namespace R
def jkc:List Nat:=[67,98,99,100,101,102,134,135,136,137,138,139,140,143,144,167,168,169,170,171,194,202,203,222,223]
def ju1:List V->Option V
 | [.str s]=>if s=A.dgsS then some (.tup [.agg A.setC,.bool true])else none
 |_=>none
noncomputable def jr7(f:FuncId):Option (List V->Option V):=match Nat.beq f 141 with|true=>some (jgm T.env 141)|false=>match Nat.beq f 177 with|true=>some (jgm I.env 177)|false=>match Nat.beq f 197 with|true=>some ju1|false=>none
noncomputable def jv8(f:FuncId):Option (List V->S->Option (V × S)):=match Nat.beq f 46 with|true=>some (jar T.env (ev T.env) 46)|false=>match Nat.beq f 47 with|true=>some (jar T.env (ev T.env) 47)|false=>none
noncomputable def env:Env:={ P:=Tryz.prog,pure:=λf=>memN f jkc,mutb:=λf _=>f==171,gl:=glV,hook:=jr7,hookS:=jv8,stab:=λf r=>f==171 && (r==5 ||r==6) }
theorem env_ok:env.Ok :=
  { mixed := by kernel_rfl
    glc:=jlt
    hook := fun f g h=>by
      simp only[env,jr7]at h
      split at h
      · rename_i hf
        have e:=Qz hf
        subst e
        simp only[Kg]at h
        subst h
        intro args v hv Γ O w xs hw hg hx
        exact jfJ T.env_ok hv hw hg hx
      · split at h
        · rename_i hf
          have e:=Qz hf
          subst e
          simp only[Kg]at h
          subst h
          intro args v hv Γ O w xs hw hg hx
          exact jfJ I.env_ok hv hw hg hx
        · split at h
          · rename_i hf
            have e:=Qz hf
            subst e
            simp only[Kg]at h
            subst h
            intro args v hv Γ O w xs hw hg hx
            unfold ju1 at hv
            split at hv
            · split at hv
              · rename_i hs
                subst hs
                simp only[Kg]at hv
                subst hv
                exact A.set_row Γ O w xs hw hg hx
              · simp at hv
            · simp at hv
          · simp at h
    hookS:=by
      intro f g h args O v O' hv Γ w xs hw hg hx
      simp only[env,jv8]at h
      split at h
      · rename_i hf
        have e:=Qz hf
        subst e
        simp only[Kg]at h
        subst h
        exact jcO T.env_ok (λt r h=>jgu T.env_ok h) hv hw hg hx
      · split at h
        · rename_i hf
          have e:=Qz hf
          subst e
          simp only[Kg]at h
          subst h
          exact jcO T.env_ok (λt r h=>jgu T.env_ok h) hv hw hg hx
        · simp at h }
theorem jty {args:List V}{v:V}(h:∀O,jar T.env (ev T.env) 141 args O=some (v,O))(rec:Task->Option Res)(O:S):jar env rec 141 args O=some (v,O):=by
 have hf:env.hook 141=some (jgm T.env 141):=rfl
 unfold jar
 rw[hf]
 simp only[jfI h,Kw]
theorem ju2 {args:List V}{v:V}(h:∀O,jar I.env (ev I.env) 177 args O=some (v,O))(rec:Task->Option Res)(O:S):jar env rec 177 args O=some (v,O):=by
 have hf:env.hook 177=some (jgm I.env 177):=rfl
 unfold jar
 rw[hf]
 simp only[jfI h,Kw]
theorem jpi(rec:Task->Option Res)(args:List V)(O:S):jar env rec 46 args O=jar T.env (ev T.env) 46 args O:=by
 have hf:env.hook 46=none:=rfl
 have hS:env.hookS 46=some (jar T.env (ev T.env) 46):=rfl
 conv=>lhs;unfold jar
 rw[hf,hS]
 rfl
theorem jxd(rec:Task->Option Res)(args:List V)(O:S):jar env rec 47 args O=jar T.env (ev T.env) 47 args O:=by
 have hf:env.hook 47=none:=rfl
 have hS:env.hookS 47=some (jar T.env (ev T.env) 47):=rfl
 conv=>lhs;unfold jar
 rw[hf,hS]
 rfl
theorem ju3(O:S):jar env (ev env) 197 [.str A.dgsS] O=some (.tup [.agg A.setC,.bool true],O):=by
 have hf:env.hook 197=some ju1:=rfl
 unfold jar
 rw[hf]
 simp only[ju1,Ku,Kw]
end R
end Go.Proofs.YtpclebdkhpapjaaGreatDoor
namespace Go.Proofs.YtpclebdkhpapjaaGreatDoor.R
open Go.Ab
set_option maxHeartbeats 8000000
set_option maxRecDepth 100000
theorem tys:env.P.underlying 3=some (.int .i64)/\env.P.underlying 4=some .bool/\env.P.underlying 5=some (.int .u8)/\env.P.underlying 9=some .string/\env.P.underlying 27=some .string/\env.P.underlying 159=some (.int .u64)/\env.P.underlying 124=some (.slice 159) /\
  sz env 9=some 1/\sz env 3=some 1/\sz env 4=some 1/\sz env 5=some 1/\sz env 27=some 1/\sz env 159=some 1/\sz env 124=some 1:=by
 exact⟨by kernel_rfl,by kernel_rfl,by kernel_rfl,by kernel_rfl,by kernel_rfl,by kernel_rfl,by kernel_rfl,by kernel_rfl,by kernel_rfl,by kernel_rfl,by kernel_rfl,by kernel_rfl,by kernel_rfl,by kernel_rfl⟩
theorem u3:env.P.underlying 3=some (.int .i64):=tys.1
theorem u9:env.P.underlying 9=some .string:=tys.2.2.2.1
theorem u27:env.P.underlying 27=some .string:=tys.2.2.2.2.1
theorem u124:env.P.underlying 124=some (.slice 159):=tys.2.2.2.2.2.2.1
theorem s159:sz env 159=some 1:=tys.2.2.2.2.2.2.2.2.2.2.2.2.1
theorem mb(f:FuncId)(r:Nat)(h:(f==171)=false):env.mutb f r=false:=h
theorem stb(f:FuncId)(r:Nat)(h:(f==171 && (r==5 ||r==6))=false):env.stab f r=false:=h
theorem Ke:type_of% (Kf @mb (Kf @stb @tys)):=Kf @mb (Kf @stb @tys)
theorem jhj(h:List AObj)(p:V):jbi env h 159 p=(jai h 1 p).bind (·[0]?):=ja0 (by kernel_rfl)
theorem jhk(h:List AObj)(p:V):jbi env h 124 p=(jai h 1 p).bind (·[0]?):=ja0 (by kernel_rfl)
theorem al3(h:List AObj)(p:V):jbi env h 3 p=(jai h 1 p).bind (·[0]?):=ja0 (by kernel_rfl)
theorem al4(h:List AObj)(p:V):jbi env h 4 p=(jai h 1 p).bind (·[0]?):=ja0 (by kernel_rfl)
theorem jAo:env.P.funcs[136]? = some Tryz.f136:=by kernel_rfl
theorem jAp:env.P.funcs[138]? = some Tryz.f138:=by kernel_rfl
theorem jAq:env.P.funcs[142]? = some Tryz.f142:=by kernel_rfl
theorem jyN:env.P.funcs[169]? = some Tryz.f169:=by kernel_rfl
def lc(l:List Nat):List V:=(l.map λn=>((n:Nat):Int)).map (V.int .u64)
def IsL(v:V)(l:List Nat):Prop:=(v=.nilsl/\l=[])\/∃z,v=.row (lc (l++z)) l.length .unk
theorem jqA(l:List Nat):(lc l).length=l.length:=by simp[lc]
theorem jyO(l:List Nat)(i:Nat):(lc l)[i]? = if i<l.length then some (.int .u64 (l.getD i 0))else none:=by
 unfold lc
 rw[Xe,Xe]
 by_cases h:i<l.length
 ·simp[h,List.getD]
 ·simp[h]
theorem jyP(l z:List Nat)(i:Nat)(h:i<l.length):(lc (l++z))[i]? = some (.int .u64 (l.getD i 0)):=by
 rw[jyO,Kk (by rw[Ks];omega)]
 simp only[List.getD,K0 h]
theorem jtz(l:List Nat):V.closed.closedL (lc l)=true:=by
 unfold lc
 induction l with
 |nil=>rfl
 |cons a l ih=>simpa[V.closed,V.closed.closedL]using ih
theorem jcB {v:V}{l:List Nat}(h:IsL v l):v.closed=true:=by
 rcases h with⟨rfl,rfl⟩|⟨z,rfl⟩
 ·rfl
 ·simp[V.closed,jtz]
theorem jkK {v:V}{l:List Nat}(h:IsL v l)(e:TypeId):jd5 (some (.slice e)) v=some (.int .i64 l.length):=by
 rcases h with⟨rfl,rfl⟩|⟨z,rfl⟩<;>rfl
theorem jd9 {v:V}{l:List Nat}(h:IsL v l):v.cells=[v]/\v.isCell=true:=by
 rcases h with⟨rfl,rfl⟩|⟨z,rfl⟩<;>exact⟨rfl,rfl⟩
theorem jpj(hp:List AObj)(d:Nat)(l:List Nat):(lc l).mapM (jbo hp (d+1))=some (lc l):=by rw[lc,jkH]
theorem jlD {v:V}{l:List Nat}(h:IsL v l)(hp:List AObj)(d:Nat):jbo hp (d+2) v=some v:=by
 rcases h with⟨rfl,rfl⟩|⟨z,rfl⟩
 ·rfl
 ·rw[jgb,jpj];rfl
def Sl(H:List AObj)(v:V)(l:List Nat):Prop:=(v=.nilsl/\l=[])\/(∃z q,v=.row (lc (l++z)) l.length q)\/∃b cap ex z t,v=.hsl b 0 l.length cap ex/\H[b]? = some (.cells (lc (l++z)) t)/\l.length<=cap/\cap<=(l++z).length
theorem IsL.sl {v:V}{l:List Nat}(h:IsL v l)(H:List AObj):Sl H v l:=by
 rcases h with h|⟨z,h⟩
 ·exact .inl h
 ·exact .inr (.inl ⟨z,_,h⟩)
theorem Sl.len {H:List AObj}{v:V}{l:List Nat}(h:Sl H v l)(e:TypeId):jd5 (some (.slice e)) v=some (.int .i64 l.length):=by
 rcases h with⟨rfl,rfl⟩|⟨z,q,rfl⟩|⟨b,cap,ex,z,t,rfl,_⟩<;>rfl
theorem Sl.at {H:List AObj}{v:V}{l:List Nat}(h:Sl H v l)(i:Nat)(hi:i<l.length):∃p,jaJ 1 v (.int .i64 i)=some p/\(jai H 1 p).bind (·[0]?)=some (.int .u64 (l.getD i 0)):=by
 rcases h with⟨_,rfl⟩|⟨z,q,rfl⟩|⟨b,cap,ex,z,t,rfl,hb,h1,h2⟩
 ·simp at hi
 ·have hg:=jyP l z i hi
  refine⟨.rptr ((lc (l++z)).drop i),?_,?_⟩
  ·have h1:(i:Int)<(l.length:Int):=by omega
   simp[jaJ,hi]
  ·simp only[jai,Qn,jqA,Ks]
   rw[Kk (by omega)]
   simp only[Kj,Q9,Jo,Jg]
   simpa using hg
 ·have hg:=jyP l z i hi
  refine⟨.ptr b (0+i*1),?_,?_⟩
  ·simp[jaJ,hi]
  ·rw[YA,hb,YB,K7,Qr]
   exact hg
theorem IsL.at {v:V}{l:List Nat}(h:IsL v l)(i:Nat)(hi:i<l.length):∃p,jaJ 1 v (.int .i64 i)=some p/\∀H:List AObj,(jai H 1 p).bind (·[0]?)=some (.int .u64 (l.getD i 0)):=by
 rcases h with⟨rfl,rfl⟩|⟨z,rfl⟩
 ·simp at hi
 ·obtain⟨p,p1,p2⟩:=Sl.at (H:=[]) (.inr (.inl ⟨z,.unk,rfl⟩)) i hi
  refine⟨p,p1,?_⟩
  rw[Ys,Kk (by omega)]at p1
  simp only[Kg]at p1
  subst p1
  exact λH=>p2
theorem Sl.cut {H:List AObj}{v:V}{l:List Nat}(h:Sl H v l)(k:Nat)(hk:k<=l.length):∃v',jbA env 124 v none (some (.int .i64 k)) none=some v'/\Sl H v' (l.take k):=by
 have hlt:(l.take k).length=k:=by rw[K8];omega
 rcases h with⟨rfl,rfl⟩|⟨z,q,rfl⟩|⟨b,cap,ex,z,t,rfl,hb,h1,h2⟩
 ·have:k=0:=by simpa using hk
  subst this
  exact⟨.nilsl,by simp[jbA,u124,s159,jci,jbd],.inl ⟨rfl,rfl⟩⟩
 ·have e:lc (l.take k)=(lc (l++z)).take k:=by
   simp only[lc,<- List.map_take]
   rw[Vi hk]
  have h5:((k:Nat):Int)<=(l.length:Int):=by omega
  obtain⟨q',he⟩:∃q',jbA env 124 (.row (lc (l++z)) l.length q) none (some (.int .i64 k)) none=some (.row (lc (l.take k)) k q'):=by
   rw[e]
   exact⟨_,by simp[jbA,u124,s159,jci,jbd,h5,hk];rfl⟩
  exact⟨_,he,.inr (.inl ⟨[],q',by rw[hlt,Jk]⟩)⟩
 ·have h5:((k:Nat):Int)<=(cap:Int):=by omega
  have h6:k<=cap:=by omega
  obtain⟨ex',he⟩:∃ex',jbA env 124 (.hsl b 0 l.length cap ex) none (some (.int .i64 k)) none=some (.hsl b 0 k cap ex'):=by
   cases ex<;>exact⟨_,by simp[jbA,u124,s159,jci,jbd,h6];rfl⟩
  have e:l++z=l.take k++(l.drop k++z):=by rw[<- Q5,J6]
  refine⟨_,he,.inr (.inr ⟨b,cap,ex',l.drop k++z,t,by rw[hlt],by rw[<- e];exact hb,by omega,by rw[<- e];exact h2⟩)⟩
theorem jtA {H H':List AObj}{v:V}{l:List Nat}(h:Sl H v l)(hm:∀(b:Nat) cs t,H[b]? = some (.cells cs t)->H'[b]? = some (.cells cs t))(d:Nat):∃w,jbo H' (d+2) v=some w/\IsL w l:=by
 rcases h with⟨rfl,rfl⟩|⟨z,q,rfl⟩|⟨b,cap,ex,z,t,rfl,hb,h1,h2⟩
 ·exact⟨_,rfl,.inl ⟨rfl,rfl⟩⟩
 ·exact⟨.row (lc (l++z)) l.length .unk,by rw[jgb,jpj];rfl,.inr ⟨z,rfl⟩⟩
 ·refine⟨.row (lc (l++z)) l.length .unk,?_,.inr ⟨z,rfl⟩⟩
  rw[jss _ _ _ _ _ _ _ _ t (hm _ _ _ hb) h1,Qq,jpj];rfl
theorem jtB {v:V}{l:List Nat}(h:IsL v l)(O:S):jar env (ev env) 136 [v] O=some (.bool (decide ((l.length:Int)=0)),O):=by
 refine jau rfl rfl (by simp[jcB h]) jAo rfl (by simp[Tryz.f136]) (by simp[Tryz.f136]) (jaq ?_) O
 have hl:=jkK h
 by_cases hz:(l.length:Int)=0
 ·have hz2:=eq_true hz
  simp only[Tryz.f136,Ka,simprocAttr,Uq,Ke,Uu,hl,hz2]
  rfl
 ·have hz2:=eq_false hz
  simp only[Tryz.f136,Ka,simprocAttr,Uq,Ke,Uu,hl,hz2]
  rfl
theorem jml {v:V}{l:List Nat}(h:IsL v l)(O:S):jar env (ev env) 138 [v] O=some (.bool (decide (l=[1])),O):=by
 refine jau rfl rfl (by simp[jcB h]) jAp rfl (by simp[Tryz.f138]) (by simp[Tryz.f138]) (jaq ?_) O
 have hl:=jkK h
 by_cases h1:(l.length:Int)=1
 ·have hz2:=eq_true h1
  obtain⟨a,rfl⟩:∃a,l=[a]:=List.length_eq_one_iff.1 (by omega)
  obtain⟨p,p1,p2⟩:=h.at 0 (by simp)
  have p1':jaJ 1 v (.int .i64 0)=some p:=p1
  have p2':∀H:List AObj,(jai H 1 p).bind (·[0]?)=some (.int .u64 a):=p2
  by_cases ha:(a:Int)=1
  ·have h2:=eq_true ha
   have h3:decide ([a]=[1])=true:=by simp;omega
   simp only[Tryz.f138,Ka,simprocAttr,Uq,Ke,Uu,hl,p1',p2',jhj,h2,h3]
   rfl
  ·have h2:=eq_false ha
   have h3:decide ([a]=[1])=false:=by simp;omega
   simp only[Tryz.f138,Ka,simprocAttr,Uq,Ke,Uu,hl,p1',p2',jhj,h2,h3]
   rfl
 ·have hz2:=eq_false h1
  have h3:decide (l=[1])=false:=by
   simp only[decide_eq_false_iff_not];rintro rfl;exact h1 rfl
  simp only[Tryz.f138,Ka,simprocAttr,Uq,Ke,Uu,hl,hz2,h3]
  rfl
def jqB(l r:List Nat):Prop:=∃k,k<=l.length/\r=l.take k/\(∀i,k<=i->i<l.length->l.getD i 0=0)/\(k=0\/l.getD (k-1) 0 ≠ 0)
theorem jnT {L:List AObj}{ts:List Nat}{v:V}{l:List Nat}(h:Sl L v l)(hl:l.length<=2^40):∃v' r,jar env (ev env) 142 [v] ⟨L,ts⟩=some (v',⟨L,ts⟩)/\Sl L v' r/\jqB l r:=by
 obtain⟨v',O',h1,rfl,r,h2,h3⟩:=jcp (k:=λv' O'=>O'=⟨L,ts⟩/\∃r,Sl L v' r/\jqB l r) rfl rfl jAq rfl (by simp[Tryz.f142]) (by simp[Tryz.f142]) (O:=⟨L,ts⟩) (args:=[v]) (E:=env) (jaq (by
  simp only[Tryz.f142,Ka,simprocAttr,Uq,Ke,Vq]
  refine jbs (λm T D O=>D=[]/\O=⟨L,ts⟩/\∃k,k<=l.length/\Sl L (T 0) (l.take k)/\m=k/\∀i,k<=i->i<l.length->l.getD i 0=0) ?_ _ _ _ _ ⟨rfl,rfl,l.length,Kx _,by rw[Jx];exact h,rfl,λi h1 h2=>by omega⟩
  rintro m T D O ⟨rfl,rfl,k,hk,hs,hm,hz⟩
  subst m
  refine jaq ?_
  generalize ht0:T 0=w at hs
  have hlt:(l.take k).length=k:=by rw[K8];omega
  have hlen:=hs.len
  rw[hlt]at hlen
  by_cases h0:0<k
  ·have c0:((0:Int)<(k:Int))=True:=eq_true (by omega)
   have e1:IntKind.i64.wrap ((k:Int)-1)=((k-1:Nat):Int):=by rw[wrap_i64 (by omega) (by omega)];omega
   obtain⟨p,p1,p2⟩:=hs.at (k-1) (by omega)
   have e2:(l.take k).getD (k-1) 0=l.getD (k-1) 0:=by simp only[List.getD,Q9];rw[Kk (by omega)]
   rw[e2]at p2
   by_cases hl:l.getD (k-1) 0=0
   ·have c1:(((l.getD (k-1) 0:Nat):Int)=0)=True:=eq_true (by omega)
    obtain⟨w',q1,q2⟩:=hs.cut (k-1) (by omega)
    simp only[Ka,simprocAttr,Uq,Ke,Vq,ht0,hlen,c0,e1,p1,p2,jhj,c1,ja9,jba,jbg,q1]
    refine⟨k-1,by omega,k-1,by omega,?_,rfl,λi a b => ?_⟩
    ·rw[Vm,Ju (by omega)]at q2;exact q2
    ·by_cases hi:i=k-1
     ·subst hi;exact hl
     ·exact hz i (by omega) b
   ·have c1:(((l.getD (k-1) 0:Nat):Int)=0)=False:=eq_false (by omega)
    simp only[Ka,simprocAttr,Uq,Ke,Vq,ht0,hlen,c0,e1,p1,p2,jhj,c1]
    exact⟨_,hs,k,hk,rfl,hz,.inr hl⟩
  ·have c0:((0:Int)<(k:Int))=False:=eq_false (by omega)
   simp only[Ka,simprocAttr,Uq,Ke,Vq,ht0,hlen,c0]
   exact⟨_,hs,k,hk,rfl,hz,.inl (by omega)⟩))
 exact⟨v',r,h1,h2,h3⟩
def ofL(n:Nat):List Nat:=if n=0 then []else [n]
theorem jv9(k:Int):rowO env 124 1 [(0,.int .u64 k)]=some (.row [.int .u64 k] 1 .full):=by kernel_rfl
theorem jxe(O:S)(k:Int):appO env false O 124 124 .nilsl (.row [.int .u64 k] 1 .full)=some (.row [.int .u64 k] 1 (.tok O.toks.length 0 1),⟨O.heap,O.toks++[0]⟩):=by kernel_rfl
theorem jcX {h:List AObj}{b:Nat}{v:V}{t:TypeId}(hb:h[b]? = some (.cells [v] t)):(jai h 1 (.ptr b 0)).bind (·[0]?)=some v:=by
 simp[jai,hb]
theorem jtC(n:Nat)(hn:n<1000000000):∃v,IsL v (ofL n)/\∀O,jar env (ev env) 169 [.int .u64 n] O=some (v,O):=by
 by_cases h0:n=0
 ·subst h0
  refine⟨.nilsl,.inl ⟨rfl,rfl⟩,λO => ?_⟩
  refine jau rfl rfl rfl jyN rfl (by simp[Tryz.f169]) (by simp[Tryz.f169]) (jaq ?_) O
  simp only[Tryz.f169,Ka,simprocAttr,Uq,Ke,Uu]
  refine jbs (λm T D O=>D=[]/\O=⟨[],[]⟩/\m=0/\T 0=.int .u64 (0:Nat)/\T 3=.nilsl) ?_ 0 _ _ _ ⟨rfl,rfl,rfl,rfl,rfl⟩
  rintro m T D O ⟨rfl,rfl,hm,t0,t3⟩
  refine jaq ?_
  simp only[Ka,simprocAttr,Uq,Ke,Vq,t0,t3,Int.natCast_zero,Int.lt_irrefl]
  rfl
 ·have e1:ofL n=[n]:=by unfold ofL;rw[Km h0]
  refine⟨.row [.int .u64 n] 1 .unk,.inr ⟨[],by rw[e1];rfl⟩,λO => ?_⟩
  refine jau rfl rfl rfl jyN rfl (by simp[Tryz.f169]) (by simp[Tryz.f169]) (jaq ?_) O
  simp only[Tryz.f169,Ka,simprocAttr,Uq,Ke,Uu]
  refine jbs (λm T D O=>D=[]/\((m=1/\O=⟨[],[]⟩/\T 0=.int .u64 n/\T 3=.nilsl)\/(m=0/\T 0=.int .u64 (0:Nat)/\∃c,T 3=.row [.int .u64 n] 1 c))) ?_ 1 _ _ _ ⟨rfl,.inl ⟨rfl,rfl,rfl,rfl⟩⟩
  rintro m T D O ⟨rfl,⟨hm,rfl,t0,t3⟩|⟨hm,t0,c,t3⟩⟩
  ·refine jaq ?_
   have c0:((0:Int)<(n:Int))=True:=eq_true (by omega)
   have e2:(n:Int).tmod 1000000000=n:=Int.tmod_eq_of_lt (by omega) (by omega)
   have e3:(n:Int).tdiv 1000000000=0:=Int.tdiv_eq_zero_of_lt (by omega) (by omega)
   have w0:IntKind.u64.wrap 0=0:=by decide
   simp only[Ka,simprocAttr,Uq,Ke,Vq,t0,t3,c0,e2,e3,jaf,jv9,jxe,w0]
   exact⟨0,by omega,.inr ⟨rfl,_,rfl⟩⟩
  ·refine jaq ?_
   simp only[Ka,simprocAttr,Uq,Ke,Vq,t0,t3,Int.natCast_zero,Int.lt_irrefl]
   rfl
theorem jAr:env.P.funcs[204]? = some Tryz.f204:=by kernel_rfl
theorem jkq {y v:V}{b:Nat}{l:List Nat}{P:Nat->S->Prop}{R:S->Prop}(hb:∀i O,P i O->O.heap[b]? = some (.cells [v] 124))(hv:IsL v l)(hl:l.length<=2^40)
  (hy:∀i O,i<l.length->P (i+1) O->∃r O',jdp env (ev env) y [.int .i64 i,.int .u64 (l.getD i 0)] O=some (.bool r,O')/\(if r=true then P i O' else R O')) (O:S) (hP:P l.length O) :
  ∃v' O',jar env (ev env) 204 [y,.ptr b 0] O=some (v',O')/\(P 0 O'\/R O'):=by
 refine jcp rfl rfl jAr rfl (by simp[Tryz.f204]) (by simp[Tryz.f204]) (jaq ?_)
 obtain⟨L,ts⟩:=O
 have hb1:=jcX (hb _ _ hP)
 have hlen:=jkK hv
 have e0:IntKind.i64.wrap ((l.length:Int)-1)=(l.length:Int)-1:=wrap_i64 (by omega) (by omega)
 simp only at hb1
 simp only[Tryz.f204,Ka,simprocAttr,Uq,Ke,Vq,jhk,hb1,hlen,e0]
 refine jbs (λm T D O=>D=[]/\T 0=y/\T 1=.ptr b 0/\∃k:Nat,m=k/\k<=l.length/\T 3=.int .i64 ((k:Int)-1)/\P k O) ?_ l.length _ _ _ ⟨rfl,rfl,rfl,l.length,rfl,Kx _,rfl,hP⟩
 clear hb1 hP L ts
 rintro m T D ⟨L,ts⟩ ⟨rfl,t0,t1,k,hm,hk,t3,hP⟩
 subst m
 have hb1:=jcX (hb _ _ hP)
 simp only at hb1
 refine jaq ?_
 by_cases h0:0<k
 ·obtain⟨i,rfl⟩:∃i,k=i+1:=⟨k-1,by omega⟩
  have e2:((i+1:Nat):Int)-1=(i:Int):=by omega
  rw[e2]at t3
  have c0:((0:Int)<=(i:Int))=True:=eq_true (by omega)
  obtain⟨p,p1,p2⟩:=Sl.at (hv.sl L) i (by omega)
  obtain⟨r,O',hc,hr⟩:=hy i ⟨L,ts⟩ (by omega) hP
  have e3:IntKind.i64.wrap ((i:Int)-1)=(i:Int)-1:=wrap_i64 (by omega) (by omega)
  cases r
  ·simp only[Ka,simprocAttr,Uq,Ke,Vq,t0,t1,t3,c0,jhk,jhj,hb1,p1,p2,hc]
   exact .inr hr
  ·simp only[Ka,simprocAttr,Uq,Ke,Vq,t0,t1,t3,c0,jhk,jhj,hb1,p1,p2,hc,e3]
   exact⟨i,by omega,i,rfl,by omega,rfl,hr⟩
 ·have hk0:k=0:=by omega
  subst hk0
  have t3':T 3=.int .i64 (-1):=t3
  simp only[Ka,simprocAttr,Uq,Ke,Vq,t0,t1,t3']
  exact .inl hP
open Go.Proofs.YtpclebdkhpapjaaGreatDoor.T (asgR bodR rngC jez)
def val:List Nat->Nat
 | []=>0
 |a::r=>a+1000000000*val r
theorem ju4 {l:List Nat}{i:Nat}(h:i<l.length):val (l.drop i)=l.getD i 0+1000000000*val (l.drop (i+1)):=by
 rw[Qs h]
 simp[val,List.getD,h]
theorem jAs:env.P.funcs[171]? = some Tryz.f171:=by kernel_rfl
theorem jAt:env.P.funcs[173]? = some Tryz.f173:=by kernel_rfl
theorem jpk(v:V)(hc:v.cells=[v])(L:List AObj)(ts:List Nat):jar env (ev env) 173 [v] ⟨L,ts⟩=some (.func 204 [] [.ptr L.length 0],⟨L++[.cells [v] 124],ts⟩):=by
 refine jbk rfl rfl jAt rfl (by simp[Tryz.f173]) (by simp[Tryz.f173]) (jaq ?_)
 simp only[Tryz.f173,Ka,simprocAttr,Uq,Ke,Vq,YP,jaX,hc]
theorem jwa(q:List Nat)(i x:Nat)(h:i<q.length):jab (lc q) i [.int .u64 x]=lc (q.set i x):=by
 unfold jab lc
 rw[X5,Kk h]
 simp[List.map_take,List.map_drop]
theorem jyQ {r d a:Nat}(hr:r<d)(ha:a<1000000000):(r*1000000000+a)/d<1000000000:=by
 refine(Nat.div_lt_iff_lt_mul (by omega)).2 ?_
 have:(r+1)*1000000000<=d*1000000000:=Qj _ hr
 omega
def H171(v:V)(d n:Nat)(lo:AObj)(q:List Nat)(r:Nat):S:=⟨[.cells [v] 124,.cells [.int .u64 d] 159,.cells (lc q) 159,.cells [.hsl 2 0 n n .exact] 124,.cells [.int .u64 r] 159,.cells [v] 124,.defd true,lo],[]⟩
def P171(v:V)(l:List Nat)(d:Nat)(lo:AObj)(i:Nat)(O:S):Prop:=∃(q:List Nat) (r:Nat),O=H171 v d l.length lo q r/\q.length=l.length/\(∀x∈q,x<1000000000)/\r=val (l.drop i) % d
theorem jpl {v:V}{l:List Nat}(hv:IsL v l)(hl:l.length<=2^30)(hB:∀x∈l,x<1000000000){d:Nat}(h1:1<=d)(h2:d<1000000000){T:Tm}{tmps:List V}{lo:AObj}(hr:Rep 36 T tmps)
  (hlo:lo=.loop .ready none 171 tmps #[15,16] (asgR (jay Tryz.f171)) (bodR (jay Tryz.f171)) 6) (t2:T 2=.ptr 0 0) (t3:T 3=.ptr 1 0) (t6:T 6=.ptr 3 0) (t7:T 7=.ptr 4 0) (i:Nat) (O:S) (hi:i<l.length) (hP:P171 v l d lo (i+1) O) :
  ∃O',jdp env (ev env) (.yld 7) [.int .i64 i,.int .u64 (l.getD i 0)] O=some (.bool true,O')/\P171 v l d lo i O':=by
 obtain⟨q,r,rfl,hq,hqB,hrv⟩:=hP
 refine jgB hlo rfl hr rfl (by simp) ?_
 intro lb hlb
 clear hlb hlo hr
 have hrd:r<d:=by rw[hrv];exact J4 _ (by omega)
 have hli:l.getD i 0<1000000000:=by
  have:l.getD i 0=l[i]:=by simp[List.getD,hi]
  rw[this];exact hB _ (J7 hi)
 have hx:r*1000000000+l.getD i 0<1000000000*1000000000:=by
  have:(r+1)*1000000000<=d*1000000000:=Qj _ hrd
  omega
 have hmod:(r*1000000000+l.getD i 0) % d=val (l.drop i) % d:=by
  rw[ju4 hi,hrv,J0,Nat.add_mod,Nat.mul_mod,Nat.mod_mod,<- Nat.mul_mod,<- Nat.add_mod,Uj]
 have hdiv:=jyQ hrd hli
 obtain⟨p,p1,hp⟩:=hv.at i hi
 generalize hX:r*1000000000+l.getD i 0=X at *
 have hm:=J4 X (show 0<d by omega)
 have e1:IntKind.u64.wrap ((r:Int)*1000000000)=((r*1000000000:Nat):Int):=by rw[wrap_u64 (by omega) (by omega)];omega
 have e2:IntKind.u64.wrap (((r*1000000000:Nat):Int)+(l.getD i 0:Nat))=(X:Int):=by rw[wrap_u64 (by omega) (by omega)];omega
 have e3:((d:Int)=0)=False:=eq_false (by omega)
 have e4:(X:Int).tdiv (d:Int)=((X/d:Nat):Int):=rfl
 have e5:(X:Int).tmod (d:Int)=((X % d:Nat):Int):=rfl
 generalize X/d=Qt at *
 generalize X % d=Mt at *
 have e6:IntKind.u64.wrap (Qt:Int)=(Qt:Int):=wrap_u64 (by omega) (by omega)
 have e7:IntKind.u64.wrap (Mt:Int)=(Mt:Int):=wrap_u64 (by omega) (by omega)
 have c1:((0:Int)<=(i:Int)/\(i:Int)<(l.length:Int))=True:=eq_true (by omega)
 have st:∀L ts,storeAt ⟨L,ts⟩ [.int .u64 Qt] 2 (0+i*1) (some (.cells (lc q) 159))=some ⟨L.set 2 (.cells (lc (q.set i Qt)) 159),ts⟩:=λL ts=>by
  rw[YE,Kk ⟨by rw[jqA];simp;omega,rfl⟩,show 0+i*1=i by omega,jwa q i Qt (by omega)];rfl
 refine jaq ?_
 simp only[asgR,bodR,rngC,jay,Tryz.f171,Kv,Option.or,H171]
 simp only[Ka,simprocAttr,Uq,Ke,Ur,jab,Xl,Xy,t2,t3,t6,t7,jhj,jhk,p1,hp,e1,e2,e3,e4,e5,e6,e7]
 refine⟨by kernel_rfl,?_⟩
 refine jk9 rfl (λs=>s.heap[1]? = some (.cells [.int .u64 d] 159)/\s.heap[3]? = some (.cells [.hsl 2 0 l.length l.length .exact] 124)) ⟨rfl,rfl⟩ (by kernel_rfl) ?_
 simp only[Ka,simprocAttr,Uq,Ke,Ur,jab,hhWa,hhWb,hhWc,hhWd,t2,t3,t6,t7,jhj,jhk,e3,e4,e5,e6,e7,jbL,c1,st]
 refine⟨λs h=>by rw[h.2];rfl,λs h=>by rw[h.1];rfl,λs h=>by rw[h.1];rfl,⟨by rw[jqA];omega,rfl⟩,rfl,q.set i Qt,Mt,?_,by rw[Jj];exact hq,λx hx => ?_,hmod⟩
 ·have:=jwa q i Qt (by omega)
  unfold jab at this
  unfold H171
  rw[<- this];rfl
 ·rcases List.mem_or_eq_of_mem_set hx with h|h
  ·exact hqB x h
  ·omega
theorem e124:jfR env 124=some 159:=by kernel_rfl
theorem b159:bys env 159=some 8:=by kernel_rfl
theorem z159:jbG env 159=some (.int .u64 0):=by kernel_rfl
theorem jAu(r:Nat):env.mutb 171 r=true:=rfl
theorem jxf(n:Nat):lc (List.replicate n 0)=List.replicate n (.int .u64 0):=by simp[lc]
theorem jyR {O:S}(n:Nat)(hn:n ≠ 0)(hl:n<=2^30):jq2 env true O 124 (.int .i64 n) (.int .i64 n)=some (.hsl O.heap.length 0 n n .exact,O.push (.cells (lc (List.replicate n 0)) 159)):=by
 have hlim:(lim:Nat)=2^40:=rfl
 have h1:0<=(n:Int)/\(n:Int)<=n/\(n:Int)<=(lim:Nat)/\(n:Int)*((8:Nat):Int)<=(lim:Nat):=by rw[hlim];omega
 have h2:¬n*1=0:=by omega
 rw[jxf]
 simp only[jq2,e124,s159,b159,z159,Kj,h1,and_self,Ku,K3,h2,Kr,Y6,K2,K5,K7,true_or,T.rep_flat]
theorem ju5(n:Nat):∀x∈List.replicate n 0,x<1000000000:=λx hx=>by rw[(List.mem_replicate.1 hx).2];omega
theorem jbN {E:Env}{f:FuncId}{args:List V}{F:Go.Func}{body:Code}(hp:E.pure f=true)(hk:E.hook f=none)(hc:args.all V.closed=true)(hf:E.P.funcs[f]? = some F)(hb:F.body=some body)
  (hn:F.name ≠ "runtime.NumGoroutine") (hl:args.length<=F.ntmps) (P:V->Prop)
  (hw:wpC E f none F.ntmps body (argT args) [] S.empty ⟨wpR E F.results.toList λv' O'=>∃v,jbo O'.heap jax v'=some v/\P v,λ_ _ _ _=>False,wpR E F.results.toList λv' O'=>∃v,jbo O'.heap jax v'=some v/\P v⟩) :
  ∃v,P v/\∀O,jar E (ev E) f args O=some (v,O):=by
 obtain⟨v',O',h1,v,h2,h3⟩:=jl2 hf hb hn hl hw
 refine⟨v,h3,λO => ?_⟩
 unfold jar
 simp only[hk,hp,jeO hc,hc,h1,h2,Ku,Kw]
def K171(l:List Nat)(d:Nat)(v:V):Prop:=∃w q,v=.tup [w,.int .u64 (val l % d:Nat)]/\IsL w q/\q.length<=l.length/\∀x∈q,x<1000000000
theorem jfm {v:V}{l:List Nat}(hv:IsL v l)(hne:l ≠ [])(hl:l.length<=2^30)(hB:∀x∈l,x<1000000000){d:Nat}(h1:1<=d)(h2:d<1000000000) :
  ∃u,K171 l d u/\∀O,jar env (ev env) 171 [v,.int .u64 d] O=some (u,O):=by
 have hn0:l.length ≠ 0:=λh=>hne (Qf h)
 have hlen:=jkK hv
 have hc:=jd9 hv
 have hmk:∀O:S,jq2 env true O 124 (.int .i64 l.length) (.int .i64 l.length)=some (.hsl O.heap.length 0 l.length l.length .exact,O.push (.cells (lc (List.replicate l.length 0)) 159)):=λO=>jyR l.length hn0 hl
 have z124:jbG env 124=some .nilsl:=by kernel_rfl
 refine jbN rfl rfl (by simp[jcB hv,V.closed]) jAs rfl (by simp[Tryz.f171]) (by simp[Tryz.f171]) _ (jaq ?_)
 simp only[Tryz.f171,Ka,simprocAttr,Uq,Ke,Ur,jab,jas,jhk,jhj,hlen,hc.1,hc.2,jhG,jAu,hmk,z124,z159,jpk v hc.1]
 refine⟨rfl,jsm rfl ?_⟩
 intro tmps lo lx hr hlo hlx
 have hrd:∀i O,i<l.length->P171 v l d lo (i+1) O->∃r O',jdp env (ev env) (.yld 7) [.int .i64 i,.int .u64 (l.getD i 0)] O=some (.bool r,O')/\(if r=true then P171 v l d lo i O' else False):=λi O hi hP=>by
  obtain⟨O',a,b⟩:=jpl hv hl hB h1 h2 hr hlo rfl rfl rfl rfl i O hi hP
  exact⟨true,O',a,b⟩
 obtain⟨u,O2,hcall,hE⟩:=jkq (y:=.yld 7) (b:=5) (P:=P171 v l d lo) (R:=λ_=>False) (λi O h=>by obtain⟨q,r,rfl,_⟩:=h;rfl) hv (by omega) hrd
  ⟨[.cells [v] 124,.cells [.int .u64 d] 159,.cells (lc (List.replicate l.length 0)) 159,.cells [.hsl 2 0 l.length l.length .exact] 124,.cells [.int .u64 0] 159,.cells [v] 124,.defd true,lo],[]⟩
  ⟨List.replicate l.length 0,0,rfl,List.length_replicate,ju5 _,by rw[List.drop_length];exact(Nat.zero_mod d).symm⟩
 obtain⟨q,r,rfl,hq,hqB,hrv⟩:=hE.resolve_right (λh=>h)
 rw[Qq]at hrv
 subst hrv
 refine⟨u,_,jez rfl rfl hcall,rfl,?_⟩
 clear hcall hrd
 have hsl:Sl (H171 v d l.length lx q (val l % d)).heap (.hsl 2 0 l.length l.length .exact) q:=.inr (.inr ⟨2,l.length,.exact,[],159,by rw[hq],by rw[Jk];rfl,by omega,by rw[Jk];omega⟩)
 obtain⟨w,q',t1,t2,k,k1,k2,k3,k4⟩:=jnT (ts:=[]) hsl (by omega)
 unfold H171 at t1 t2
 simp only at t1 t2
 unfold H171
 simp only[Va,jab,simprocAttr,Ka,Uq,Ke,Vq]
 refine jk9 rfl (λs=>s.heap[3]? = some (.cells [.hsl 2 0 l.length l.length .exact] 124)/\s.heap[4]? = some (.cells [.int .u64 (val l % d:Nat)] 159)) ⟨rfl,rfl⟩ (by kernel_rfl) ?_
 simp only[Ka,simprocAttr,Uq,Ke,Ur,jab,hhWa,hhWb,hhWc,hhWd,jhj,jhk,t1,wpR,jbK]
 obtain⟨w',s1,s2⟩:=jtA (H':=[.cells [v] 124,.cells [.int .u64 d] 159,.cells (lc q) 159,.cells [.hsl 2 0 l.length l.length .exact] 124,.cells [.int .u64 (val l % d:Nat)] 159,.cells [v] 124,.defd false,lx]) t2 (λb cs t hb=>by
  match b,hb with
  |0,hb=>exact hb
  |1,hb=>exact hb
  |2,hb=>exact hb
  |3,hb=>exact hb
  |4,hb=>exact hb
  |5,hb=>exact hb
  |6,hb=>cases hb
  |7,hb=>exact hb
  |n+8,hb=>cases hb) 9
 refine⟨λs h=>by rw[h.1];rfl,λ_=>trivial,λs h=>by rw[h.2];rfl,_,?_,w',q',rfl,s2,?_,?_⟩
 ·simp only[jaX,jax,ja8,jaA,jaF,jaW,s1,Kj,Kw]
 ·rw[k2,K8];omega
 ·rw[k2];exact λx hx=>hqB x (Vt hx)
theorem jAv:env.P.funcs[170]? = some Tryz.f170:=by kernel_rfl
theorem jAw:env.P.funcs[202]? = some Tryz.f202:=by kernel_rfl
theorem jAx:env.P.funcs[203]? = some Tryz.f203:=by kernel_rfl
theorem jAy:env.P.funcs[222]? = some Tryz.f222:=by kernel_rfl
theorem jAz:env.P.funcs[223]? = some Tryz.f223:=by kernel_rfl
def cmpI(a b:Int):Int:=if a<b then -1 else if b<a then 1 else 0
theorem nan1(a:Int)(O:S):jar env (ev env) 222 [.int .i64 a] O=some (.bool false,O):=by
 refine jau rfl rfl rfl jAy rfl (by simp[Tryz.f222]) (by simp[Tryz.f222]) (jaq ?_) O
 have h:(a=a)=True:=eq_true rfl
 simp only[Tryz.f222,Ka,simprocAttr,Uq,Ke,Uu,h,ne_eq]
 rfl
theorem nan2(a:Int)(O:S):jar env (ev env) 223 [.int .u64 a] O=some (.bool false,O):=by
 refine jau rfl rfl rfl jAz rfl (by simp[Tryz.f223]) (by simp[Tryz.f223]) (jaq ?_) O
 have h:(a=a)=True:=eq_true rfl
 simp only[Tryz.f223,Ka,simprocAttr,Uq,Ke,Uu,h,ne_eq]
 rfl
theorem cmp1(a b:Int)(O:S):jar env (ev env) 202 [.int .i64 a,.int .i64 b] O=some (.int .i64 (cmpI a b),O):=by
 refine jau rfl rfl rfl jAw rfl (by simp[Tryz.f202]) (by simp[Tryz.f202]) (jaq ?_) O
 unfold cmpI
 by_cases h1:a<b
 ·have c1:=eq_true h1
  simp only[Tryz.f202,Ka,simprocAttr,Uq,Ke,Uu,nan1,c1]
  rfl
 ·have c1:=eq_false h1
  by_cases h2:b<a
  ·have c2:=eq_true h2
   simp only[Tryz.f202,Ka,simprocAttr,Uq,Ke,Uu,nan1,c1,c2]
   rfl
  ·have c2:=eq_false h2
   simp only[Tryz.f202,Ka,simprocAttr,Uq,Ke,Uu,nan1,c1,c2]
   rfl
theorem cmp2(a b:Int)(O:S):jar env (ev env) 203 [.int .u64 a,.int .u64 b] O=some (.int .i64 (cmpI a b),O):=by
 refine jau rfl rfl rfl jAx rfl (by simp[Tryz.f203]) (by simp[Tryz.f203]) (jaq ?_) O
 unfold cmpI
 by_cases h1:a<b
 ·have c1:=eq_true h1
  simp only[Tryz.f203,Ka,simprocAttr,Uq,Ke,Uu,nan2,c1]
  rfl
 ·have c1:=eq_false h1
  by_cases h2:b<a
  ·have c2:=eq_true h2
   simp only[Tryz.f203,Ka,simprocAttr,Uq,Ke,Uu,nan2,c1,c2]
   rfl
  ·have c2:=eq_false h2
   simp only[Tryz.f203,Ka,simprocAttr,Uq,Ke,Uu,nan2,c1,c2]
   rfl
def cmpT(a b:List Nat):Nat->Int
 |0=>0
 |i+1=>if a.getD i 0=b.getD i 0 then cmpT a b i else cmpI (a.getD i 0:Nat) (b.getD i 0:Nat)
def cmpL(a b:List Nat):Int:=if a.length=b.length then cmpT a b a.length else cmpI a.length b.length
theorem z3:jbG env 3=some (.int .i64 0):=by kernel_rfl
def H170(u v:V)(c:Int)(lo:AObj):S:=⟨[.cells [u] 124,.cells [v] 124,.cells [.int .i64 c] 3,.cells [u] 124,.defd true,lo],[]⟩
def P170(u v:V)(a b:List Nat)(lo:AObj)(i:Nat)(O:S):Prop:=O=H170 u v 0 lo/\cmpT a b a.length=cmpT a b i
def R170(u v:V)(a b:List Nat)(lr:AObj)(O:S):Prop:=O=H170 u v (cmpT a b a.length) lr
theorem jtD {u v:V}{a b:List Nat}(hu:IsL u a)(hv:IsL v b)(hab:a.length=b.length){T:Tm}{tmps:List V}{lo lr:AObj}(hr:Rep 38 T tmps)
  (hlo:lo=.loop .ready none 170 tmps #[18,19] (asgR (jay Tryz.f170)) (bodR (jay Tryz.f170)) 4) (hlr:lr=.loop .done (some .ret) 170 tmps #[18,19] (asgR (jay Tryz.f170)) (bodR (jay Tryz.f170)) 4)
  (t2:T 2=.ptr 0 0) (t3:T 3=.ptr 1 0) (t4:T 4=.ptr 2 0) (i:Nat) (O:S) (hi:i<a.length) (hP:P170 u v a b lo (i+1) O) :
  ∃r O',jdp env (ev env) (.yld 5) [.int .i64 i,.int .u64 (a.getD i 0)] O=some (.bool r,O')/\(if r=true then P170 u v a b lo i O' else R170 u v a b lr O'):=by
 obtain⟨rfl,hc⟩:=hP
 obtain⟨p,p1,p2⟩:=hu.at i hi
 obtain⟨q,q1,q2⟩:=hv.at i (by omega)
 rw[show cmpT a b (i+1)=if a.getD i 0=b.getD i 0 then cmpT a b i else cmpI (a.getD i 0:Nat) (b.getD i 0:Nat)from rfl]at hc
 by_cases h:a.getD i 0=b.getD i 0
 ·rw[Kk h]at hc
  have c1:(((a.getD i 0:Nat):Int)=((b.getD i 0:Nat):Int))=True:=eq_true (by omega)
  have hh:∃O',jdp env (ev env) (.yld 5) [.int .i64 i,.int .u64 (a.getD i 0)] (H170 u v 0 lo)=some (.bool true,O')/\P170 u v a b lo i O':=by
   refine jgB hlo rfl hr rfl (by simp) ?_
   intro lb hlb
   clear hlb hlo hr
   refine jaq ?_
   simp only[asgR,bodR,rngC,jay,Tryz.f170,Kv,Option.or,H170]
   simp only[Ka,simprocAttr,Uq,Ke,Ur,jab,Xl,Xy,t2,t3,t4,jhj,jhk,p1,p2,q1,q2,c1]
   exact⟨by kernel_rfl,rfl,hc⟩
  obtain⟨O',h1,h2⟩:=hh
  exact⟨true,O',h1,h2⟩
 ·rw[Km h]at hc
  have c1:(((a.getD i 0:Nat):Int)=((b.getD i 0:Nat):Int))=False:=eq_false (by omega)
  have hh:∃O',jdp env (ev env) (.yld 5) [.int .i64 i,.int .u64 (a.getD i 0)] (H170 u v 0 lo)=some (.bool false,O')/\R170 u v a b lr O':=by
   refine jnd hlo rfl hr rfl (by simp) ?_
   intro lb lr2 hlb hlr2
   have hlr3:lr2=lr:=by rw[hlr,hlr2]
   clear hlb hlo hr hlr2 hlr
   subst hlr3
   refine jaq ?_
   simp only[asgR,bodR,rngC,jay,Tryz.f170,Kv,Option.or,H170]
   simp only[Ka,simprocAttr,Uq,Ke,Ur,jab,Xl,Xy,t2,t3,t4,jhj,jhk,p1,p2,q1,q2,c1,cmp2]
   refine⟨by kernel_rfl,by kernel_rfl,rfl,?_⟩
   unfold R170
   rw[hc]
   rfl
  obtain⟨O',h1,h2⟩:=hh
  exact⟨false,O',h1,h2⟩
theorem ju6 {u v:V}{a b:List Nat}(hu:IsL u a)(hv:IsL v b)(hl:a.length<=2^30)(O:S):jar env (ev env) 170 [u,v] O=some (.int .i64 (cmpL a b),O):=by
 have hlu:=jkK hu
 have hlv:=jkK hv
 have hcu:=jd9 hu
 have hcv:=jd9 hv
 refine jau rfl rfl (by simp[jcB hu,jcB hv]) jAv rfl (by simp[Tryz.f170]) (by simp[Tryz.f170]) (jaq ?_) O
 unfold cmpL
 by_cases h:a.length=b.length
 ·rw[Kk h]
  have c1:((a.length:Int)=(b.length:Int))=True:=eq_true (by omega)
  simp only[Tryz.f170,Ka,simprocAttr,Uq,Ke,Ur,jab,jas,jhk,hlu,hlv,hcu.1,hcv.1,c1,z3,jpk u hcu.1]
  refine jpK rfl ?_
  intro tmps lo lr hr hlo hlr
  obtain⟨w,O2,hcall,hE⟩:=jkq (y:=.yld 5) (b:=3) (P:=P170 u v a b lo) (R:=R170 u v a b lr) (λi O h=>by obtain⟨rfl,_⟩:=h;rfl) hu (by omega) (jtD hu hv h hr hlo hlr rfl rfl rfl)
   ⟨[.cells [u] 124,.cells [v] 124,.cells [.int .i64 0] 3,.cells [u] 124,.defd true,lo],[]⟩ ⟨rfl,rfl⟩
  refine⟨w,O2,jez rfl rfl hcall,?_⟩
  rcases hE with⟨rfl,hc⟩|rfl
  ·refine .inl ⟨rfl,_,rfl,?_⟩
   rw[hc]
   generalize AObj.loop .exhausted none 170 tmps _ _ _ _=lx
   unfold H170 cmpT
   simp only[Va,jab,simprocAttr,Ka,Uq,Ke,Vq,wpR,jbK,al3]
   first|exact⟨rfl,rfl⟩|rfl
  ·refine .inr ⟨rfl,_,rfl,?_⟩
   generalize AObj.loop .exhausted _ 170 tmps _ _ _ _=lx
   unfold H170
   simp only[Va,jab,simprocAttr,Ka,Uq,Ke,Vq,wpR,jbK,al3]
   first|exact⟨rfl,rfl⟩|rfl
 ·rw[Km h]
  have c1:((a.length:Int)=(b.length:Int))=False:=eq_false (by omega)
  simp only[Tryz.f170,Ka,simprocAttr,Uq,Ke,Ur,jab,jas,jhk,hlu,hlv,hcu.1,hcv.1,c1,z3,cmp1,al3]
  exact⟨rfl,rfl⟩
theorem jAA:env.P.funcs[139]? = some Tryz.f139:=by kernel_rfl
theorem jAB:env.P.funcs[140]? = some Tryz.f140:=by kernel_rfl
def numL(n:Nat):List Nat:=if n=0 then []else if n<1000000000 then [n]else [0,1]
theorem jyS {n:Nat}(h:n<1000000000):ofL n=numL n:=by
 unfold ofL numL
 by_cases h0:n=0
 ·rw[Kk h0,Kk h0]
 ·rw[Km h0,Km h0,Kk h]
theorem jmm {n:Nat}(h:n<=1000000000):val (numL n)=n/\(numL n).length<=2/\∀x∈numL n,x<1000000000:=by
 unfold numL
 by_cases h0:n=0
 ·rw[Kk h0];subst h0;exact⟨rfl,by simp,by simp⟩
 ·rw[Km h0]
  by_cases h1:n<1000000000
  ·rw[Kk h1];exact⟨by simp[val],by simp,by simpa using h1⟩
  ·rw[Km h1];exact⟨by simp[val];omega,by simp,by simp⟩
theorem jtE {x y:Nat}(hx:x<=1000000000)(hy:y<=1000000000):cmpL (numL x) (numL y)<0↔x<y:=by
 unfold numL
 by_cases x0:x=0
 ·rw[Kk x0]
  by_cases y0:y=0
  ·rw[Kk y0];subst x0 y0;decide
  ·rw[Km y0]
   by_cases y1:y<1000000000
   ·rw[Kk y1];simp[cmpL,cmpI];omega
   ·rw[Km y1];simp[cmpL,cmpI];omega
 ·rw [Km x0]
  by_cases x1:x<1000000000
  ·rw [Kk x1]
   by_cases y0:y=0
   ·rw[Kk y0];simp[cmpL,cmpI];omega
   ·rw[Km y0]
    by_cases y1:y<1000000000
    ·rw[Kk y1]
     by_cases e:x=y
     ·subst e;simp[cmpL,cmpT]
     ·simp only[cmpL,K2,K5,Ku,cmpT,X9,Km e,cmpI]
      by_cases h:x<y
      ·rw[Kk (by omega)];omega
      ·rw[Km (by omega),Kk (by omega)];omega
    ·rw[Km y1];simp[cmpL,cmpI];omega
  ·rw[Km x1]
   by_cases y0:y=0
   ·rw[Kk y0];simp[cmpL,cmpI];omega
   ·rw[Km y0]
    by_cases y1:y<1000000000
    ·rw[Kk y1];simp[cmpL,cmpI];omega
    ·rw[Km y1]
     have h1:¬x<y:=by omega
     simp[cmpL,cmpT,h1]
def KD(x y:Nat)(w:V):Prop:=∃q r ql,w=.tup [q,r]/\IsL q ql/\ql.length<=2/\(∀e∈ql,e<1000000000)/\IsL r (numL (x % y))
theorem jmn {u v:V}{x y:Nat}(hu:IsL u (numL x))(hv:IsL v (numL y))(hx:x<=1000000000)(hy:y<=1000000000)(h1:1<=y)(hxy:¬(x=1000000000/\y=1000000000)) :
  ∃w,KD x y w/\∀O,jar env (ev env) 140 [u,v] O=some (w,O):=by
 obtain⟨vx,lx,bx⟩:=jmm hx
 obtain⟨vy,ly,by'⟩:=jmm hy
 have hcmp:=ju6 hu hv (by omega)
 refine jbN rfl rfl (by simp[jcB hu,jcB hv]) jAB rfl (by simp[Tryz.f140]) (by simp[Tryz.f140]) _ (jaq ?_)
 by_cases hlt:x<y
 ·have c1:(cmpL (numL x) (numL y)<0)=True:=eq_true ((jtE hx hy).2 hlt)
  simp only[Tryz.f140,Ka,simprocAttr,Uq,Ke,Uu,hcmp,c1]
  refine⟨.tup [.nilsl,u],?_,.nilsl,u,[],rfl,.inl ⟨rfl,rfl⟩,by simp,by simp,by rw[Xj hlt];exact hu⟩
  simp only[jaX,jax,ja8,jaA,jaF,jg7,jlD hu,Kj,Kw]
 ·have c1:(cmpL (numL x) (numL y)<0)=False:=eq_false (λh=>hlt ((jtE hx hy).1 h))
  have hy1:y<1000000000:=by omega
  have ey:numL y=[y]:=by unfold numL;rw[Km (by omega),Kk hy1]
  rw[ey]at hv
  have hlen:=jkK hv
  obtain⟨p,p1,p2⟩:=hv.at 0 (by simp)
  have p1':jaJ 1 v (.int .i64 0)=some p:=p1
  have p2':∀H:List AObj,(jai H 1 p).bind (·[0]?)=some (.int .u64 y):=p2
  obtain⟨w0,⟨w,q,rfl,k1,k2,k3⟩,hsm⟩:=jfm hu (by intro e;rw[e]at vx;simp[val]at vx;omega) (by omega) bx h1 hy1
  rw[vx]at hsm
  have hm:=J4 x h1
  obtain⟨z,z1,z2⟩:=jtC (x % y) (by omega)
  have c2:(((1:Nat):Int)=1)=True:=eq_true rfl
  simp only[Tryz.f140,Ka,simprocAttr,Uq,Ke,Uu,hcmp,c1,hlen,c2,p1',p2',jhj,hsm,z2]
  refine⟨.tup [w,z],?_,w,z,q,rfl,k1,by omega,k3,by rw[<- jyS (by omega)];exact z1⟩
  simp only[jaX,jax,ja8,jaA,jaF,jlD k1,jlD z1,Kj,Kw]
def KG(x y:Nat)(w:V):Prop:=IsL w (numL (Nat.gcd x y))
theorem ju7 {u v:V}{x y:Nat}(hu:IsL u (numL x))(hv:IsL v (numL y))(hx:x<=1000000000)(hy:y<=1000000000)(hxy:¬(x=1000000000/\y=1000000000)) :
  ∃w,KG x y w/\∀O,jar env (ev env) 139 [u,v] O=some (w,O):=by
 refine jbN rfl rfl (by simp[jcB hu,jcB hv]) jAA rfl (by simp[Tryz.f139]) (by simp[Tryz.f139]) _ (jaq ?_)
 simp only[Tryz.f139,Ka,simprocAttr,Uq,Ke,Uu]
 refine jbs (λm T D O=>D=[]/\O=⟨[],[]⟩/\∃a b:Nat,m=b/\IsL (T 0) (numL a)/\IsL (T 1) (numL b)/\a<=1000000000/\b<=1000000000/\¬(a=1000000000/\b=1000000000)/\Nat.gcd a b=Nat.gcd x y) ?_ y _ _ _ ⟨rfl,rfl,x,y,rfl,hu,hv,hx,hy,hxy,rfl⟩
 clear hu hv hx hy hxy
 rintro m T D O ⟨rfl,rfl,a,b,hm,ha,hb,ha1,hb1,hab,hg⟩
 subst m
 generalize hT0:T 0=u at ha
 generalize hT1:T 1=v at hb
 refine jaq ?_
 have hlen:=jkK hb
 by_cases h0:b=0
 ·subst h0
  have c0:((0:Int)<((numL 0).length:Int))=False:=eq_false (by simp[numL])
  simp only[Ka,simprocAttr,Uq,Ke,Vq,hT0,hT1,hlen,c0]
  refine⟨u,?_,?_⟩
  ·simp only[jaX,jax,jlD ha]
  ·unfold KG;rw[<- hg,Nat.gcd_zero_right];exact ha
 ·have hl:0<(numL b).length:=by
   unfold numL;rw[Km h0];split<;>simp
  have c0:((0:Int)<((numL b).length:Int))=True:=eq_true (by omega)
  obtain⟨w,⟨q,r,ql,rfl,q1,q2,q3,q4⟩,hd⟩:=jmn ha hb ha1 hb1 (by omega) hab
  have hm:=J4 a (show 0<b by omega)
  simp only[Ka,simprocAttr,Uq,Ke,Vq,hT0,hT1,hlen,c0,hd]
  exact⟨a % b,hm,b,a % b,rfl,hb,q4,hb1,by omega,by omega,by rw[<- hg,Nat.gcd_comm b,<- Nat.gcd_rec,Nat.gcd_comm]⟩
theorem at98:env.P.funcs[98]? = some Tryz.f98:=by kernel_rfl
theorem at99:env.P.funcs[99]? = some Tryz.f99:=by kernel_rfl
theorem jAC:env.P.funcs[134]? = some Tryz.f134:=by kernel_rfl
theorem jAD:env.P.funcs[135]? = some Tryz.f135:=by kernel_rfl
theorem jAE:env.P.funcs[167]? = some Tryz.f167:=by kernel_rfl
theorem jAF:env.P.funcs[168]? = some Tryz.f168:=by kernel_rfl
theorem jAG:env.P.funcs[194]? = some Tryz.f194:=by kernel_rfl
theorem jAH:env.P.funcs[198]? = some Tryz.f198:=by kernel_rfl
theorem jAI:env.P.funcs[199]? = some Tryz.f199:=by kernel_rfl
theorem jAJ:env.P.funcs[218]? = some Tryz.f218:=by kernel_rfl
theorem u204:env.P.underlying 204=some (.array 256 4):=by kernel_rfl
theorem s4:sz env 4=some 1:=by kernel_rfl
theorem jyT(c:UInt8):A.setC[c.toNat]? = some (.bool (Nat.ble 48 c.toNat && Nat.ble c.toNat 57)):=by
 have h:c.toNat<256:=c.toNat_lt
 unfold A.setC
 rw[Xe,List.getElem?_range h];rfl
theorem jqC(L:List AObj)(ts:List Nat)(b:Nat)(hb:L[b]? = some (.cells A.setC 204))(c:UInt8):jar env (ev env) 218 [.ptr b 0,.int .u8 c.toNat] ⟨L,ts⟩=some (.bool (Nat.ble 48 c.toNat && Nat.ble c.toNat 57),⟨L,ts⟩):=by
 refine jbk rfl rfl jAJ rfl (by simp[Tryz.f218]) (by simp[Tryz.f218]) (jaq ?_)
 have h:c.toNat<256:=c.toNat_lt
 have ix:idxO (env.P.underlying 204) (sz env) (some (.ptr b 0)) (some (.int .u8 c.toNat))=some (.ptr b c.toNat):=by
  rw[u204];simp[idxO,s4,jdr];omega
 have ld:jbi env L 4 (.ptr b c.toNat)=some (.bool (Nat.ble 48 c.toNat && Nat.ble c.toNat 57)):=by
  rw[al4,YA,hb,YB,jyT]
 simp only[Tryz.f218,Ka,simprocAttr,Uq,Ke,Vq,jaa,jae,ix,ld,jaX]
theorem jqD(w:List UInt8)(k:Nat)(h:k<=w.length):jbA env 9 (.str w) none (some (.int .i64 (k:Int))) none=some (.str (w.take k)):=by
 simp[jbA,u9,jci,jbd,h]
theorem jqE(w:List UInt8)(k:Nat)(h:k<=w.length):jbA env 9 (.str w) (some (.int .i64 (k:Int))) none none=some (.str (w.drop k)):=by
 simp[jbA,u9,jci,jbd,h]
 exact Qi (by simp)
theorem jrp(L:List AObj)(ts:List Nat)(b:Nat)(hb:L[b]? = some (.cells A.setC 204))(s:List UInt8)(hl:s.length<=2^30):∃w,jar env (ev env) 199 [.str s,.ptr b 0] ⟨L,ts⟩=some (.str w,⟨L,ts⟩)/\w.length<=s.length:=by
 obtain⟨v',O',h1,rfl,w,rfl,h2⟩:=jcp (E:=env) (f:=199) (args:=[.str s,.ptr b 0]) (O:=⟨L,ts⟩) (k:=λv' O'=>O'=⟨L,ts⟩/\∃w,v'=.str w/\w.length<=s.length) rfl rfl jAI rfl (by simp[Tryz.f199]) (by simp[Tryz.f199]) (jaq (by
  simp only[Tryz.f199,Ka,simprocAttr,Uq,Ke,Vq]
  refine jbs (λm T D O=>D=[]/\O=⟨L,ts⟩/\T 1=.ptr b 0/\∃w:List UInt8,T 0=.str w/\m=w.length/\w.length<=s.length) ?_ s.length _ _ _ ⟨rfl,rfl,rfl,s,rfl,rfl,Kx _⟩
  rintro m T D O ⟨rfl,rfl,t1,w,t0,hm,hw⟩
  subst m
  refine jaq ?_
  by_cases h0:0<w.length
  ·have c0:((0:Int)<(w.length:Int))=True:=eq_true (by omega)
   have e1:IntKind.i64.wrap ((w.length:Int)-1)=((w.length-1:Nat):Int):=by rw[wrap_i64 (by omega) (by omega)];omega
   have c2:((0:Int)<=((w.length-1:Nat):Int)/\((w.length-1:Nat):Int)<(w.length:Int))=True:=eq_true (by omega)
   have hc:=jqC L ts b hb (w.getD (w.length-1) 0)
   have sl:=jqD w (w.length-1) (by omega)
   cases hB:(Nat.ble 48 (w.getD (w.length-1) 0).toNat && Nat.ble (w.getD (w.length-1) 0).toNat 57)
   ·rw[hB]at hc
    simp only[Ka,simprocAttr,Uq,Ke,Vq,t0,t1,jaN,c0,e1,jaG,jaE u9,c2,hc]
    exact⟨w,rfl,hw⟩
   ·rw[hB]at hc
    simp only[Ka,simprocAttr,Uq,Ke,Vq,t0,t1,jaN,c0,e1,jaG,jaE u9,c2,hc,ja9,jba,jbg,sl]
    exact⟨w.length-1,by omega,_,rfl,by rw[K8];omega,by rw[K8];omega⟩
  ·have c0:((0:Int)<(w.length:Int))=False:=eq_false (by omega)
   simp only[Ka,simprocAttr,Uq,Ke,Vq,t0,t1,jaN,c0]
   exact⟨w,rfl,hw⟩))
 exact⟨w,h1,h2⟩
theorem jtF(L:List AObj)(ts:List Nat)(b:Nat)(hb:L[b]? = some (.cells A.setC 204))(s:List UInt8)(hl:s.length<=2^30):∃w,jar env (ev env) 198 [.str s,.ptr b 0] ⟨L,ts⟩=some (.str w,⟨L,ts⟩):=by
 obtain⟨v',O',h1,rfl,w,rfl⟩:=jcp (E:=env) (f:=198) (args:=[.str s,.ptr b 0]) (O:=⟨L,ts⟩) (k:=λv' O'=>O'=⟨L,ts⟩/\∃w,v'=.str w) rfl rfl jAH rfl (by simp[Tryz.f198]) (by simp[Tryz.f198]) (jaq (by
  simp only[Tryz.f198,Ka,simprocAttr,Uq,Ke,Vq]
  refine jbs (λm T D O=>D=[]/\O=⟨L,ts⟩/\T 1=.ptr b 0/\∃w:List UInt8,T 0=.str w/\m=w.length) ?_ s.length _ _ _ ⟨rfl,rfl,rfl,s,rfl,rfl⟩
  rintro m T D O ⟨rfl,rfl,t1,w,t0,hm⟩
  subst m
  refine jaq ?_
  by_cases h0:0<w.length
  ·have c0:((0:Int)<(w.length:Int))=True:=eq_true (by omega)
   have hc:=jqC L ts b hb (w.getD 0 0)
   have sl:=jqE w 1 (by omega)
   have sl1:jbA env 9 (.str w) (some (.int .i64 1)) none none=some (.str (w.drop 1)):=sl
   cases hB:(Nat.ble 48 (w.getD 0 0).toNat && Nat.ble (w.getD 0 0).toNat 57)
   ·rw[hB]at hc
    simp only[Ka,simprocAttr,Uq,Ke,Vq,t0,t1,jaN,c0,jaG,jaE u9,hc]
    exact⟨w,rfl⟩
   ·rw[hB]at hc
    simp only[Ka,simprocAttr,Uq,Ke,Vq,t0,t1,jaN,c0,jaG,jaE u9,hc,ja9,jba,jbg,sl1]
    exact⟨w.length-1,by omega,_,rfl,by rw[Qn]⟩
  ·have c0:((0:Int)<(w.length:Int))=False:=eq_false (by omega)
   simp only[Ka,simprocAttr,Uq,Ke,Vq,t0,t1,jaN,c0]
   exact⟨w,rfl⟩))
 exact⟨w,h1⟩
theorem ju8:A.setC.length=256:=by kernel_rfl
theorem jtG:A.setC.all V.isCell=true:=by kernel_rfl
theorem z204:jbG env 204=some (.agg (List.replicate 256 (.bool false))):=by kernel_rfl
theorem jmo(T:Tm):jaK env T (.const (.string ⟨(48::49::50::51::52::53::54::55::56::57::[]).toArray⟩))=some (.str A.dgsS):=rfl
theorem jyU:(A.dgsS=[])=False:=eq_false (by decide)
theorem jxg:A.dgsS.length=10:=rfl
theorem jrq:(V.agg A.setC).cells=A.setC:=rfl
theorem s204:sz env 204=some 256:=by kernel_rfl
theorem jyV:List.drop 256 (List.replicate 256 (V.bool false))=[]:=by simp
theorem jAK:(List.replicate 256 (V.bool false)).length=256:=by simp
theorem ju9(s:List UInt8)(hl:s.length<=2^30):∃v,(∃w,v=.str w)/\∀O,jar env (ev env) 168 [.str s,.str A.dgsS] O=some (v,O):=by
 refine jbN rfl rfl rfl jAF rfl (by simp[Tryz.f168]) (by simp[Tryz.f168]) _ (jaq ?_)
 by_cases h:s=[]
 ·have c1:=eq_true h
  simp only[Tryz.f168,Ka,simprocAttr,Uq,Ke,Uu,jac,c1]
  exact⟨_,rfl,s,rfl⟩
 ·have c1:=eq_false h
  obtain⟨w,h1,h2⟩:=jrp [.cells A.setC 204] [] 0 rfl s hl
  obtain⟨x,h3⟩:=jtF [.cells A.setC 204] [] 0 rfl w (by omega)
  simp only[Tryz.f168,Ka,simprocAttr,Uq,Ke,Ur,jab,jas,jac,c1,jyU,jaN,jxg,ju3,z204,jrq,s204,ju8,jtG,jyV,jAK,h1,h3]
  exact⟨_,rfl,x,rfl⟩
theorem jnU(s:List UInt8)(hl:s.length<=2^30):∃v,(∃b,v=.bool b)/\∀O,jar env (ev env) 135 [.str s] O=some (v,O):=by
 obtain⟨_,⟨w,rfl⟩,ht⟩:=ju9 s hl
 refine jbN rfl rfl rfl jAD rfl (by simp[Tryz.f135]) (by simp[Tryz.f135]) _ (jaq ?_)
 by_cases h:s=[]
 ·have c1:=eq_true h
  simp only[Tryz.f135,Ka,simprocAttr,Uq,Ke,Uu,jac,jad,c1]
  exact⟨_,rfl,_,rfl⟩
 ·have c1:=eq_false h
  have hp:0<s.length:=by cases s with|nil=>exact absurd rfl h|cons a r=>simp
  have c0:((0:Int)<(s.length:Int))=True:=eq_true (by omega)
  by_cases h2:s=[48]
  ·have c2:=eq_true h2
   simp only[Tryz.f135,Ka,simprocAttr,Uq,Ke,Vq,↓jmo,jas,jac,jad,c1,c2,ht]
   exact⟨_,rfl,_,rfl⟩
  ·have c2:=eq_false h2
   by_cases h3:((s.getD 0 0).toNat:Int)=48
   ·have c3:=eq_true h3
    simp only[Tryz.f135,Ka,simprocAttr,Uq,Ke,Vq,↓jmo,jas,jac,jad,c1,c2,jaG,jaE u9,c0,c3]
    exact⟨_,rfl,_,rfl⟩
   ·have c3:=eq_false h3
    simp only[Tryz.f135,Ka,simprocAttr,Uq,Ke,Vq,↓jmo,jas,jac,jad,c1,c2,jaG,jaE u9,c0,c3,ht]
    exact⟨_,rfl,_,rfl⟩
theorem jgF(s:List UInt8)(hl:s.length<=2^30):∃v,(∃e,v=.int .i64 e)/\∀O,jar env (ev env) 99 [.str s] O=some (v,O):=by
 obtain⟨_,⟨b,rfl⟩,hf⟩:=jnU s hl
 refine jbN rfl rfl rfl at99 rfl (by simp[Tryz.f99]) (by simp[Tryz.f99]) _ (jaq ?_)
 cases b
 ·simp only[Tryz.f99,Ka,simprocAttr,Uq,Ke,Uu,hf]
  exact⟨_,rfl,_,rfl⟩
 ·by_cases h:(4000:Int)<(s.length:Int)
  ·have c:=eq_true h
   simp only[Tryz.f99,Ka,simprocAttr,Uq,Ke,Uu,hf,jaN,c]
   exact⟨_,rfl,_,rfl⟩
  ·have c:=eq_false h
   simp only[Tryz.f99,Ka,simprocAttr,Uq,Ke,Uu,hf,jaN,c]
   exact⟨_,rfl,_,rfl⟩
theorem jtH(s:List UInt8)(hs:s ≠ [])(h45:s.getD 0 0 ≠ 45)(O:S):jar env (ev env) 194 [.str s,.str [45]] O=some (.bool false,O):=by
 refine jau rfl rfl rfl jAG rfl (by simp[Tryz.f194]) (by simp[Tryz.f194]) (jaq ?_) O
 have hp:1<=s.length:=by cases s with|nil=>exact absurd rfl hs|cons a r=>simp
 have c0:((1:Int)<=(s.length:Int))=True:=eq_true (by omega)
 have sl:jbA env 9 (.str s) none (some (.int .i64 1)) none=some (.str (s.take 1)):=jqD s 1 hp
 have c1:(s.take 1=[45])=False:=eq_false (by
  cases s with
  |nil=>exact absurd rfl hs
  |cons a r=>intro h;simp at h h45;exact h45 h)
 simp only[Tryz.f194,Ka,simprocAttr,Uq,Ke,Uu,jaN,c0,ja9,jba,jbg,sl,jac,c1]
 rfl
theorem jva(s:List UInt8)(hs:s ≠ [])(h45:s.getD 0 0 ≠ 45)(O:S):jar env (ev env) 134 [.str s,.str [45]] O=some (.tup [.str s,.bool false],O):=by
 have h1:∀O,jar env (ev env) 167 [.str s,.str [45]] O=some (.tup [.str s,.bool false],O):=λO=>by
  refine jau rfl rfl rfl jAE rfl (by simp[Tryz.f167]) (by simp[Tryz.f167]) (jaq ?_) O
  simp only[Tryz.f167,Ka,simprocAttr,Uq,Ke,Uu,jtH s hs h45]
  rfl
 refine jau rfl rfl rfl jAC rfl (by simp[Tryz.f134]) (by simp[Tryz.f134]) (jaq ?_) O
 simp only[Tryz.f134,Ka,simprocAttr,Uq,Ke,Uu,h1]
 rfl
theorem jnV(s:List UInt8)(hs:s ≠ [])(h45:s.getD 0 0 ≠ 45)(hl:s.length<=2^30):∃v,(∃b,v=.tup [.bool false,.str s,.bool b])/\∀O,jar env (ev env) 98 [.str s] O=some (v,O):=by
 obtain⟨_,⟨b,rfl⟩,hf⟩:=jnU s hl
 have hc:=jva s hs h45
 refine jbN rfl rfl rfl at98 rfl (by simp[Tryz.f98]) (by simp[Tryz.f98]) _ (jaq ?_)
 cases b
 ·simp only[Tryz.f98,Ka,simprocAttr,Uq,Ke,Uu,hf,hc]
  exact⟨_,rfl,_,rfl⟩
 ·simp only[Tryz.f98,Ka,simprocAttr,Uq,Ke,Uu,hf,hc]
  exact⟨_,rfl,_,rfl⟩
open Go.Proofs.YtpclebdkhpapjaaGreatDoor.T (IsDg decV jqo)
theorem jAL:env.P.funcs[101]? = some Tryz.f101:=by kernel_rfl
def jea:Nat->List UInt8->List Nat->List Nat
 |0,_,acc=>acc
 |f+1,s,acc=>if s=[]then acc else jea f (s.take (s.length-9)) (acc++[decV 0 (s.drop (s.length-9))])
theorem jlE:∀(f:Nat) (s:List UInt8) (acc:List Nat),(jea f s acc).length<=acc.length+s.length
 |0,s,acc=>by unfold jea;omega
 | f+1,s,acc=>by
  unfold jea
  by_cases h:s=[]
  ·rw[Kk h];omega
  ·rw[Km h]
   have h1:0<s.length:=by cases s with|nil=>exact absurd rfl h|cons a r=>simp
   have:=jlE f (s.take (s.length-9)) (acc++[decV 0 (s.drop (s.length-9))])
   rw[Ks,Xn,K8]at this
   omega
theorem jyW:Elt env 124 159 1 8:=⟨e124,s159,b159,by kernel_rfl,u124⟩
theorem jrr {base w n:Nat}{ts:List Nat}{v:V}{cs:List V}(g:GrowV base ts w v n cs):(v=.nilsl/\n=0)\/∃q,v=.row cs n q:=by
 cases g with
 |nil=>exact .inl ⟨rfl,rfl⟩
 |full _ _ hl=>exact .inr ⟨_,rfl⟩
 |tok _ _ k e hl hb ht=>exact .inr ⟨_,rfl⟩
theorem jxh {base n:Nat}{ts:List Nat}{v:V}{l:List Nat}(g:GrowV base ts 1 v n (lc l))(H:List AObj):Sl H v l:=by
 have hn:=g.lens
 rw[jqA,Qr]at hn
 subst hn
 rcases jrr g with⟨rfl,h⟩|⟨q,rfl⟩
 ·exact .inl ⟨rfl,Qf h⟩
 ·exact .inr (.inl ⟨[],q,by rw[Jk]⟩)
theorem jyX(a b:List Nat):lc (a++b)=lc a++lc b:=by simp[lc]
theorem jwb(s:List UInt8)(hd:∀i,i<s.length->IsDg (s.getD i 0))(hl:s.length<=18):decV 0 s<1000000000000000000:=by
 have:=T.dec_small s hd hl s.length (Kx _)
 rwa[Jx]at this
theorem jyY(w:List UInt8)(i k:Nat)(h:k<=w.length)(hi:i<=k):jbA env 9 (.str w) (some (.int .i64 (i:Int))) (some (.int .i64 (k:Int))) none=some (.str ((w.take k).drop i)):=by
 have h1:((i:Nat):Int)<=(k:Int):=by omega
 simp[jbA,u9,jci,jbd,h,hi,List.drop_take]
theorem jrs(s:List UInt8)(hd:∀i,i<s.length->IsDg (s.getD i 0))(hl:s.length<=2^30):∃v,(∃r,IsL v r/\jqB (jea s.length s []) r)/\∀O,jar env (ev env) 101 [.str s] O=some (v,O):=by
 refine jbN rfl rfl rfl jAL rfl (by simp[Tryz.f101]) (by simp[Tryz.f101]) _ (jaq ?_)
 simp only[Tryz.f101,Ka,simprocAttr,Uq,Ke,Uu,jaN]
 generalize hfin:jea s.length s []=fin
 have hfl:fin.length<=2^30:=by
  have:=jlE s.length s []
  rw[hfin]at this
  simp only[K5]at this;omega
 refine jbs (λm T D O=>D=[]/\T 0=.str s/\∃(e:Nat) (x:Int) (acc:List Nat) (fuel:Nat),m=e/\T 4=.int .i64 x/\x<=e/\(x<e->x<=0/\e=0) /\ -9<=x/\e<=s.length/\acc.length<=s.length-e/\e<=fuel/\jea fuel (s.take e) acc=fin/\O.heap=[]/\GrowV 0 O.toks 1 (T 3) acc.length (lc acc)) ?_ s.length _ _ _
  ⟨rfl,rfl,s.length,s.length,[],s.length,rfl,rfl,Int.le_refl _,λh=>absurd h (by omega),by omega,Kx _,by simp,Kx _,by rw[Jx];exact hfin,rfl,.nil⟩
 rintro m T D ⟨H,ts⟩ ⟨rfl,t0,e,x,acc,fuel,hm,t4,hx1,hx2,hx3,he,hal,hef,hf,hH,hg⟩
 subst m
 simp only at hH hg
 subst hH
 refine jaq ?_
 generalize ht3:T 3=w at hg
 by_cases h0:0<e
 ·have hxe:x=e:=by omega
  subst hxe
  have c0:((0:Int)<(e:Int))=True:=eq_true (by omega)
  have e1:IntKind.i64.wrap ((e:Int)-9)=(e:Int)-9:=wrap_i64 (by omega) (by omega)
  have hmax:(if(e:Int)-9>0 then(e:Int)-9 else 0)=((e-9:Nat):Int):=by split<;>omega
  have hsl:=jyY s (e-9) e he (by omega)
  generalize hc:(s.take e).drop (e-9)=ch at hsl
  have hlen:ch.length=e-(e-9):=by rw[<- hc,Qn,K8];omega
  have hdc:∀i,i<ch.length->IsDg (ch.getD i 0):=by
   intro i hi
   have:ch.getD i 0=s.getD (e-9+i) 0:=by
    rw[<- hc]
    simp only[List.getD,Jo,Q9]
    rw[Kk (by omega)]
   rw[this];exact hd _ (by omega)
  have hdl:=jwb ch hdc (by omega)
  have hu:=jqo ch hdc (by intro h;rw[h]at hlen;simp at hlen;omega) (by omega) (by omega)
  have hcall:=λO=>jty hu (ev env) O
  obtain⟨f,rfl⟩:∃f,fuel=f+1:=⟨fuel-1,by omega⟩
  have hlt:(s.take e).length=e:=by rw[K8];omega
  have hne:¬s.take e=[]:=by intro h;rw[h]at hlt;simp at hlt;omega
  rw[show jea (f+1) (s.take e) acc=if s.take e=[]then acc else jea f ((s.take e).take ((s.take e).length-9)) (acc++[decV 0 ((s.take e).drop ((s.take e).length-9))])from rfl,Km hne,hlt,hc,Vm,Ju (by omega)]at hf
  have hlim:(lim:Nat)=2^40:=rfl
  obtain⟨v',ts',a1,a2,a3⟩:=GrowV.push (E:=env) (hp:=[]) (q:=.full) (new:=[.int .u64 (decV 0 ch)]) (t2:=124) jyW ⟨159,u124⟩ hg (Qm _) rfl rfl ⟨by rw[hlim];omega,by rw[hlim];omega⟩
  simp only[Ka,simprocAttr,Uq,Ke,Vq,t0,t4,ht3,c0,e1,hmax,ja9,jba,jbg,hsl,hcall,jaf,jv9,a1]
  refine⟨e-9,by omega,e-9,(e:Int)-9,acc++[decV 0 ch],f,rfl,rfl,by omega,λh=>by omega,by omega,by omega,?_,by omega,hf,?_⟩
  ·rw[Ks,Xn];omega
  ·rw[Ks,Xn,jyX];exact a2
 ·have he0:e=0:=by omega
  subst he0
  have c0:((0:Int)<x)=False:=eq_false (by omega)
  have hfa:acc=fin:=by
   rw[Q4]at hf
   cases fuel with
   |zero=>exact hf
   |succ f=>exact hf
  subst hfa
  obtain⟨v',r,t1,t2,t5⟩:=jnT (ts:=ts) (jxh hg []) (by omega)
  obtain⟨u,s1,s2⟩:=jtA t2 (λb cs t h=>h) 10
  simp only[Ka,simprocAttr,Uq,Ke,Vq,t0,t4,ht3,c0,t1]
  exact⟨u,s1,r,s2,t5⟩
open Go.Proofs.YtpclebdkhpapjaaGreatDoor.T (asgR bodR rngC jez Bld jtc Stay jfi jhe z110)
theorem jAM:env.P.funcs[143]? = some Tryz.f143:=by kernel_rfl
theorem jAN:env.P.funcs[144]? = some Tryz.f144:=by kernel_rfl
theorem jAO:env.P.funcs[102]? = some Tryz.f102:=by kernel_rfl
theorem jfH(n:Nat)(hn:n<1000000000):∃s,(∀O,jar env (ev env) 177 [.int .u64 n,.int .i64 10] O=some (.str s,O))/\s.length<=9:=by
 obtain⟨s,h1,h2,h3,h4,h5,h6⟩:=I.sfuint_call n (by omega)
 refine⟨s,λO=>ju2 h1 (ev env) O,?_⟩
 by_cases h:s.length<=9
 ·exact h
 ·have:=h6 (by omega)
  have h7:=Xc (n:=10) (by decide) (show 9<=s.length-1 by omega)
  omega
theorem jdO {v:V}{l:List Nat}(hv:IsL v l)(hB:∀x∈l,x<1000000000)(hl:l.length<=2^30):∃u,(∃n,u=.int .i64 n)/\∀O,jar env (ev env) 143 [v] O=some (u,O):=by
 have hlen:=jkK hv
 refine jbN rfl rfl (by simp[jcB hv]) jAM rfl (by simp[Tryz.f143]) (by simp[Tryz.f143]) _ (jaq ?_)
 by_cases h:(l.length:Int)=0
 ·have c1:=eq_true h
  simp only[Tryz.f143,Ka,simprocAttr,Uq,Ke,Uu,hlen,c1]
  exact⟨_,rfl,_,rfl⟩
 ·have c1:=eq_false h
  have e1:IntKind.i64.wrap ((l.length:Int)-1)=((l.length-1:Nat):Int):=by rw[wrap_i64 (by omega) (by omega)];omega
  obtain⟨p,p1,p2⟩:=hv.at (l.length-1) (by omega)
  have hx:l.getD (l.length-1) 0<1000000000:=by
   have:l.getD (l.length-1) 0=l[l.length-1]'(by omega):=by simp[List.getD,show l.length-1<l.length by omega]
   rw[this];exact hB _ (J7 _)
  obtain⟨s,hs,_⟩:=jfH _ hx
  simp only[Tryz.f143,Ka,simprocAttr,Uq,Ke,Uu,hlen,c1,e1,p1,p2,jhj,hs,jaN]
  exact⟨_,rfl,_,rfl⟩
theorem IsL.cut {v:V}{l:List Nat}(h:IsL v l)(k:Nat)(hk:k<=l.length):∃v',jbA env 124 v none (some (.int .i64 k)) none=some v'/\IsL v' (l.take k):=by
 have hlt:(l.take k).length=k:=by rw[K8];omega
 rcases h with⟨rfl,rfl⟩|⟨z,rfl⟩
 ·have:k=0:=by simpa using hk
  subst this
  exact⟨.nilsl,by simp[jbA,u124,s159,jci,jbd],.inl ⟨rfl,rfl⟩⟩
 ·have e:lc (l.take k)=(lc (l++z)).take k:=by
   simp only[lc,<- List.map_take]
   rw[Vi hk]
  have h5:((k:Nat):Int)<=(l.length:Int):=by omega
  refine⟨.row (lc (l.take k++[])) (l.take k).length .unk,?_,.inr ⟨[],rfl⟩⟩
  rw[hlt,Jk,e]
  simp[jbA,u124,s159,jci,jbd,h5,hk,jhm]
def jiW:List UInt8:=[48,48,48,48,48,48,48,48,48]
theorem jvb(T:Tm):jaK env T (.const (.string ⟨(48::48::48::48::48::48::48::48::48::[]).toArray⟩))=some (.str jiW):=rfl
structure P144 (u:V) (n b:Nat) (lo:AObj) (i:Nat) (O:S):Prop where
 bld:∃s,Bld O 0 s/\s.length+20*i<=20*n
 box:O.heap[b]? = some (.cells [u] 124)
 dfd:O.heap[b+1]? = some (.defd true)
 lop:O.heap[b+2]? = some lo
theorem jvc(u:V):Stay (.cells [u] 124):=by
 constructor<;>intro c h<;>injection h with _ h2<;>exact absurd h2 (by decide)
theorem jqF(x:Bool):Stay (.defd x):=⟨λ_ h=>(by cases h),λ_ h=>(by cases h)⟩
theorem jkr(st:LoopState)(pe:Option Code)(fn:FuncId)(ts:List V)(ps:Array Tmp)(a b:Code)(d:Nat):Stay (.loop st pe fn ts ps a b d):=⟨λ_ h=>(by cases h),λ_ h=>(by cases h)⟩
theorem jpm {L:List AObj}{ts:List Nat}{p:Nat}{s:List UInt8}(h:Bld ⟨L,ts⟩ p s){q:Nat}{o:AObj}(ho:Stay o)(hq:L[q]? = some o)(o':AObj):Bld ⟨L.set q o',ts⟩ p s:=by
 obtain⟨a,v,hp,ha,hb⟩:=h
 simp only at hp hb
 have h1:q ≠ p:=by rintro rfl;rw[hp]at hq;cases hq;exact ho.1 _ rfl
 refine⟨a,v,by simp only;rw[Ki h1];exact hp,ha,?_⟩
 rcases hb with h|⟨b,h2,h3,h4⟩
 ·exact .inl h
 ·have h5:q ≠ b:=by rintro rfl;rw[h3]at hq;cases hq;exact ho.2 _ rfl
  exact .inr ⟨b,h2,by simp only;rw[Ki h5];exact h3,h4⟩
theorem jxi {L:List AObj}{ts:List Nat}{p:Nat}{s:List UInt8}(h:Bld ⟨L,ts⟩ p s)(M:List AObj):Bld ⟨L++M,ts⟩ p s:=by
 obtain⟨a,v,hp,ha,hb⟩:=h
 refine⟨a,v,jbH hp M,ha,?_⟩
 rcases hb with h|⟨b,h2,h3,h4⟩
 ·exact .inl h
 ·exact .inr ⟨b,h2,jbH h3 M,h4⟩
theorem jtI {u:V}{l:List Nat}{b:Nat}(hB:∀x∈l,x<1000000000)(hl:l.length<=2^20){T:Tm}{tmps:List V}{lo:AObj}{n:Nat}(hn:n<=2^20)(hr:Rep 35 T tmps)
  (hlo:lo=.loop .ready none 144 tmps #[24,25] (asgR (jay Tryz.f144)) (bodR (jay Tryz.f144)) (b+1)) (t3:T 3=.ptr 0 0) (i:Nat) (O:S) (hi:i<l.length) (hP:P144 u n b lo (i+1) O) :
  ∃O',jdp env (ev env) (.yld (b+2)) [.int .i64 i,.int .u64 (l.getD i 0)] O=some (.bool true,O')/\P144 u n b lo i O':=by
 obtain⟨L,ts⟩:=O
 obtain⟨⟨s,hb,hs⟩,p1,p2,p3⟩:=hP
 simp only at p1 p2 p3
 refine jgB hlo p3 hr rfl (by simp) ?_
 intro lb hlb
 have hx:l.getD i 0<1000000000:=by
  have:l.getD i 0=l[i]:=by simp[List.getD,hi]
  rw[this];exact hB _ (J7 _)
 obtain⟨w,hf,hw⟩:=jfH _ hx
 have slo:Stay lo:=by rw[hlo];exact jkr ..
 have slb:Stay lb:=by rw[hlb];exact jkr ..
 clear hlb hlo hr
 have hlt:=jaU p3
 have hb1:=jpm hb slo p3 lb
 obtain⟨L1,c1,b1,k1⟩:=jfi (L.set (b+2) lb) ts 0 s (jiW.drop w.length) hb1 (by simp[jiW];omega)
 obtain⟨L2,c2,b2,k2⟩:=jfi L1 ts 0 _ w b1 (by simp[jiW];omega)
 have hk:∀(q:Nat) (o:AObj),Stay o->(L.set (b+2) lb)[q]? = some o->L2[q]? = some o:=λq o ho hq=>k2 q o ho (k1 q o ho hq)
 have q0:L2[b+2]? = some lb:=hk _ _ slb (Kl hlt)
 have q1:L2[b]? = some (.cells [u] 124):=hk _ _ (jvc u) (by rw[Ki (by omega)];exact p1)
 have q2:L2[b+1]? = some (.defd true):=hk _ _ (jqF true) (by rw[Ki (by omega)];exact p2)
 have hlt2:=jaU q0
 have sl:=jqE jiW w.length (by simp[jiW];exact hw)
 have d1:=λO=>jpi (ev env) [.ptr 0 0,.str (jiW.drop w.length)] O
 have d2:=λO=>jpi (ev env) [.ptr 0 0,.str w] O
 refine jaq ?_
 simp only[asgR,bodR,rngC,jay,Tryz.f144,Kv,Option.or]
 simp only[Ka,simprocAttr,Uq,Ke,Ur,jab,↓jvb,Xl,Xy,t3,p3,hf,jaN,ja9,jba,jbg,sl,d1,d2,c1,c2]
 refine⟨q0,⟨_,jpm b2 slb q0 lo,?_⟩,?_,?_,?_⟩
 ·simp[jiW];omega
 ·simp only;rw[Ki (by omega)];exact q1
 ·simp only;rw[Ki (by omega)];exact q2
 ·simp only;rw[Kl hlt2]
theorem jiX {v:V}{l:List Nat}(hv:IsL v l)(hB:∀x∈l,x<1000000000)(hl:l.length<=2^20):∃u,(∃s,u=.str s/\s.length<=2^25)/\∀O,jar env (ev env) 144 [v] O=some (u,O):=by
 have hlen:=jkK hv
 refine jbN rfl rfl (by simp[jcB hv]) jAN rfl (by simp[Tryz.f144]) (by simp[Tryz.f144]) _ (jaq ?_)
 by_cases h:(l.length:Int)=0
 ·have c1:=eq_true h
  simp only[Tryz.f144,Ka,simprocAttr,Uq,Ke,Uu,hlen,c1]
  exact⟨_,rfl,_,rfl,by simp⟩
 ·have c1:=eq_false h
  have e1:IntKind.i64.wrap ((l.length:Int)-1)=((l.length-1:Nat):Int):=by rw[wrap_i64 (by omega) (by omega)];omega
  obtain⟨p,p1,p2⟩:=hv.at (l.length-1) (by omega)
  have hx:l.getD (l.length-1) 0<1000000000:=by
   have:l.getD (l.length-1) 0=l[l.length-1]'(by omega):=by simp[List.getD,show l.length-1<l.length by omega]
   rw[this];exact hB _ (J7 _)
  obtain⟨s,hs,hs9⟩:=jfH _ hx
  obtain⟨u,su,hu⟩:=hv.cut (l.length-1) (by omega)
  have zb:jbG env 90=some (.agg [.nilptr,.nilsl]):=by kernel_rfl
  have hb0:Bld ⟨[.cells [.nilptr,.nilsl] 90],[]⟩ 0 []:=⟨.nilptr,.nilsl,rfl,.inl ⟨rfl,rfl⟩,.inl ⟨rfl,rfl⟩⟩
  obtain⟨L1,w1,b1,k1⟩:=jfi _ _ 0 [] s hb0 (by simp;omega)
  have d1:=λO=>jpi (ev env) [.ptr 0 0,.str s] O
  have hcu:=jd9 hu
  simp only[Tryz.f144,Ka,simprocAttr,Uq,Ke,Ur,jab,jas,hlen,c1,e1,p1,p2,jhj,hs,zb,d1,w1,ja9,jba,jbg,su,jpk u hcu.1]
  have hB2:∀x∈l.take (l.length-1),x<1000000000:=λx hx=>hB x (Vt hx)
  have hlt2:(l.take (l.length-1)).length=l.length-1:=by rw[K8];omega
  have hg0:L1.length ≠ 0:=by
   obtain⟨_,_,hp,_⟩:=b1
   have:=jaU hp
   simp only at this;omega
  refine jsm rfl ?_
  simp only[Ks,Xn]
  intro tmps lo lx hr hlo hlx
  have slo:Stay lo:=by rw[hlo];exact jkr ..
  have hP0:P144 u l.length L1.length lo (l.take (l.length-1)).length ⟨L1++[AObj.cells [u] 124]++[AObj.defd true,lo],[]⟩:=by
   refine⟨⟨s,?_,?_⟩,?_,?_,?_⟩
   ·rw[Q5]
    exact jxi b1 _
   ·rw[hlt2];omega
   ·simp
   ·simp
   ·simp
  obtain⟨w,O2,hcall,hE⟩:=jkq (y:=.yld (L1.length+2)) (b:=L1.length) (P:=P144 u l.length L1.length lo) (R:=λ_=>False) (λi O h=>h.box) hu (by omega) (λi O hi hP=>by
   obtain⟨O',a,b⟩:=jtI hB2 (by omega) hl hr hlo rfl i O hi hP
   exact⟨true,O',a,b⟩) _ hP0
  obtain⟨⟨s2,q1,q2⟩,q3,q4,q5⟩:=hE.resolve_right (λh=>h)
  obtain⟨L2,ts2⟩:=O2
  simp only at q3 q4 q5
  refine⟨w,⟨L2,ts2⟩,jez rfl rfl hcall,q5,?_⟩
  have hb3:=jpm q1 slo q5 lx
  obtain⟨O3,f1,f2⟩:=jhe _ ts2 0 s2 hb3 (by omega)
  have q6:=f2 (L1.length+1) _ (jqF true) (by simp only;rw[Ki (by omega)];exact q4)
  have d3:=λO=>jxd (ev env) [.ptr 0 0] O
  simp only[Va,jab,simprocAttr,Ka,Uq,Ke,Vq,d3,f1,wpR,jbK,q6]
  exact⟨_,rfl,_,rfl,by omega⟩
theorem at67:env.P.funcs[67]? = some Tryz.f67:=by kernel_rfl
theorem jAP:env.P.funcs[100]? = some Tryz.f100:=by kernel_rfl
theorem jAQ:env.P.funcs[137]? = some Tryz.f137:=by kernel_rfl
theorem jvd:ja7 env 126 0=some 0/\ja7 env 126 1=some 1/\ja7 env 126 2=some 2:=⟨by kernel_rfl,by kernel_rfl,by kernel_rfl⟩
theorem s126:sz env 126=some 3:=by kernel_rfl
theorem z126:jbG env 126=some (.agg [.bool false,.nilsl,.nilsl]):=by kernel_rfl
theorem jeR(s:List UInt8)(e:Int)(h:List AObj):jbo h jax (jaX [.str s,.int .i64 e])=some (.tup [.str s,.int .i64 e]):=by
 simp only[jaX,jax,ja8,jaA,jaF,jaW,jb8,Kj,Kw]
theorem vBin_sadd(us:Option TypeDesc)(cc:Bool)(a b:List UInt8)(h:a.length+b.length<=2^40):jbY us cc .add (.str a) (.str b)=some (.str (a++b)):=by
 have hlim:lim=2^40:=rfl
 unfold jbY
 simp only[vBin,jkP]
 rw[hlim,Kk h]
def KN(w:V):Prop:=∃s e,w=.tup [.str s,.int .i64 e]
theorem jve {u v:V}{a b:List Nat}(hu:IsL u a)(hv:IsL v b)(ha:∀x∈a,x<1000000000)(hb:∀x∈b,x<1000000000)(la:a.length<=2^20)(lb:b.length<=2^20) :
  ∃w,KN w/\∀O,jar env (ev env) 102 [.agg [.bool false,u,v]] O=some (w,O):=by
 obtain⟨_,⟨n1,rfl⟩,d1⟩:=jdO hu ha (by omega)
 obtain⟨_,⟨n2,rfl⟩,d2⟩:=jdO hv hb (by omega)
 obtain⟨_,⟨s1,rfl,l1⟩,t1⟩:=jiX hu ha la
 obtain⟨_,⟨s2,rfl,l2⟩,t2⟩:=jiX hv hb lb
 have o2:=jml hv
 have cu:=jd9 hu
 have cv:=jd9 hv
 have a1:=λus cc=>vBin_sadd us cc [47] s2 (by simp;omega)
 have a2:=λus cc=>vBin_sadd us cc s1 (47::s2) (by simp;omega)
 refine jbN rfl rfl (by simp[V.closed,V.closed.closedL,jcB hu,jcB hv]) jAO rfl (by simp[Tryz.f102]) (by simp[Tryz.f102]) _ (jaq ?_)
 by_cases h1:(4000:Int)<n1
 ·have c1:=eq_true h1
  simp only[Tryz.f102,Ka,simprocAttr,Uq,Ke,Ur,jab,jas,jvd,jhk,d1,c1]
  exact⟨_,jeR _ _ _,_,_,rfl⟩
 ·have c1:=eq_false h1
  by_cases h2:(4000:Int)<n2
  ·have c2:=eq_true h2
   simp only[Tryz.f102,Ka,simprocAttr,Uq,Ke,Ur,jab,jas,jvd,jhk,d1,d2,c1,c2]
   exact⟨_,jeR _ _ _,_,_,rfl⟩
  ·have c2:=eq_false h2
   cases hO:decide (b=[1])
   ·rw[hO]at o2
    simp only[Tryz.f102,Ka,simprocAttr,Uq,Ke,Ur,jab,jas,jvd,jhk,al4,d1,d2,c1,c2,t1,t2,o2,a1,a2]
    exact⟨_,jeR _ _ _,_,_,rfl⟩
   ·rw[hO]at o2
    simp only[Tryz.f102,Ka,simprocAttr,Uq,Ke,Ur,jab,jas,jvd,jhk,al4,d1,d2,c1,c2,t1,t2,o2,a1,a2]
    exact⟨_,jeR _ _ _,_,_,rfl⟩
def KM(w:V):Prop:=∃u v a b,w=.agg [.bool false,u,v]/\IsL u a/\IsL v b/\(∀x∈a,x<1000000000)/\(∀x∈b,x<1000000000)/\a.length<=2/\b.length<=2
theorem jtJ {u v:V}{a b:List Nat}(m:Bool)(hu:IsL u a)(hv:IsL v b)(h:List AObj):jbo h jax (jaX [.agg [.bool m,u,v]])=some (.agg [.bool m,u,v]):=by
 simp only[jaX,jax,jcD,jaA,jaF,jbc,jlD hu,jlD hv,Kj,Kw]
theorem jAR {L:List AObj}{p:Nat}{a b c:V}(h:L[p]? = some (.cells [a,b,c] 126)):jbi env L 126 (.ptr p 0)=some (.agg [a,b,c]):=by
 have g:Go.Ab.aggT env 126=some true:=by kernel_rfl
 have l:jai L 3 (.ptr p 0)=some [a,b,c]:=by simp[jai,h]
 unfold jbi
 simp only[g,s126,l,Kj,Kw]
theorem jAS {u:V}{a:List Nat}(h:IsL u a):jcd env 126 [(2,u)]=some (.agg [.bool false,.nilsl,u]):=by
 rcases h with⟨rfl,_⟩|⟨z,rfl⟩<;>kernel_rfl
theorem bd3(m:Bool){u v:V}{a b:List Nat}(hu:IsL u a)(hv:IsL v b):jcd env 126 [(0,.bool m),(1,u),(2,v)]=some (.agg [.bool m,u,v]):=by
 rcases hu with⟨rfl,_⟩|⟨z,rfl⟩<;>rcases hv with⟨rfl,_⟩|⟨z',rfl⟩<;>kernel_rfl
theorem jeB(b:Bool):(V.bool b).isCell=true:=rfl
theorem jd3:V.nilsl.isCell=true:=rfl
theorem jnW {K:V->Prop}{u v:V}{a b:List Nat}(hu:IsL u a)(hv:IsL v b)(h:K (.agg [.bool false,u,v])):V1 ((jbi env [AObj.cells [.bool false,u,v] 126] 126 (.ptr 0 0)).bind λv=>some [v]) λvs=>∃w,jbo [AObj.cells [.bool false,u,v] 126] jax (jaX vs)=some w/\K w:=by
 rw[jAR rfl]
 exact⟨_,rfl,_,jtJ false hu hv _,h⟩
theorem jrt:∃w,(∃v,w=.agg [.bool false,.nilsl,v]/\IsL v [1])/\∀O,jar env (ev env) 137 [] O=some (w,O):=by
 obtain⟨v,h1,h2⟩:=jtC 1 (by omega)
 have h2':∀O,jar env (ev env) 169 [.int .u64 1] O=some (v,O):=h2
 have hv:IsL v [1]:=h1
 have cv:=jd9 hv
 refine jbN rfl rfl rfl jAQ rfl (by simp[Tryz.f137]) (by simp[Tryz.f137]) _ (jaq ?_)
 simp only[Tryz.f137,Ka,simprocAttr,Uq,Ke,Ur,jab,jas,z126,s126,h2',jAS hv,cv.2,jd3,jeB]
 exact jnW (a:=[]) (.inl ⟨rfl,rfl⟩) hv ⟨_,rfl,hv⟩
theorem jtK {u v:V}{x y:Nat}(hu:IsL u (numL x))(hv:IsL v (numL y))(hx:x<=1000000000)(hy:y<=1000000000)(h1:1<=y)(hxy:¬(x=1000000000/\y=1000000000)) :
  ∃w,KM w/\∀O,jar env (ev env) 100 [.bool false,u,v] O=some (w,O):=by
 obtain⟨vx,lx,bx⟩:=jmm hx
 obtain⟨vy,ly,by'⟩:=jmm hy
 have cu:=jd9 hu
 have cv:=jd9 hv
 have z:=jtB hu
 have o:=jml hv
 refine jbN rfl rfl (by simp[V.closed,jcB hu,jcB hv]) jAP rfl (by simp[Tryz.f100]) (by simp[Tryz.f100]) _ (jaq ?_)
 by_cases hz:((numL x).length:Int)=0
 ·have c1:decide (((numL x).length:Int)=0)=true:=by simpa using hz
  rw[c1]at z
  obtain⟨_,⟨w,rfl,hw⟩,hf⟩:=jrt
  have cw:=jd9 hw
  simp only[Tryz.f100,Ka,simprocAttr,Uq,Ke,Ur,jab,jas,z126,s126,z,hf,cw.2,jd3,jeB]
  exact jnW (a:=[]) (.inl ⟨rfl,rfl⟩) hw ⟨_,_,[],[1],rfl,.inl ⟨rfl,rfl⟩,hw,by simp,by simp,by simp,by simp⟩
 ·have c1:decide (((numL x).length:Int)=0)=false:=by simpa using hz
  rw[c1]at z
  by_cases ho:numL y=[1]
  ·have c2:decide (numL y=[1])=true:=by simpa using ho
   rw[c2]at o
   simp only[Tryz.f100,Ka,simprocAttr,Uq,Ke,Ur,jab,jas,z126,s126,z,o,bd3 false hu hv,cu.2,cv.2,jd3,jeB]
   exact jnW hu hv ⟨_,_,_,_,rfl,hu,hv,bx,by',lx,ly⟩
  ·have c2:decide (numL y=[1])=false:=by simpa using ho
   rw[c2]at o
   obtain⟨g,hg,hgc⟩:=ju7 hu hv hx hy hxy
   have hg0:=Nat.gcd_pos_of_pos_right x h1
   have og:=jml hg
   by_cases hg1:numL (Nat.gcd x y)=[1]
   ·have c3:decide (numL (Nat.gcd x y)=[1])=true:=by simpa using hg1
    rw[c3]at og
    simp only[Tryz.f100,Ka,simprocAttr,Uq,Ke,Ur,jab,jas,z126,s126,z,o,hgc,og,bd3 false hu hv,cu.2,cv.2,jd3,jeB]
    exact jnW hu hv ⟨_,_,_,_,rfl,hu,hv,bx,by',lx,ly⟩
   ·have c3:decide (numL (Nat.gcd x y)=[1])=false:=by simpa using hg1
    rw[c3]at og
    have hgy:Nat.gcd x y<=y:=Nat.gcd_le_right _ h1
    have hgx:Nat.gcd x y<=1000000000:=by omega
    have hx0:0<x:=by
     rcases J8 x with h|h
     ·subst h;simp[numL]at hz
     ·exact h
    have hgx2:Nat.gcd x y<=x:=Nat.gcd_le_left _ hx0
    obtain⟨_,⟨q1,r1,ql1,rfl,k1,k2,k3,k4⟩,d1⟩:=jmn hu hg hx hgx hg0 (by omega)
    obtain⟨_,⟨q2,r2,ql2,rfl,m1,m2,m3,m4⟩,d2⟩:=jmn hv hg hy hgx hg0 (by omega)
    have c4:=jd9 k1
    have c5:=jd9 m1
    simp only[Tryz.f100,Ka,simprocAttr,Uq,Ke,Ur,jab,jas,z126,s126,z,o,hgc,og,d1,d2,bd3 false k1 m1,c4.2,c5.2,jd3,jeB]
    exact jnW k1 m1 ⟨_,_,_,_,rfl,k1,m1,k3,m3,k2,m2⟩
open Go.Proofs.YtpclebdkhpapjaaGreatDoor.T (IsDg decV)
theorem jwc:∀(l:List UInt8) (a:Nat),I.decV a l=decV a l
 | [],a=>rfl
 |c::l,a=>jwc l (a*10+(c.toNat-48))
theorem jxj(l:List UInt8):∀a:Nat,decV a l=a*10^l.length+decV 0 l:=by
 induction l with
 |nil =>
  intro a
  have e1:decV a []=a:=rfl
  have e2:decV 0 []=0:=rfl
  rw[e1,e2,K5,Vo,Qr,Jg]
 |cons c l ih =>
  intro a
  have e1:decV a (c::l)=decV (a*10+(c.toNat-48)) l:=rfl
  have e2:decV 0 (c::l)=decV (0*10+(c.toNat-48)) l:=rfl
  rw[e1,e2,ih (a*10+(c.toNat-48)),ih (0*10+(c.toNat-48)),K2,V4]
  generalize 10^l.length=P
  generalize c.toNat-48=x
  rw[Nat.zero_mul,K7,Jf,Nat.mul_assoc,Uj 10 P]
  omega
theorem jxk {n:Nat}{s:List UInt8}(h:I.DgsOf n s)(hn:n<=1000000000):s.length<=9\/(s.length=10/\n=1000000000):=by
 obtain⟨h1,h2,h3,h4,h5⟩:=h
 by_cases h9:s.length<=9
 ·exact .inl h9
 ·have:=h5 (by omega)
  by_cases h10:s.length=10
  ·rw[h10]at this
   exact .inr ⟨h10,by omega⟩
  ·have h7:=Xc (n:=10) (by decide) (show 10<=s.length-1 by omega)
   omega
theorem jvf {n:Nat}{l r:List Nat}(h:(n<1000000000/\l=[n])\/(n=1000000000/\l=[0,1]))(ht:jqB l r):r=numL n:=by
 obtain⟨k,k1,rfl,k3,k4⟩:=ht
 rcases h with⟨hn,rfl⟩|⟨rfl,rfl⟩
 ·unfold numL
  by_cases h0:n=0
  ·rw[Kk h0];subst h0
   have:k=0:=by
    rcases k4 with h|h
    ·exact h
    ·simp only[Xn]at k1
     have:k=0\/k=1:=by omega
     rcases this with h1|h1
     ·exact h1
     ·subst h1;exact absurd rfl h
   subst this;rfl
  ·rw[Km h0,Kk hn]
   have:k ≠ 0:=by
    rintro rfl
    exact h0 (k3 0 (Kx _) (by simp))
   simp only[Xn]at k1
   have:k=1:=by omega
   subst this;rfl
 ·have e:numL 1000000000=[0,1]:=by decide
  rw[e]
  have:k=2:=by
   simp only[K2,K5]at k1
   by_cases h:k<=1
   ·have:=k3 1 h (by simp)
    exact absurd this (by simp)
   ·omega
  subst this;rfl
theorem jnX {n:Nat}{s:List UInt8}(h:I.DgsOf n s)(hn:n<=1000000000):∃v,IsL v (numL n)/\∀O,jar env (ev env) 101 [.str s] O=some (v,O):=by
 have h10:=jxk h hn
 obtain⟨h1,h2,h3,h4,h5⟩:=h
 rw[jwc]at h4
 have hd:∀i,i<s.length->IsDg (s.getD i 0):=h1
 have hp:0<s.length:=by cases s with|nil=>exact absurd rfl h2|cons a r=>simp
 obtain⟨v,⟨r,v1,v2⟩,hc⟩:=jrs s hd (by omega)
 refine⟨v,?_,hc⟩
 rw[<- jvf ?_ v2]
 ·exact v1
 obtain⟨f,hf⟩:∃f,s.length=f+1:=⟨s.length-1,by omega⟩
 rcases h10 with h|⟨h,rfl⟩
 ·left
  have hlt:=jwb s hd (by omega)
  have hb:n<1000000000:=by
   have e:=T.dec_bound s hd s.length (Kx _)
   rw[Jx,h4]at e
   have:=Xc (n:=10) (by decide) h
   omega
  refine⟨hb,?_⟩
  rw[hf]
  show(if s=[]then []else jea f (s.take (s.length-9)) ([]++[decV 0 (s.drop (s.length-9))]))=_
  rw[Km h2,show s.length-9=0 by omega,Q4,Qq,h4]
  cases f<;>rfl
 ·right
  refine⟨rfl,?_⟩
  rw[h]
  show(if s=[]then []else jea 9 (s.take (s.length-9)) ([]++[decV 0 (s.drop (s.length-9))]))=_
  rw[Km h2,h]
  show(if s.take 1=[]then _ else jea 8 ((s.take 1).take ((s.take 1).length-9)) (([]++[decV 0 (s.drop 1)])++[decV 0 ((s.take 1).drop ((s.take 1).length-9))]))=_
  have hl1:(s.take 1).length=1:=by rw[K8];omega
  have hl2:(s.drop 1).length=9:=by rw[Qn];omega
  rw[Km (by intro h;rw[h]at hl1;simp at hl1),hl1]
  simp only[Nat.reduceSub,Q4,Qq]
  have e:decV 0 s=decV 0 (s.take 1)*10^9+decV 0 (s.drop 1):=by
   conv=>lhs;rw[<- J6 1 s,T.decV_app,jxj,hl2]
  have hd2:∀i,i<(s.drop 1).length->IsDg ((s.drop 1).getD i 0):=λi hi=>by
   have:(s.drop 1).getD i 0=s.getD (1+i) 0:=by simp[List.getD,J0]
   rw[this];exact hd _ (by omega)
  have hb:=T.dec_bound (s.drop 1) hd2 _ (Kx _)
  rw[Jx,hl2]at hb
  rw[h4]at e
  have e1:decV 0 (s.take 1)=1:=by omega
  have e2:decV 0 (s.drop 1)=0:=by omega
  rw[e1,e2];rfl
theorem ratmake_call {n d:Nat}{s t:List UInt8}(hs:I.DgsOf n s)(ht:I.DgsOf d t)(hn:n<=1000000000)(hd:d<=1000000000)(h1:1<=d)(hnd:¬(n=1000000000/\d=1000000000)) :
  ∃w,KN w/\∀O,jar env (ev env) 67 [.str s,.str t] O=some (w,O):=by
 obtain⟨u,hu,pu⟩:=jnX hs hn
 obtain⟨v,hv,pv⟩:=jnX ht hd
 obtain⟨_,⟨fu,fv,a,b,rfl,q1,q2,q3,q4,q5,q6⟩,hm⟩:=jtK hu hv hn hd h1 hnd
 obtain⟨_,⟨x,e,rfl⟩,hnum⟩:=jve q1 q2 q3 q4 (by omega) (by omega)
 obtain⟨s1,s2,s3,s4,s5⟩:=hs
 obtain⟨t1,t2,t3,t4,t5⟩:=ht
 have sp:0<s.length:=by cases s with|nil=>exact absurd rfl s2|cons a r=>simp
 have h45:s.getD 0 0 ≠ 45:=λh=>by
  have:=s1 0 sp
  rw[h]at this
  exact absurd this.1 (by decide)
 obtain⟨_,⟨bi,rfl⟩,hi⟩:=jnV s s2 h45 (by omega)
 obtain⟨_,⟨ec,rfl⟩,hck⟩:=jgF t (by omega)
 refine jbN rfl rfl rfl at67 rfl (by simp[Tryz.f67]) (by simp[Tryz.f67]) _ (jaq ?_)
 have c1:((4000:Int)<(s.length:Int))=False:=eq_false (by omega)
 cases bi
 ·simp only[Tryz.f67,Ka,simprocAttr,Uq,Ke,Uu,hi]
  exact⟨_,jeR _ _ _,_,_,rfl⟩
 ·by_cases he:ec=0
  ·have c2:=eq_true he
   by_cases h48:t=[48]
   ·have c3:=eq_true h48
    simp only[Tryz.f67,Ka,simprocAttr,Uq,Ke,Uu,hi,jaN,c1,hck,c2,jac,c3]
    exact⟨_,jeR _ _ _,_,_,rfl⟩
   ·have c3:=eq_false h48
    simp only[Tryz.f67,Ka,simprocAttr,Uq,Ke,Uu,hi,jaN,c1,hck,c2,jac,c3,pu,pv,hm,hnum]
    exact⟨_,jeR _ _ _,_,_,rfl⟩
  ·have c2:=eq_false he
   simp only[Tryz.f67,Ka,simprocAttr,Uq,Ke,Uu,hi,jaN,c1,hck,c2]
   exact⟨_,jeR _ _ _,_,_,rfl⟩
end Go.Proofs.YtpclebdkhpapjaaGreatDoor.R
