/- Proved here: rules for objects of one's own, and for calls that end. Conditions: each theorem's own. -/
import Derived.Test.YtajaampgajieeaaGreatDoorAbE
set_option linter.unusedSimpArgs false
set_option linter.unusedVariables false
namespace Go.Ab
theorem juG(E:Env)(x:Operand):scOp E (.nilCheck x)=false:=rfl
theorem juH(x:Operand):jaP (.nilCheck x)=false:=rfl
theorem joD(E:Env)(t:TypeId):scOp E (.alloc t)=true:=rfl
theorem joE(t:TypeId):jaP (.alloc t)=false:=rfl
theorem juI(E:Env)(t:TypeId)(x:Operand):scOp E (.box t x)=true:=rfl
theorem juJ(t:TypeId)(x:Operand):jaP (.box t x)=false:=rfl
theorem joF(E:Env)(t:TypeId)(ps:Array (Nat × Operand)):scOp E (.build t ps)=false:=rfl
theorem joG(t:TypeId)(ps:Array (Nat × Operand)):jaP (.build t ps)=false:=rfl
theorem jwE(t:TypeId)(n:Nat)(ps:Array (Nat × Operand)):jaP (.buildSlice t n ps)=false:=rfl
theorem joH(E:Env)(t:TypeId)(x:Operand)(lo hi mx:Option Operand):scOp E (.slice t x lo hi mx)=false:=rfl
theorem joI(t:TypeId)(x:Operand)(lo hi mx:Option Operand):jaP (.slice t x lo hi mx)=false:=rfl
theorem juK(E:Env)(f:Fn)(a b:Array Operand):scOp E (.makeFunc f a b)=false:=rfl
theorem juL(f:Fn)(a b:Array Operand):jaP (.makeFunc f a b)=false:=rfl
theorem juM(E:Env)(t:TypeId)(x:Operand):scOp E (.makeInterface t x)=false:=rfl
theorem juN(t:TypeId)(x:Operand):jaP (.makeInterface t x)=false:=rfl
theorem juO(E:Env)(ag:Array Operand)(ts:Array TypeId):scOp E (.call ⟨.builtin .append,ag,ts⟩)=true:=rfl
theorem juP(E:Env)(t:TypeId)(x:Option Operand):scOp E (.makeMap t x)=true:=rfl
theorem juQ(t:TypeId)(x:Option Operand):jaP (.makeMap t x)=false:=rfl
theorem juR(E:Env)(t:TypeId)(x y z:Operand):scOp E (.insert t x y z)=true:=rfl
theorem juS(t:TypeId)(x y z:Operand):jaP (.insert t x y z)=false:=rfl
theorem jrv(E:Env)(t:TypeId)(x y:Operand)(b:Bool):scOp E (.lookup t x y b)=false:=rfl
theorem jrw(t:TypeId)(x y:Operand)(b:Bool):jaP (.lookup t x y b)=true:=rfl
theorem joJ(E:Env)(t:TypeId)(x:Operand)(n:Nat):scOp E (.field t x n)=false:=rfl
theorem joK(t:TypeId)(x:Operand)(n:Nat):jaP (.field t x n)=false:=rfl
theorem joL(E:Env)(f:FuncId)(ag:Array Operand)(ts:Array TypeId):scOp E (.call ⟨.value (.func f),ag,ts⟩) = !(E.pure f ||(E.hook f).isSome):=rfl
def AllM(K:Nat->S->Prop)(P:S->Prop):List Nat->Prop
 | []=>True
 |m::ms=>(∀U',K m U'->P U')/\AllM K P ms
theorem jhS(K:Nat->S->Prop)(P:S->Prop):AllM K P []=True:=rfl
theorem jlQ(K:Nat->S->Prop)(P:S->Prop)(m:Nat)(ms:List Nat):AllM K P (m::ms)=((∀U',K m U'->P U')/\AllM K P ms):=rfl
theorem AllM.mem {K:Nat->S->Prop}{P:S->Prop}:∀{ms:List Nat},AllM K P ms->∀m∈ms,∀U',K m U'->P U'
 | [],_,m,hm=>by simp at hm
 |a::ms,⟨h1,h2⟩,m,hm=>by
  rcases Jg.1 hm with rfl|h
  ·exact h1
  ·exact h2.mem m h
section
variable (E:Env)
def wpW(mutb:Bool)(ops:Array Oper)(n:Nat)(K:Nat->S->Prop):List Oper->List (Bool × List Nat)->Nat->Tm->S->(Tm->S->Prop)->Prop
 | [],_,_,T,U,k=>k T U
 |_::_,[],_,_,_,_=>False
 | ⟨dst,op,_,_,_,none⟩::l,(s,ms)::ws,c,T,U,k=>V1 (opT E mutb T U op) λp=>AllM K (λU'=>jbh E (jaN E T) U' op=some p.1) ms/\(s=true->K (c+1) p.2) /\
  (match dst with
   |none=>wpW mutb ops n K l ws (if s then c+1 else c) T p.2 k
   |some d=>d<n/\wpW mutb ops n K l ws (if s then c+1 else c) (upd T d p.1) p.2 k)
 | ⟨some d,op,_,_,_,some (j,b)⟩::l,(s,ms)::ws,c,T,U,k=>V1 ((ops[j]?).bind (·.dst)) λdj=>d<n/\wpB (T dj) b
   (V1 (opT E mutb T U op) λp=>AllM K (λU'=>jbh E (jaN E T) U' op=some p.1) ms/\(s=true->K (c+1) p.2)/\wpW mutb ops n K l ws (if s then c+1 else c) (upd T d p.1) p.2 k)
   ((s=true->K (c+1) U)/\wpW mutb ops n K l ws (if s then c+1 else c) (upd T d (.tup [])) U k)
 | ⟨none,op,_,_,_,some (j,b)⟩::l,(s,ms)::ws,c,T,U,k=>V1 ((ops[j]?).bind (·.dst)) λdj=>wpB (T dj) b
   (V1 (opT E mutb T U op) λp=>AllM K (λU'=>jbh E (jaN E T) U' op=some p.1) ms/\(s=true->K (c+1) p.2)/\wpW mutb ops n K l ws (if s then c+1 else c) T p.2 k)
   ((s=true->K (c+1) U)/\wpW mutb ops n K l ws (if s then c+1 else c) T U k)
def jrx(ops:Array Oper)(mutb:Bool)(K:Nat->S->Prop)(o:Oper)(ms:List Nat)(t:List V)(v:V)(U0:Option S):Prop :=
 Region.wanted o (jaG ops t)=false\/∃(s0 s1:S),U0=some s0/\opV E (ev E) mutb t s0 o.op=some (v,s1)/\AllM K (λU'=>jbh E (jbv E t) U' o.op=some v) ms
theorem jlR {mutb:Bool}{n:Nat}{ops:Array Oper}{K:Nat->S->Prop}:∀(l:List Oper) (ws:List (Bool × List Nat)) (c:Nat) {T:Tm} {tmps:List V} {U:S} {k:Tm->S->Prop},(∀(j:Nat) (o:Oper) (w:Bool × List Nat),l[j]? = some o->ws[j]? = some w->w.1=scOp E o.op)->Rep n T tmps->wpW E mutb ops n K l ws c T U k ->
  ∃(tr:List (List V × V)) (ss:List S) (tf:List V) (Uf:S) (T':Tm),dRun E (ev E) mutb ops l tmps U=some (tr,ss,tf,Uf)/\Rep n T' tf/\k T' Uf/\(∀(i:Nat) (s:S),ss[i]? = some s->K (c+i+1) s) /\
   ∀(j:Nat) (o:Oper),l[j]? = some o->∃(t:List V) (v:V) (w:Bool × List Nat),tr[j]? = some (t,v)/\ws[j]? = some w/\jrx E ops mutb K o w.2 t v (U::ss)[cntO E l j]?
 | [],ws,c,T,tmps,U,k,hs,h,hw=>⟨[],[],tmps,U,T,rfl,h,hw,λi s hs=>by simp at hs,λj o hj=>by simp at hj⟩
 |o::l,[],c,T,tmps,U,k,hs,h,hw=>hw.elim
 | o::l,(s,ms)::ws,c,T,tmps,U,k,hs,h,hw=>by
  have hs0:s=scOp E o.op:=hs 0 o (s,ms) rfl rfl
  have key:∃v U1 T1,(if Region.wanted o (jaG ops tmps)then opV E (ev E) mutb tmps U o.op else some (.tup [],U))=some (v,U1)/\(s=true->K (c+1) U1)/\Rep n T1 (putT tmps o.dst v)/\wpW E mutb ops n K l ws (if s then c+1 else c) T1 U1 k/\jrx E ops mutb K o ms tmps v (some U):=by
   obtain⟨dst,op,t,p,a,g⟩:=o;cases g with
   |none =>
    simp only[wpW]at hw;obtain⟨⟨v,U1⟩,hop,hR,hK,hw⟩:=hw;rw[jeU E h]at hop;simp only at hK hR hw;have hm:jrx E ops mutb K ⟨dst,op,t,p,a,none⟩ ms tmps v (some U):=.inr ⟨U,U1,rfl,hop,by rw[h.eval];exact hR⟩;have hwant:Region.wanted ⟨dst,op,t,p,a,none⟩ (jaG ops tmps)=true:=rfl;cases dst with
    |none=>exact⟨v,U1,T,by rw[Kg hwant];exact hop,hK,h,hw,hm⟩
    |some d=>exact⟨v,U1,_,by rw[Kg hwant];exact hop,hK,h.upd hw.1 v,hw.2,hm⟩
   | some jb =>
    obtain⟨j,b⟩:=jb;cases dst with
    | none =>
     simp only[wpW]at hw;obtain⟨dj,hdj,hw⟩:=hw
     have skip:(s=true->K (c+1) U)/\wpW E mutb ops n K l ws (if s then c+1 else c) T U k->Region.wanted ⟨none,op,t,p,a,some (j,b)⟩ (jaG ops tmps)=false ->
       ∃v U1 T1,(if Region.wanted ⟨none,op,t,p,a,some (j,b)⟩ (jaG ops tmps)then opV E (ev E) mutb tmps U op else some (.tup [],U))=some (v,U1)/\(s=true->K (c+1) U1)/\Rep n T1 (putT tmps none v)/\wpW E mutb ops n K l ws (if s then c+1 else c) T1 U1 k/\jrx E ops mutb K ⟨none,op,t,p,a,some (j,b)⟩ ms tmps v (some U):=λhs hn =>
      ⟨.tup [],U,_,by rw[hn];rfl,hs.1,h,hs.2,.inl hn⟩
     unfold wpB at hw;split at hw
     ·rename_i htup;refine skip hw ?_;simp only[Region.wanted,jeT h hdj htup];rfl
     ·rename_i cc hc;have hy:=jeS (ops:=ops) h hdj hc;by_cases hcb:cc=b
      ·rw[Kg hcb]at hw;obtain⟨⟨v,U1⟩,hop,hR,hK,hw⟩:=hw;rw[jeU E h]at hop;simp only at hK hR hw
       have hwant:Region.wanted ⟨none,op,t,p,a,some (j,b)⟩ (jaG ops tmps)=true:=by
        simp only[Region.wanted,hy,hcb];simp
       exact⟨v,U1,_,by rw[Kg hwant];exact hop,hK,h,hw,.inr ⟨U,U1,rfl,hop,by rw[h.eval];exact hR⟩⟩
      ·rw[Ke hcb]at hw;refine skip hw ?_;simp only[Region.wanted,hy];simp[hcb]
     ·exact hw.elim
    | some d =>
     simp only[wpW]at hw;obtain⟨dj,hdj,hd,hw⟩:=hw
     have skip:(s=true->K (c+1) U)/\wpW E mutb ops n K l ws (if s then c+1 else c) (upd T d (.tup [])) U k->Region.wanted ⟨some d,op,t,p,a,some (j,b)⟩ (jaG ops tmps)=false ->
       ∃v U1 T1,(if Region.wanted ⟨some d,op,t,p,a,some (j,b)⟩ (jaG ops tmps)then opV E (ev E) mutb tmps U op else some (.tup [],U))=some (v,U1)/\(s=true->K (c+1) U1)/\Rep n T1 (putT tmps (some d) v)/\wpW E mutb ops n K l ws (if s then c+1 else c) T1 U1 k/\jrx E ops mutb K ⟨some d,op,t,p,a,some (j,b)⟩ ms tmps v (some U):=λhs hn =>
      ⟨.tup [],U,_,by rw[hn];rfl,hs.1,h.upd hd _,hs.2,.inl hn⟩
     unfold wpB at hw;split at hw
     ·rename_i htup;refine skip hw ?_;simp only[Region.wanted,jeT h hdj htup];rfl
     ·rename_i cc hc;have hy:=jeS (ops:=ops) h hdj hc;by_cases hcb:cc=b
      ·rw[Kg hcb]at hw;obtain⟨⟨v,U1⟩,hop,hR,hK,hw⟩:=hw;rw[jeU E h]at hop;simp only at hK hR hw
       have hwant:Region.wanted ⟨some d,op,t,p,a,some (j,b)⟩ (jaG ops tmps)=true:=by
        simp only[Region.wanted,hy,hcb];simp
       exact⟨v,U1,_,by rw[Kg hwant];exact hop,hK,h.upd hd v,hw,.inr ⟨U,U1,rfl,hop,by rw[h.eval];exact hR⟩⟩
      ·rw[Ke hcb]at hw;refine skip hw ?_;simp only[Region.wanted,hy];simp[hcb]
     ·exact hw.elim
  obtain⟨v,U1,T1,hstep,hK,hr1,hw1,hm⟩:=key;obtain⟨tr,ss,tf,Uf,T',h1,h2,h3,h4,h5⟩:=jlR l ws _ (λj o w hj hw=>hs (j+1) o w (by simpa using hj) (by simpa using hw)) hr1 hw1;refine⟨(tmps,v)::tr,if scOp E o.op then U1::ss else ss,tf,Uf,T',by rw[jlN E hstep,h1],h2,h3,?_,?_⟩
  ·intro i x hx;rw[<- hs0]at hx;cases s with
   | true =>
    simp only[Kl]at hx h4;cases i with
    |zero =>
     simp only[Q9,Ki]at hx;subst hx;exact hK rfl
    |succ i =>
     simp only[Q7]at hx;have:=h4 i x hx;rwa[show c+1+i+1=c+(i+1)+1 by omega]at this
   |false =>
    simp only[Ku,Kn]at hx h4;exact h4 i x hx
  ·intro j o' hj;cases j with
   |zero =>
    simp only[Q9,Ki]at hj;subst hj;refine⟨tmps,v,(s,ms),rfl,rfl,?_⟩;have:cntO E (o::l) 0=0:=by simp[cntO]
    rw[this];exact hm
   | succ j =>
    simp only[Q7]at hj ⊢;obtain⟨t,v',w,a1,a2,a3⟩:=h5 j o' hj;refine⟨t,v',w,a1,a2,?_⟩;rw[jc2];cases hsc:scOp E o.op with
    |true =>
     simp only[Kl];rw[Tg 1,Q7];exact a3
    | false =>
     have e:U1=U:=by
      split at hstep
      ·exact jlx hsc hstep
      ·simp only[Ki,Qg]at hstep;exact hstep.2.symm
     simp only[Ku,Kn,Jk];rw[<- e];exact a3
def jvl(ops:Array Oper)(masks:List Nat)(ws:List (Bool × List Nat)):Bool :=
 (List.range ops.size).all λj=>match ops[j]?,ws[j]? with
  |some o,some w=>(w.1==scOp E o.op) && (w.1 || !jaP o.op ||jby E o.op ||(List.range (jaU E ops ops.size+1)).all λm => !jfd E ops masks j m ||m==jaU E ops j ||w.2.contains m)
  |_,_=>false
theorem jry(ops:Array Oper)(j:Nat):cntO E ops.toList j=jaU E ops j:=rfl
theorem jrz {fn:FuncId}{rnd:Option Nat}{id:Nat}{ops:Array Oper}{K:Nat->S->Prop}{ws:List (Bool × List Nat)}{n:Nat}{T:Tm}{tmps:List V}{dfs:List DE}{U:S}{k:Tm->S->Prop}(hp:jcJ E ops (jat [] ops.toList)=true)(hM:jvl E ops (jat [] ops.toList) ws=true)(hK:K 0 U)
  (hr:Rep n T tmps) (hw:wpW E (E.mutb fn id) ops n K ops.toList ws 0 T U k) :
  ∃tf Uf T',ja6 E (ev E) fn rnd (.region id ops true) tmps dfs U=some ⟨.normal,tf,dfs,Uf⟩/\Rep n T' tf/\k T' Uf:=by
 unfold jvl at hM;rw[Qq]at hM
 have hsc:∀(j:Nat) (o:Oper) (w:Bool × List Nat),ops.toList[j]? = some o->ws[j]? = some w->w.1=scOp E o.op:=by
  intro j o w hj hw;rw[Xl]at hj
  have hlt:j<ops.size:=by
   rcases Ql j ops.size with h|h
   ·exact h
   ·rw[Uc h]at hj;simp at hj
  have h6:=hM j (by simpa using hlt);simp only[hj,hw,Qt,beq_iff_eq]at h6;exact h6.1
 obtain⟨tr,ss,tf,Uf,T',h1,h2,h3,h4,h5⟩:=jlR E (ops:=ops) ops.toList ws 0 hsc hr hw;refine⟨tf,Uf,T',?_,h2,h3⟩
 have hsl:ss.length=jaU E ops ops.size:=by
  have:=(jfo _ h1).2.1;rw[this];simp[jry]
 have hc:jeq E ops (jat [] ops.toList) tr (U::ss)=true:=by
  unfold jeq;rw[Qq];intro j hj0;have hj:j<ops.size:=by simpa using hj0
  have hoj:ops[j]? = some ops[j]:=J6 hj;have hoj2:ops.toList[j]? = some ops[j]:=by rw[Xl];exact hoj
  obtain⟨t,v,w,ht,hwj,hmade⟩:=h5 j ops[j] hoj2;simp only[hoj,ht];by_cases hs:scOp E ops[j].op=true
  ·simp[hs]
  by_cases hpc:jby E ops[j].op=true
  ·simp[hpc]
  rcases hmade with hun|⟨s0,s1,he,hop,hrd⟩
  ·simp[hun]
  by_cases ha:(jbK E (jbv E t) ops[j].op).isSome=true
  ·simp[ha]
  have ha':jbK E (jbv E t) ops[j].op=none:=by simpa using ha
  have hread:=jgC (by simpa using hs) (by simpa using hpc) ha' hop
  have hreads:jaP ops[j].op=true:=by
   cases hx:jaP ops[j].op with
   |true=>rfl
   |false=>rw[jex hx]at hread;simp at hread
  rw[Xe];right;rw[Qq];intro m hm;have hm:m<(U::ss).length:=by simpa using hm
  have hm2:m<jaU E ops ops.size+1:=by simp at hm;omega
  rw[Kz hm];cases hal:jfd E ops (jat [] ops.toList) j m with
  |false=>rfl
  | true =>
   have hgood:jbh E (jbv E t) (U::ss)[m] ops[j].op=some v:=by
    have h6:=hM j hj0;have hw1:w.1=false:=by rw[hsc j _ w hoj2 hwj];simpa using hs
    have hpc':jby E ops[j].op=false:=by simpa using hpc
    simp only[hoj,hwj,hreads,hw1,hpc',Q8,Xq,Qt,Qq]at h6;have h7:=h6.2 m (by simpa using hm2);rw[hal]at h7;simp only[Q8,Xq,Xe,beq_iff_eq,List.contains_iff_mem]at h7
    rcases h7 with rfl|h7
    ·rw[jry,Kz hm,Ki]at he;rw[he];exact hread
    ·refine hrd.mem m h7 _ ?_;cases m with
     |zero=>exact hK
     |succ m =>
      simp only[Xb];have hms:m<ss.length:=by simp at hm;omega
      have:=h4 m _ (Kz hms);rwa[Jk]at this
   simp only[hgood,V.beq_refl,Xj]
 simp only[ja6,hp,Kl,h1,hc]
end
section
variable {E:Env}{fn:FuncId}{rnd:Option Nat}{n:Nat}{Q:Post}{ks:List Kt}{m:Bool}{ops:Array Oper}{l:List Oper}{T:Tm}{D:List DE}{U:S}{ws:List (Bool × List Nat)}{c:Nat}
def GW(E:Env)(fn:FuncId)(rnd:Option Nat)(n:Nat)(Q:Post)(ks:List Kt)(m:Bool)(K:Nat->S->Prop)(ops:Array Oper)(l:List Oper)(ws:List (Bool × List Nat))(c:Nat)(T:Tm)(D:List DE)(U:S):Prop :=
 wpW E m ops n K l ws c T U λT U=>(Kt.post E fn rnd n Q ks).norm T D U
def GWS(E:Env)(fn:FuncId)(rnd:Option Nat)(n:Nat)(Q:Post)(ks:List Kt)(m:Bool)(K:Nat->S->Prop)(ops:Array Oper)(l:List Oper)(s:Bool)(ms:List Nat)(ws:List (Bool × List Nat))(c:Nat)(T:Tm)(D:List DE)(d:Option Nat)(op:Op)(o:Option (V × S)):Prop :=
 V1 o λp=>AllM K (λU'=>jbh E (jaN E T) U' op=some p.1) ms/\(s=true->K (c+1) p.2) /\
  (match d with
   |none=>GW E fn rnd n Q ks m K ops l ws (if s then c+1 else c) T D p.2
   |some d=>d<n/\GW E fn rnd n Q ks m K ops l ws (if s then c+1 else c) (upd T d p.1) D p.2)
theorem jwF {id:Nat}{l:List Oper}(hs:E.stab fn id=true)(ws:List (Bool × List Nat))(K:Nat->S->Prop)(hK:K 0 U)(hp:jcJ E l.toArray (jat [] l)=true)(hM:jvl E l.toArray (jat [] l) ws=true)(h:GW E fn rnd n Q ks (E.mutb fn id) K l.toArray l ws 0 T D U) :
  G E fn rnd n Q ks (.region id l.toArray true) T D U:=by
 unfold G wpC;simp only[hs];intro tmps hr;obtain⟨tf,Uf,T',h1,h2,h3⟩:=jrz E (rnd:=rnd) (dfs:=D) hp hM hK hr h;exact⟨_,h1,T',h2,h3⟩
theorem juT(K:Nat->S->Prop):GW E fn rnd n Q ks m K ops [] ws c T D U=G E fn rnd n Q ks .skip T D U:=by unfold GW wpW;rfl
theorem jwG(K:Nat->S->Prop)(d:Option Nat)(op:Op)(t:TypeId)(p:String)(a:Array Edge)(s:Bool)(ms:List Nat):GW E fn rnd n Q ks m K ops (⟨d,op,t,p,a,none⟩::l) ((s,ms)::ws) c T D U=GWS E fn rnd n Q ks m K ops l s ms ws c T D d op (opT E m T U op):=rfl
theorem jwH(K:Nat->S->Prop)(d:Nat)(op:Op)(v:V)(U':S):GWS E fn rnd n Q ks m K ops l false [] ws c T D (some d) op (some (v,U'))=(d<n/\GW E fn rnd n Q ks m K ops l ws c (upd T d v) D U'):=by
 unfold GWS;rw[Yy];simp[jhS]
theorem juU(K:Nat->S->Prop)(op:Op)(v:V)(U':S):GWS E fn rnd n Q ks m K ops l false [] ws c T D none op (some (v,U'))=GW E fn rnd n Q ks m K ops l ws c T D U':=by
 unfold GWS;rw[Yy];simp[jhS]
theorem jwI(K:Nat->S->Prop)(d:Nat)(op:Op)(ms:List Nat)(v:V)(U':S):GWS E fn rnd n Q ks m K ops l true ms ws c T D (some d) op (some (v,U'))=(AllM K (λU'=>jbh E (jaN E T) U' op=some v) ms/\K (c+1) U'/\d<n/\GW E fn rnd n Q ks m K ops l ws (c+1) (upd T d v) D U'):=by
 unfold GWS;rw[Yy];simp
theorem juV(K:Nat->S->Prop)(op:Op)(ms:List Nat)(v:V)(U':S):GWS E fn rnd n Q ks m K ops l true ms ws c T D none op (some (v,U'))=(AllM K (λU'=>jbh E (jaN E T) U' op=some v) ms/\K (c+1) U'/\GW E fn rnd n Q ks m K ops l ws (c+1) T D U'):=by
 unfold GWS;rw[Yy];simp
theorem jwJ(K:Nat->S->Prop)(d:Nat)(op:Op)(m0:Nat)(ms:List Nat)(v:V)(U':S):GWS E fn rnd n Q ks m K ops l false (m0::ms) ws c T D (some d) op (some (v,U'))=(AllM K (λU'=>jbh E (jaN E T) U' op=some v) (m0::ms)/\d<n/\GW E fn rnd n Q ks m K ops l ws c (upd T d v) D U'):=by
 unfold GWS;rw[Yy];simp
theorem jrA(K:Nat->S->Prop)(s:Bool)(ms:List Nat)(d:Option Nat)(op:Op)(x:Prop)[Decidable x](o:Option (V × S)):GWS E fn rnd n Q ks m K ops l s ms ws c T D d op (if x then o else none)=(x/\GWS E fn rnd n Q ks m K ops l s ms ws c T D d op o):=by simp only[GWS,jjJ]
theorem joM(K:Nat->S->Prop)(s:Bool)(ms:List Nat)(d:Option Nat)(op:Op)(x:Prop)[Decidable x](o:Option (V × S)):GWS E fn rnd n Q ks m K ops l s ms ws c T D d op (if x then none else o)=(¬x/\GWS E fn rnd n Q ks m K ops l s ms ws c T D d op o):=by simp only[GWS,jg7]
end
section
variable {E:Env}{fn:FuncId}{rnd:Option Nat}{n:Nat}{Q:Post}{ks:List Kt}{m:Bool}{ops:Array Oper}{l:List Oper}{T:Tm}{D:List DE}{f:FuncId}{args:List V}{U:S}
theorem jgb {d:Nat}{K:V->S->Prop}(h:∃v U',jah E (ev E) f args U=some (v,U')/\K v U')(k:∀v U',K v U'->GL E fn rnd n Q ks m ops l (upd T d v) D U') :
  GS E fn rnd n Q ks m ops l T D d (jah E (ev E) f args U):=by
 obtain⟨v,U',h1,h2⟩:=h;rw[h1,Zu];exact k v U' h2
end
theorem jnk {E:Env}{f:FuncId}{args:List V}{F:Go.Func}{body:Code}(hp:E.pure f=true)(hk:E.hook f=none)(hc:args.all V.closed=true)(hf:E.P.funcs[f]? = some F)(hb:F.body=some body)
  (hn:F.name ≠ "runtime.NumGoroutine") (hl:args.length<=F.ntmps) (P:V->Prop)
  (hw:wpC E f none F.ntmps body (argT args) [] S.empty ⟨wpR E F.results.toList λv' U'=>∃v,jaK U'.heap jak v'=some v/\P v,λ_ _ _ _=>False,wpR E F.results.toList λv' U'=>∃v,jaK U'.heap jak v'=some v/\P v⟩) :
  ∃v,P v/\∀U,jah E (ev E) f args U=some (v,U):=by
 obtain⟨v',U',h1,v,h2,h3⟩:=jkD hf hb hn hl hw;refine⟨v,h3,λU => ?_⟩;unfold jah;simp only[hk,hp,jef hc,hc,h1,h2,Kl,K9]
theorem hhWa:type_of% (Kd @jdG (Kd @jdH (Kd @jck (Kd @jrh (Kd @jc4 (Kd @jri (Kd @jbE (Kd @jbs (Kd @jjO (Kd @jc5 (Kd @jow (@jdI)))))))))))):=Kd @jdG (Kd @jdH (Kd @jck (Kd @jrh (Kd @jc4 (Kd @jri (Kd @jbE (Kd @jbs (Kd @jjO (Kd @jc5 (Kd @jow (@jdI)))))))))))
theorem hhWb:type_of% (Kd @jdJ (Kd @jcl (Kd @jrj (Kd @jc6 (Kd @jrk (Kd @jbF (Kd @jbt (Kd @jjP (Kd @jc7 (Kd @jdK (Kd @jbH (@juG)))))))))))):=Kd @jdJ (Kd @jcl (Kd @jrj (Kd @jc6 (Kd @jrk (Kd @jbF (Kd @jbt (Kd @jjP (Kd @jc7 (Kd @jdK (Kd @jbH (@juG)))))))))))
theorem hhWc:type_of% (Kd @juH (Kd @joD (Kd @joE (Kd @juI (Kd @juJ (Kd @joF (Kd @joG (Kd @jwE (Kd @joH (Kd @joI (Kd @juK (@juL)))))))))))):=Kd @juH (Kd @joD (Kd @joE (Kd @juI (Kd @juJ (Kd @joF (Kd @joG (Kd @jwE (Kd @joH (Kd @joI (Kd @juK (@juL)))))))))))
theorem hhWd:type_of% (Kd @juM (Kd @juN (Kd @juO (Kd @juP (Kd @juQ (Kd @juR (Kd @juS (Kd @jrv (Kd @jrw (Kd @joJ (Kd @joK (@joL)))))))))))):=Kd @juM (Kd @juN (Kd @juO (Kd @juP (Kd @juQ (Kd @juR (Kd @juS (Kd @jrv (Kd @jrw (Kd @joJ (Kd @joK (@joL)))))))))))
theorem Kf:type_of% (And.intro @hhWa (And.intro @hhWb (And.intro @hhWc (@hhWd)))):=And.intro @hhWa (And.intro @hhWb (And.intro @hhWc (@hhWd)))
theorem jlS {E:Env}{f:FuncId}{args:List V}{F:Go.Func}{body:Code}(hc:args.all V.closed=true)(hf:E.P.funcs[f]? = some F)(hb:F.body=some body)(P:V->Prop)(hw:G E f none F.ntmps ⟨wpR E F.results.toList λv' U'=>∃v,jaK U'.heap jak v'=some v/\P v,λ_ _ _ _=>False,wpR E F.results.toList λv' U'=>∃v,jaK U'.heap jak v'=some v/\P v⟩ [] body (argT args) [] S.empty)(hp:E.pure f=true:=by rfl)(hk:E.hook f=none:=by rfl)(ho:okN F args.length=true:=by kernel_rfl):∃v,P v/\∀U,jah E (ev E) f args U=some (v,U):=jnk hp hk hc hf hb (jrt ho) (jru ho) P hw
end Go.Ab
