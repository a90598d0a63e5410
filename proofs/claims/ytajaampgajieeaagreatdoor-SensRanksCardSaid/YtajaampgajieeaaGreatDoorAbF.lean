/- Proved here: rules for objects of one's own, and for calls that end. Conditions: each theorem's own. -/
import Derived.Test.YtajaampgajieeaaGreatDoorAbE
set_option linter.unusedSimpArgs false
set_option linter.unusedVariables false
namespace Go.Ab
theorem jtW(E:Env)(x:Operand):scOp E (.nilCheck x)=false:=rfl
theorem jtX(x:Operand):jaO (.nilCheck x)=false:=rfl
theorem jos(E:Env)(t:TypeId):scOp E (.alloc t)=true:=rfl
theorem jot(t:TypeId):jaO (.alloc t)=false:=rfl
theorem jtY(E:Env)(t:TypeId)(x:Operand):scOp E (.box t x)=true:=rfl
theorem jtZ(t:TypeId)(x:Operand):jaO (.box t x)=false:=rfl
theorem jou(E:Env)(t:TypeId)(ps:Array (Nat × Operand)):scOp E (.build t ps)=false:=rfl
theorem jov(t:TypeId)(ps:Array (Nat × Operand)):jaO (.build t ps)=false:=rfl
theorem jvR(t:TypeId)(n:Nat)(ps:Array (Nat × Operand)):jaO (.buildSlice t n ps)=false:=rfl
theorem jow(E:Env)(t:TypeId)(x:Operand)(lo hi mx:Option Operand):scOp E (.slice t x lo hi mx)=false:=rfl
theorem jox(t:TypeId)(x:Operand)(lo hi mx:Option Operand):jaO (.slice t x lo hi mx)=false:=rfl
theorem jt0(E:Env)(f:Fn)(a b:Array Operand):scOp E (.makeFunc f a b)=false:=rfl
theorem jt1(f:Fn)(a b:Array Operand):jaO (.makeFunc f a b)=false:=rfl
theorem jt2(E:Env)(t:TypeId)(x:Operand):scOp E (.makeInterface t x)=false:=rfl
theorem jt3(t:TypeId)(x:Operand):jaO (.makeInterface t x)=false:=rfl
theorem jt4(E:Env)(ag:Array Operand)(ts:Array TypeId):scOp E (.call ⟨.builtin .append,ag,ts⟩)=true:=rfl
theorem jt5(E:Env)(t:TypeId)(x:Option Operand):scOp E (.makeMap t x)=true:=rfl
theorem jt6(t:TypeId)(x:Option Operand):jaO (.makeMap t x)=false:=rfl
theorem jt7(E:Env)(t:TypeId)(x y z:Operand):scOp E (.insert t x y z)=true:=rfl
theorem jt8(t:TypeId)(x y z:Operand):jaO (.insert t x y z)=false:=rfl
theorem jq8(E:Env)(t:TypeId)(x y:Operand)(b:Bool):scOp E (.lookup t x y b)=false:=rfl
theorem jq9(t:TypeId)(x y:Operand)(b:Bool):jaO (.lookup t x y b)=true:=rfl
theorem joy(E:Env)(t:TypeId)(x:Operand)(n:Nat):scOp E (.field t x n)=false:=rfl
theorem joz(t:TypeId)(x:Operand)(n:Nat):jaO (.field t x n)=false:=rfl
theorem joA(E:Env)(f:FuncId)(ag:Array Operand)(ts:Array TypeId):scOp E (.call ⟨.value (.func f),ag,ts⟩) = !(E.pure f ||(E.hook f).isSome):=rfl
def AllM(K:Nat->S->Prop)(P:S->Prop):List Nat->Prop
 | []=>True
 |m::ms=>(∀U',K m U'->P U')/\AllM K P ms
theorem jku(K:Nat->S->Prop)(P:S->Prop):AllM K P []=True:=rfl
theorem jra(K:Nat->S->Prop)(P:S->Prop)(m:Nat)(ms:List Nat):AllM K P (m::ms)=((∀U',K m U'->P U')/\AllM K P ms):=rfl
theorem AllM.mem {K:Nat->S->Prop}{P:S->Prop}:∀{ms:List Nat},AllM K P ms->∀m∈ms,∀U',K m U'->P U'
 | [],_,m,hm=>by simp at hm
 |a::ms,⟨h1,h2⟩,m,hm=>by
  rcases Jg.1 hm with rfl|h
  ·exact h1
  ·exact h2.mem m h
section
variable (E:Env)
def wpW(mutb:Bool)(ops:Array Oper)(n:Nat)(K:Nat->S->Prop):List Oper->List (Bool × List Nat)->Nat->Tm->S->(Tm->S->Prop)->Prop
 | [],_,_,T,U,k=>k T U
 |_::_,[],_,_,_,_=>False
 | ⟨dst,op,_,_,_,none⟩::l,(s,ms)::ws,c,T,U,k=>V1 (opT E mutb T U op) λp=>AllM K (λU'=>jbf E (jaM E T) U' op=some p.1) ms/\(s=true->K (c+1) p.2) /\
  (match dst with
   |none=>wpW mutb ops n K l ws (if s then c+1 else c) T p.2 k
   |some d=>d<n/\wpW mutb ops n K l ws (if s then c+1 else c) (upd T d p.1) p.2 k)
 | ⟨some d,op,_,_,_,some (j,b)⟩::l,(s,ms)::ws,c,T,U,k=>V1 ((ops[j]?).bind (·.dst)) λdj=>d<n/\wpB (T dj) b
   (V1 (opT E mutb T U op) λp=>AllM K (λU'=>jbf E (jaM E T) U' op=some p.1) ms/\(s=true->K (c+1) p.2)/\wpW mutb ops n K l ws (if s then c+1 else c) (upd T d p.1) p.2 k)
   ((s=true->K (c+1) U)/\wpW mutb ops n K l ws (if s then c+1 else c) (upd T d (.tup [])) U k)
 | ⟨none,op,_,_,_,some (j,b)⟩::l,(s,ms)::ws,c,T,U,k=>V1 ((ops[j]?).bind (·.dst)) λdj=>wpB (T dj) b
   (V1 (opT E mutb T U op) λp=>AllM K (λU'=>jbf E (jaM E T) U' op=some p.1) ms/\(s=true->K (c+1) p.2)/\wpW mutb ops n K l ws (if s then c+1 else c) T p.2 k)
   ((s=true->K (c+1) U)/\wpW mutb ops n K l ws (if s then c+1 else c) T U k)
def jrb(ops:Array Oper)(mutb:Bool)(K:Nat->S->Prop)(o:Oper)(ms:List Nat)(t:List V)(v:V)(U0:Option S):Prop :=
 Region.wanted o (jaG ops t)=false\/∃(s0 s1:S),U0=some s0/\opV E (ev E) mutb t s0 o.op=some (v,s1)/\AllM K (λU'=>jbf E (jbr E t) U' o.op=some v) ms
theorem jlG {mutb:Bool}{n:Nat}{ops:Array Oper}{K:Nat->S->Prop}:∀(l:List Oper) (ws:List (Bool × List Nat)) (c:Nat) {T:Tm} {tmps:List V} {U:S} {k:Tm->S->Prop},(∀(j:Nat) (o:Oper) (w:Bool × List Nat),l[j]? = some o->ws[j]? = some w->w.1=scOp E o.op)->Rep n T tmps->wpW E mutb ops n K l ws c T U k ->
  ∃(tr:List (List V × V)) (ss:List S) (tf:List V) (Uf:S) (T':Tm),dRun E (ev E) mutb ops l tmps U=some (tr,ss,tf,Uf)/\Rep n T' tf/\k T' Uf/\(∀(i:Nat) (s:S),ss[i]? = some s->K (c+i+1) s) /\
   ∀(j:Nat) (o:Oper),l[j]? = some o->∃(t:List V) (v:V) (w:Bool × List Nat),tr[j]? = some (t,v)/\ws[j]? = some w/\jrb E ops mutb K o w.2 t v (U::ss)[cntO E l j]?
 | [],ws,c,T,tmps,U,k,hs,h,hw=>⟨[],[],tmps,U,T,rfl,h,hw,λi s hs=>by simp at hs,λj o hj=>by simp at hj⟩
 |o::l,[],c,T,tmps,U,k,hs,h,hw=>hw.elim
 | o::l,(s,ms)::ws,c,T,tmps,U,k,hs,h,hw=>by
  have hs0:s=scOp E o.op:=hs 0 o (s,ms) rfl rfl
  have key:∃v U1 T1,(if Region.wanted o (jaG ops tmps)then opV E (ev E) mutb tmps U o.op else some (.tup [],U))=some (v,U1)/\(s=true->K (c+1) U1)/\Rep n T1 (putT tmps o.dst v)/\wpW E mutb ops n K l ws (if s then c+1 else c) T1 U1 k/\jrb E ops mutb K o ms tmps v (some U):=by
   obtain⟨dst,op,t,p,a,g⟩:=o;cases g with
   |none =>
    simp only[wpW]at hw;obtain⟨⟨v,U1⟩,hop,hR,hK,hw⟩:=hw;rw[jeI E h]at hop;simp only at hK hR hw;have hm:jrb E ops mutb K ⟨dst,op,t,p,a,none⟩ ms tmps v (some U):=.inr ⟨U,U1,rfl,hop,by rw[h.eval];exact hR⟩;have hwant:Region.wanted ⟨dst,op,t,p,a,none⟩ (jaG ops tmps)=true:=rfl;cases dst with
    |none=>exact⟨v,U1,T,by rw[Kh hwant];exact hop,hK,h,hw,hm⟩
    |some d=>exact⟨v,U1,_,by rw[Kh hwant];exact hop,hK,h.upd hw.1 v,hw.2,hm⟩
   | some jb =>
    obtain⟨j,b⟩:=jb;cases dst with
    | none =>
     simp only[wpW]at hw;obtain⟨dj,hdj,hw⟩:=hw
     have skip:(s=true->K (c+1) U)/\wpW E mutb ops n K l ws (if s then c+1 else c) T U k->Region.wanted ⟨none,op,t,p,a,some (j,b)⟩ (jaG ops tmps)=false ->
       ∃v U1 T1,(if Region.wanted ⟨none,op,t,p,a,some (j,b)⟩ (jaG ops tmps)then opV E (ev E) mutb tmps U op else some (.tup [],U))=some (v,U1)/\(s=true->K (c+1) U1)/\Rep n T1 (putT tmps none v)/\wpW E mutb ops n K l ws (if s then c+1 else c) T1 U1 k/\jrb E ops mutb K ⟨none,op,t,p,a,some (j,b)⟩ ms tmps v (some U):=λhs hn =>
      ⟨.tup [],U,_,by rw[hn];rfl,hs.1,h,hs.2,.inl hn⟩
     unfold wpB at hw;split at hw
     ·rename_i htup;refine skip hw ?_;simp only[Region.wanted,jeH h hdj htup];rfl
     ·rename_i cc hc;have hy:=jeG (ops:=ops) h hdj hc;by_cases hcb:cc=b
      ·rw[Kh hcb]at hw;obtain⟨⟨v,U1⟩,hop,hR,hK,hw⟩:=hw;rw[jeI E h]at hop;simp only at hK hR hw
       have hwant:Region.wanted ⟨none,op,t,p,a,some (j,b)⟩ (jaG ops tmps)=true:=by
        simp only[Region.wanted,hy,hcb];simp
       exact⟨v,U1,_,by rw[Kh hwant];exact hop,hK,h,hw,.inr ⟨U,U1,rfl,hop,by rw[h.eval];exact hR⟩⟩
      ·rw[Ke hcb]at hw;refine skip hw ?_;simp only[Region.wanted,hy];simp[hcb]
     ·exact hw.elim
    | some d =>
     simp only[wpW]at hw;obtain⟨dj,hdj,hd,hw⟩:=hw
     have skip:(s=true->K (c+1) U)/\wpW E mutb ops n K l ws (if s then c+1 else c) (upd T d (.tup [])) U k->Region.wanted ⟨some d,op,t,p,a,some (j,b)⟩ (jaG ops tmps)=false ->
       ∃v U1 T1,(if Region.wanted ⟨some d,op,t,p,a,some (j,b)⟩ (jaG ops tmps)then opV E (ev E) mutb tmps U op else some (.tup [],U))=some (v,U1)/\(s=true->K (c+1) U1)/\Rep n T1 (putT tmps (some d) v)/\wpW E mutb ops n K l ws (if s then c+1 else c) T1 U1 k/\jrb E ops mutb K ⟨some d,op,t,p,a,some (j,b)⟩ ms tmps v (some U):=λhs hn =>
      ⟨.tup [],U,_,by rw[hn];rfl,hs.1,h.upd hd _,hs.2,.inl hn⟩
     unfold wpB at hw;split at hw
     ·rename_i htup;refine skip hw ?_;simp only[Region.wanted,jeH h hdj htup];rfl
     ·rename_i cc hc;have hy:=jeG (ops:=ops) h hdj hc;by_cases hcb:cc=b
      ·rw[Kh hcb]at hw;obtain⟨⟨v,U1⟩,hop,hR,hK,hw⟩:=hw;rw[jeI E h]at hop;simp only at hK hR hw
       have hwant:Region.wanted ⟨some d,op,t,p,a,some (j,b)⟩ (jaG ops tmps)=true:=by
        simp only[Region.wanted,hy,hcb];simp
       exact⟨v,U1,_,by rw[Kh hwant];exact hop,hK,h.upd hd v,hw,.inr ⟨U,U1,rfl,hop,by rw[h.eval];exact hR⟩⟩
      ·rw[Ke hcb]at hw;refine skip hw ?_;simp only[Region.wanted,hy];simp[hcb]
     ·exact hw.elim
  obtain⟨v,U1,T1,hstep,hK,hr1,hw1,hm⟩:=key;obtain⟨tr,ss,tf,Uf,T',h1,h2,h3,h4,h5⟩:=jlG l ws _ (λj o w hj hw=>hs (j+1) o w (by simpa using hj) (by simpa using hw)) hr1 hw1;refine⟨(tmps,v)::tr,if scOp E o.op then U1::ss else ss,tf,Uf,T',by rw[jlD E hstep,h1],h2,h3,?_,?_⟩
  ·intro i x hx;rw[<- hs0]at hx;cases s with
   | true =>
    simp only[Km]at hx h4;cases i with
    |zero =>
     simp only[Ja,Ki]at hx;subst hx;exact hK rfl
    |succ i =>
     simp only[Q6]at hx;have:=h4 i x hx;rwa[show c+1+i+1=c+(i+1)+1 by omega]at this
   |false =>
    simp only[Kr,Ko]at hx h4;exact h4 i x hx
  ·intro j o' hj;cases j with
   |zero =>
    simp only[Ja,Ki]at hj;subst hj;refine⟨tmps,v,(s,ms),rfl,rfl,?_⟩;have:cntO E (o::l) 0=0:=by simp[cntO]
    rw[this];exact hm
   | succ j =>
    simp only[Q6]at hj ⊢;obtain⟨t,v',w,a1,a2,a3⟩:=h5 j o' hj;refine⟨t,v',w,a1,a2,?_⟩;rw[jcW];cases hsc:scOp E o.op with
    |true =>
     simp only[Km];rw[Te 1,Q6];exact a3
    | false =>
     have e:U1=U:=by
      split at hstep
      ·exact jln hsc hstep
      ·simp only[Ki,K6]at hstep;exact hstep.2.symm
     simp only[Kr,Ko,Jl];rw[<- e];exact a3
def juC(ops:Array Oper)(masks:List Nat)(ws:List (Bool × List Nat)):Bool :=
 (List.range ops.size).all λj=>match ops[j]?,ws[j]? with
  |some o,some w=>(w.1==scOp E o.op) && (w.1 || !jaO o.op ||jbw E o.op ||(List.range (jaU E ops ops.size+1)).all λm => !jeY E ops masks j m ||m==jaU E ops j ||w.2.contains m)
  |_,_=>false
theorem jrc(ops:Array Oper)(j:Nat):cntO E ops.toList j=jaU E ops j:=rfl
theorem jrd {fn:FuncId}{rnd:Option Nat}{id:Nat}{ops:Array Oper}{K:Nat->S->Prop}{ws:List (Bool × List Nat)}{n:Nat}{T:Tm}{tmps:List V}{dfs:List DE}{U:S}{k:Tm->S->Prop}(hp:jcG E ops (jat [] ops.toList)=true)(hM:juC E ops (jat [] ops.toList) ws=true)(hK:K 0 U)
  (hr:Rep n T tmps) (hw:wpW E (E.mutb fn id) ops n K ops.toList ws 0 T U k) :
  ∃tf Uf T',ja3 E (ev E) fn rnd (.region id ops true) tmps dfs U=some ⟨.normal,tf,dfs,Uf⟩/\Rep n T' tf/\k T' Uf:=by
 unfold juC at hM;rw[Ql]at hM
 have hsc:∀(j:Nat) (o:Oper) (w:Bool × List Nat),ops.toList[j]? = some o->ws[j]? = some w->w.1=scOp E o.op:=by
  intro j o w hj hw;rw[Xl]at hj
  have hlt:j<ops.size:=by
   rcases Qm j ops.size with h|h
   ·exact h
   ·rw[Ua h]at hj;simp at hj
  have h6:=hM j (by simpa using hlt);simp only[hj,hw,Qr,beq_iff_eq]at h6;exact h6.1
 obtain⟨tr,ss,tf,Uf,T',h1,h2,h3,h4,h5⟩:=jlG E (ops:=ops) ops.toList ws 0 hsc hr hw;refine⟨tf,Uf,T',?_,h2,h3⟩
 have hsl:ss.length=jaU E ops ops.size:=by
  have:=(je9 _ h1).2.1;rw[this];simp[jrc]
 have hc:jei E ops (jat [] ops.toList) tr (U::ss)=true:=by
  unfold jei;rw[Ql];intro j hj0;have hj:j<ops.size:=by simpa using hj0
  have hoj:ops[j]? = some ops[j]:=J5 hj;have hoj2:ops.toList[j]? = some ops[j]:=by rw[Xl];exact hoj
  obtain⟨t,v,w,ht,hwj,hmade⟩:=h5 j ops[j] hoj2;simp only[hoj,ht];by_cases hs:scOp E ops[j].op=true
  ·simp[hs]
  by_cases hpc:jbw E ops[j].op=true
  ·simp[hpc]
  rcases hmade with hun|⟨s0,s1,he,hop,hrd⟩
  ·simp[hun]
  by_cases ha:(jbH E (jbr E t) ops[j].op).isSome=true
  ·simp[ha]
  have ha':jbH E (jbr E t) ops[j].op=none:=by simpa using ha
  have hread:=jgt (by simpa using hs) (by simpa using hpc) ha' hop
  have hreads:jaO ops[j].op=true:=by
   cases hx:jaO ops[j].op with
   |true=>rfl
   |false=>rw[jen hx]at hread;simp at hread
  rw[Xd];right;rw[Ql];intro m hm;have hm:m<(U::ss).length:=by simpa using hm
  have hm2:m<jaU E ops ops.size+1:=by simp at hm;omega
  rw[Kz hm];cases hal:jeY E ops (jat [] ops.toList) j m with
  |false=>rfl
  | true =>
   have hgood:jbf E (jbr E t) (U::ss)[m] ops[j].op=some v:=by
    have h6:=hM j hj0;have hw1:w.1=false:=by rw[hsc j _ w hoj2 hwj];simpa using hs
    have hpc':jbw E ops[j].op=false:=by simpa using hpc
    simp only[hoj,hwj,hreads,hw1,hpc',Q8,Xq,Qr,Ql]at h6;have h7:=h6.2 m (by simpa using hm2);rw[hal]at h7;simp only[Q8,Xq,Xd,beq_iff_eq,List.contains_iff_mem]at h7
    rcases h7 with rfl|h7
    ·rw[jrc,Kz hm,Ki]at he;rw[he];exact hread
    ·refine hrd.mem m h7 _ ?_;cases m with
     |zero=>exact hK
     |succ m =>
      simp only[J9];have hms:m<ss.length:=by simp at hm;omega
      have:=h4 m _ (Kz hms);rwa[Jl]at this
   simp only[hgood,V.beq_refl,Xh]
 simp only[ja3,hp,Km,h1,hc]
end
section
variable {E:Env}{fn:FuncId}{rnd:Option Nat}{n:Nat}{Q:Post}{ks:List Kt}{m:Bool}{ops:Array Oper}{l:List Oper}{T:Tm}{D:List DE}{U:S}{ws:List (Bool × List Nat)}{c:Nat}
def GW(E:Env)(fn:FuncId)(rnd:Option Nat)(n:Nat)(Q:Post)(ks:List Kt)(m:Bool)(K:Nat->S->Prop)(ops:Array Oper)(l:List Oper)(ws:List (Bool × List Nat))(c:Nat)(T:Tm)(D:List DE)(U:S):Prop :=
 wpW E m ops n K l ws c T U λT U=>(Kt.post E fn rnd n Q ks).norm T D U
def GWS(E:Env)(fn:FuncId)(rnd:Option Nat)(n:Nat)(Q:Post)(ks:List Kt)(m:Bool)(K:Nat->S->Prop)(ops:Array Oper)(l:List Oper)(s:Bool)(ms:List Nat)(ws:List (Bool × List Nat))(c:Nat)(T:Tm)(D:List DE)(d:Option Nat)(op:Op)(o:Option (V × S)):Prop :=
 V1 o λp=>AllM K (λU'=>jbf E (jaM E T) U' op=some p.1) ms/\(s=true->K (c+1) p.2) /\
  (match d with
   |none=>GW E fn rnd n Q ks m K ops l ws (if s then c+1 else c) T D p.2
   |some d=>d<n/\GW E fn rnd n Q ks m K ops l ws (if s then c+1 else c) (upd T d p.1) D p.2)
theorem jw7 {id:Nat}{l:List Oper}(hs:E.stab fn id=true)(ws:List (Bool × List Nat))(K:Nat->S->Prop)(hK:K 0 U)(hp:jcG E l.toArray (jat [] l)=true)(hM:juC E l.toArray (jat [] l) ws=true)(h:GW E fn rnd n Q ks (E.mutb fn id) K l.toArray l ws 0 T D U) :
  G E fn rnd n Q ks (.region id l.toArray true) T D U:=by
 unfold G wpC;simp only[hs];intro tmps hr;obtain⟨tf,Uf,T',h1,h2,h3⟩:=jrd E (rnd:=rnd) (dfs:=D) hp hM hK hr h;exact⟨_,h1,T',h2,h3⟩
theorem jvS(K:Nat->S->Prop):GW E fn rnd n Q ks m K ops [] ws c T D U=G E fn rnd n Q ks .skip T D U:=by unfold GW wpW;rfl
theorem jw8(K:Nat->S->Prop)(d:Option Nat)(op:Op)(t:TypeId)(p:String)(a:Array Edge)(s:Bool)(ms:List Nat):GW E fn rnd n Q ks m K ops (⟨d,op,t,p,a,none⟩::l) ((s,ms)::ws) c T D U=GWS E fn rnd n Q ks m K ops l s ms ws c T D d op (opT E m T U op):=rfl
theorem jw9(K:Nat->S->Prop)(d:Nat)(op:Op)(v:V)(U':S):GWS E fn rnd n Q ks m K ops l false [] ws c T D (some d) op (some (v,U'))=(d<n/\GW E fn rnd n Q ks m K ops l ws c (upd T d v) D U'):=by
 unfold GWS;rw[Yy];simp[jku]
theorem jvT(K:Nat->S->Prop)(op:Op)(v:V)(U':S):GWS E fn rnd n Q ks m K ops l false [] ws c T D none op (some (v,U'))=GW E fn rnd n Q ks m K ops l ws c T D U':=by
 unfold GWS;rw[Yy];simp[jku]
theorem jxa(K:Nat->S->Prop)(d:Nat)(op:Op)(ms:List Nat)(v:V)(U':S):GWS E fn rnd n Q ks m K ops l true ms ws c T D (some d) op (some (v,U'))=(AllM K (λU'=>jbf E (jaM E T) U' op=some v) ms/\K (c+1) U'/\d<n/\GW E fn rnd n Q ks m K ops l ws (c+1) (upd T d v) D U'):=by
 unfold GWS;rw[Yy];simp
theorem jvU(K:Nat->S->Prop)(op:Op)(ms:List Nat)(v:V)(U':S):GWS E fn rnd n Q ks m K ops l true ms ws c T D none op (some (v,U'))=(AllM K (λU'=>jbf E (jaM E T) U' op=some v) ms/\K (c+1) U'/\GW E fn rnd n Q ks m K ops l ws (c+1) T D U'):=by
 unfold GWS;rw[Yy];simp
theorem jxb(K:Nat->S->Prop)(d:Nat)(op:Op)(m0:Nat)(ms:List Nat)(v:V)(U':S):GWS E fn rnd n Q ks m K ops l false (m0::ms) ws c T D (some d) op (some (v,U'))=(AllM K (λU'=>jbf E (jaM E T) U' op=some v) (m0::ms)/\d<n/\GW E fn rnd n Q ks m K ops l ws c (upd T d v) D U'):=by
 unfold GWS;rw[Yy];simp
theorem juD(K:Nat->S->Prop)(s:Bool)(ms:List Nat)(d:Option Nat)(op:Op)(x:Prop)[Decidable x](o:Option (V × S)):GWS E fn rnd n Q ks m K ops l s ms ws c T D d op (if x then o else none)=(x/\GWS E fn rnd n Q ks m K ops l s ms ws c T D d op o):=by simp only[GWS,jjq]
theorem jsP(K:Nat->S->Prop)(s:Bool)(ms:List Nat)(d:Option Nat)(op:Op)(x:Prop)[Decidable x](o:Option (V × S)):GWS E fn rnd n Q ks m K ops l s ms ws c T D d op (if x then none else o)=(¬x/\GWS E fn rnd n Q ks m K ops l s ms ws c T D d op o):=by simp only[GWS,jg2]
end
section
variable {E:Env}{fn:FuncId}{rnd:Option Nat}{n:Nat}{Q:Post}{ks:List Kt}{m:Bool}{ops:Array Oper}{l:List Oper}{T:Tm}{D:List DE}{f:FuncId}{args:List V}{U:S}
theorem jfW {d:Nat}{K:V->S->Prop}(h:∃v U',jah E (ev E) f args U=some (v,U')/\K v U')(k:∀v U',K v U'->GL E fn rnd n Q ks m ops l (upd T d v) D U') :
  GS E fn rnd n Q ks m ops l T D d (jah E (ev E) f args U):=by
 obtain⟨v,U',h1,h2⟩:=h;rw[h1,Zu];exact k v U' h2
end
theorem jne {E:Env}{f:FuncId}{args:List V}{F:Go.Func}{body:Code}(hp:E.pure f=true)(hk:E.hook f=none)(hc:args.all V.closed=true)(hf:E.P.funcs[f]? = some F)(hb:F.body=some body)
  (hn:F.name ≠ "runtime.NumGoroutine") (hl:args.length<=F.ntmps) (P:V->Prop)
  (hw:wpC E f none F.ntmps body (argT args) [] S.empty ⟨wpR E F.results.toList λv' U'=>∃v,jaK U'.heap jak v'=some v/\P v,λ_ _ _ _=>False,wpR E F.results.toList λv' U'=>∃v,jaK U'.heap jak v'=some v/\P v⟩) :
  ∃v,P v/\∀U,jah E (ev E) f args U=some (v,U):=by
 obtain⟨v',U',h1,v,h2,h3⟩:=jkn hf hb hn hl hw;refine⟨v,h3,λU => ?_⟩;unfold jah;simp only[hk,hp,jd6 hc,hc,h1,h2,Km,Qg]
theorem hhWa:type_of% (Kd @jdw (Kd @jdx (Kd @jcg (Kd @jqU (Kd @jcY (Kd @jqV (Kd @jbB (Kd @jbo (Kd @jjv (Kd @jcZ (Kd @jol (@jdy)))))))))))):=Kd @jdw (Kd @jdx (Kd @jcg (Kd @jqU (Kd @jcY (Kd @jqV (Kd @jbB (Kd @jbo (Kd @jjv (Kd @jcZ (Kd @jol (@jdy)))))))))))
theorem hhWb:type_of% (Kd @jdz (Kd @jch (Kd @jqW (Kd @jc0 (Kd @jqX (Kd @jbC (Kd @jbp (Kd @jjw (Kd @jc1 (Kd @jdA (Kd @jbL (@jtW)))))))))))):=Kd @jdz (Kd @jch (Kd @jqW (Kd @jc0 (Kd @jqX (Kd @jbC (Kd @jbp (Kd @jjw (Kd @jc1 (Kd @jdA (Kd @jbL (@jtW)))))))))))
theorem hhWc:type_of% (Kd @jtX (Kd @jos (Kd @jot (Kd @jtY (Kd @jtZ (Kd @jou (Kd @jov (Kd @jvR (Kd @jow (Kd @jox (Kd @jt0 (@jt1)))))))))))):=Kd @jtX (Kd @jos (Kd @jot (Kd @jtY (Kd @jtZ (Kd @jou (Kd @jov (Kd @jvR (Kd @jow (Kd @jox (Kd @jt0 (@jt1)))))))))))
theorem hhWd:type_of% (Kd @jt2 (Kd @jt3 (Kd @jt4 (Kd @jt5 (Kd @jt6 (Kd @jt7 (Kd @jt8 (Kd @jq8 (Kd @jq9 (Kd @joy (Kd @joz (@joA)))))))))))):=Kd @jt2 (Kd @jt3 (Kd @jt4 (Kd @jt5 (Kd @jt6 (Kd @jt7 (Kd @jt8 (Kd @jq8 (Kd @jq9 (Kd @joy (Kd @joz (@joA)))))))))))
theorem Kf:type_of% (And.intro @hhWa (And.intro @hhWb (And.intro @hhWc (@hhWd)))):=And.intro @hhWa (And.intro @hhWb (And.intro @hhWc (@hhWd)))
theorem jlH {E:Env}{f:FuncId}{args:List V}{F:Go.Func}{body:Code}(hc:args.all V.closed=true)(hf:E.P.funcs[f]? = some F)(hb:F.body=some body)(P:V->Prop)(hw:G E f none F.ntmps ⟨wpR E F.results.toList λv' U'=>∃v,jaK U'.heap jak v'=some v/\P v,λ_ _ _ _=>False,wpR E F.results.toList λv' U'=>∃v,jaK U'.heap jak v'=some v/\P v⟩ [] body (argT args) [] S.empty)(hp:E.pure f=true:=by rfl)(hk:E.hook f=none:=by rfl)(ho:okN F args.length=true:=by kernel_rfl):∃v,P v/\∀U,jah E (ev E) f args U=some (v,U):=jne hp hk hc hf hb (jq6 ho) (jq7 ho) P hw
end Go.Ab
