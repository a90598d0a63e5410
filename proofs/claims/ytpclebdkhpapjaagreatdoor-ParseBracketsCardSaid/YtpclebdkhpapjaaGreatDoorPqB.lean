/- Proved here: the parser, the whole. Conditions: those of each theorem; no statement of the seat is proved in this text. -/
import Derived.Test.YtpclebdkhpapjaaGreatDoorPqA
set_option linter.unusedSimpArgs false
set_option linter.unusedVariables false
set_option linter.unusedSectionVars false
namespace Go.Proofs.YtpclebdkhpapjaaGreatDoor
open Go.Ab
open Go.Ab.PP
set_option maxHeartbeats 8000000
set_option maxRecDepth 100000
def jel(l:List (Int × Int)):List V:=(l.map λr=>[V.int .i64 r.1,V.int .i64 r.2]).flatten
def qC(Q:Qry)(ev wv rv:V):List V:=[.int .i64 Q.kind,ev,.int .i64 Q.lo,.int .i64 Q.hi,.int .i64 Q.p,.int .i64 Q.q,.str Q.column,.int .i64 Q.bound,rv,.int .i64 Q.strategy,.bool Q.consistent,.str Q.table,.int .i64 Q.keep,.str Q.other,.str Q.left,.str Q.right,.int .i64 Q.limit,wv,.str Q.factor,.int .i64 Q.bits]
structure QL (base:Nat) (ts:List Nat) (Q:Qry) (ev wv rv:V):Prop where
 e:GrowV base ts 3 ev Q.expr.length (jbS Q.expr)
 w:GrowV base ts 3 wv Q.wher.length (jbS Q.wher)
 r:GrowV base ts 2 rv Q.ranges.length (jel Q.ranges)
 b:base<=ts.length
theorem QL.ext {base:Nat}{ts t2:List Nat}{Q:Qry}{ev wv rv:V}(h:QL base ts Q ev wv rv)(x:Ext ts.length ts t2):QL base t2 Q ev wv rv:=⟨h.e.ext x,h.w.ext x,h.r.ext x,Qs h.b x.1⟩
def QX(lv:V)(en:Int)(p base:Nat)(L:List AObj)(r:R Qry)(x:Sum V V)(O:S):Prop :=
 match r with
 | .ok (Q,j)=>x=.inl (.tup [])/\Fr p L O.heap/\∃ev wv rv,Pc lv en (qC Q ev wv rv) p O.heap j 0/\QL base O.toks Q ev wv rv
 | .error e=>x=.inr (flt e)/\Fr p L O.heap
theorem QX.tr {lv:V}{en:Int}{p base:Nat}{L L1:List AObj}{r:R Qry}{x:Sum V V}{O:S}(h:Fr p L L1)(g:QX lv en p base L1 r x O):QX lv en p base L r x O:=by
 match r,g with
 | .ok (a,j),⟨g1,g2,g3⟩=>exact⟨g1,h.tr g2,g3⟩
 | .error e,⟨g1,g2⟩=>exact⟨g1,h.tr g2⟩
section
variable {fn:FuncId}{rnd:Option Nat}{n:Nat}{Qp:Post}{ks:List Kt}{m:Bool}{ops:Array Oper}{ol:List Oper}{T:Tm}{D:List DE}{f:FuncId}{args:List V}{X:V->List DE->S->Prop}{Y:V->S->Prop}{d:Nat}
theorem jdj {α:Type}{enc:α->V}{r:R α}{lv:V}{en:Int}{q:List V}{p o:Nat}{L:List AObj}{ts:List Nat}(h:∃x O',jbP env f args ⟨L,ts⟩=some (x,O')/\RX lv en q p L ts o enc r x O')(herr:∀e,r=.error e->∀L',Fr p L L'->Y (flt e) ⟨L',ts⟩)
  (hok:∀a j,r=.ok (a,j)->∀L',Fr p L L'->Pc lv en q p L' j o->HL env fn rnd n X Qp ks Y m ops ol (upd T d (enc a)) D ⟨L',ts⟩):HX env fn rnd n X Qp ks Y m ops ol T D d (jbP env f args ⟨L,ts⟩):=by
 refine jaU h ?_ ?_
 ·rintro v ⟨L',t'⟩ hk
  match r,hok,hk with
  | .ok (a,j),hok,⟨h1,h2,h3,h4⟩=>cases h1;simp only at h4;subst h4;exact hok a j rfl L' h2 h3
  | .error e,_,⟨h1,_⟩=>cases h1
 ·rintro v ⟨L',t'⟩ hk
  match r,herr,hk with
  | .ok (a,j),_,⟨h1,_⟩=>cases h1
  | .error e,herr,⟨h1,h2,h3⟩=>cases h1;simp only at h3;subst h3;exact herr e rfl L' h2
end
theorem jbt(a b:AObj)(p:Nat)(L:List AObj):(L.set p a).set p b=L.set p b:=Qy ..
section
variable {lv:V}{en:Int}{p i o:Nat}{Q:Qry}{ev wv rv:V}{O:S}
theorem ja1(a:Int):storeAt O [.int .i64 a] p 4 (some (pcL lv en (qC Q ev wv rv) i o))=some (O.set p (pcL lv en (qC { Q with kind:=a } ev wv rv) i o)):=rfl
theorem jxy(a:List Nd){v:V}(hv:v.isCell=true):storeAt O [v] p 5 (some (pcL lv en (qC Q ev wv rv) i o))=some (O.set p (pcL lv en (qC { Q with expr:=a } v wv rv) i o)):=by
 unfold storeAt pcL;simp only;rw[Ki ⟨Qq rfl,by simp[hv]⟩];rfl
theorem jb2(a:Int):storeAt O [.int .i64 a] p 6 (some (pcL lv en (qC Q ev wv rv) i o))=some (O.set p (pcL lv en (qC { Q with lo:=a } ev wv rv) i o)):=rfl
theorem jb3(a:Int):storeAt O [.int .i64 a] p 7 (some (pcL lv en (qC Q ev wv rv) i o))=some (O.set p (pcL lv en (qC { Q with hi:=a } ev wv rv) i o)):=rfl
theorem st_p(a:Int):storeAt O [.int .i64 a] p 8 (some (pcL lv en (qC Q ev wv rv) i o))=some (O.set p (pcL lv en (qC { Q with p:=a } ev wv rv) i o)):=rfl
theorem st_q(a:Int):storeAt O [.int .i64 a] p 9 (some (pcL lv en (qC Q ev wv rv) i o))=some (O.set p (pcL lv en (qC { Q with q:=a } ev wv rv) i o)):=rfl
theorem jaH(a:List UInt8):storeAt O [.str a] p 10 (some (pcL lv en (qC Q ev wv rv) i o))=some (O.set p (pcL lv en (qC { Q with column:=a } ev wv rv) i o)):=rfl
theorem jaO(a:Int):storeAt O [.int .i64 a] p 11 (some (pcL lv en (qC Q ev wv rv) i o))=some (O.set p (pcL lv en (qC { Q with bound:=a } ev wv rv) i o)):=rfl
theorem jtY(a:List (Int × Int)){v:V}(hv:v.isCell=true):storeAt O [v] p 12 (some (pcL lv en (qC Q ev wv rv) i o))=some (O.set p (pcL lv en (qC { Q with ranges:=a } ev wv v) i o)):=by
 unfold storeAt pcL;simp only;rw[Ki ⟨Qq rfl,by simp[hv]⟩];rfl
theorem jaB(a:Int):storeAt O [.int .i64 a] p 13 (some (pcL lv en (qC Q ev wv rv) i o))=some (O.set p (pcL lv en (qC { Q with strategy:=a } ev wv rv) i o)):=rfl
theorem jav(a:Bool):storeAt O [.bool a] p 14 (some (pcL lv en (qC Q ev wv rv) i o))=some (O.set p (pcL lv en (qC { Q with consistent:=a } ev wv rv) i o)):=rfl
theorem jaP(a:List UInt8):storeAt O [.str a] p 15 (some (pcL lv en (qC Q ev wv rv) i o))=some (O.set p (pcL lv en (qC { Q with table:=a } ev wv rv) i o)):=rfl
theorem ja2(a:Int):storeAt O [.int .i64 a] p 16 (some (pcL lv en (qC Q ev wv rv) i o))=some (O.set p (pcL lv en (qC { Q with keep:=a } ev wv rv) i o)):=rfl
theorem jaQ(a:List UInt8):storeAt O [.str a] p 17 (some (pcL lv en (qC Q ev wv rv) i o))=some (O.set p (pcL lv en (qC { Q with other:=a } ev wv rv) i o)):=rfl
theorem ja3(a:List UInt8):storeAt O [.str a] p 18 (some (pcL lv en (qC Q ev wv rv) i o))=some (O.set p (pcL lv en (qC { Q with left:=a } ev wv rv) i o)):=rfl
theorem jaR(a:List UInt8):storeAt O [.str a] p 19 (some (pcL lv en (qC Q ev wv rv) i o))=some (O.set p (pcL lv en (qC { Q with right:=a } ev wv rv) i o)):=rfl
theorem jaS(a:Int):storeAt O [.int .i64 a] p 20 (some (pcL lv en (qC Q ev wv rv) i o))=some (O.set p (pcL lv en (qC { Q with limit:=a } ev wv rv) i o)):=rfl
theorem jxz(a:List Nd){v:V}(hv:v.isCell=true):storeAt O [v] p 21 (some (pcL lv en (qC Q ev wv rv) i o))=some (O.set p (pcL lv en (qC { Q with wher:=a } ev v rv) i o)):=by
 unfold storeAt pcL;simp only;rw[Ki ⟨Qq rfl,by simp[hv]⟩];rfl
theorem jaI(a:List UInt8):storeAt O [.str a] p 22 (some (pcL lv en (qC Q ev wv rv) i o))=some (O.set p (pcL lv en (qC { Q with factor:=a } ev wv rv) i o)):=rfl
theorem ja4(a:Int):storeAt O [.int .i64 a] p 23 (some (pcL lv en (qC Q ev wv rv) i o))=some (O.set p (pcL lv en (qC { Q with bits:=a } ev wv rv) i o)):=rfl
theorem ld_q:jhI (some (pcL lv en (qC Q ev wv rv) i o)) 0=some lv/\jhI (some (pcL lv en (qC Q ev wv rv) i o)) 1=some (.int .i64 i)/\jhI (some (pcL lv en (qC Q ev wv rv) i o)) 4=some (.int .i64 Q.kind)/\jhI (some (pcL lv en (qC Q ev wv rv) i o)) 12=some rv/\jhI (some (pcL lv en (qC Q ev wv rv) i o)) 22=some (.str Q.factor):=⟨rfl,rfl,rfl,rfl,rfl⟩
theorem Uw:type_of% (And.intro @ja1 (And.intro @jb2 (And.intro @jb3 (And.intro @st_p (And.intro @st_q (And.intro @jaH (And.intro @jaO (And.intro @jaB (And.intro @jav (And.intro @jaP (And.intro @ja2 (And.intro @jaQ (And.intro @ja3 (And.intro @jaR (And.intro @jaS (And.intro @jaI (And.intro @ja4 (@ld_q)))))))))))))))))):=And.intro @ja1 (And.intro @jb2 (And.intro @jb3 (And.intro @st_p (And.intro @st_q (And.intro @jaH (And.intro @jaO (And.intro @jaB (And.intro @jav (And.intro @jaP (And.intro @ja2 (And.intro @jaQ (And.intro @ja3 (And.intro @jaR (And.intro @jaS (And.intro @jaI (And.intro @ja4 (@ld_q)))))))))))))))))
theorem U1:type_of% (And.intro @YP (And.intro @jbt (@Uw))):=And.intro @YP (And.intro @jbt (@Uw))
end
section
variable {lv:V}{en:Int}{q:List V}{p base:Nat}{l:List Tk}{L:List AObj}{ts:List Nat}{i o j:Nat}
theorem jpz(l:List Tk)(en:Int)(sy:Sy)(i:Nat):go l en deep sy 0 i=some (jhV l en sy i):=by
 have h:=jcQ (ts:=l) (en:=en) deep sy 0 (by omega) (by cases sy<;>simp[rank,deep]) i;unfold jhV;cases hg:go l en deep sy 0 i with
 |none=>rw[hg]at h;simp at h
 |some r=>rfl
theorem at62:env.P.funcs[62]? = some Tryz.f62:=by kernel_rfl
theorem job(hv:IsK lv l)(hl:l.length<=4000){fo:FuncId}{sy:Sy}(hf:fo=128/\sy=.expr\/fo=63/\sy=.cond)(hi:i<=l.length)(hP:Pc lv en q p L i 0) :
  ∃x O',jbP env 62 [.ptr p 0,.func fo [.ptr p 0] []] ⟨L,ts⟩=some (x,O')/\GoX lv en q p L ts 0 (jcd l en sy i) x O':=by
 obtain⟨c1,c2,c3,c4,c5⟩:=go_x (en:=en) (q:=q) (p:=p) hv hl deep
 have hk:∃x O',jbP env fo [.ptr p 0] ⟨L,ts⟩=some (x,O')/\GoX lv en q p L ts 0 (jhV l en sy i) x O':=by
  rcases hf with⟨rfl,rfl⟩|⟨rfl,rfl⟩
  ·exact c1 0 i _ (jpz l en .expr i) (by omega) hi L ts hP
  ·exact c3 0 i _ (jpz l en .cond i) (by omega) hi L ts hP
 have ha:=jcC (jeG hv hl hP ts);refine jaZ rfl rfl rfl rfl at62 rfl (by simp[Tryz.f62]) (U4 rfl) (jbq ?_);simp only[Tryz.f62,Ux,simprocAttr,U3,jab,jak,ha];unfold jcd;generalize jhV l en sy i=r at *;refine jaU hk ?_ ?_
 ·rintro v ⟨L2,t2⟩ hk
  match r,hk with
  | .ok (out,j),⟨u',k1,k2,k3,k4,k5⟩ =>
   cases k1;have hlen:=k4.len 71;simp only[PP.andThen];by_cases h200:200<out.length
   ·have h2:=eq_true (show(200:Int)<(out.length:Int) by omega);rw[Ki h200];simp only[Ux,simprocAttr,U3,jab,jak,tys,hlen,h2];refine jaU (jgu _ _ _) ?_ ?_
    ·rintro v O' ⟨h,_⟩;cases h
    ·rintro v O' ⟨h,rfl⟩;cases h;exact⟨rfl,k2,k5⟩
   ·have h2:=eq_false (show ¬(200:Int)<(out.length:Int) by omega);rw[Kj h200];simp only[Ux,simprocAttr,U3,jab,jak,tys,hlen,h2];exact⟨v,rfl,k2,k3,k4,k5⟩
  | .error e,⟨k1,_⟩=>cases k1
 ·rintro v ⟨L2,t2⟩ hk
  match r,hk with
  | .ok (out,j),⟨u',k1,_⟩=>cases k1
  | .error e,hk=>exact hk
theorem at90:env.P.funcs[90]? = some Tryz.f90:=by kernel_rfl
theorem fo29:ja5 env 29 0=some 0/\ja5 env 29 1=some 1/\ja5 env 29 2=some 2/\ja5 env 29 3=some 3/\ja5 env 29 4=some 4/\ja5 env 29 5=some 5/\ja5 env 29 6=some 6/\ja5 env 29 7=some 7/\ja5 env 29 8=some 8/\ja5 env 29 9=some 9/\ja5 env 29 10=some 10/\ja5 env 29 11=some 11/\ja5 env 29 12=some 12/\ja5 env 29 13=some 13/\ja5 env 29 14=some 14/\ja5 env 29 15=some 15/\ja5 env 29 16=some 16/\ja5 env 29 17=some 17/\ja5 env 29 18=some 18/\ja5 env 29 19=some 19 :=
 ⟨by kernel_rfl,by kernel_rfl,by kernel_rfl,by kernel_rfl,by kernel_rfl,by kernel_rfl,by kernel_rfl,by kernel_rfl,by kernel_rfl,by kernel_rfl,by kernel_rfl,by kernel_rfl,by kernel_rfl,by kernel_rfl,by kernel_rfl,by kernel_rfl,by kernel_rfl,by kernel_rfl,by kernel_rfl,by kernel_rfl⟩
def CY(lv:V)(en:Int)(p:Nat)(L:List AObj)(ts:List Nat)(ev wv rv:V)(r:R Qry)(x:Sum V V)(O:S):Prop :=
 match r with
 | .ok (Q,j)=>x=.inl (.tup [])/\Fr p L O.heap/\Pc lv en (qC Q ev wv rv) p O.heap j 0/\O.toks=ts
 | .error e=>x=.inr (flt e)/\Fr p L O.heap
theorem jqT(hv:IsK lv l)(hl:l.length<=4000){Q:Qry}{ev wv rv:V}(hP:Pc lv en (qC Q ev wv rv) p L i 0)(k:Int) :
  ∃x O',jbP env 90 [.ptr p 0,.int .i64 k] ⟨L,ts⟩=some (x,O')/\CY lv en p L ts ev wv rv (jcE l en k Q i) x O':=by
 refine jaZ rfl rfl rfl rfl at90 rfl (by simp[Tryz.f90]) (U4 rfl) (jbq ?_);simp only[Tryz.f90,Ux,simprocAttr,U3,jab,jak];unfold jcE;refine jdj (jkD hv hl hP ts) ?_ ?_
 ·intro e he L' hF;rw[he];exact⟨rfl,hF⟩
 ·intro c j hc L' hF hP';rw[hc];have hcl:L'[p]? = some (pcL lv en (qC Q ev wv rv) j 0):=hP';have hgs:∀a:AObj,(L'.set p a)[p]? = some a:=λa=>Kl hP'.lt
  simp only[Ux,simprocAttr,U3,jab,jak,fo29,hcl,hgs,jbt,Uw];exact⟨rfl,hF.tr (Fr.set _ _ _),Kl hP'.lt,rfl⟩
theorem jia(hv:IsK lv l)(hl:l.length<=4000){Q:Qry}{ev wv rv:V}(hP:Pc lv en (qC Q ev wv rv) p L i 0)(hq:QL base ts Q ev wv rv)(k:Int) :
  ∃x O',jbP env 90 [.ptr p 0,.int .i64 k] ⟨L,ts⟩=some (x,O')/\QX lv en p base L (jcE l en k Q i) x O':=by
 obtain⟨x,O',h1,h2⟩:=jqT (en:=en) (ts:=ts) hv hl hP k;refine⟨x,O',h1,?_⟩;unfold jcE at h2 ⊢;cases hn:jeA l en i with
 |error e=>rw[hn]at h2;exact h2
 |ok y =>
  obtain⟨c,j⟩:=y;rw[hn]at h2;obtain⟨g1,g2,g3,g4⟩:=h2;exact⟨g1,g2,ev,wv,rv,g3,by rw[g4];exact⟨hq.e,hq.w,hq.r,hq.b⟩⟩
theorem jtZ {k:Int}{t:Tk}(h:jfJ l en k i=.ok (t,j)):j<=l.length:=by
 unfold jfJ at h;split at h
 ·rename_i t' ht;split at h
  ·simp only[Except.ok.injEq,Kh]at h;have:=(Kz.1 ht).1;omega
  ·simp[syn]at h
 ·simp[syn]at h
theorem jdk {s:List UInt8}{u:Unit}(h:must l en s i=.ok (u,j)):j<=l.length:=by
 have h1:=jco h;have:=jcb h1.2;omega
theorem jho {s:List UInt8}(h:jeA l en i=.ok (s,j)):j<=l.length:=by
 unfold jeA at h;split at h
 ·rename_i t j' he;simp only[Except.ok.injEq,Kh]at h;rw[<- h.2];exact jtZ he
 ·cases h
theorem jjc {n:Int}(h:numP l en i=.ok (n,j)):j<=l.length:=by
 unfold numP at h;split at h
 ·rename_i t j' he;simp only[Except.ok.injEq,Kh]at h;rw[<- h.2];exact jtZ he
 ·cases h
theorem jkG {n:Int}(h:intP l en i=.ok (n,j)):j<=l.length:=by
 unfold intP at h;split at h
 ·split at h
  ·rename_i n' j' he;simp only[Except.ok.injEq,Kh]at h;rw[<- h.2];exact jjc he
  ·cases h
 ·exact jjc h
theorem jqU {n:Int}(h:posP l en i=.ok (n,j)):j<=l.length:=by
 unfold posP at h;split at h
 ·rename_i n' j' he;split at h
  ·cases h
  ·simp only[Except.ok.injEq,Kh]at h;rw[<- h.2];exact jjc he
 ·cases h
theorem jt0 {sy:Sy}{out:List Nd}(h:jcd l en sy i=.ok (out,j)):j<=l.length/\out.length<=4000+l.length:=by
 unfold jcd at h;have hg:=jpz l en sy i;generalize jhV l en sy i=r at *
 match r,h with
 | .ok (a,k),h =>
  simp only[PP.andThen]at h;have h1:=jcl deep sy 0 _ _ _ hg;split at h
  ·cases h
  ·simp only[Except.ok.injEq,Kh]at h;obtain⟨rfl,rfl⟩:=h;omega
 | .error e,h=>simp[PP.andThen]at h
theorem andThen_ok {α β:Type}(a:α)(j:Nat)(f:α->Nat->R β):PP.andThen (.ok (a,j)) f=f a j:=rfl
section
variable {fn:FuncId}{rnd:Option Nat}{n:Nat}{Qp:Post}{ks:List Kt}{m:Bool}{ops:Array Oper}{ol:List Oper}{T:Tm}{D:List DE}{f:FuncId}{args:List V}{X:V->List DE->S->Prop}{Y:V->S->Prop}{d:Nat}
theorem jzj {r:R (List Nd)}(h:∃x O',jbP env f args ⟨L,ts⟩=some (x,O')/\GoX lv en q p L ts o r x O')(herr:∀e,r=.error e->∀L' t',Fr p L L'->Y (flt e) ⟨L',t'⟩)
  (hok:∀a j,r=.ok (a,j)->∀L' t' v,Fr p L L'->Pc lv en q p L' j o->GrowV ts.length t' 3 v a.length (jbS a)->Ext ts.length ts t'->HL env fn rnd n X Qp ks Y m ops ol (upd T d v) D ⟨L',t'⟩):HX env fn rnd n X Qp ks Y m ops ol T D d (jbP env f args ⟨L,ts⟩):=by
 refine jaU h ?_ ?_
 ·rintro v ⟨L',t'⟩ hk
  match r,hok,hk with
  | .ok (a,j),hok,⟨u,h1,h2,h3,h4,h5⟩=>cases h1;exact hok a j rfl L' t' v h2 h3 h4 h5
  | .error e,_,⟨h1,_⟩=>cases h1
 ·rintro v ⟨L',t'⟩ hk
  match r,herr,hk with
  | .ok (a,j),_,⟨u,h1,_⟩=>cases h1
  | .error e,herr,⟨h1,h2,h3⟩=>cases h1;exact herr e rfl L' t' h2
theorem jBh {r:R Qry}(h:∃x O',jbP env f args ⟨L,ts⟩=some (x,O')/\QX lv en p base L r x O')(herr:∀e,r=.error e->∀L' t',Fr p L L'->Y (flt e) ⟨L',t'⟩)
  (hok:∀Q j,r=.ok (Q,j)->∀L' t' ev wv rv,Fr p L L'->Pc lv en (qC Q ev wv rv) p L' j 0->QL base t' Q ev wv rv->HL env fn rnd n X Qp ks Y m ops ol (upd T d (.tup [])) D ⟨L',t'⟩):HX env fn rnd n X Qp ks Y m ops ol T D d (jbP env f args ⟨L,ts⟩):=by
 refine jaU h ?_ ?_
 ·rintro v ⟨L',t'⟩ hk
  match r,hok,hk with
  | .ok (Q,j),hok,⟨h1,h2,ev,wv,rv,h3,h4⟩=>cases h1;exact hok Q j rfl L' t' ev wv rv h2 h3 h4
  | .error e,_,⟨h1,_⟩=>cases h1
 ·rintro v ⟨L',t'⟩ hk
  match r,herr,hk with
  | .ok (Q,j),_,⟨h1,_⟩=>cases h1
  | .error e,herr,⟨h1,h2⟩=>cases h1;exact herr e rfl L' t' h2
end
end
section
variable {lv:V}{en:Int}{q:List V}{p base:Nat}{l:List Tk}{L:List AObj}{ts:List Nat}{i o j:Nat}
theorem QX.inl {r:R Qry}{v:V}{O:S}(g:QX lv en p base L r (.inl v) O):QX lv en p base L r (.inl (.tup [])) O:=by
 match r,g with
 | .ok (a,j),⟨g1,g2⟩=>exact⟨rfl,g2⟩
 | .error e,⟨g1,_⟩=>cases g1
theorem at89:env.P.funcs[89]? = some Tryz.f89:=by kernel_rfl
theorem jmD(hv:IsK lv l)(hl:l.length<=4000)(hs:jek l){Q:Qry}{ev wv rv:V}(hi:i<=l.length)(hP:Pc lv en (qC Q ev wv rv) p L i 0)(hq:QL base ts Q ev wv rv)(k:Int) :
  ∃x O',jbP env 89 [.ptr p 0,.int .i64 k] ⟨L,ts⟩=some (x,O')/\QX lv en p base L (jcD l en k Q i) x O':=by
 refine jaZ rfl rfl rfl rfl at89 rfl (by simp[Tryz.f89]) (U4 rfl) (jbq ?_);have hc:L[p]? = some (pcL lv en (qC Q ev wv rv) i 0):=hP;unfold jcD;simp only[Tryz.f89,Ux,simprocAttr,U3,jab,jak,fo29,U1,hc];have hs0:Pc lv en (qC { Q with kind:=k } ev wv rv) p (L.set p (pcL lv en (qC { Q with kind:=k } ev wv rv) i 0)) i 0:=Kl hP.lt;have hf0:=(Fr.rf p L).tr (Fr.set p L (pcL lv en (qC { Q with kind:=k } ev wv rv) i 0));have hq0:QL base ts { Q with kind:=k } ev wv rv:=⟨hq.e,hq.w,hq.r,hq.b⟩;refine jzj (job (ts:=ts) hv hl (.inl ⟨rfl,rfl⟩) hi hs0) ?_ ?_
 ·intro e he L' t' hF';simp only[he];exact⟨rfl,hf0.tr hF'⟩
 intro a1 j1 h1 L1 t1 v1 hF1' hP1 hG1 hE1;simp only[h1,andThen_ok];have hi1:j1<=l.length:=(jt0 h1).1;have hF1:=hf0.tr hF1';have hv1:=hG1.cells;have hc1:L1[p]? = some (pcL lv en (qC { Q with kind:=k } ev wv rv) j1 0):=hP1;have hg1:∀a:AObj,(L1.set p a)[p]? = some a:=λa=>Kl hP1.lt
 simp only[Ux,simprocAttr,U3,jab,jak,fo29,U1,hc1,hg1,jxy a1 hv1.2,hv1.1,hv1.2];have hs1:Pc lv en (qC { { Q with kind:=k } with expr:=a1 } v1 wv rv) p (L1.set p (pcL lv en (qC { { Q with kind:=k } with expr:=a1 } v1 wv rv) j1 0)) j1 0:=Kl hP1.lt;have hf1:=hF1.tr (Fr.set p L1 (pcL lv en (qC { { Q with kind:=k } with expr:=a1 } v1 wv rv) j1 0));have hq1:QL base t1 { { Q with kind:=k } with expr:=a1 } v1 wv rv:=⟨(hG1.weakbase hq0.b),(hq0.w.ext hE1),hq0.r.ext hE1,Qs hq0.b hE1.1⟩;refine jdj (jdH hv hl hi1 hs1 t1 jdF) ?_ ?_
 ·intro e he L' hF';simp only[he];exact⟨rfl,hf1.tr hF'⟩
 intro a2 j2 h2 L2 hF2' hP2;simp only[h2,andThen_ok];have hi2:j2<=l.length:=jdk h2;have hF2:=hf1.tr hF2';simp only[Ux,simprocAttr,U3,jab,jak,fo29,U1];refine jdj (jtU hv hl hs hi2 hP2 t1) ?_ ?_
 ·intro e he L' hF';simp only[he];exact⟨rfl,hF2.tr hF'⟩
 intro a3 j3 h3 L3 hF3' hP3;simp only[h3,andThen_ok];have hi3:j3<=l.length:=jkG h3;have hF3:=hF2.tr hF3';have hc3:L3[p]? = some (pcL lv en (qC { { Q with kind:=k } with expr:=a1 } v1 wv rv) j3 0):=hP3;have hg3:∀a:AObj,(L3.set p a)[p]? = some a:=λa=>Kl hP3.lt
 simp only[Ux,simprocAttr,U3,jab,jak,fo29,U1,hc3,hg3];have hs3:Pc lv en (qC { { { Q with kind:=k } with expr:=a1 } with lo:=a3 } v1 wv rv) p (L3.set p (pcL lv en (qC { { { Q with kind:=k } with expr:=a1 } with lo:=a3 } v1 wv rv) j3 0)) j3 0:=Kl hP3.lt;have hf3:=hF3.tr (Fr.set p L3 (pcL lv en (qC { { { Q with kind:=k } with expr:=a1 } with lo:=a3 } v1 wv rv) j3 0));have hq3:QL base t1 { { { Q with kind:=k } with expr:=a1 } with lo:=a3 } v1 wv rv:=⟨hq1.e,hq1.w,hq1.r,hq1.b⟩;refine jdj (jdH hv hl hi3 hs3 t1 wAnd) ?_ ?_
 ·intro e he L' hF';simp only[he];exact⟨rfl,hf3.tr hF'⟩
 intro a4 j4 h4 L4 hF4' hP4;simp only[h4,andThen_ok];have hi4:j4<=l.length:=jdk h4;have hF4:=hf3.tr hF4';simp only[Ux,simprocAttr,U3,jab,jak,fo29,U1];refine jdj (jtU hv hl hs hi4 hP4 t1) ?_ ?_
 ·intro e he L' hF';simp only[he];exact⟨rfl,hF4.tr hF'⟩
 intro a5 j5 h5 L5 hF5' hP5;simp only[h5,andThen_ok];have hi5:j5<=l.length:=jkG h5;have hF5:=hF4.tr hF5';have hc5:L5[p]? = some (pcL lv en (qC { { { Q with kind:=k } with expr:=a1 } with lo:=a3 } v1 wv rv) j5 0):=hP5;have hg5:∀a:AObj,(L5.set p a)[p]? = some a:=λa=>Kl hP5.lt
 simp only[Ux,simprocAttr,U3,jab,jak,fo29,U1,hc5,hg5];have hs5:Pc lv en (qC { { { { Q with kind:=k } with expr:=a1 } with lo:=a3 } with hi:=a5 } v1 wv rv) p (L5.set p (pcL lv en (qC { { { { Q with kind:=k } with expr:=a1 } with lo:=a3 } with hi:=a5 } v1 wv rv) j5 0)) j5 0:=Kl hP5.lt;have hf5:=hF5.tr (Fr.set p L5 (pcL lv en (qC { { { { Q with kind:=k } with expr:=a1 } with lo:=a3 } with hi:=a5 } v1 wv rv) j5 0));have hq5:QL base t1 { { { { Q with kind:=k } with expr:=a1 } with lo:=a3 } with hi:=a5 } v1 wv rv:=⟨hq3.e,hq3.w,hq3.r,hq3.b⟩;exact⟨rfl,hf5,v1,wv,rv,hs5,hq5⟩
theorem jt1 {k:Int}{Q Q':Qry}(h:jcD l en k Q i=.ok (Q',j)):j<=l.length:=by
 unfold jcD at h
 match h1:jcd l en .expr i,h with
 | .ok (e,j1),h =>
  simp only[andThen_ok]at h
  match h2:must l en jdF j1,h with
  | .ok (_,j2),h =>
   simp only[andThen_ok]at h
   match h3:intP l en j2,h with
   | .ok (_,j3),h =>
    simp only[andThen_ok]at h
    match h4:must l en wAnd j3,h with
    | .ok (_,j4),h =>
     simp only[andThen_ok]at h
     match h5:intP l en j4,h with
     | .ok (_,j5),h =>
      simp only[andThen_ok,Except.ok.injEq,Kh]at h;rw[<- h.2];exact jkG h5
     | .error e,h=>cases h
    | .error e,h=>cases h
   | .error e,h=>cases h
  | .error e,h=>cases h
 | .error e,h=>cases h
theorem at51:env.P.funcs[51]? = some Tryz.f51:=by kernel_rfl
theorem jxA(hv:IsK lv l)(hl:l.length<=4000)(hs:jek l){Q:Qry}{ev wv rv:V}(hi:i<=l.length)(hP:Pc lv en (qC Q ev wv rv) p L i 0)(hq:QL base ts Q ev wv rv) :
  ∃x O',jbP env 51 [.ptr p 0] ⟨L,ts⟩=some (x,O')/\QX lv en p base L (jqt l en Q i) x O':=by
 refine jaZ rfl rfl rfl rfl at51 rfl (by simp[Tryz.f51]) (U4 rfl) (jbq ?_);unfold jqt;simp only[Tryz.f51,Ux,simprocAttr,U3,jab,jak,fo29,U1];refine jBh (jmD hv hl hs hi hP hq 4) ?_ ?_
 ·intro e he L' t' hF';simp only[he];exact⟨rfl,(Fr.rf p L).tr hF'⟩
 intro a1 j1 h1 L1 t1 ev1 wv1 rv1 hF1' hP1 hq1;simp only[h1,andThen_ok];have hi1:j1<=l.length:=jt1 h1;have hF1:=(Fr.rf p L).tr hF1';simp only[Ux,simprocAttr,U3,jab,jak,fo29,U1];refine jdj (jdH hv hl hi1 hP1 t1 wBy) ?_ ?_
 ·intro e he L' hF';simp only[he];exact⟨rfl,hF1.tr hF'⟩
 intro a2 j2 h2 L2 hF2' hP2;simp only[h2,andThen_ok];have hi2:j2<=l.length:=jdk h2;have hF2:=hF1.tr hF2';simp only[Ux,simprocAttr,U3,jab,jak,fo29,U1];refine jdj (jkD hv hl hP2 t1) ?_ ?_
 ·intro e he L' hF';simp only[he];exact⟨rfl,hF2.tr hF'⟩
 intro a3 j3 h3 L3 hF3' hP3;simp only[h3,andThen_ok];have hi3:j3<=l.length:=jho h3;have hF3:=hF2.tr hF3';have hc3:L3[p]? = some (pcL lv en (qC a1 ev1 wv1 rv1) j3 0):=hP3;have hg3:∀a:AObj,(L3.set p a)[p]? = some a:=λa=>Kl hP3.lt
 simp only[Ux,simprocAttr,U3,jab,jak,fo29,U1,hc3,hg3];have hs3:Pc lv en (qC { a1 with column:=a3 } ev1 wv1 rv1) p (L3.set p (pcL lv en (qC { a1 with column:=a3 } ev1 wv1 rv1) j3 0)) j3 0:=Kl hP3.lt;have hf3:=hF3.tr (Fr.set p L3 (pcL lv en (qC { a1 with column:=a3 } ev1 wv1 rv1) j3 0));have hq3:QL base t1 { a1 with column:=a3 } ev1 wv1 rv1:=⟨hq1.e,hq1.w,hq1.r,hq1.b⟩;exact⟨rfl,hf3,ev1,wv1,rv1,hs3,hq3⟩
theorem at52:env.P.funcs[52]? = some Tryz.f52:=by kernel_rfl
theorem jrD(hv:IsK lv l)(hl:l.length<=4000)(hs:jek l){Q:Qry}{ev wv rv:V}(hi:i<=l.length)(hP:Pc lv en (qC Q ev wv rv) p L i 0)(hq:QL base ts Q ev wv rv) :
  ∃x O',jbP env 52 [.ptr p 0] ⟨L,ts⟩=some (x,O')/\QX lv en p base L (jhW l en Q i) x O':=by
 refine jaZ rfl rfl rfl rfl at52 rfl (by simp[Tryz.f52]) (U4 rfl) (jbq ?_);unfold jhW;simp only[Tryz.f52,Ux,simprocAttr,U3,jab,jak,fo29,U1];refine jdj (jfR hv hl hP ts) ?_ ?_
 ·intro e he L' hF';simp only[he];exact⟨rfl,(Fr.rf p L).tr hF'⟩
 intro a1 j1 h1 L1 hF1' hP1;simp only[h1,andThen_ok];have hi1:j1<=l.length:=jjc h1;have hF1:=(Fr.rf p L).tr hF1';have hc1:L1[p]? = some (pcL lv en (qC Q ev wv rv) j1 0):=hP1;have hg1:∀a:AObj,(L1.set p a)[p]? = some a:=λa=>Kl hP1.lt
 simp only[Ux,simprocAttr,U3,jab,jak,fo29,U1,hc1,hg1];have hs1:Pc lv en (qC { Q with p:=a1 } ev wv rv) p (L1.set p (pcL lv en (qC { Q with p:=a1 } ev wv rv) j1 0)) j1 0:=Kl hP1.lt;have hf1:=hF1.tr (Fr.set p L1 (pcL lv en (qC { Q with p:=a1 } ev wv rv) j1 0));have hq1:QL base ts { Q with p:=a1 } ev wv rv:=⟨hq.e,hq.w,hq.r,hq.b⟩;refine jdj (jdH hv hl hi1 hs1 ts [47]) ?_ ?_
 ·intro e he L' hF';simp only[he];exact⟨rfl,hf1.tr hF'⟩
 intro a2 j2 h2 L2 hF2' hP2;simp only[h2,andThen_ok];have hi2:j2<=l.length:=jdk h2;have hF2:=hf1.tr hF2';simp only[Ux,simprocAttr,U3,jab,jak,fo29,U1];refine jdj (jfR hv hl hP2 ts) ?_ ?_
 ·intro e he L' hF';simp only[he];exact⟨rfl,hF2.tr hF'⟩
 intro a3 j3 h3 L3 hF3' hP3;simp only[h3,andThen_ok];have hi3:j3<=l.length:=jjc h3;have hF3:=hF2.tr hF3';have hc3:L3[p]? = some (pcL lv en (qC { Q with p:=a1 } ev wv rv) j3 0):=hP3;have hg3:∀a:AObj,(L3.set p a)[p]? = some a:=λa=>Kl hP3.lt
 simp only[Ux,simprocAttr,U3,jab,jak,fo29,U1,hc3,hg3];have hs3:Pc lv en (qC { { Q with p:=a1 } with q:=a3 } ev wv rv) p (L3.set p (pcL lv en (qC { { Q with p:=a1 } with q:=a3 } ev wv rv) j3 0)) j3 0:=Kl hP3.lt;have hf3:=hF3.tr (Fr.set p L3 (pcL lv en (qC { { Q with p:=a1 } with q:=a3 } ev wv rv) j3 0));have hq3:QL base ts { { Q with p:=a1 } with q:=a3 } ev wv rv:=⟨hq1.e,hq1.w,hq1.r,hq1.b⟩;refine jdj (jdH hv hl hi3 hs3 ts wOf) ?_ ?_
 ·intro e he L' hF';simp only[he];exact⟨rfl,hf3.tr hF'⟩
 intro a4 j4 h4 L4 hF4' hP4;simp only[h4,andThen_ok];have hi4:j4<=l.length:=jdk h4;have hF4:=hf3.tr hF4';simp only[Ux,simprocAttr,U3,jab,jak,fo29,U1];refine jaU (jmD hv hl hs hi4 hP4 hq3 5) ?_ ?_
 ·rintro v ⟨L',t'⟩ hk;simp only[Ux,simprocAttr,U3,jab,jak,fo29,U1];exact(hk.tr hF4).inl
 ·rintro v ⟨L',t'⟩ hk;exact hk.tr hF4
theorem at54:env.P.funcs[54]? = some Tryz.f54:=by kernel_rfl
theorem jxB(hv:IsK lv l)(hl:l.length<=4000)(hs:jek l){Q:Qry}{ev wv rv:V}(hi:i<=l.length)(hP:Pc lv en (qC Q ev wv rv) p L i 0)(hq:QL base ts Q ev wv rv) :
  ∃x O',jbP env 54 [.ptr p 0] ⟨L,ts⟩=some (x,O')/\QX lv en p base L (jqu l en Q i) x O':=by
 refine jaZ rfl rfl rfl rfl at54 rfl (by simp[Tryz.f54]) (U4 rfl) (jbq ?_);unfold jqu;simp only[Tryz.f54,Ux,simprocAttr,U3,jab,jak,fo29,U1];refine jdj (jtU hv hl hs hi hP ts) ?_ ?_
 ·intro e he L' hF';simp only[he];exact⟨rfl,(Fr.rf p L).tr hF'⟩
 intro a1 j1 h1 L1 hF1' hP1;simp only[h1,andThen_ok];have hi1:j1<=l.length:=jkG h1;have hF1:=(Fr.rf p L).tr hF1';have hc1:L1[p]? = some (pcL lv en (qC Q ev wv rv) j1 0):=hP1;have hg1:∀a:AObj,(L1.set p a)[p]? = some a:=λa=>Kl hP1.lt
 simp only[Ux,simprocAttr,U3,jab,jak,fo29,U1,hc1,hg1];have hs1:Pc lv en (qC { Q with bound:=a1 } ev wv rv) p (L1.set p (pcL lv en (qC { Q with bound:=a1 } ev wv rv) j1 0)) j1 0:=Kl hP1.lt;have hf1:=hF1.tr (Fr.set p L1 (pcL lv en (qC { Q with bound:=a1 } ev wv rv) j1 0));have hq1:QL base ts { Q with bound:=a1 } ev wv rv:=⟨hq.e,hq.w,hq.r,hq.b⟩;refine jaU (jia hv hl hs1 hq1 7) ?_ ?_
 ·rintro v ⟨L',t'⟩ hk;simp only[Ux,simprocAttr,U3,jab,jak,fo29,U1];exact(hk.tr hf1).inl
 ·rintro v ⟨L',t'⟩ hk;exact hk.tr hf1
theorem at48:env.P.funcs[48]? = some Tryz.f48:=by kernel_rfl
theorem jxC(hv:IsK lv l)(hl:l.length<=4000)(hs:jek l){Q:Qry}{ev wv rv:V}(hi:i<=l.length)(hP:Pc lv en (qC Q ev wv rv) p L i 0)(hq:QL base ts Q ev wv rv) :
  ∃x O',jbP env 48 [.ptr p 0] ⟨L,ts⟩=some (x,O')/\QX lv en p base L (.ok ({ Q with kind:=1 },i)) x O':=by
 refine jaZ rfl rfl rfl rfl at48 rfl (by simp[Tryz.f48]) (U4 rfl) (jbq ?_);have hc:L[p]? = some (pcL lv en (qC Q ev wv rv) i 0):=hP;simp only[Tryz.f48,Ux,simprocAttr,U3,jab,jak,fo29,U1,hc];have hs0:Pc lv en (qC { Q with kind:=1 } ev wv rv) p (L.set p (pcL lv en (qC { Q with kind:=1 } ev wv rv) i 0)) i 0:=Kl hP.lt;have hf0:=(Fr.rf p L).tr (Fr.set p L (pcL lv en (qC { Q with kind:=1 } ev wv rv) i 0));have hq0:QL base ts { Q with kind:=1 } ev wv rv:=⟨hq.e,hq.w,hq.r,hq.b⟩;exact⟨rfl,hf0,ev,wv,rv,hs0,hq0⟩
theorem at49:env.P.funcs[49]? = some Tryz.f49:=by kernel_rfl
theorem jBi(hv:IsK lv l)(hl:l.length<=4000)(hs:jek l){Q:Qry}{ev wv rv:V}(hi:i<=l.length)(hP:Pc lv en (qC Q ev wv rv) p L i 0)(hq:QL base ts Q ev wv rv) :
  ∃x O',jbP env 49 [.ptr p 0] ⟨L,ts⟩=some (x,O')/\QX lv en p base L (jcD l en 2 Q i) x O':=by
 refine jaZ rfl rfl rfl rfl at49 rfl (by simp[Tryz.f49]) (U4 rfl) (jbq ?_);simp only[Tryz.f49,Ux,simprocAttr,U3,jab,jak,fo29,U1];refine jaU (jmD hv hl hs hi hP hq 2) ?_ ?_
 ·rintro v ⟨L',t'⟩ hk;simp only[Ux,simprocAttr,U3,jab,jak,fo29,U1];exact(hk.tr (Fr.rf p L)).inl
 ·rintro v ⟨L',t'⟩ hk;exact hk.tr (Fr.rf p L)
theorem at50:env.P.funcs[50]? = some Tryz.f50:=by kernel_rfl
theorem jpA(hv:IsK lv l)(hl:l.length<=4000)(hs:jek l){Q:Qry}{ev wv rv:V}(hi:i<=l.length)(hP:Pc lv en (qC Q ev wv rv) p L i 0)(hq:QL base ts Q ev wv rv) :
  ∃x O',jbP env 50 [.ptr p 0] ⟨L,ts⟩=some (x,O')/\QX lv en p base L (jcE l en 3 Q i) x O':=by
 refine jaZ rfl rfl rfl rfl at50 rfl (by simp[Tryz.f50]) (U4 rfl) (jbq ?_);simp only[Tryz.f50,Ux,simprocAttr,U3,jab,jak,fo29,U1];refine jaU (jia hv hl hP hq 3) ?_ ?_
 ·rintro v ⟨L',t'⟩ hk;simp only[Ux,simprocAttr,U3,jab,jak,fo29,U1];exact(hk.tr (Fr.rf p L)).inl
 ·rintro v ⟨L',t'⟩ hk;exact hk.tr (Fr.rf p L)
theorem at53:env.P.funcs[53]? = some Tryz.f53:=by kernel_rfl
theorem jzk(hv:IsK lv l)(hl:l.length<=4000)(hs:jek l){Q:Qry}{ev wv rv:V}(hi:i<=l.length)(hP:Pc lv en (qC Q ev wv rv) p L i 0)(hq:QL base ts Q ev wv rv) :
  ∃x O',jbP env 53 [.ptr p 0] ⟨L,ts⟩=some (x,O')/\QX lv en p base L (jcE l en 6 Q i) x O':=by
 refine jaZ rfl rfl rfl rfl at53 rfl (by simp[Tryz.f53]) (U4 rfl) (jbq ?_);simp only[Tryz.f53,Ux,simprocAttr,U3,jab,jak,fo29,U1];refine jaU (jia hv hl hP hq 6) ?_ ?_
 ·rintro v ⟨L',t'⟩ hk;simp only[Ux,simprocAttr,U3,jab,jak,fo29,U1];exact(hk.tr (Fr.rf p L)).inl
 ·rintro v ⟨L',t'⟩ hk;exact hk.tr (Fr.rf p L)
theorem at55:env.P.funcs[55]? = some Tryz.f55:=by kernel_rfl
theorem jzl(hv:IsK lv l)(hl:l.length<=4000)(hs:jek l){Q:Qry}{ev wv rv:V}(hi:i<=l.length)(hP:Pc lv en (qC Q ev wv rv) p L i 0)(hq:QL base ts Q ev wv rv) :
  ∃x O',jbP env 55 [.ptr p 0] ⟨L,ts⟩=some (x,O')/\QX lv en p base L (jcE l en 8 Q i) x O':=by
 refine jaZ rfl rfl rfl rfl at55 rfl (by simp[Tryz.f55]) (U4 rfl) (jbq ?_);simp only[Tryz.f55,Ux,simprocAttr,U3,jab,jak,fo29,U1];refine jaU (jia hv hl hP hq 8) ?_ ?_
 ·rintro v ⟨L',t'⟩ hk;simp only[Ux,simprocAttr,U3,jab,jak,fo29,U1];exact(hk.tr (Fr.rf p L)).inl
 ·rintro v ⟨L',t'⟩ hk;exact hk.tr (Fr.rf p L)
theorem at56:env.P.funcs[56]? = some Tryz.f56:=by kernel_rfl
theorem jt2(hv:IsK lv l)(hl:l.length<=4000)(hs:jek l){Q:Qry}{ev wv rv:V}(hi:i<=l.length)(hP:Pc lv en (qC Q ev wv rv) p L i 0)(hq:QL base ts Q ev wv rv) :
  ∃x O',jbP env 56 [.ptr p 0] ⟨L,ts⟩=some (x,O')/\QX lv en p base L (jcE l en 9 Q i) x O':=by
 refine jaZ rfl rfl rfl rfl at56 rfl (by simp[Tryz.f56]) (U4 rfl) (jbq ?_);simp only[Tryz.f56,Ux,simprocAttr,U3,jab,jak,fo29,U1];refine jaU (jia hv hl hP hq 9) ?_ ?_
 ·rintro v ⟨L',t'⟩ hk;simp only[Ux,simprocAttr,U3,jab,jak,fo29,U1];exact(hk.tr (Fr.rf p L)).inl
 ·rintro v ⟨L',t'⟩ hk;exact hk.tr (Fr.rf p L)
end
def hdC:Code->Code
 | .seq a _=>a
 |c=>c
abbrev QE(K:Sum V V->S->Prop):Post:=⟨wpR env [] λv O'=>K (.inl v) O',λ_ _ _ _=>False,wpR env [] λv O'=>K (.inl v) O'⟩
theorem at27:env.P.funcs[27]? = some Tryz.f27:=by kernel_rfl
section
variable {lv:V}{en:Int}{q:List V}{p base:Nat}{l:List Tk}{L0 L:List AObj}{ts:List Nat}{i o j:Nat}
theorem jzm(hv:IsK lv l)(hl:l.length<=4000){Q:Qry}{ev wv rv:V}(hi:i<=l.length)(hF:Fr p L0 L)(hP:Pc lv en (qC Q ev wv rv) p L i 0)(hq:QL base ts Q ev wv rv){T:Tm}(t0:T 0=.ptr p 0) :
  H env 27 none 60 (λv D O'=>D=[]/\QX lv en p base L0 (jfX l en Q i) (.inr v) O') (QE (QX lv en p base L0 (jfX l en Q i))) [.code (jbr 5 (jaz Tryz.f27))] (regZ 12 (jaz Tryz.f27)) T [] ⟨L,ts⟩:=by
 simp only[regZ,regA,jbr,jaz,Tryz.f27,Kv,simprocAttr,Option.or,Ux,U3,jab,jak,t0];refine jcw (jfQ hv hl hi hP ts jgo) ?_;rintro _ ⟨L1,ts⟩ ⟨rfl,hF1',hP1,rfl⟩;have hF1:=hF.tr hF1';simp only at hF1 hP1;unfold jfX;cases hs:sees l jgo i
 ·rw[hs]at hP1;simp only[Km,Ks]at hP1;simp only[Ux,simprocAttr,U3,jab,jak];exact⟨rfl,hF1,ev,wv,rv,hP1,hq⟩
 ·rw[hs]at hP1;simp only[Ku]at hP1;have hi1:=jcb hs;simp only[Ux,simprocAttr,U3,jab,jak,t0,YP];refine jzj (job (ts:=ts) hv hl (.inr ⟨rfl,rfl⟩) hi1 hP1) ?_ ?_
  ·intro e he L' t' hF';simp only[he];exact⟨rfl,hF1.tr hF'⟩
  intro a2 j2 h2 L2 t2 v2 hF2' hP2 hG2 hE2;simp only[h2,andThen_ok];have hi2:j2<=l.length:=(jt0 h2).1;have hF2:=hF1.tr hF2';have hv2:=hG2.cells;have hc2:L2[p]? = some (pcL lv en (qC Q ev wv rv) j2 0):=hP2;have hg2:∀a:AObj,(L2.set p a)[p]? = some a:=λa=>Kl hP2.lt
  simp only[Ux,simprocAttr,U3,jab,jak,fo29,U1,hc2,hg2,jxz a2 hv2.2,hv2.1,hv2.2];have hs2:Pc lv en (qC { Q with wher:=a2 } ev v2 rv) p (L2.set p (pcL lv en (qC { Q with wher:=a2 } ev v2 rv) j2 0)) j2 0:=Kl hP2.lt;have hf2:=hF2.tr (Fr.set p L2 (pcL lv en (qC { Q with wher:=a2 } ev v2 rv) j2 0));have hq2:QL base t2 { Q with wher:=a2 } ev v2 rv:=⟨(hq.e.ext hE2),(hG2.weakbase hq.b),hq.r.ext hE2,Qs hq.b hE2.1⟩;exact⟨rfl,hf2,ev,v2,rv,hs2,hq2⟩
theorem src4(hv:IsK lv l)(hl:l.length<=4000){Q:Qry}{ev wv rv:V}(hi:i<=l.length)(hF:Fr p L0 L)(hP:Pc lv en (qC Q ev wv rv) p L i 0)(hq:QL base ts Q ev wv rv){T:Tm}(t0:T 0=.ptr p 0) :
  H env 27 none 60 (λv D O'=>D=[]/\QX lv en p base L0 (andThen (jke l en Q i) λq j=>jfX l en q j) (.inr v) O') (QE (QX lv en p base L0 (andThen (jke l en Q i) λq j=>jfX l en q j))) [.code (jbr 1 (hdC (jbr 3 (jaz Tryz.f27)))),.code (jbr 4 (jaz Tryz.f27))] (regZ 4 (jaz Tryz.f27)) T [] ⟨L,ts⟩:=by
 simp only[regZ,regA,jbr,hdC,jaz,Tryz.f27,Kv,simprocAttr,Option.or,Kc,jcj 12,jax,Kb,U3,jab,jak,t0];refine jcw (jfQ hv hl hi hP ts juF) ?_;rintro _ ⟨L1,ts⟩ ⟨rfl,hF1',hP1,rfl⟩;have hF1:=hF.tr hF1';simp only at hF1 hP1;unfold jke;cases hs:sees l juF i
 ·rw[hs]at hP1;simp only[Km,Ks]at hP1;simp only[Kc,jcj 12,jax,Kb,simprocAttr,U3,jab,jak,andThen_ok];exact jzm hv hl hi hF1 hP1 hq t0
 ·rw[hs]at hP1;simp only[Ku]at hP1;have hi1:=jcb hs;simp only[Kc,jcj 12,jax,Kb,simprocAttr,U3,jab,jak,t0];refine jdj (jkD hv hl hP1 ts) ?_ ?_
  ·intro e he L' hF';simp only[he];exact⟨rfl,hF1.tr hF'⟩
  intro a2 j2 h2 L2 hF2' hP2;simp only[h2,andThen_ok];have hi2:j2<=l.length:=jho h2;have hF2:=hF1.tr hF2';have hc2:L2[p]? = some (pcL lv en (qC Q ev wv rv) j2 0):=hP2;have hg2:∀a:AObj,(L2.set p a)[p]? = some a:=λa=>Kl hP2.lt
  simp only[t0,Kc,jcj 12,jax,Kb,simprocAttr,U3,jab,jak,fo29,U1,hc2,hg2];have hs2:Pc lv en (qC { Q with other:=a2 } ev wv rv) p (L2.set p (pcL lv en (qC { Q with other:=a2 } ev wv rv) j2 0)) j2 0:=Kl hP2.lt;have hf2:=hF2.tr (Fr.set p L2 (pcL lv en (qC { Q with other:=a2 } ev wv rv) j2 0));have hq2:QL base ts { Q with other:=a2 } ev wv rv:=⟨hq.e,hq.w,hq.r,hq.b⟩;refine jdj (jdH hv hl hi2 hs2 ts wOn) ?_ ?_
  ·intro e he L' hF';simp only[he];exact⟨rfl,hf2.tr hF'⟩
  intro a3 j3 h3 L3 hF3' hP3;simp only[h3,andThen_ok];have hi3:j3<=l.length:=jdk h3;have hF3:=hf2.tr hF3';simp only[t0,Kc,jcj 12,jax,Kb,simprocAttr,U3,jab,jak,fo29,U1];refine jdj (jkD hv hl hP3 ts) ?_ ?_
  ·intro e he L' hF';simp only[he];exact⟨rfl,hF3.tr hF'⟩
  intro a4 j4 h4 L4 hF4' hP4;simp only[h4,andThen_ok];have hi4:j4<=l.length:=jho h4;have hF4:=hF3.tr hF4';have hc4:L4[p]? = some (pcL lv en (qC { Q with other:=a2 } ev wv rv) j4 0):=hP4;have hg4:∀a:AObj,(L4.set p a)[p]? = some a:=λa=>Kl hP4.lt
  simp only[t0,Kc,jcj 12,jax,Kb,simprocAttr,U3,jab,jak,fo29,U1,hc4,hg4];have hs4:Pc lv en (qC { { Q with other:=a2 } with left:=a4 } ev wv rv) p (L4.set p (pcL lv en (qC { { Q with other:=a2 } with left:=a4 } ev wv rv) j4 0)) j4 0:=Kl hP4.lt;have hf4:=hF4.tr (Fr.set p L4 (pcL lv en (qC { { Q with other:=a2 } with left:=a4 } ev wv rv) j4 0));have hq4:QL base ts { { Q with other:=a2 } with left:=a4 } ev wv rv:=⟨hq2.e,hq2.w,hq2.r,hq2.b⟩;refine jdj (jdH hv hl hi4 hs4 ts [61]) ?_ ?_
  ·intro e he L' hF';simp only[he];exact⟨rfl,hf4.tr hF'⟩
  intro a5 j5 h5 L5 hF5' hP5;simp only[h5,andThen_ok];have hi5:j5<=l.length:=jdk h5;have hF5:=hf4.tr hF5';simp only[t0,Kc,jcj 12,jax,Kb,simprocAttr,U3,jab,jak,fo29,U1];refine jdj (jkD hv hl hP5 ts) ?_ ?_
  ·intro e he L' hF';simp only[he];exact⟨rfl,hF5.tr hF'⟩
  intro a6 j6 h6 L6 hF6' hP6;simp only[h6,andThen_ok];have hi6:j6<=l.length:=jho h6;have hF6:=hF5.tr hF6';have hc6:L6[p]? = some (pcL lv en (qC { { Q with other:=a2 } with left:=a4 } ev wv rv) j6 0):=hP6;have hg6:∀a:AObj,(L6.set p a)[p]? = some a:=λa=>Kl hP6.lt
  simp only[t0,Kc,jcj 12,jax,Kb,simprocAttr,U3,jab,jak,fo29,U1,hc6,hg6];have hs6:Pc lv en (qC { { { Q with other:=a2 } with left:=a4 } with right:=a6 } ev wv rv) p (L6.set p (pcL lv en (qC { { { Q with other:=a2 } with left:=a4 } with right:=a6 } ev wv rv) j6 0)) j6 0:=Kl hP6.lt;have hf6:=hF6.tr (Fr.set p L6 (pcL lv en (qC { { { Q with other:=a2 } with left:=a4 } with right:=a6 } ev wv rv) j6 0));have hq6:QL base ts { { { Q with other:=a2 } with left:=a4 } with right:=a6 } ev wv rv:=⟨hq4.e,hq4.w,hq4.r,hq4.b⟩;refine jdj (jdH hv hl hi6 hs6 ts js8) ?_ ?_
  ·intro e he L' hF';simp only[he];exact⟨rfl,hf6.tr hF'⟩
  intro a7 j7 h7 L7 hF7' hP7;simp only[h7,andThen_ok];have hi7:j7<=l.length:=jdk h7;have hF7:=hf6.tr hF7';simp only[t0,Kc,jcj 12,jax,Kb,simprocAttr,U3,jab,jak,fo29,U1];refine jdj (jiQ hv hl hP7 ts) ?_ ?_
  ·intro e he L' hF';simp only[he];exact⟨rfl,hF7.tr hF'⟩
  intro a8 j8 h8 L8 hF8' hP8;simp only[h8,andThen_ok];have hi8:j8<=l.length:=jqU h8;have hF8:=hF7.tr hF8';have hc8:L8[p]? = some (pcL lv en (qC { { { Q with other:=a2 } with left:=a4 } with right:=a6 } ev wv rv) j8 0):=hP8;have hg8:∀a:AObj,(L8.set p a)[p]? = some a:=λa=>Kl hP8.lt
  simp only[t0,Kc,jcj 12,jax,Kb,simprocAttr,U3,jab,jak,fo29,U1,hc8,hg8];have hs8:Pc lv en (qC { { { { Q with other:=a2 } with left:=a4 } with right:=a6 } with limit:=a8 } ev wv rv) p (L8.set p (pcL lv en (qC { { { { Q with other:=a2 } with left:=a4 } with right:=a6 } with limit:=a8 } ev wv rv) j8 0)) j8 0:=Kl hP8.lt;have hf8:=hF8.tr (Fr.set p L8 (pcL lv en (qC { { { { Q with other:=a2 } with left:=a4 } with right:=a6 } with limit:=a8 } ev wv rv) j8 0));have hq8:QL base ts { { { { Q with other:=a2 } with left:=a4 } with right:=a6 } with limit:=a8 } ev wv rv:=⟨hq6.e,hq6.w,hq6.r,hq6.b⟩;exact jzm hv hl hi8 hf8 hs8 hq8 t0
theorem jvD(hv:IsK lv l)(hl:l.length<=4000){Q:Qry}{ev wv rv:V}(hi:i<=l.length)(hP:Pc lv en (qC Q ev wv rv) p L i 0)(hq:QL base ts Q ev wv rv) :
  ∃x O',jbP env 27 [.ptr p 0] ⟨L,ts⟩=some (x,O')/\QX lv en p base L (jb5 l en Q i) x O':=by
 refine jaZ rfl rfl rfl rfl at27 rfl (by simp[Tryz.f27]) (U4 rfl) (jbq ?_);unfold jb5;simp only[Tryz.f27,Kc,jcj 4,jax,Kb,simprocAttr,U3,jab,jak];refine jdj (jdH hv hl hi hP ts jnz) ?_ ?_
 ·intro e he L' hF';simp only[he];exact⟨rfl,(Fr.rf p L).tr hF'⟩
 intro a1 j1 h1 L1 hF1' hP1;simp only[h1,andThen_ok];have hi1:j1<=l.length:=jdk h1;have hF1:=(Fr.rf p L).tr hF1';simp only[Kc,jcj 4,jax,Kb,simprocAttr,U3,jab,jak,fo29,U1];refine jdj (jkD hv hl hP1 ts) ?_ ?_
 ·intro e he L' hF';simp only[he];exact⟨rfl,hF1.tr hF'⟩
 intro a2 j2 h2 L2 hF2' hP2;simp only[h2,andThen_ok];have hi2:j2<=l.length:=jho h2;have hF2:=hF1.tr hF2';have hc2:L2[p]? = some (pcL lv en (qC Q ev wv rv) j2 0):=hP2;have hg2:∀a:AObj,(L2.set p a)[p]? = some a:=λa=>Kl hP2.lt
 simp only[Kc,jcj 4,jax,Kb,simprocAttr,U3,jab,jak,fo29,U1,hc2,hg2];have hs2:Pc lv en (qC { Q with table:=a2 } ev wv rv) p (L2.set p (pcL lv en (qC { Q with table:=a2 } ev wv rv) j2 0)) j2 0:=Kl hP2.lt;have hf2:=hF2.tr (Fr.set p L2 (pcL lv en (qC { Q with table:=a2 } ev wv rv) j2 0));have hq2:QL base ts { Q with table:=a2 } ev wv rv:=⟨hq.e,hq.w,hq.r,hq.b⟩;refine jcw (jfQ hv hl hi2 hs2 ts juE) ?_;rintro _ ⟨L9,ts⟩ ⟨rfl,hF9',hP9,rfl⟩;have hF9:=hf2.tr hF9';simp only at hF9 hP9;unfold jmp;cases hs9:sees l juE j2
 ·rw[hs9]at hP9;simp only[Km,Ks]at hP9;simp only[Kc,jcj 4,jax,Kb,simprocAttr,U3,jab,jak,andThen_ok];exact src4 hv hl hi2 hF9 hP9 hq2 rfl
 ·rw[hs9]at hP9;simp only[Ku]at hP9;have hi9:=jcb hs9;simp only[Kc,jcj 4,jax,Kb,simprocAttr,U3,jab,jak];refine jdj (jiQ hv hl hP9 ts) ?_ ?_
  ·intro e he L' hF';simp only[he];exact⟨rfl,hF9.tr hF'⟩
  intro a10 j10 h10 L10 hF10' hP10;simp only[h10,andThen_ok];have hi10:j10<=l.length:=jqU h10;have hF10:=hF9.tr hF10';have hc10:L10[p]? = some (pcL lv en (qC { Q with table:=a2 } ev wv rv) j10 0):=hP10;have hg10:∀a:AObj,(L10.set p a)[p]? = some a:=λa=>Kl hP10.lt
  simp only[Kc,jcj 4,jax,Kb,simprocAttr,U3,jab,jak,fo29,U1,hc10,hg10];have hs10:Pc lv en (qC { { Q with table:=a2 } with keep:=a10 } ev wv rv) p (L10.set p (pcL lv en (qC { { Q with table:=a2 } with keep:=a10 } ev wv rv) j10 0)) j10 0:=Kl hP10.lt;have hf10:=hF10.tr (Fr.set p L10 (pcL lv en (qC { { Q with table:=a2 } with keep:=a10 } ev wv rv) j10 0));have hq10:QL base ts { { Q with table:=a2 } with keep:=a10 } ev wv rv:=⟨hq2.e,hq2.w,hq2.r,hq2.b⟩;exact src4 hv hl hi10 hf10 hs10 hq10 rfl
end
theorem at28:env.P.funcs[28]? = some Tryz.f28:=by kernel_rfl
theorem at64:env.P.funcs[64]? = some Tryz.f64:=by kernel_rfl
def ItOK(itoa:Int->List UInt8):Prop:=∀n:Int,0<=n->n<=1000000000->∀O,jas env (ev env) 65 [.int .i64 n] O=some (.str (itoa n),O)
def MkOK(l:List Tk)(en:Int)(itoa:Int->List UInt8)(mk me:Int->Int->List UInt8):Prop:=∀(j:Nat) (n d:Int) (k:Nat),sees l [47] j=true->numP l en (j+1)=.ok (d,k)->d ≠ 0->0<=n->n<=1000000000->0<=d->d<=1000000000->∃e:Int,∀O,jas env (ev env) 67 [.str (itoa n),.str (itoa d)] O=some (.tup [.str (mk n d),.int .i64 e],O)
theorem jmE {itoa:Int->List UInt8}(hI:ItOK itoa)(n:Int)(h0:0<=n)(h1:n<=1000000000)(L:List AObj)(ts:List Nat):jas env (ev env) 64 [.int .i64 n] ⟨L,ts⟩=some (.str (itoa n),⟨L,ts⟩):=by
 refine jbk rfl rfl at64 rfl (by simp[Tryz.f64]) (U4 rfl) (jar ?_);simp only[Tryz.f64,Ka,simprocAttr,Uy,Ke,Vq,hI n h0 h1];exact⟨rfl,trivial⟩
theorem u27:env.P.underlying 27=some .string:=by kernel_rfl
theorem s27:sz env 27=some 1:=by kernel_rfl
theorem al27(h:List AObj)(p:V):jbi env h 27 p=(jai h 1 p).bind (·[0]?):=jaY (by kernel_rfl)
section
variable {lv:V}{en:Int}{q:List V}{p base:Nat}{l:List Tk}{L0 L:List AObj}{ts:List Nat}{i o j:Nat}{itoa:Int->List UInt8}{mk:Int->Int->List UInt8}
def endP(l:List Tk)(en:Int)(Q:Qry)(i:Nat):R Qry :=
 if(if Q.kind=3/\sees l jbK i=true then i+1 else i)<l.length then syn l en (if Q.kind=3/\sees l jbK i=true then i+1 else i)
 else .ok ({ Q with consistent:=if Q.kind=3/\sees l jbK i=true then true else Q.consistent },if Q.kind=3/\sees l jbK i=true then i+1 else i)
theorem jxD(hv:IsK lv l)(hl:l.length<=4000){Q:Qry}{ev wv rv:V}(hi:i<=l.length)(hF:Fr p L0 L)(hP:Pc lv en (qC Q ev wv rv) p L i 0)(hq:QL base ts Q ev wv rv){T:Tm}(t0:T 0=.ptr p 0){r:R Qry}(hr:r=if i<l.length then syn l en i else .ok (Q,i)) :
  H env 28 none 76 (λv D O'=>D=[]/\QX lv en p base L0 r (.inr v) O') (QE (QX lv en p base L0 r)) [] (jbr 1 (jbr 7 (jaz Tryz.f28))) T [] ⟨L,ts⟩:=by
 subst hr;have hc:L[p]? = some (pcL lv en (qC Q ev wv rv) i 0):=hP;have hlen:=jvw hv 47;have ha:=jcC (jeG hv hl hP ts);by_cases h:i<l.length
 ·rw[Ki h];have h2:=eq_true (show(i:Int)<(l.length:Int) by omega);simp only[jbr,jaz,Tryz.f28,Kv,Ux,simprocAttr,U3,jab,jak,t0,hc,ld_q,hlen,h2,ha];refine⟨by kernel_rfl,jaU (jgu _ _ _) ?_ ?_⟩
  ·rintro v O' ⟨h,_⟩;cases h
  ·rintro v O' ⟨h,rfl⟩;cases h;exact⟨rfl,hF⟩
 ·rw[Kj h];have h2:=eq_false (show ¬(i:Int)<(l.length:Int) by omega);simp only[jbr,jaz,Tryz.f28,Kv,Ux,simprocAttr,U3,jab,jak,t0,hc,ld_q,hlen,h2];exact⟨by kernel_rfl,rfl,hF,ev,wv,rv,hP,hq⟩
theorem jBj(hv:IsK lv l)(hl:l.length<=4000){Q:Qry}{ev wv rv:V}(hi:i<=l.length)(hF:Fr p L0 L)(hP:Pc lv en (qC Q ev wv rv) p L i 0)(hq:QL base ts Q ev wv rv){T:Tm}(t0:T 0=.ptr p 0)(hcon:Q.consistent=false) :
  H env 28 none 76 (λv D O'=>D=[]/\QX lv en p base L0 (endP l en Q i) (.inr v) O') (QE (QX lv en p base L0 (endP l en Q i))) [.code (jbr 1 (hdC (jbr 7 (jaz Tryz.f28)))),.code (jbr 1 (jbr 7 (jaz Tryz.f28)))] (regZ 12 (jaz Tryz.f28)) T [] ⟨L,ts⟩:=by
 have hc:L[p]? = some (pcL lv en (qC Q ev wv rv) i 0):=hP;by_cases hk:Q.kind=3
 ·have hk2:=eq_true hk;simp only[regZ,regA,jbr,hdC,jaz,Tryz.f28,Kv,simprocAttr,Option.or,Kc,jaj,Kb,U3,jab,jak,fo29,t0,hc,ld_q,hk2];refine jcw (jfQ hv hl hi hP ts jbK) ?_;rintro _ ⟨L1,ts⟩ ⟨rfl,hF1',hP1,rfl⟩;have hF1:=hF.tr hF1';simp only at hF1 hP1;have hc1:∀j,L1[p]? = some (pcL lv en (qC Q ev wv rv) j 0)->∀b:Bool,storeAt ⟨L1,ts⟩ [.bool b] p 14 (some (pcL lv en (qC Q ev wv rv) j 0))=some ⟨L1.set p (pcL lv en (qC { Q with consistent:=b } ev wv rv) j 0),ts⟩:=λj _ b=>rfl
  cases hs:sees l jbK i
  ·rw[hs]at hP1;simp only[Km,Ks]at hP1;have hc1:L1[p]? = some (pcL lv en (qC Q ev wv rv) i 0):=hP1;simp only[Kc,jaj,Kb,simprocAttr,U3,jab,jak,fo29,t0,hc1,Uw];refine jxD (Q:={ Q with consistent:=false }) hv hl hi (hF1.tr (Fr.set p L1 _)) (Kl hP1.lt) ⟨hq.e,hq.w,hq.r,hq.b⟩ t0 ?_;unfold endP;rw[hs];simp only[Km,and_false,Ks,hcon]
  ·rw[hs]at hP1;simp only[Ku]at hP1;have hc1:L1[p]? = some (pcL lv en (qC Q ev wv rv) ((i+1:Nat)) 0):=hP1;simp only[Kc,jaj,Kb,simprocAttr,U3,jab,jak,fo29,t0,hc1,Uw];refine jxD (Q:={ Q with consistent:=true }) hv hl (jcb hs) (hF1.tr (Fr.set p L1 _)) (Kl hP1.lt) ⟨hq.e,hq.w,hq.r,hq.b⟩ t0 ?_;unfold endP;rw[hs];simp only[hk,and_self,Ku]
 ·have hk2:=eq_false hk;simp only[regZ,regA,jbr,hdC,jaz,Tryz.f28,Kv,simprocAttr,Option.or,Kc,jaj,Kb,U3,jab,jak,fo29,t0,hc,ld_q,hk2];refine jxD (Q:=Q) hv hl hi hF hP hq t0 ?_;unfold endP;simp only[hk,false_and,Ks]
theorem jzn(hv:IsK lv l)(hl:l.length<=4000){Q:Qry}{ev wv rv:V}(hi:i<=l.length)(hF:Fr p L0 L)(hP:Pc lv en (qC Q ev wv rv) p L i 0)(hq:QL base ts Q ev wv rv){T:Tm}(t0:T 0=.ptr p 0)(hcon:Q.consistent=false){r:R Qry}
  (hr:r=andThen (must l en jmq i) λ_ j=>andThen (posP l en j) λb j=>endP l en { Q with bits:=b } j) :
  H env 28 none 76 (λv D O'=>D=[]/\QX lv en p base L0 r (.inr v) O') (QE (QX lv en p base L0 r)) [.code (jbr 6 (jaz Tryz.f28))] (regZ 10 (jaz Tryz.f28)) T [] ⟨L,ts⟩:=by
 subst hr;simp only[regZ,regA,jbr,hdC,jaz,Tryz.f28,Kv,simprocAttr,Option.or,Kc,jcj 12,jax,Kb,U3,jab,jak,t0];refine jdj (jdH hv hl hi hP ts jmq) ?_ ?_
 ·intro e he L' hF';simp only[he];exact⟨rfl,hF.tr hF'⟩
 intro a1 j1 h1 L1 hF1' hP1;simp only[h1,andThen_ok];have hi1:j1<=l.length:=jdk h1;have hF1:=hF.tr hF1';simp only[t0,Kc,jcj 12,jax,Kb,simprocAttr,U3,jab,jak,fo29,U1];refine jdj (jiQ hv hl hP1 ts) ?_ ?_
 ·intro e he L' hF';simp only[he];exact⟨rfl,hF1.tr hF'⟩
 intro a2 j2 h2 L2 hF2' hP2;simp only[h2,andThen_ok];have hi2:j2<=l.length:=jqU h2;have hF2:=hF1.tr hF2';have hc2:L2[p]? = some (pcL lv en (qC Q ev wv rv) j2 0):=hP2;have hg2:∀a:AObj,(L2.set p a)[p]? = some a:=λa=>Kl hP2.lt
 simp only[t0,Kc,jcj 12,jax,Kb,simprocAttr,U3,jab,jak,fo29,U1,hc2,hg2];have hs2:Pc lv en (qC { Q with bits:=a2 } ev wv rv) p (L2.set p (pcL lv en (qC { Q with bits:=a2 } ev wv rv) j2 0)) j2 0:=Kl hP2.lt;have hf2:=hF2.tr (Fr.set p L2 (pcL lv en (qC { Q with bits:=a2 } ev wv rv) j2 0));have hq2:QL base ts { Q with bits:=a2 } ev wv rv:=⟨hq.e,hq.w,hq.r,hq.b⟩;exact jBj hv hl hi2 hf2 hs2 hq2 t0 hcon
theorem sc67(a:Array Operand)(b:Array TypeId):scOp env (.call ⟨.value (.func 67),a,b⟩)=false:=rfl
def jzo(l:List Tk)(en:Int)(Q:Qry)(f:List UInt8)(i:Nat):R Qry:=andThen (must l en jmq i) λ_ j=>andThen (posP l en j) λb j=>endP l en { Q with factor:=f,bits:=b } j
theorem wth9 {X:V->List DE->S->Prop}{Qp:Post}{ks:List Kt}{D:List DE}(hI:ItOK itoa){Q:Qry}{ev wv rv:V}{n d e:Int}{f:List UInt8}(hd0:0<=d)(hd1:d<=1000000000)(hmk:∀O,jas env (Go.Ab.ev env) 67 [.str (itoa n),.str (itoa d)] O=some (.tup [.str f,.int .i64 e],O)){T:Tm}{k:Nat}(t0:T 0=.ptr p 0)(t2:T 2=.func 64 [] [])(t4:T 4=.int .i64 d)
  (hc2:L[p]? = some (pcL lv en (qC { Q with factor:=itoa n } ev wv rv) k 0))
  (h:∀T',T' 0=T 0->H env 28 none 76 X Qp ks .skip T' D ⟨L.set p (pcL lv en (qC { Q with factor:=f } ev wv rv) k 0),ts⟩):H env 28 none 76 X Qp ks (regB 9 (jaz Tryz.f28)) T D ⟨L,ts⟩:=by
 have hit:=jmE hI d hd0 hd1 L ts;refine jkb rfl (jrj ?_);refine jsJ rfl [(false,[]),(false,[]),(false,[]),(false,[]),(false,[]),(false,[1]),(false,[]),(false,[]),(true,[]),(false,[]),(false,[]),(false,[]),(false,[]),(false,[]),(false,[]),(false,[]),(true,[])] (λm s0=>m<=1->s0.heap[p]? = some (pcL lv en (qC { Q with factor:=itoa n } ev wv rv) k 0)) (λ_=>hc2) (by kernel_rfl) (by kernel_rfl) ?_;simp only[regB,regO,jaz,Tryz.f28,Kv,Ka,simprocAttr,U3,jab,jak,hhWa,hhWb,hhWc,hhWd,jhK,jmi,jmj,jhL,jmk,jhM,jml,jfI,jei,jdD,jdE,fo29,t0,t2,t4,hc2,hit,hmk,sc67,u27,s27,al27,Uw];refine⟨⟨λs h=>by rw[h];rfl,trivial⟩,?_⟩;exact h _ rfl
theorem wth4 {me:Int->Int->List UInt8}(hv:IsK lv l)(hl:l.length<=4000)(hs:jek l)(hI:ItOK itoa)(hM:MkOK l en itoa mk me){Q:Qry}{ev wv rv:V}(hi:i<=l.length)(hF:Fr p L0 L){n:Int}(hn0:0<=n)(hn1:n<=1000000000)(hP:Pc lv en (qC { Q with factor:=itoa n } ev wv rv) p L i 0)(hq:QL base ts Q ev wv rv){T:Tm}(t0:T 0=.ptr p 0)(t2:T 2=.func 64 [] [])(hcon:Q.consistent=false){r:R Qry}
  (hr:r=if sees l [47] i=true then andThen (numP l en (i+1)) λd k=>if d=0 then .error (6,atP l en (i+1))else jzo l en Q (mk n d) k else jzo l en Q (itoa n) i) :
  H env 28 none 76 (λv D O'=>D=[]/\QX lv en p base L0 r (.inr v) O') (QE (QX lv en p base L0 r)) [.code (jbr 1 (hdC (jbr 4 (jaz Tryz.f28)))),.code (jbr 5 (jaz Tryz.f28))] (regZ 4 (jaz Tryz.f28)) T [] ⟨L,ts⟩:=by
 subst hr;have hsteps:=hI n hn0 hn1;simp only[regZ,regA,jbr,hdC,jaz,Tryz.f28,Kv,simprocAttr,Option.or,Kc,jcj 10,jax,Kb,U3,jab,jak,t0];refine jcw (jfQ hv hl hi hP ts [47]) ?_;rintro _ ⟨L1,ts⟩ ⟨rfl,hF1',hP1,rfl⟩;have hF1:=hF.tr hF1';simp only at hF1 hP1;cases hs2:sees l [47] i
 ·rw[hs2]at hP1;simp only[Km,Ks]at hP1;simp only[Kc,jcj 10,jax,Kb,simprocAttr,U3,jab,jak];refine jzn (Q:={ Q with factor:=itoa n }) hv hl hi hF1 hP1 ⟨hq.e,hq.w,hq.r,hq.b⟩ ?_ hcon ?_
  ·exact t0
  ·rfl
 ·rw[hs2]at hP1;simp only[Ku]at hP1;have hi1:=jcb hs2;have ha:=jcC (jeG hv hl hP1 ts);simp only[Kc,jcj 10,jax,Kb,simprocAttr,U3,jab,jak,t0,ha];refine jdj (jfR hv hl hP1 ts) ?_ ?_
  ·intro e he L' hF';simp only[he];exact⟨rfl,hF1.tr hF'⟩
  intro d k hd L2 hF2' hP2;have hdn:=jkE hs hd;have hi2:=jjc hd;have hF2:=hF1.tr hF2';simp only[hd,andThen_ok];by_cases hd0:d=0
  ·have hd2:=eq_true hd0;rw[Ki hd0];simp only[Kc,jcj 10,jax,Kb,simprocAttr,U3,jab,jak,hd2];refine jaU (jgu _ _ _) ?_ ?_
   ·rintro v O' ⟨h,_⟩;cases h
   ·rintro v O' ⟨h,rfl⟩;cases h;exact⟨rfl,hF2⟩
  ·have hd2:=eq_false hd0;rw[Kj hd0];obtain⟨e,hmk⟩:=hM i n d k hs2 hd hd0 hn0 hn1 hdn.1 hdn.2;have hit:=jmE hI d hdn.1 hdn.2 L2 ts;have hc2:L2[p]? = some (pcL lv en (qC { Q with factor:=itoa n } ev wv rv) k 0):=hP2;simp only[Kc,jaj,Kb,simprocAttr,U3,jab,jak,hd2];refine wth9 (Q:=Q) hI hdn.1 hdn.2 hmk ?_ ?_ ?_ hc2 ?_
   ·exact t0
   ·exact t2
   ·rfl
   intro T' t0';have t0'':T' 0=.ptr p 0:=by rw[t0'];exact t0
   simp only[Kc,jcj 10,jax,Kb,simprocAttr,U3,jab,jak];refine jzn (Q:={ Q with factor:=mk n d }) hv hl hi2 (hF2.tr (Fr.set p L2 _)) (Kl hP2.lt) ⟨hq.e,hq.w,hq.r,hq.b⟩ ?_ hcon ?_
   ·exact t0''
   ·rfl
theorem jzp {me:Int->Int->List UInt8}(hv:IsK lv l)(hl:l.length<=4000)(hs:jek l)(hI:ItOK itoa)(hM:MkOK l en itoa mk me){Q:Qry}{ev wv rv:V}(hi:i<=l.length)(hP:Pc lv en (qC Q ev wv rv) p L i 0)(hq:QL base ts Q ev wv rv)(hcon:Q.consistent=false) :
  ∃x O',jbP env 28 [.ptr p 0] ⟨L,ts⟩=some (x,O')/\QX lv en p base L (jeK l en itoa mk Q i) x O':=by
 refine jaZ rfl rfl rfl rfl at28 rfl (by simp[Tryz.f28]) (U4 rfl) (jbq ?_);unfold jeK;simp only[Tryz.f28,Kc,jcj 4,jax,Kb,simprocAttr,U3,jab,jak];refine jdj (jdH hv hl hi hP ts jhX) ?_ ?_
 ·intro e he L' hF';simp only[he];exact⟨rfl,(Fr.rf p L).tr hF'⟩
 intro a1 j1 h1 L1 hF1' hP1;simp only[h1,andThen_ok];have hi1:j1<=l.length:=jdk h1;have hF1:=(Fr.rf p L).tr hF1';simp only[Kc,jcj 4,jax,Kb,simprocAttr,U3,jab,jak,fo29,U1];refine jdj (jdH hv hl hi1 hP1 ts jiE) ?_ ?_
 ·intro e he L' hF';simp only[he];exact⟨rfl,hF1.tr hF'⟩
 intro a2 j2 h2 L2 hF2' hP2;simp only[h2,andThen_ok];have hi2:j2<=l.length:=jdk h2;have hF2:=hF1.tr hF2';simp only[Kc,jcj 4,jax,Kb,simprocAttr,U3,jab,jak,fo29,U1];unfold jhg;refine jdj (jfR hv hl hP2 ts) ?_ ?_
 ·intro e he L' hF';simp only[he];exact⟨rfl,hF2.tr hF'⟩
 intro n j3 h3 L3 hF3' hP3;have hn:=jkE hs h3;have hi3:=jjc h3;have hF3:=hF2.tr hF3';simp only[h3,andThen_ok];have hit:=jcC (jmE hI n hn.1 hn.2 L3 ts);have hc3:L3[p]? = some (pcL lv en (qC Q ev wv rv) j3 0):=hP3;simp only[Kc,jcj 4,jax,Kb,simprocAttr,U3,jab,jak,fo29,hit,hc3,s27,Uw];refine wth4 (Q:=Q) hv hl hs hI hM hi3 (hF3.tr (Fr.set p L3 _)) hn.1 hn.2 (Kl hP3.lt) hq ?_ ?_ hcon ?_
 ·rfl
 ·rfl
 cases sees l [47] j3 with
 |false=>rfl
 | true =>
  simp only[Ku];cases numP l en (j3+1)with
  |error e=>rfl
  |ok x =>
   obtain⟨d,k⟩:=x;simp only[andThen_ok];by_cases hd:d=0
   ·rw[Ki hd,Ki hd];rfl
   ·rw[Kj hd,Kj hd];rfl
end
theorem at57:env.P.funcs[57]? = some Tryz.f57:=by kernel_rfl
theorem u26:env.P.underlying 26=some (.slice 73):=by kernel_rfl
theorem s26:sz env 26=some 1:=by kernel_rfl
theorem al26(h:List AObj)(p:V):jbi env h 26 p=(jai h 1 p).bind (·[0]?):=jaY (by kernel_rfl)
theorem jBk:Elt env 26 73 2 16:=⟨by kernel_rfl,by kernel_rfl,by kernel_rfl,by kernel_rfl,by kernel_rfl⟩
theorem bd73(a b:Int):jci env 73 [(0,.int .i64 a),(1,.int .i64 b)]=some (.agg [.int .i64 a,.int .i64 b]):=by kernel_rfl
theorem jBl(a b:Int):rowO env 26 1 [(0,.agg [.int .i64 a,.int .i64 b])]=some (.row [.int .i64 a,.int .i64 b] 1 .full):=by kernel_rfl
theorem jt3(a b:List (Int × Int)):jel (a++b)=jel a++jel b:=by simp[jel]
section
variable {lv:V}{en:Int}{q:List V}{p base:Nat}{l:List Tk}{L0 L:List AObj}{ts:List Nat}{i o j:Nat}
theorem d57 {X:V->List DE->S->Prop}{Qp:Post}{ks:List Kt}{D:List DE}{T:Tm}{Q:Qry}{ev wv rv:V}{lo:Int}{r:R Int}(t0:T 0=.ptr p 0)(t2:T 2=.int .i64 lo)(hc:L[p]? = some (pcL lv en (qC Q ev wv rv) i 0))(hq:GrowV base ts 2 rv Q.ranges.length (jel Q.ranges))(hb:base<=ts.length)(hlen:Q.ranges.length<=100)
  (hk:∃x O',jbP env 91 [.ptr p 0] ⟨L,ts⟩=some (x,O')/\RX lv en (qC Q ev wv rv) p L ts 0 (V.int .i64) r x O')
  (hok:∀n j,r=.ok (n,j)->∀T' L2 t2 rv',T' 0=T 0->Fr p L L2->Pc lv en (qC { Q with ranges:=Q.ranges++[(lo,n)] } ev wv rv') p L2 j 0->GrowV base t2 2 rv' (Q.ranges++[(lo,n)]).length (jel (Q.ranges++[(lo,n)]))->base<=t2.length->H env 57 none 60 X Qp ks .skip T' D ⟨L2,t2⟩)
  (hbad:∀e,r=.error e->∀L',Fr p L L'->X (flt e) D ⟨L',ts⟩):H env 57 none 60 X Qp ks (regB 5 (jaz Tryz.f57)) T D ⟨L,ts⟩:=by
 obtain⟨x,⟨L1,t1'⟩,hcx,hK⟩:=hk
 match r,hK with
 | .ok (n,j),⟨k1,k2,k3,k4⟩ =>
  subst k1;simp only at k4;subst k4;have hcf:=jgm hcx;have hlim:lim=2^40:=rfl;obtain⟨rv',t3,h1,h2,h3⟩:=hq.push jBk ⟨73,u26⟩ (hp:=L1) (new:=[.int .i64 lo,.int .i64 n]) (q:=.full) hb rfl rfl (by rw[hlim];omega);have hwc:=h2.cells;have hc1:L1[p]? = some (pcL lv en (qC Q ev wv rv) j 0):=k3;refine jkb rfl (jrj ?_);refine jsJ rfl [(false,[]),(false,[]),(false,[]),(false,[]),(false,[]),(false,[1,2]),(false,[]),(false,[]),(true,[]),(false,[]),(true,[]),(true,[]),(false,[]),(false,[]),(false,[]),(true,[])] (λm s0=>m<=2->jhI s0.heap[p]? 12=some rv) (λ_=>by rw[hc];rfl) (by kernel_rfl) (by kernel_rfl) ?_;simp only[regB,regO,jaz,Tryz.f57,Kv,Ka,simprocAttr,U3,jab,jak,hhWa,hhWb,hhWc,hhWd,jhK,jmi,jmj,jhL,jmk,jhM,jml,jfI,jei,jdD,jdE,fo29,t0,t2,hc,hc1,hcf,u26,s26,al26,ld_q,bd73,jBl,h1,jtY (Q.ranges++[(lo,n)]) hwc.2,hwc.1,hwc.2];refine⟨⟨λs h=>h,λs h=>h,trivial⟩,hok n j rfl _ _ _ rv' rfl (k2.tr (Fr.set _ _ _)) (Kl k3.lt) ?_ (Qs hb h3.1)⟩;rw[Kr,jt3];exact h2
 | .error e,⟨k1,k2,k3⟩ =>
  subst k1;simp only at k3;subst k3;obtain⟨p1,p2,p3,p4,p5⟩:=jfk hcx;refine jkb rfl ?_;simp only[regB,regO,jaz,Tryz.f57,Kv];refine jmm 8 _ _ [(false,[]),(false,[]),(false,[]),(false,[]),(false,[]),(false,[]),(false,[]),(false,[])] (λm s0=>True) rfl rfl rfl trivial (by kernel_rfl) (by kernel_rfl) (by kernel_rfl) (by kernel_rfl) rfl ?_;simp only[Q7,Jl,Ka,simprocAttr,U3,jab,jak,hhWa,hhWb,hhWc,hhWd,jhK,jmi,jmj,jhL,jmk,jhM,jml,jfI,jei,jdD,jdE,fo29,t0,t2,hc,u26,s26,al26,ld_q];exact⟨_,[],[],[.ptr p 0],_,_,rfl,rfl,p1,p2,p3,p4,p5,λvals _=>hbad e rfl L1 k2⟩
def jfY:List (List UInt8):=[jfl,jkd,juD]
theorem jzq:rowO env 107 3 [(0,.str [105,100,101,110,116,105,116,121]),(1,.str [112,114,101,102,105,120]),(2,.str [116,114,101,101])]=some (.row (jfY.map V.str) 3 .full):=by kernel_rfl
theorem u107:env.P.underlying 107=some (.slice 9):=by kernel_rfl
theorem jvE {k:Nat}(hk:k<3)(hno:∀x,x<k->sees l (jfY.getD x []) j=false)(h:sees l (jfY.getD k []) j=true):jc7 l en j=.ok ((k:Int),j+1):=by
 unfold jc7;have c:k=0\/k=1\/k=2:=by omega
 rcases c with rfl|rfl|rfl
 ·have h0:sees l jfl j=true:=h;rw[Ki h0];rfl
 ·have h0:sees l jfl j=false:=hno 0 (by omega);have h1:sees l jkd j=true:=h;rw[Kj (by simp[h0]),Ki h1];rfl
 ·have h0:sees l jfl j=false:=hno 0 (by omega);have h1:sees l jkd j=false:=hno 1 (by omega);have h2:sees l juD j=true:=h;rw[Kj (by simp[h0]),Kj (by simp[h1]),Ki h2];rfl
theorem jvF(hno:∀x,x<3->sees l (jfY.getD x []) j=false):jc7 l en j=syn l en j:=by
 unfold jc7;have h0:sees l jfl j=false:=hno 0 (by omega);have h1:sees l jkd j=false:=hno 1 (by omega);have h2:sees l juD j=false:=hno 2 (by omega);rw[Kj (by simp[h0]),Kj (by simp[h1]),Kj (by simp[h2])]
theorem jzr {k:Nat}(hk:k<3):jaJ 1 (.row (jfY.map V.str) 3 .full) (.int .i64 k)=some (.rptr ((jfY.map V.str).drop k)):=by
 have c:k=0\/k=1\/k=2:=by omega
 rcases c with rfl|rfl|rfl<;>rfl
theorem jzs {k:Nat}(hk:k<3):(jfY.map V.str)[k]? = some (.str (jfY.getD k [])):=by
 have c:k=0\/k=1\/k=2:=by omega
 rcases c with rfl|rfl|rfl<;>rfl
theorem bat7(hv:IsK lv l)(hl:l.length<=4000){Q:Qry}{ev wv rv:V}(hi:i<=l.length)(hF:Fr p L0 L)(hP:Pc lv en (qC Q ev wv rv) p L i 0)(hq:QL base ts Q ev wv rv){T:Tm}(t0:T 0=.ptr p 0){r:R Qry}
  (hr:r=andThen (must l en js7 i) λ_ j=>andThen (jc7 l en j) λs j=>.ok ({ Q with strategy:=s },j)) :
  H env 57 none 60 (λv D O'=>D=[]/\QX lv en p base L0 r (.inr v) O') (QE (QX lv en p base L0 r)) [.code (jbr 3 (jaz Tryz.f57))] (regZ 7 (jaz Tryz.f57)) T [] ⟨L,ts⟩:=by
 subst hr;simp only[regZ,regA,jbr,hdC,jaz,Tryz.f57,Kv,simprocAttr,Option.or,Ux,U3,jab,jak,t0];refine jdj (jdH hv hl hi hP ts js7) ?_ ?_
 ·intro e he L' hF';simp only[he];exact⟨rfl,hF.tr hF'⟩
 intro a j h1 L1 hF1' hP1;simp only[h1,andThen_ok];have hi1:j<=l.length:=jdk h1;have hF1:=hF.tr hF1';simp only[Ux,simprocAttr,U3,jab,jak,jzq,u107];refine jiD (λm T D O=>D=[]/\T 0=.ptr p 0/\T 41=.row (jfY.map V.str) 3 .full/\T 42=.int .i64 3/\∃(k:Nat) (L':List AObj),O=⟨L',ts⟩/\T 43=.int .i64 k/\k<=3/\m=3-k/\Fr p L0 L'/\Pc lv en (qC Q ev wv rv) p L' j 0/\∀x,x<k->sees l (jfY.getD x []) j=false) ?_ (3-0) _ _ _ ⟨rfl,t0,rfl,rfl,0,L1,rfl,rfl,by omega,rfl,hF1,hP1,λx h=>absurd h (Nat.not_lt_zero x)⟩;rintro m T' D O ⟨rfl,t0',t41,t42,k,L',rfl,t43,hk3,rfl,hF',hP',hno⟩;by_cases hlt:k<3
 ·have c1:=eq_true (show(k:Int)<3 by omega);have e1:IntKind.i64.wrap ((k:Int)+1)=((k+1:Nat):Int):=by rw[wrap_i64 (by omega) (by omega)];omega
  have hx:=jzr hlt;have hg:=jzs hlt;simp only[Ux,simprocAttr,U3,jab,jak,t0',t41,t42,t43,c1,e1,u107,s9,hx,hg];refine⟨⟨by omega,trivial⟩,?_⟩;refine jcw (jfQ hv hl hi1 hP' ts (jfY.getD k [])) ?_;rintro _ ⟨L2,ts⟩ ⟨rfl,hF2',hP2,rfl⟩;have hF2:=hF'.tr hF2';simp only at hF2 hP2;cases hs:sees l (jfY.getD k []) j
  ·rw[hs]at hP2;simp only[Km,Ks]at hP2;simp only[Ux,simprocAttr,U3,jab,jak,t0',t41,t42,t43,e1];refine⟨3-(k+1),by omega,k+1,L2,rfl,rfl,by omega,rfl,hF2,hP2,λx hx => ?_⟩
   rcases K4 x k with h|h
   ·exact hno x h
   ·rw[show x=k by omega];exact hs
  ·rw[hs]at hP2;simp only[Ku]at hP2;have hc2:L2[p]? = some (pcL lv en (qC Q ev wv rv) ((j+1:Nat)) 0):=hP2;rw[jvE hlt hno hs];simp only[Ux,simprocAttr,U3,jab,jak,fo29,t0',t41,t42,t43,hc2,Uw,andThen_ok];exact⟨rfl,hF2.tr (Fr.set _ _ _),ev,wv,rv,Kl hP2.lt,⟨hq.e,hq.w,hq.r,hq.b⟩⟩
 ·have c1:=eq_false (show ¬(k:Int)<3 by omega);have hk:k=3:=by omega
  subst hk;have ha:=jcC (jeG hv hl hP' ts);simp only[Ux,simprocAttr,U3,jab,jak,t0',t41,t42,t43,c1,ha];rw[jvF hno];refine jaU (jgu _ _ _) ?_ ?_
  ·rintro v O' ⟨h,_⟩;cases h
  ·rintro v O' ⟨h,rfl⟩;cases h;exact⟨rfl,hF'⟩
theorem jkH(m:Nat)(out:List (Int × Int))(i:Nat):jfK l en (m+1) out i=if 64<=out.length then .error (4,atP l en i)else
  andThen (intP l en i) λlo j=>andThen (must l en [46,46] j) λ_ j=>andThen (intP l en j) λhi j =>
   if sees l [44] j then jfK l en m (out++[(lo,hi)]) (j+1)else .ok (out++[(lo,hi)],j):=rfl
theorem jxE(hv:IsK lv l)(hl:l.length<=4000)(hs:jek l){Q:Qry}{rv:V}(hi:i<=l.length)(hP:Pc lv en (qC Q .nilsl .nilsl rv) p L i 0)(hq:QL base ts Q .nilsl .nilsl rv)(he:Q.expr=[])(hw:Q.wher=[])(hr0:Q.ranges=[]) :
  ∃x O',jbP env 57 [.ptr p 0] ⟨L,ts⟩=some (x,O')/\QX lv en p base L (jqs l en Q i) x O':=by
 refine jaZ rfl rfl rfl rfl at57 rfl (by simp[Tryz.f57]) (U4 rfl) (jbq ?_);unfold jqs jcE;simp only[Tryz.f57,Kc,jaj,Kb,simprocAttr,U3,jab,jak];have hcx:=jqT (en:=en) (ts:=ts) hv hl hP 10;unfold jcE at hcx;cases hn:jeA l en i with
 |error e =>
  rw[hn]at hcx;refine jaU hcx ?_ ?_
  ·rintro v O' ⟨h,_⟩;cases h
  ·rintro v O' ⟨h,h2⟩;exact⟨h,h2⟩
 |ok x =>
 obtain⟨c,j⟩:=x;rw[hn]at hcx;simp only[andThen_ok]at hcx ⊢;have hj:=jho hn;refine jaU hcx ?_ ?_
 rotate_left
 ·rintro v O' ⟨h,_⟩;cases h
 rintro v ⟨L1,ts⟩ ⟨h1,hF1,hP1,rfl⟩;cases h1;simp only at hF1 hP1;simp only[Kc,jaj,Kb,simprocAttr,U3,jab,jak];have hP1':Pc lv en (qC { Q with kind:=10,column:=c,ranges:=[] } .nilsl .nilsl rv) p L1 j 0:=hP1;have hg0:GrowV base ts 2 rv ([]:List (Int × Int)).length (jel []):=by have:=hq.r;rw[hr0]at this;exact this
 refine jiD (λm T D O=>D=[]/\T 0=.ptr p 0/\∃(out:List (Int × Int)) (i':Nat) (L':List AObj) (ts':List Nat) (rv':V),O=⟨L',ts'⟩/\Fr p L L'/\Pc lv en (qC { Q with kind:=10,column:=c,ranges:=out } .nilsl .nilsl rv') p L' i' 0/\GrowV base ts' 2 rv' out.length (jel out)/\base<=ts'.length/\i'<=l.length/\m+out.length=65/\out.length<=64 /\
  jfK l en 65 [] j=jfK l en m out i') ?_ 65 _ _ _ ⟨rfl,rfl,[],j,L1,_,rv,rfl,hF1,hP1',hg0,hq.b,hj,rfl,by simp,rfl⟩
 rintro m T D O ⟨rfl,t0,out,i',L',ts',rv',rfl,hF',hP',hG',hb',hi',hmo,ho64,hR⟩;rw[hR];cases m with
 |zero=>omega
 |succ m =>
 rw[jkH];have hc:L'[p]? = some (pcL lv en (qC { Q with kind:=10,column:=c,ranges:=out } .nilsl .nilsl rv') i' 0):=hP';have hlen:=hG'.len 73;by_cases h64:64<=out.length
 ·have h2:=eq_true (show(64:Int)<=(out.length:Int) by omega);have ha:=jcC (jeG hv hl hP' ts');simp only[Kc,jaj,Kb,simprocAttr,U3,jab,jak,fo29,t0,hc,ld_q,hlen,u26,s26,al26,h2,ha];rw[Ki h64];refine jaU (jgu _ _ _) ?_ ?_
  ·rintro v O' ⟨h,_⟩;cases h
  ·rintro v O' ⟨h,rfl⟩;cases h;exact⟨rfl,hF'⟩
 ·have h2:=eq_false (show ¬(64:Int)<=(out.length:Int) by omega);simp only[Kj h64];simp only[Kc,jaj,Kb,simprocAttr,U3,jab,jak,fo29,t0,hc,ld_q,hlen,u26,s26,al26,h2];refine jdj (jtU hv hl hs hi' hP' ts') ?_ ?_
  ·intro e he L2 hF2;simp only[he];exact⟨rfl,hF'.tr hF2⟩
  intro lo j1 h1 L2 hF2' hP2;have hF2:=hF'.tr hF2';have hi2:=jkG h1;simp only[h1,andThen_ok];simp only[Kc,jaj,Kb,simprocAttr,U3,jab,jak,t0];refine jdj (jdH hv hl hi2 hP2 ts' [46,46]) ?_ ?_
  ·intro e he L3 hF3;simp only[he];exact⟨rfl,hF2.tr hF3⟩
  intro _ j2 h3 L3 hF3' hP3;have hF3:=hF2.tr hF3';have hi3:=jdk h3;simp only[h3,andThen_ok];simp only[Kc,jaj,Kb,simprocAttr,U3,jab,jak,t0];refine d57 (Q:={ Q with kind:=10,column:=c,ranges:=out }) (ev:=.nilsl) (wv:=.nilsl) (rv:=rv') (lo:=lo) (r:=intP l en j2) ?_ ?_ hP3 hG' hb' (by show out.length<=100;omega) (jtU hv hl hs hi3 hP3 ts') ?_ ?_
  ·exact t0
  ·rfl
  ·intro n j3 h4 T' L4 t4 rv4 T0 hF4' hP4 hG4 hb4;have hF4:=hF3.tr hF4';have hi4:=jkG h4;have t0':T' 0=.ptr p 0:=by rw[T0];exact t0
   simp only[h4,andThen_ok];simp only[Kc,jcj 7,jax,Kb,simprocAttr,U3,jab,jak,t0'];refine jcw (jfQ hv hl hi4 hP4 t4 [44]) ?_;rintro _ ⟨L5,t4⟩ ⟨rfl,hF5',hP5,rfl⟩;have hF5:=hF4.tr hF5';simp only at hF5 hP5;cases hs5:sees l [44] j3
   ·rw[hs5]at hP5;simp only[Km,Ks]at hP5;simp only[Kc,jcj 7,jax,Kb,simprocAttr,U3,jab,jak,t0',andThen_ok];refine bat7 (Q:={ Q with kind:=10,column:=c,ranges:=out++[(lo,n)] }) hv hl hi4 hF5 hP5 ⟨?_,?_,hG4,hb4⟩ ?_ ?_
    ·show GrowV base _ 3 .nilsl Q.expr.length (jbS Q.expr);rw[he];exact .nil
    ·show GrowV base _ 3 .nilsl Q.wher.length (jbS Q.wher);rw[hw];exact .nil
    ·exact t0'
    ·rfl
   ·rw[hs5]at hP5;simp only[Ku]at hP5;simp only[Kc,jcj 7,jax,Kb,simprocAttr,U3,jab,jak,t0'];refine⟨m,by omega,out++[(lo,n)],j3+1,L5,t4,rv4,rfl,hF5,hP5,hG4,hb4,jcb hs5,?_,?_,?_⟩
    ·simp only[Kr,K0,K6];omega
    ·simp only[Kr,K0,K6];omega
    ·rfl
  ·intro e he L4 hF4;simp only[he];exact⟨trivial,rfl,hF3.tr hF4⟩
end
def AP {α:Type}(P:α->Nat->Prop)(r:R α):Prop:=match r with
 | .ok (a,j)=>P a j
 | .error _=>True
theorem AP.andThen {α β:Type}{P:α->Nat->Prop}{Q:β->Nat->Prop}{x:R α}{f:α->Nat->R β}(h:AP P x)(hf:∀a j,P a j->AP Q (f a j)):AP Q (PP.andThen x f):=by
 match x,h with
 | .ok (a,j),h=>exact hf a j h
 | .error e,h=>trivial
theorem AP.of {α:Type}{P:α->Nat->Prop}{x:R α}(h:∀a j,x=.ok (a,j)->P a j):AP P x:=by
 match x,h with
 | .ok (a,j),h=>exact h a j rfl
 | .error e,h=>trivial
section
variable {l:List Tk}{en:Int}{i:Nat}
def jrE(l:List Tk)(Q:Qry)(j:Nat):Prop:=j<=l.length/\Q.consistent=false
theorem jeI(s:List UInt8)(i:Nat):AP (λ_ j=>j<=l.length) (must l en s i):=AP.of λ_ _ h=>jdk h
theorem jiS(i:Nat):AP (λ_ j=>j<=l.length) (jeA l en i):=AP.of λ_ _ h=>jho h
theorem jws(i:Nat):AP (λ_ j=>j<=l.length) (numP l en i):=AP.of λ_ _ h=>jjc h
theorem joc(i:Nat):AP (λ_ j=>j<=l.length) (intP l en i):=AP.of λ_ _ h=>jkG h
theorem jwt(i:Nat):AP (λ_ j=>j<=l.length) (posP l en i):=AP.of λ_ _ h=>jqU h
theorem jwu(sy:Sy)(i:Nat):AP (λ_ j=>j<=l.length) (jcd l en sy i):=AP.of λ_ _ h=>(jt0 h).1
theorem jkI {k:Int}{Q:Qry}(hc:Q.consistent=false)(i:Nat):AP (jrE l) (jcD l en k Q i) :=
 (jwu _ _).andThen λ_ _ _=>(jeI _ _).andThen λ_ _ _=>(joc _).andThen λ_ _ _=>(jeI _ _).andThen λ_ _ _=>(joc _).andThen λ_ _ h=>⟨h,hc⟩
theorem jfq {k:Int}{Q:Qry}(hc:Q.consistent=false)(i:Nat):AP (jrE l) (jcE l en k Q i):=(jiS _).andThen λ_ _ h=>⟨h,hc⟩
theorem jod:∀(m:Nat) (out:List (Int × Int)) (i:Nat),AP (λ_ j=>j<=l.length) (jfK l en m out i)
 |0,out,i=>trivial
 | m+1,out,i=>by
  rw[jkH];split
  ·trivial
  ·refine(joc _).andThen λ_ _ _=>(jeI _ _).andThen λ_ _ _=>(joc _).andThen λ_ j h => ?_
   split
   ·exact jod m _ _
   ·exact h
theorem jvG(i:Nat):AP (λ_ j=>j<=l.length) (jc7 l en i):=by
 unfold jc7;split
 ·rename_i h;exact jcb h
 ·split
  ·rename_i h;exact jcb h
  ·split
   ·rename_i h;exact jcb h
   ·trivial
theorem jvH(k:Int){Q:Qry}(hc:Q.consistent=false)(hi:i<=l.length):AP (jrE l) (jfL l en k Q i):=by
 unfold jfL
 repeat' split
 ·exact⟨hi,hc⟩
 ·exact jkI hc i
 ·exact jfq hc i
 ·exact(jkI hc i).andThen λQ' _ h=>(jeI _ _).andThen λ_ _ _=>(jiS _).andThen λ_ _ h2=>⟨h2,h.2⟩
 ·exact(jws _).andThen λ_ _ _=>(jeI _ _).andThen λ_ _ _=>(jws _).andThen λ_ _ _=>(jeI _ _).andThen λ_ j _=>jkI (by exact hc) j
 ·exact jfq hc i
 ·exact(joc _).andThen λ_ j _=>jfq (by exact hc) j
 ·exact jfq hc i
 ·exact jfq hc i
 ·exact(jfq hc i).andThen λQ' _ h=>(jod _ _ _).andThen λ_ _ _=>(jeI _ _).andThen λ_ _ _=>(jvG _).andThen λ_ _ h2=>⟨h2,h.2⟩
theorem jt4 {Q:Qry}(hc:Q.consistent=false)(i:Nat):AP (jrE l) (jb5 l en Q i):=by
 unfold jb5;refine(jeI _ _).andThen λ_ _ _=>(jiS _).andThen λt j hj => ?_
 have hk:AP (jrE l) (jmp l en { Q with table:=t } j):=by
  unfold jmp;split
  ·exact(jwt _).andThen λ_ _ h=>⟨h,hc⟩
  ·exact⟨hj,hc⟩
 refine hk.andThen λQ1 j1 h1 => ?_
 have hjn:AP (jrE l) (jke l en Q1 j1):=by
  unfold jke;split
  ·exact(jiS _).andThen λ_ _ _=>(jeI _ _).andThen λ_ _ _=>(jiS _).andThen λ_ _ _=>(jeI _ _).andThen λ_ _ _=>(jiS _).andThen λ_ _ _=>(jeI _ _).andThen λ_ _ _=>(jwt _).andThen λ_ _ h=>⟨h,h1.2⟩
  ·exact h1
 refine hjn.andThen λQ2 j2 h2 => ?_
 unfold jfX;split
 ·exact(jwu _ _).andThen λ_ _ h=>⟨h,h2.2⟩
 ·exact h2
end
theorem at24:env.P.funcs[24]? = some Tryz.f24:=by kernel_rfl
theorem u60:env.P.underlying 60=some (.map 9 58):=by kernel_rfl
theorem z58:jbG env 58=some .nilfn:=by kernel_rfl
theorem jBm(L:List AObj)(ts:List Nat):newO env 60 ⟨L,ts⟩=some (.map L.length,⟨L++[.map [] 0],ts⟩):=by unfold newO;rw[u60];rfl
theorem insK {L:List AObj}{ts:List Nat}{k:List UInt8}{v:V}{es:List (V × V × Nat)}{c:Nat}(hf:jcR env 9 (.str k) es 0=some none) :
  insO env 60 (.map L.length) (.str k) v ⟨L++[.map es c],ts⟩=some (.tup [],⟨L++[.map (es++[(.str k,v,c)]) (c+1)],ts⟩):=by
 unfold insO;simp only[u60,jal,jhN u9,Ku,hf,S.set,jah]
def jpB:List (List UInt8 × V):=jdK.map λp=>(p.1,.func (47+p.2.toNat) [] [])
def kE(n:Nat):List (V × V × Nat):=mapS (jpB.take n) 0
theorem jkU {L:List AObj}{ts:List Nat}(k:List UInt8)(v:V)(n:Nat)(h:jpB[n]? = some (k,v))(hf:jcR env 9 (.str k) (kE n) 0=some none)(hl:n<=jpB.length) :
  insO env 60 (.map L.length) (.str k) v ⟨L++[.map (kE n) n],ts⟩=some (.tup [],⟨L++[.map (kE (n+1)) (n+1)],ts⟩):=by
 rw[insK hf]
 have e:jpB.take (n+1)=jpB.take n++[(k,v)]:=by
  obtain⟨h1,h2⟩:=Kz.1 h;rw[<- h2,List.take_append_getElem h1]
 unfold kE;rw[e,jp1,K7,K9,J1 hl]
theorem jrF(L:List AObj)(ts:List Nat):jas env (ev env) 24 [] ⟨L,ts⟩=some (.map L.length,⟨L++[.map (kE 10) 10],ts⟩):=by
 refine jbk rfl rfl at24 rfl (by simp[Tryz.f24]) (U4 rfl) (jar ?_);have h0:([]:List (V × V × Nat))=kE 0:=rfl;have i0:=jkU (L:=L) (ts:=ts) [99,111,117,110,116] (.func 48 [] []) 0 rfl (by kernel_rfl) (by decide);have i1:=jkU (L:=L) (ts:=ts) [115,117,109] (.func 49 [] []) 1 rfl (by kernel_rfl) (by decide);have i2:=jkU (L:=L) (ts:=ts) [104,105,115,116,111,103,114,97,109] (.func 50 [] []) 2 rfl (by kernel_rfl) (by decide);have i3:=jkU (L:=L) (ts:=ts) [116,111,116,97,108] (.func 51 [] []) 3 rfl (by kernel_rfl) (by decide);have i4:=jkU (L:=L) (ts:=ts) [113,117,97,110,116,105,108,101] (.func 52 [] []) 4 rfl (by kernel_rfl) (by decide);have i5:=jkU (L:=L) (ts:=ts) [109,111,100,101] (.func 53 [] []) 5 rfl (by kernel_rfl) (by decide);have i6:=jkU (L:=L) (ts:=ts) [97,98,111,118,101] (.func 54 [] []) 6 rfl (by kernel_rfl) (by decide);have i7:=jkU (L:=L) (ts:=ts) [112,101,97,107] (.func 55 [] []) 7 rfl (by kernel_rfl) (by decide);have i8:=jkU (L:=L) (ts:=ts) [114,117,110,110,105,110,103] (.func 56 [] []) 8 rfl (by kernel_rfl) (by decide);have i9:=jkU (L:=L) (ts:=ts) [98,97,116,99,104] (.func 57 [] []) 9 rfl (by kernel_rfl) (by decide);simp only[Tryz.f24,Ka,simprocAttr,Uy,Ke,Uz,jab,jgJ,jgK,jBm,h0,i0,i1,i2,i3,i4,i5,i6,i7,i8,i9];exact⟨rfl,trivial⟩
theorem jxF {L:List AObj}{ts:List Nat}{b:Nat}(h:L[b]? = some (.map (kE 10) 10))(s:List UInt8) :
  jnp env 60 true (.map b) (.str s) ⟨L,ts⟩=some (match PP.look jdK s with|some k=>.tup [.func (47+k.toNat) [] [],.bool true]|none=>.tup [.nilfn,.bool false]):=by
 have h':L[b]? = some (.map (mapS jpB 0) 10):=h;rw[jmn u9 u60 z58 h' s]
 have hk:∀ks:Lvl,((ks.map λp=>(p.1,V.func (47+p.2.toNat) [] [])).find? λp=>p.1==s)=(ks.find? λp=>p.1=s).map λp=>(p.1,V.func (47+p.2.toNat) [] []):=by
  intro ks
  induction ks with
  |nil=>rfl
  | cons a r ih =>
   simp only[Jf,List.find?_cons];by_cases h:a.1=s
   ·simp[h]
   ·have:(a.1==s)=false:=by simpa using h
    simp[h,this,ih]
 unfold jpB PP.look;rw[hk];cases jdK.find? λp=>p.1=s<;>rfl
theorem jzt {lv:V}{en:Int}{p base:Nat}{l:List Tk}{L:List AObj}{ts:List Nat}{i:Nat}(hv:IsK lv l)(hl:l.length<=4000)(hs:jek l)(hi:i<=l.length)(hP:Pc lv en (qC Qry.zero .nilsl .nilsl .nilsl) p L i 0)(hb:base<=ts.length){k:Int}(hk:1<=k/\k<=10) :
  ∃x O',jbP env (47+k.toNat) [.ptr p 0] ⟨L,ts⟩=some (x,O')/\QX lv en p base L (jfL l en k Qry.zero i) x O':=by
 have hq:QL base ts Qry.zero .nilsl .nilsl .nilsl:=⟨.nil,.nil,.nil,hb⟩;have c:k=1\/k=2\/k=3\/k=4\/k=5\/k=6\/k=7\/k=8\/k=9\/k=10:=by omega
 rcases c with rfl|rfl|rfl|rfl|rfl|rfl|rfl|rfl|rfl|rfl
 ·exact jxC hv hl hs hi hP hq
 ·exact jBi hv hl hs hi hP hq
 ·exact jpA hv hl hs hi hP hq
 ·exact jxA hv hl hs hi hP hq
 ·exact jrD hv hl hs hi hP hq
 ·exact jzk hv hl hs hi hP hq
 ·exact jxB hv hl hs hi hP hq
 ·exact jzl hv hl hs hi hP hq
 ·exact jt2 hv hl hs hi hP hq
 ·exact jxE hv hl hs hi hP hq rfl rfl rfl
theorem at22:env.P.funcs[22]? = some Tryz.f22:=by kernel_rfl
theorem n22:Tryz.f22.ntmps=17:=rfl
theorem u20:env.P.underlying 20=some (.interface #[]):=by kernel_rfl
theorem jzu(a b v:V):Rep 17 (argT [a,b,v,.tup [],.tup [],v]) (([a,b,v,.tup [],.tup [],v]:List V)++List.replicate 11 (V.tup [])):=Rep.args [a,b,v,.tup [],.tup [],v] 17 (by simp)
theorem z51:jbG env 51=some (.agg [.int .i64 0,.int .i64 0]):=by kernel_rfl
theorem s51:sz env 51=some 2:=by kernel_rfl
theorem s29:sz env 29=some 20:=by kernel_rfl
theorem s32:sz env 32=some 2:=by kernel_rfl
theorem bd29:jci env 29 []=some (.agg (qC Qry.zero .nilsl .nilsl .nilsl)):=by kernel_rfl
theorem jzv:jig env 51 true .nilif=some (.tup [.agg [.int .i64 0,.int .i64 0],.bool false]):=by kernel_rfl
theorem jzw(e:Fl):jig env 51 true (flt e)=some (.tup [.agg [.int .i64 e.1,.int .i64 e.2],.bool true]):=by kernel_rfl
theorem al51(h:List AObj)(p:V):jbi env h 51 p=(jai h 2 p).map .agg:=by
 have g:Go.Ab.aggT env 51=some true:=by kernel_rfl
 unfold jbi;simp only[g,s51,Kn]
theorem joe(a b:V)(L:List AObj)(ts:List Nat):ev env (.dcall 22 [a,b] none ⟨L,ts⟩)=some ⟨.ret,[.bool false],[],⟨L++[.cells [.int .i64 0,.int .i64 0] 51],ts⟩⟩:=by
 exact jp0 (E:=env) (pv:=none) (O:=⟨L,ts⟩) (O1:=⟨L,ts⟩) (args:=[a,b]) (rc:=some none) (tmps1:=([a,b,.nilif,.tup [],.tup [],.nilif]:List V)++List.replicate 11 (V.tup [])) at22 rfl (by simp[Tryz.f22]) (by
  simp[n22,jdu,Region.wanted,opV,jbp,jbu,jbz,opP,opD,jgQ,ja8,jbw,putT,List.range,List.range.loop]) (jzu a b .nilif) rfl (by
  simp only[n22,Ka,simprocAttr,U3,jab,jak,jgW,jzv,z51,s51,jbC,jcB u20,Xu])
theorem jof {L:List AObj}{ts:List Nat}{a b:Nat}{c0 c1:List V}(e:Fl)(ha:L[a]? = some (.cells c0 29))(hl0:c0.length=20)(hb:L[b]? = some (.cells c1 32))(hl1:c1.length=2)(hab:a ≠ b) :
  ev env (.dcall 22 [.ptr a 0,.ptr b 0] (some (flt e)) ⟨L,ts⟩)=some ⟨.ret,[.bool true],[],⟨((L++[AObj.cells [.int .i64 e.1,.int .i64 e.2] 51]).set a (.cells (qC Qry.zero .nilsl .nilsl .nilsl) 29)).set b (.cells [.int .i64 e.1,.int .i64 e.2] 32),ts⟩⟩:=by
 have hla:=jaT ha;have hlb:=jaT hb;have g0:(L++[AObj.cells [.int .i64 e.1,.int .i64 e.2] 51])[L.length]? = some (.cells [.int .i64 e.1,.int .i64 e.2] 51):=by simp
 have g1:(L++[AObj.cells [.int .i64 e.1,.int .i64 e.2] 51])[a]? = some (.cells c0 29):=jbX ha _;have g2:((L++[AObj.cells [.int .i64 e.1,.int .i64 e.2] 51]).set a (.cells (qC Qry.zero .nilsl .nilsl .nilsl) 29))[b]? = some (.cells c1 32):=by rw[Kk hab];exact jbX hb _
 have g3:((L++[AObj.cells [.int .i64 e.1,.int .i64 e.2] 51]).set a (.cells (qC Qry.zero .nilsl .nilsl .nilsl) 29))[L.length]? = some (.cells [.int .i64 e.1,.int .i64 e.2] 51):=by rw[Kk (by omega)];exact g0
 have g4:(((L++[AObj.cells [.int .i64 e.1,.int .i64 e.2] 51]).set a (.cells (qC Qry.zero .nilsl .nilsl .nilsl) 29)).set b (.cells [.int .i64 e.1,.int .i64 e.2] 32))[L.length]? = some (.cells [.int .i64 e.1,.int .i64 e.2] 51):=by rw[Kk (by omega)];exact g3
 have ld:∀H:List AObj,H[L.length]? = some (.cells [.int .i64 e.1,.int .i64 e.2] 51)->jai H 2 (.ptr L.length 0)=some [.int .i64 e.1,.int .i64 e.2]:=λH h=>by simp[jai,h]
 have st1:∀H:List AObj,storeAt ⟨H,ts⟩ (qC Qry.zero .nilsl .nilsl .nilsl) a 0 (some (.cells c0 29))=some ⟨H.set a (.cells (qC Qry.zero .nilsl .nilsl .nilsl) 29),ts⟩:=λH=>by
  unfold storeAt;simp only;rw[Ki ⟨by rw[hl0];exact Qq rfl,rfl⟩]
  have:jab c0 0 (qC Qry.zero .nilsl .nilsl .nilsl)=qC Qry.zero .nilsl .nilsl .nilsl:=by
   unfold jab;rw[X5 (by rw[hl0];exact Qq rfl)];simp
  rw[this];rfl
 have st2:∀H:List AObj,storeAt ⟨H,ts⟩ [.int .i64 e.1,.int .i64 e.2] b 0 (some (.cells c1 32))=some ⟨H.set b (.cells [.int .i64 e.1,.int .i64 e.2] 32),ts⟩:=λH=>by
  unfold storeAt;simp only;rw[Ki ⟨by rw[hl1];exact Qq rfl,rfl⟩]
  have:jab c1 0 [.int .i64 e.1,.int .i64 e.2]=[.int .i64 e.1,.int .i64 e.2]:=by
   unfold jab;rw[X5 (by rw[hl1];exact Qq rfl)];simp
  rw[this];rfl
 have hq20:(qC Qry.zero .nilsl .nilsl .nilsl).length=20:=rfl
 exact jp0 (E:=env) (pv:=some (flt e)) (O:=⟨L,ts⟩) (O1:=⟨L,ts⟩) (args:=[.ptr a 0,.ptr b 0]) (rc:=some none) (tmps1:=([.ptr a 0,.ptr b 0,flt e,.tup [],.tup [],flt e]:List V)++List.replicate 11 (V.tup [])) at22 rfl (by simp[Tryz.f22]) (by
  simp[n22,jdu,Region.wanted,opV,jbp,jbu,jbz,opP,opD,jgQ,ja8,jbw,putT,List.range,List.range.loop]) (jzu _ _ (flt e)) rfl (by
  simp only[n22,Kd,simprocAttr,U3,jab,jak,jgW,jzw,z51,s51,jbC];refine jli rfl (λs=>s.heap[L.length]? = some (.cells [.int .i64 e.1,.int .i64 e.2] 51)) g0 (by kernel_rfl) ?_;simp only[n22,Ka,simprocAttr,U3,jab,jak,hhWa,hhWb,hhWc,hhWd,bd29,s29,s32,s51,al51,ld _ g0,g1,g2,g3,st1,st2,hq20];exact⟨λs h=>by rw[ld _ h];rfl,g4,trivial⟩)
theorem jkV {E:Env}{f:FuncId}{args:List V}{v v':V}{O':S}(hp:E.pure f=true)(hk:E.hook f=none)(hc:args.all V.closed=true)(h:Go.Ab.ev E (.call f args S.empty)=some ⟨.ret,[v],[],O'⟩)(hs:jbn O'.heap jay v=some v')(O:S):jas E (Go.Ab.ev E) f args O=some (v',O):=by
 unfold jas;simp only[hk,hp,jeU hc,hc,h,hs,Ku,Kx]
theorem jdc {E:Env}{fn:FuncId}{rnd:Option Nat}{n:Nat}{X:V->List V->List DE->S->Prop}{T:Tm}{D:List DE}{O:S}{Q:Post}{a b:Code}(h:G E fn rnd n ⟨λT D O=>wpP E fn rnd n X b T D O Q,Q.exit,Q.ret⟩ [] a T D O):wpP E fn rnd n X (.seq a b) T D O Q:=jhe (jrj h)
theorem jrG {E:Env}{fn:FuncId}{n:Nat}{X:V->List V->List DE->S->Prop}{id:Nat}{g:FuncId}{d:Nat}{cs:Array Operand}{caps:List V}{ty ty2:TypeId}{ps ps2:String}{af af2:Array Edge}{T:Tm}{D:List DE}{O:S}{Q:Post}(hc:jbw (jaK E T) cs.toList=some caps)(hd:d<n)
  (h:Q.norm (upd T d (.func g [] caps)) (.call g caps::D) O):wpP E fn none n X (.region id #[⟨some d,.makeFunc (.func g) #[] cs,ty,ps,af,none⟩,⟨none,.defer ⟨.value (.tmp d),#[],#[]⟩,ty2,ps2,af2,none⟩] false) T D O Q:=λtmps hr=>by
 refine⟨⟨.normal,tmps.set d (.func g [] caps),.call g caps::D,O⟩,?_,_,hr.upd hd _,h⟩
 have h1:opV E (Go.Ab.ev E) (E.mutb fn id) tmps O (.makeFunc (.func g) #[] cs)=some (.func g [] caps,O):=by
  rw[<- jj0 E hr,YP,hc];rfl
 have hl:d<tmps.length:=by rw[hr.1];exact hd
 have h2:ja8 E (tmps.set d (.func g [] caps)) (.tmp d)=some (.func g [] caps):=by simp[ja8,hl]
 have h3:∀t:List V,opV E (Go.Ab.ev E) (E.mutb fn id) t O (.defer ⟨.value (.tmp d),#[],#[]⟩)=none:=λt=>by simp[opV,jbp,jbu,jbz]
 simp[jbf,XR.res,jdu,Region.wanted,h1,h2,h3,opP,opD,jbw,putT,List.range,List.range.loop]
def RowU(v:V)(n:Nat)(cs:List V):Prop:=(v=.nilsl/\n=0/\cs=[])\/v=.row cs n .unk
def PV(r:Except Fl Qry)(v:V):Prop :=
 match r with
 | .ok Q=>∃ev wv rv,v=.tup [.agg (qC Q ev wv rv),.agg [.int .i64 0,.int .i64 0]]/\RowU ev Q.expr.length (jbS Q.expr)/\RowU wv Q.wher.length (jbS Q.wher)/\RowU rv Q.ranges.length (jel Q.ranges)
 | .error e=>v=.tup [.agg (qC Qry.zero .nilsl .nilsl .nilsl),.agg [.int .i64 e.1,.int .i64 e.2]]
def KP(r:Except Fl Qry)(v:V)(O:S):Prop:=∃v',jbn O.heap jay v=some v'/\PV r v'
theorem jlT {h:List AObj}{d:Nat}{cs:List V}(hc:∀v∈cs,(∃k n,v=.int k n)\/∃s,v=.str s):cs.mapM (jbn h (d+1))=some cs :=
 je3 h (d+1) cs λv hv=>by
  rcases hc v hv with⟨k,n,rfl⟩|⟨s,rfl⟩<;>rfl
theorem jkJ {h:List AObj}{d base w n:Nat}{ts:List Nat}{v:V}{cs:List V}(g:GrowV base ts w v n cs)(hc:∀v∈cs,(∃k n,v=.int k n)\/∃s,v=.str s):∃v',jbn h (d+2) v=some v'/\RowU v' n cs:=by
 cases g with
 |nil=>exact⟨_,rfl,.inl ⟨rfl,rfl,rfl⟩⟩
 |full _ _ hl=>exact⟨.row cs n .unk,by rw[jgj,jlT hc];rfl,.inr rfl⟩
 |tok _ _ k e hl hb ht=>exact⟨.row cs n .unk,by rw[jgj,jlT hc];rfl,.inr rfl⟩
theorem jcH(l:List Nd):∀v∈jbS l,(∃k n,v=.int k n)\/∃s,v=.str s:=by
 intro v hv;simp only[jbS,List.mem_flatten,Xc]at hv;obtain⟨_,⟨x,_,rfl⟩,h⟩:=hv;simp only[jbO,Qv,Jj,or_false]at h
 rcases h with rfl|rfl|rfl
 ·exact .inl ⟨_,_,rfl⟩
 ·exact .inl ⟨_,_,rfl⟩
 ·exact .inr ⟨_,rfl⟩
theorem jeJ(l:List (Int × Int)):∀v∈jel l,(∃k n,v=.int k n)\/∃s,v=.str s:=by
 intro v hv;simp only[jel,List.mem_flatten,Xc]at hv;obtain⟨_,⟨x,_,rfl⟩,h⟩:=hv;simp only[Qv,Jj,or_false]at h
 rcases h with rfl|rfl
 ·exact .inl ⟨_,_,rfl⟩
 ·exact .inl ⟨_,_,rfl⟩
theorem jBn {Q:Qry}{ev wv rv:V}{base:Nat}{ts:List Nat}{h:List AObj}{t2:List Nat}(hq:QL base ts Q ev wv rv):KP (.ok Q) (.tup [.agg (qC Q ev wv rv),.agg [.int .i64 0,.int .i64 0]]) ⟨h,t2⟩:=by
 obtain⟨e',he,re⟩:=jkJ (h:=h) (d:=8) hq.e (jcH _);obtain⟨w',hw,rw'⟩:=jkJ (h:=h) (d:=8) hq.w (jcH _);obtain⟨r',hr,rr⟩:=jkJ (h:=h) (d:=8) hq.r (jeJ _);refine⟨.tup [.agg (qC Q e' w' r'),.agg [.int .i64 0,.int .i64 0]],?_,e',w',r',rfl,re,rw',rr⟩;simp only[jay,ja7,jcJ,jaA,jaF,jaV,jch,jbj,qC,he,hw,hr,Kn,Kx]
theorem jzx {e:Fl}{h:List AObj}{t2:List Nat}:KP (.error e) (.tup [.agg (qC Qry.zero .nilsl .nilsl .nilsl),.agg [.int .i64 e.1,.int .i64 e.2]]) ⟨h,t2⟩ :=
 ⟨_,by simp only[jay,ja7,jcJ,jaA,jaF,jaV,jch,jbj,jha,qC,Kn,Kx],rfl⟩
theorem at10:env.P.funcs[10]? = some Tryz.f10:=by kernel_rfl
noncomputable def p10(i:Nat):Code:=hdC (jbr i (jaz Tryz.f10))
theorem jzy:Tryz.f10.body=some (.seq (p10 0) (.seq (p10 1) (.seq (p10 2) (.seq (p10 3) (.seq (p10 4) (.seq (p10 5) (.seq (p10 6) (.seq (p10 7) (.seq (p10 8) (.seq (p10 9) (.seq (p10 10) (.seq (p10 11) (jbr 12 (jaz Tryz.f10)))))))))))))):=by kernel_rfl
noncomputable def rs10:List ResultVar:=Tryz.f10.results.toList
theorem jt5:rs10=[.cell 2 29,.cell 3 32]:=rfl
def jog:List V:=[.ptr 0 0,.ptr 1 0]
def D10:List DE:=[.call 22 jog]
abbrev X10(r:Except Fl Qry):V->List V->List DE->S->Prop:=jyd env 22 jog rs10 (KP r)
abbrev E10(r:Except Fl Qry):Tm->List DE->S->Prop:=EndD env 22 jog rs10 (KP r)
abbrev Q10(r:Except Fl Qry):Post:=⟨E10 r,λ_ _ _ _=>False,E10 r⟩
abbrev W10(r:Except Fl Qry)(c:Code)(T:Tm)(O:S):Prop:=wpP env 10 none 63 (X10 r) c T D10 O (Q10 r)
theorem al29(h:List AObj)(p:V):jbi env h 29 p=(jai h 20 p).map .agg:=by
 have g:Go.Ab.aggT env 29=some true:=by kernel_rfl
 unfold jbi;simp only[g,s29,Kn]
theorem al32(h:List AObj)(p:V):jbi env h 32 p=(jai h 2 p).map .agg:=by
 have g:Go.Ab.aggT env 32=some true:=by kernel_rfl
 unfold jbi;simp only[g,s32,Kn]
structure RC (L:List AObj):Prop where
 a:∃c,L[0]? = some (.cells c 29)/\c.length=20
 b:∃c,L[1]? = some (.cells c 32)/\c.length=2
theorem RC.mv {p:Nat}{L L':List AObj}(h:RC L)(f:Fr p L L')(hp:2<=p):RC L':=by
 obtain⟨⟨c,a1,a2⟩,⟨d,b1,b2⟩⟩:=h;exact⟨⟨c,f.has a1 (by omega),a2⟩,⟨d,f.has b1 (by omega),b2⟩⟩
theorem jvI {r:Except Fl Qry}{e:Fl}(hr:r=.error e){L:List AObj}{ts:List Nat}(hc:RC L){vals:List V}(h2:vals.getD 2 (.tup [])=.ptr 0 0)(h3:vals.getD 3 (.tup [])=.ptr 1 0):X10 r (flt e) vals D10 ⟨L,ts⟩:=by
 obtain⟨⟨c,a1,a2⟩,⟨d,b1,b2⟩⟩:=hc;have hla:=jaT a1;have hlb:=jaT b1;refine⟨rfl,_,jof e a1 a2 b1 b2 (by omega),?_⟩;subst hr
 have g1:(((L++[AObj.cells [.int .i64 e.1,.int .i64 e.2] 51]).set 0 (.cells (qC Qry.zero .nilsl .nilsl .nilsl) 29)).set 1 (.cells [.int .i64 e.1,.int .i64 e.2] 32))[0]? = some (.cells (qC Qry.zero .nilsl .nilsl .nilsl) 29):=by
  rw[Kk (by omega),Kl (by simp)]
 have g2:(((L++[AObj.cells [.int .i64 e.1,.int .i64 e.2] 51]).set 0 (.cells (qC Qry.zero .nilsl .nilsl .nilsl) 29)).set 1 (.cells [.int .i64 e.1,.int .i64 e.2] 32))[1]? = some (.cells [.int .i64 e.1,.int .i64 e.2] 32):=by
  rw[Kl (by simp;omega)]
 have l1:∀H:List AObj,H[0]? = some (.cells (qC Qry.zero .nilsl .nilsl .nilsl) 29)->jai H 20 (.ptr 0 0)=some (qC Qry.zero .nilsl .nilsl .nilsl):=λH h=>by simp only[jai,h];rfl
 have l2:∀H:List AObj,H[1]? = some (.cells [.int .i64 e.1,.int .i64 e.2] 32)->jai H 2 (.ptr 1 0)=some [.int .i64 e.1,.int .i64 e.2]:=λH h=>by simp[jai,h]
 refine⟨[.agg (qC Qry.zero .nilsl .nilsl .nilsl),.agg [.int .i64 e.1,.int .i64 e.2]],?_,jzx⟩;rw[jt5];simp only[resV,h2,h3,al29,al32,l1 _ g1,l2 _ g2,Kx,Kn]
theorem jBo {Q:Qry}{ev wv rv:V}{base:Nat}{ts:List Nat}(hq:QL base ts Q ev wv rv){L:List AObj}{T:Tm}(t2:T 2=.ptr 0 0)(t3:T 3=.ptr 1 0)(h0:L[0]? = some (.cells (qC Q ev wv rv) 29))(h1:L[1]? = some (.cells [.int .i64 0,.int .i64 0] 32)):E10 (.ok Q) T D10 ⟨L,ts⟩:=by
 refine⟨rfl,_,joe _ _ _ _,[.agg (qC Q ev wv rv),.agg [.int .i64 0,.int .i64 0]],?_,jBn hq⟩;rw[jt5];have l1:jai (L++[AObj.cells [.int .i64 0,.int .i64 0] 51]) 20 (.ptr 0 0)=some (qC Q ev wv rv):=by simp only[jai,jbX h0];rfl
 have l2:jai (L++[AObj.cells [.int .i64 0,.int .i64 0] 51]) 2 (.ptr 1 0)=some [.int .i64 0,.int .i64 0]:=by simp only[jai,jbX h1];rfl
 simp only[resT,t2,t3,al29,al32,l1,l2,Kx,Kn]
section
variable {lv:V}{en:Int}{l:List Tk}{L:List AObj}{ts:List Nat}{itoa:Int->List UInt8}{mk:Int->Int->List UInt8}{me:Int->Int->List UInt8}
theorem qs12 {Q:Qry}{ev wv rv:V}{base j:Nat}(hq:QL base ts Q ev wv rv)(hc:RC L)(hP:Pc lv en (qC Q ev wv rv) 2 L j 0){T:Tm}(t2:T 2=.ptr 0 0)(t3:T 3=.ptr 1 0)(t5:T 5=.ptr 2 0):W10 (.ok Q) (jbr 12 (jaz Tryz.f10)) T ⟨L,ts⟩:=by
 obtain⟨⟨c,a1,a2⟩,⟨d,b1,b2⟩⟩:=hc;have hla:=jaT a1;have hlb:=jaT b1
 have l1:jai L 20 (.ptr 2 4)=some (qC Q ev wv rv):=by
  have h:L[2]? = some (pcL lv en (qC Q ev wv rv) j 0):=hP;simp only[jai,h,pcL];rfl
 have bd32:jci env 32 []=some (.agg [.int .i64 0,.int .i64 0]):=by kernel_rfl
 have st1:storeAt ⟨L,ts⟩ (qC Q ev wv rv) 0 0 (some (.cells c 29))=some ⟨L.set 0 (.cells (qC Q ev wv rv) 29),ts⟩:=by
  unfold storeAt;simp only;rw[Ki ⟨by rw[a2];exact Qq rfl,by simp[qC,ic,hq.e.cells.2,hq.w.cells.2,hq.r.cells.2]⟩]
  have:jab c 0 (qC Q ev wv rv)=qC Q ev wv rv:=by
   unfold jab;rw[X5 (by rw[a2];exact Qq rfl)];simp
  rw[this];rfl
 have g1:(L.set 0 (.cells (qC Q ev wv rv) 29))[1]? = some (.cells d 32):=by rw[Kk (by omega)];exact b1
 have st2:storeAt ⟨L.set 0 (.cells (qC Q ev wv rv) 29),ts⟩ [.int .i64 0,.int .i64 0] 1 0 (some (.cells d 32))=some ⟨(L.set 0 (.cells (qC Q ev wv rv) 29)).set 1 (.cells [.int .i64 0,.int .i64 0] 32),ts⟩:=by
  unfold storeAt;simp only;rw[Ki ⟨by rw[b2];exact Qq rfl,rfl⟩]
  have:jab d 0 [.int .i64 0,.int .i64 0]=[.int .i64 0,.int .i64 0]:=by
   unfold jab;rw[X5 (by rw[b2];exact Qq rfl)];simp
  rw[this];rfl
 have hq20:(qC Q ev wv rv).length=20:=rfl;refine jrj ?_;simp only[jbr,jaz,Tryz.f10,Kv,Ka,simprocAttr,U3,jab,jak,t2,t3,t5,al29,l1,bd32,a1,st1,g1,st2,s29,s32,hq20];exact jBo hq t2 t3 (by rw[Kk (by omega),Kl hla]) (Kl (by simpa using hlb))
def fin(x:R Qry):Except Fl Qry:=match x with
 | .ok (q,_)=>.ok q
 | .error e=>.error e
theorem qs11(hv:IsK lv l)(hl:l.length<=4000)(hs:jek l)(hI:ItOK itoa)(hM:MkOK l en itoa mk me){Q:Qry}{ev wv rv:V}{base j:Nat}(hq:QL base ts Q ev wv rv)(hcon:Q.consistent=false)(hj:j<=l.length)(hc:RC L)(hP:Pc lv en (qC Q ev wv rv) 2 L j 0){T:Tm}(t2:T 2=.ptr 0 0)(t3:T 3=.ptr 1 0)(t5:T 5=.ptr 2 0):W10 (fin (jeK l en itoa mk Q j)) (.seq (p10 11) (jbr 12 (jaz Tryz.f10))) T ⟨L,ts⟩:=by
 obtain⟨x,⟨L',t'⟩,hcx,hX⟩:=jzp (ts:=ts) hv hl hs hI hM hj hP hq hcon;generalize jeK l en itoa mk Q j=r at *
 match r,hX with
 | .ok (Q',j'),⟨k1,k2,ev',wv',rv',k3,k4⟩ =>
  subst k1;refine jdc ?_;simp only[show p10 11=hdC (jbr 11 (jaz Tryz.f10))from rfl,hdC,jbr,jaz,Tryz.f10,Kv,Ka,simprocAttr,Uy,Ke,Vq,t5,jgm hcx];refine qs12 k4 (hc.mv k2 (Kw _)) k3 ?_ ?_ ?_
  ·exact t2
  ·exact t3
  ·exact t5
 | .error e,⟨k1,k2⟩ =>
  subst k1;obtain⟨p1,p2,p3,p4,p5⟩:=jfk hcx;refine jhe ?_;simp only[show p10 11=hdC (jbr 11 (jaz Tryz.f10))from rfl,hdC,jbr,jaz,Tryz.f10,Kv];refine jjt 1 _ _ rfl rfl rfl ?_;simp only[Q7,Jl,Ka,simprocAttr,Uy,Ke,Vq,t5];exact⟨_,[],[],[.ptr 2 0],_,_,rfl,rfl,p1,p2,p3,p4,p5,λvals hr=>jvI rfl (hc.mv k2 (Kw _)) ((hr.2 2).trans t2) ((hr.2 3).trans t3)⟩
theorem qs10(hv:IsK lv l)(hl:l.length<=4000)(hs:jek l)(hI:ItOK itoa)(hM:MkOK l en itoa mk me){Q:Qry}{ev wv rv:V}{base j:Nat}(hq:QL base ts Q ev wv rv)(hcon:Q.consistent=false)(hj:j<=l.length)(hc:RC L)(hP:Pc lv en (qC Q ev wv rv) 2 L j 0){T:Tm}(t2:T 2=.ptr 0 0)(t3:T 3=.ptr 1 0)(t5:T 5=.ptr 2 0):W10 (fin (andThen (jb5 l en Q j) λq j=>jeK l en itoa mk q j)) (.seq (p10 10) (.seq (p10 11) (jbr 12 (jaz Tryz.f10)))) T ⟨L,ts⟩:=by
 obtain⟨x,⟨L',t'⟩,hcx,hX⟩:=jvD (ts:=ts) hv hl hj hP hq;have hap:=jt4 (l:=l) (en:=en) hcon j;generalize jb5 l en Q j=r at *
 match r,hap,hX with
 | .ok (Q',j'),hap,⟨k1,k2,ev',wv',rv',k3,k4⟩ =>
  subst k1;refine jdc ?_;simp only[show p10 10=hdC (jbr 10 (jaz Tryz.f10))from rfl,hdC,jbr,jaz,Tryz.f10,Kv,Ka,simprocAttr,Uy,Ke,Vq,t5,jgm hcx];refine qs11 (Q:=Q') hv hl hs hI hM k4 hap.2 hap.1 (hc.mv k2 (Kw _)) k3 ?_ ?_ ?_
  ·exact t2
  ·exact t3
  ·exact t5
 | .error e,_,⟨k1,k2⟩ =>
  subst k1;obtain⟨p1,p2,p3,p4,p5⟩:=jfk hcx;refine jhe ?_;simp only[show p10 10=hdC (jbr 10 (jaz Tryz.f10))from rfl,hdC,jbr,jaz,Tryz.f10,Kv];refine jjt 1 _ _ rfl rfl rfl ?_;simp only[Q7,Jl,Ka,simprocAttr,Uy,Ke,Vq,t5];exact⟨_,[],[],[.ptr 2 0],_,_,rfl,rfl,p1,p2,p3,p4,p5,λvals hr=>jvI rfl (hc.mv k2 (Kw _)) ((hr.2 2).trans t2) ((hr.2 3).trans t3)⟩
theorem qs9(hv:IsK lv l)(hl:l.length<=4000)(hs:jek l)(hI:ItOK itoa)(hM:MkOK l en itoa mk me){base j:Nat}{k:Int}(hk:1<=k/\k<=10)(hb:base<=ts.length)(hj:j<=l.length)(hc:RC L)(hP:Pc lv en (qC Qry.zero .nilsl .nilsl .nilsl) 2 L j 0){T:Tm}(t2:T 2=.ptr 0 0)(t3:T 3=.ptr 1 0)(t5:T 5=.ptr 2 0)(t8:T 8=.func (47+k.toNat) [] []):W10 (fin (andThen (jfL l en k Qry.zero j) λq j=>andThen (jb5 l en q j) λq j=>jeK l en itoa mk q j)) (.seq (p10 9) (.seq (p10 10) (.seq (p10 11) (jbr 12 (jaz Tryz.f10))))) T ⟨L,ts⟩:=by
 obtain⟨x,⟨L',t'⟩,hcx,hX⟩:=jzt (ts:=ts) hv hl hs hj hP hb hk;have hap:=jvH (l:=l) (en:=en) k (Q:=Qry.zero) rfl hj;generalize jfL l en k Qry.zero j=r at *
 match r,hap,hX with
 | .ok (Q',j'),hap,⟨k1,k2,ev',wv',rv',k3,k4⟩ =>
  subst k1;refine jdc ?_;simp only[show p10 9=hdC (jbr 9 (jaz Tryz.f10))from rfl,hdC,jbr,jaz,Tryz.f10,Kv,Ka,simprocAttr,Uy,Ke,Vq,t5,t8,jgm hcx];refine qs10 (Q:=Q') hv hl hs hI hM k4 hap.2 hap.1 (hc.mv k2 (Kw _)) k3 ?_ ?_ ?_
  ·exact t2
  ·exact t3
  ·exact t5
 | .error e,_,⟨k1,k2⟩ =>
  subst k1;obtain⟨p1,p2,p3,p4,p5⟩:=jfk hcx;refine jhe ?_;simp only[show p10 9=hdC (jbr 9 (jaz Tryz.f10))from rfl,hdC,jbr,jaz,Tryz.f10,Kv];refine jjt 2 _ _ rfl rfl rfl ?_;simp only[Q7,Jl,Ka,simprocAttr,Uy,Ke,Vq,t5,t8];exact⟨_,[],[],[.ptr 2 0],_,_,rfl,rfl,p1,p2,p3,p4,p5,λvals hr=>jvI rfl (hc.mv k2 (Kw _)) ((hr.2 2).trans t2) ((hr.2 3).trans t3)⟩
theorem qs8(hv:IsK lv l)(hl:l.length<=4000)(hs:jek l)(hI:ItOK itoa)(hM:MkOK l en itoa mk me){base j:Nat}{k:Int}(hk:1<=k/\k<=10)(hb:base<=ts.length)(hj:j<l.length)(hc:RC L)(hP:Pc lv en (qC Qry.zero .nilsl .nilsl .nilsl) 2 L j 0){T:Tm}(t2:T 2=.ptr 0 0)(t3:T 3=.ptr 1 0)(t5:T 5=.ptr 2 0)(t8:T 8=.func (47+k.toNat) [] []):W10 (fin (andThen (jfL l en k Qry.zero (j+1)) λq j=>andThen (jb5 l en q j) λq j=>jeK l en itoa mk q j)) (.seq (p10 8) (.seq (p10 9) (.seq (p10 10) (.seq (p10 11) (jbr 12 (jaz Tryz.f10)))))) T ⟨L,ts⟩:=by
 have e1:IntKind.i64.wrap ((j:Int)+1)=((j+1:Nat):Int):=by rw[wrap_i64 (by omega) (by omega)];omega
 have hcl:=Pc.has hP;refine jdc ?_;simp only[show p10 8=hdC (jbr 8 (jaz Tryz.f10))from rfl,hdC,jbr,jaz,Tryz.f10,Kv,Ka,simprocAttr,U3,jab,jak,t5,hcl,e1];refine qs9 hv hl hs hI hM hk hb hj (hc.mv (Fr.set 2 L _) (Kw _)) (hP.set (j+1) 0) ?_ ?_ ?_ ?_
 ·exact t2
 ·exact t3
 ·exact t5
 ·exact t8
theorem jzz(l:List Tk)(i:Nat):keyT l i=(pkT l [2] i).1.text:=by
 unfold keyT pkT;cases l[i]? with
 |none=>rfl
 |some t =>
  simp only[X9];by_cases h:t.kind=2
  ·simp[h]
  ·simp[h,tk0]
theorem jvJ {l:List Tk}{i:Nat}{k:Int}(h:PP.look jdK (keyT l i)=some k):i<l.length:=by
 unfold keyT at h;split at h
 ·rename_i t ht;exact jhf ht
 ·have:PP.look jdK []=none:=by decide
  rw[this]at h;cases h
def jzA(l:List Tk)(en:Int)(itoa:Int->List UInt8)(mk:Int->Int->List UInt8)(o:Option Int):Except Fl Qry :=
 match o with
 |none=>.error (11,atP l en 0)
 |some k=>fin (andThen (jfL l en k Qry.zero 1) λq j=>andThen (jb5 l en q j) λq j=>jeK l en itoa mk q j)
theorem jrH:jck l en itoa mk=jzA l en itoa mk (PP.look jdK (keyT l 0)):=by
 unfold jck jzA;cases PP.look jdK (keyT l 0)with
 |none=>rfl
 |some k =>
  simp only;generalize (andThen (jfL l en k Qry.zero 1) λq j=>andThen (jb5 l en q j) λq j=>jeK l en itoa mk q j)=r
  match r with
  | .ok (q,j)=>rfl
  | .error e=>rfl
theorem qs7(hv:IsK lv l)(hl:l.length<=4000)(hs:jek l)(hI:ItOK itoa)(hM:MkOK l en itoa mk me){base:Nat}(hb:base<=ts.length)(hc:RC L)(hP:Pc lv en (qC Qry.zero .nilsl .nilsl .nilsl) 2 L 0 0){T:Tm}(t2:T 2=.ptr 0 0)(t3:T 3=.ptr 1 0)(t5:T 5=.ptr 2 0)
  (t9:T 9=.bool (PP.look jdK (keyT l 0)).isSome) (t8:∀k,PP.look jdK (keyT l 0)=some k->T 8=.func (47+k.toNat) [] []):W10 (jck l en itoa mk) (.seq (p10 7) (.seq (p10 8) (.seq (p10 9) (.seq (p10 10) (.seq (p10 11) (jbr 12 (jaz Tryz.f10))))))) T ⟨L,ts⟩:=by
 rw[jrH];cases hk:PP.look jdK (keyT l 0)with
 |some k =>
  rw[hk]at t9;have t8:=t8 k hk;have t9':T 9=.bool true:=t9;refine jdc ?_;simp only[show p10 7=hdC (jbr 7 (jaz Tryz.f10))from rfl,hdC,jbr,jaz,Tryz.f10,Kv,Ka,simprocAttr,Uy,Ke,Vq,t9'];refine qs8 hv hl hs hI hM (jnD hk) hb (jvJ hk) hc hP ?_ ?_ ?_ ?_
  ·exact t2
  ·exact t3
  ·exact t5
  ·exact t8
 |none =>
  rw[hk]at t9;have t9':T 9=.bool false:=t9;have ha:=jeG hv hl hP ts;obtain⟨r,O',hcx,rfl,rfl⟩:=jgu 11 (atP l en 0) ⟨L,ts⟩;obtain⟨p1,p2,p3,p4,p5⟩:=jfk hcx;refine jhe ?_;simp only[show p10 7=hdC (jbr 7 (jaz Tryz.f10))from rfl,hdC,jbr,jaz,Tryz.f10,Kv];refine jdc ?_;simp only[Ka,simprocAttr,Uy,Ke,Vq,t9'];refine jpY (b:=true) rfl ?_;simp only[Ku];refine jjt 2 _ _ rfl rfl rfl ?_;simp only[Q7,Jl,Ka,simprocAttr,Uy,Ke,Vq,t5,ha];exact⟨_,[],[],[.int .i64 11,.int .i64 (atP l en 0)],_,_,rfl,rfl,p1,p2,p3,p4,p5,λvals hr=>jvI rfl hc ((hr.2 2).trans t2) ((hr.2 3).trans t3)⟩
theorem qs6(hv:IsK lv l)(hl:l.length<=4000)(hs:jek l)(hI:ItOK itoa)(hM:MkOK l en itoa mk me){base:Nat}(hb:base<=ts.length)(hc:RC L)(hP:Pc lv en (qC Qry.zero .nilsl .nilsl .nilsl) 2 L 0 0){T:Tm}(t2:T 2=.ptr 0 0)(t3:T 3=.ptr 1 0)(t5:T 5=.ptr 2 0)
  {b:Nat} {t:Tk} (ht:t.text=keyT l 0) (t6:T 6=.ptr b 0) (h6:L[b]? = some (.cells (jak t) 47)):W10 (jck l en itoa mk) (.seq (p10 6) (.seq (p10 7) (.seq (p10 8) (.seq (p10 9) (.seq (p10 10) (.seq (p10 11) (jbr 12 (jaz Tryz.f10)))))))) T ⟨L,ts⟩:=by
 have hkc:=jrF L ts;have hlk:=jxF (ts:=ts) (L:=L++[.map (kE 10) 10]) (b:=L.length) (by simp) t.text;have h6':(L++[AObj.map (kE 10) 10])[b]? = some (.cells [.int .i64 t.kind,.str t.text,.int .i64 t.n,.int .i64 t.pos] 47):=jbX h6 _;have hF:Fr 2 L (L++[AObj.map (kE 10) 10]):=Fr.app _ _ _;refine jdc ?_;rw[ht]at hlk;simp only[show p10 6=hdC (jbr 6 (jaz Tryz.f10))from rfl,hdC,jbr,jaz,Tryz.f10,Kv];refine jsJ rfl [(true,[]),(false,[]),(false,[0]),(false,[]),(false,[]),(false,[]),(false,[]),(false,[]),(false,[])] (λm s0=>m=0->s0.heap[b]? = some (.cells (jak t) 47)) (λ_=>h6) (by kernel_rfl) (by kernel_rfl) ?_;cases hk:PP.look jdK (keyT l 0)with
 | some k =>
  rw[hk]at hlk;simp only[Ka,simprocAttr,U3,jab,jak,hhWa,hhWb,hhWc,hhWd,jhK,jmi,jmj,jhL,jmk,jhM,jml,jfI,jei,jdD,jdE,t6,hkc,h6',jep,ht,hlk];refine⟨⟨λs h=>by rw[h];rfl,trivial⟩,?_⟩;refine qs7 hv hl hs hI hM hb (hc.mv hF (Kw _)) (hP.app _) ?_ ?_ ?_ ?_ ?_
  ·exact t2
  ·exact t3
  ·exact t5
  ·rw[hk];rfl
  ·intro k' hk';rw[hk]at hk';cases hk';rfl
 | none =>
  rw[hk]at hlk;simp only[Ka,simprocAttr,U3,jab,jak,hhWa,hhWb,hhWc,hhWd,jhK,jmi,jmj,jhL,jmk,jhM,jml,jfI,jei,jdD,jdE,t6,hkc,h6',jep,ht,hlk];refine⟨⟨λs h=>by rw[h];rfl,trivial⟩,?_⟩;refine qs7 hv hl hs hI hM hb (hc.mv hF (Kw _)) (hP.app _) ?_ ?_ ?_ ?_ ?_
  ·exact t2
  ·exact t3
  ·exact t5
  ·rw[hk];rfl
  ·intro k' hk';rw[hk]at hk';cases hk'
theorem fo32:ja5 env 32 0=some 0/\ja5 env 32 1=some 1:=⟨by kernel_rfl,by kernel_rfl⟩
theorem bd55(hv:IsK lv l)(n:Int):jci env 55 [(0,lv),(2,.int .i64 n)]=some (.agg (lv::.int .i64 0::.int .i64 n::.int .i64 0::qC Qry.zero .nilsl .nilsl .nilsl)):=by
 rcases hv with⟨rfl,rfl⟩|⟨q,rfl⟩<;>kernel_rfl
theorem jvK(hv:IsK lv l)(hl:l.length<=4000)(hs:jek l)(hI:ItOK itoa)(s:List UInt8)(hM:MkOK l (s.length:Nat) itoa mk me)(hsp:∀O,jas env (ev env) 19 [.str s] O=some (.tup [lv,.agg [.int .i64 0,.int .i64 0]],O)) :
  ∃v,PV (jck l (s.length:Nat) itoa mk) v/\∀O,jas env (ev env) 10 [.str s] O=some (v,O):=by
 have key:∃v O',ev env (.call 10 [.str s] S.empty)=some ⟨.ret,[v],[],O'⟩/\KP (jck l (s.length:Nat) itoa mk) v O':=by
  refine jye (g:=22) (caps:=jog) at10 jzy (by simp[Tryz.f10]) (U4 rfl) ?_;show wpP env 10 none 63 (X10 (jck l (s.length:Nat) itoa mk)) _ (argT [.str s]) [] ⟨[],[]⟩ (Q10 (jck l (s.length:Nat) itoa mk));have z29:jbG env 29=some (.agg (qC Qry.zero .nilsl .nilsl .nilsl)):=by kernel_rfl
  have z32:jbG env 32=some (.agg [.int .i64 0,.int .i64 0]):=by kernel_rfl
  refine jdc ?_;simp only[show p10 0=hdC (jbr 0 (jaz Tryz.f10))from rfl,hdC,jbr,jaz,Tryz.f10,Kv,Ka,simprocAttr,U3,jab,jak,z29,z32];refine jdc ?_;simp only[show p10 1=hdC (jbr 1 (jaz Tryz.f10))from rfl,hdC,jbr,jaz,Tryz.f10,Kv,Ka,simprocAttr,U3,jab,jak,hsp,s32];refine jdc ?_;simp only[show p10 2=hdC (jbr 2 (jaz Tryz.f10))from rfl,hdC,jbr,jaz,Tryz.f10,Kv,Ka,simprocAttr,U3,jab,jak,fo32,tys];refine jhe ?_;simp only[show p10 3=hdC (jbr 3 (jaz Tryz.f10))from rfl,hdC,jbr,jaz,Tryz.f10,Kv];refine jrG (caps:=jog) rfl (by omega) ?_;refine jdc ?_;have hlen:=bd55 hv (s.length:Nat);have hpc:=hv;simp only[show p10 4=hdC (jbr 4 (jaz Tryz.f10))from rfl,hdC,jbr,jaz,Tryz.f10,Kv,Ka,simprocAttr,U3,jab,jak,jaL,hlen];refine jdc ?_;simp only[show p10 5=hdC (jbr 5 (jaz Tryz.f10))from rfl,hdC,jbr,jaz,Tryz.f10,Kv,Ka,simprocAttr,U3,jab,jak];have hP0:Pc lv (s.length:Nat) (qC Qry.zero .nilsl .nilsl .nilsl) 2 [AObj.cells (qC Qry.zero .nilsl .nilsl .nilsl) 29,AObj.cells [V.int IntKind.i64 0,V.int IntKind.i64 0] 32,AObj.cells (lv::V.int IntKind.i64 0::V.int IntKind.i64 ↑s.length::V.int IntKind.i64 0::qC Qry.zero .nilsl .nilsl .nilsl) 55] 0 0:=rfl;have hc0:RC [AObj.cells (qC Qry.zero .nilsl .nilsl .nilsl) 29,AObj.cells [V.int IntKind.i64 0,V.int IntKind.i64 0] 32,AObj.cells (lv::V.int IntKind.i64 0::V.int IntKind.i64 ↑s.length::V.int IntKind.i64 0::qC Qry.zero .nilsl .nilsl .nilsl) 55]:=⟨⟨_,rfl,rfl⟩,⟨_,rfl,rfl⟩⟩;generalize [AObj.cells (qC Qry.zero .nilsl .nilsl .nilsl) 29,AObj.cells [V.int IntKind.i64 0,V.int IntKind.i64 0] 32,AObj.cells (lv::V.int IntKind.i64 0::V.int IntKind.i64 ↑s.length::V.int IntKind.i64 0::qC Qry.zero .nilsl .nilsl .nilsl) 55]=L0 at hP0 hc0;refine js4 (jkC hv hl hP0 [] [2] .full (by decide)) ?_;rintro _ _ ⟨rfl,X,rfl⟩;have hP1:=hP0.app X;have hc1:=hc0.mv (Fr.app 2 L0 X) (Kw _);have hkp:=jzz l 0;generalize pkT l [2] 0=pk at *;obtain⟨tk,pb⟩:=pk;simp only at hkp;generalize L0++X=L1 at *;have hz:∀o:AObj,(L1++[o])[L1.length]? = some o:=λo=>by simp
  simp only[Ka,simprocAttr,U3,jab,jak,hz];refine qs6 (base:=0) (t:=tk) (b:=L1.length) hv hl hs hI hM (Qk _) (hc1.mv (Fr.app 2 L1 _) (Kw _)) (hP1.app _) ?_ ?_ ?_ hkp.symm ?_ ?_
  ·rfl
  ·rfl
  ·rfl
  ·rfl
  ·exact hz _
 obtain⟨v,O',h1,v',h2,h3⟩:=key;exact⟨v',h3,jkV rfl rfl rfl h1 h2⟩
theorem joh(s:List UInt8)(e a:Int)(he:e ≠ 0)(lv:V)(hv:lv=.nilsl)(hsp:∀O,jas env (ev env) 19 [.str s] O=some (.tup [lv,.agg [.int .i64 e,.int .i64 a]],O)) :
  ∃v,PV (.error (e,a)) v/\∀O,jas env (ev env) 10 [.str s] O=some (v,O):=by
 refine⟨_,rfl,λO => ?_⟩;refine jau rfl rfl rfl at10 rfl (by simp[Tryz.f10]) (U4 rfl) (jar ?_) O;have z29:jbG env 29=some (.agg (qC Qry.zero .nilsl .nilsl .nilsl)):=by kernel_rfl
 have z32:jbG env 32=some (.agg [.int .i64 0,.int .i64 0]):=by kernel_rfl
 have he2:=eq_false he;have em:S.empty=⟨[],[]⟩:=rfl;subst hv;rw[em];have l1:jai [AObj.cells (qC Qry.zero .nilsl .nilsl .nilsl) 29,AObj.cells [V.int IntKind.i64 e,V.int IntKind.i64 a] 32] 2 (.ptr 1 0)=some [.int .i64 e,.int .i64 a]:=rfl;have l2:jai [AObj.cells (qC Qry.zero .nilsl .nilsl .nilsl) 29,AObj.cells [V.int IntKind.i64 e,V.int IntKind.i64 a] 32] 20 (.ptr 0 0)=some (qC Qry.zero .nilsl .nilsl .nilsl):=rfl;have hq20:(qC Qry.zero .nilsl .nilsl .nilsl).length=20:=rfl;have st1:storeAt ⟨[AObj.cells (qC Qry.zero .nilsl .nilsl .nilsl) 29,AObj.cells [V.int IntKind.i64 e,V.int IntKind.i64 a] 32],[]⟩ (qC Qry.zero .nilsl .nilsl .nilsl) 0 0 (some (.cells (qC Qry.zero .nilsl .nilsl .nilsl) 29))=some ⟨[AObj.cells (qC Qry.zero .nilsl .nilsl .nilsl) 29,AObj.cells [V.int IntKind.i64 e,V.int IntKind.i64 a] 32],[]⟩:=rfl;simp only[Tryz.f10,Ka,simprocAttr,U3,jab,jak,z29,z32,hsp,s32,s29,fo32,tys,he2,bd29,al32,al29,l1,l2,hq20,st1];refine jli rfl (λs=>s.heap[1]? = some (.cells [.int .i64 e,.int .i64 a] 32)) rfl (by kernel_rfl) ?_;simp only[Tryz.f10,Ka,simprocAttr,U3,jab,jak,hhWa,hhWb,hhWc,hhWd,z29,z32,hsp,s32,s29,fo32,tys,he2,bd29,al32,al29,l1,l2,hq20,st1];refine⟨λs h => ?_,?_⟩
 ·have:jai s.heap 2 (.ptr 1 0)=some [.int .i64 e,.int .i64 a]:=by simp[jai,h]
  rw[this];rfl
 ·simp only[jaW,jay,ja7,jcJ,jaA,jaF,jaV,jch,jbj,jha,qC,Kn,Kx]
end
end Go.Proofs.YtpclebdkhpapjaaGreatDoor
