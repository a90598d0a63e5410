/- Proved here: the parser, the whole. Conditions: those of each theorem; no statement of the seat is proved in this text. -/
import Derived.Test.YtpclebdkhpapjaaGreatDoorPqA
set_option linter.unusedSimpArgs false
set_option linter.unusedVariables false
set_option linter.unusedSectionVars false
namespace Go.Proofs.YtpclebdkhpapjaaGreatDoor
open Go.Ab
open Go.Ab.PP
set_option maxHeartbeats 8000000
set_option maxRecDepth 100000
def jeb(l:List (Int × Int)):List V:=(l.map λr=>[V.int .i64 r.1,V.int .i64 r.2]).flatten
def qC(Q:Qry)(ev wv rv:V):List V:=[.int .i64 Q.kind,ev,.int .i64 Q.lo,.int .i64 Q.hi,.int .i64 Q.p,.int .i64 Q.q,.str Q.column,.int .i64 Q.bound,rv,.int .i64 Q.strategy,.bool Q.consistent,.str Q.table,.int .i64 Q.keep,.str Q.other,.str Q.left,.str Q.right,.int .i64 Q.limit,wv,.str Q.factor,.int .i64 Q.bits]
structure QL (base:Nat) (ts:List Nat) (Q:Qry) (ev wv rv:V):Prop where
 e:GrowV base ts 3 ev Q.expr.length (jbR Q.expr)
 w:GrowV base ts 3 wv Q.wher.length (jbR Q.wher)
 r:GrowV base ts 2 rv Q.ranges.length (jeb Q.ranges)
 b:base<=ts.length
theorem QL.ext {base:Nat}{ts t2:List Nat}{Q:Qry}{ev wv rv:V}(h:QL base ts Q ev wv rv)(x:Ext ts.length ts t2):QL base t2 Q ev wv rv:=⟨h.e.ext x,h.w.ext x,h.r.ext x,Qu h.b x.1⟩
def QX(lv:V)(en:Int)(p base:Nat)(L:List AObj)(r:R Qry)(x:Sum V V)(O:S):Prop :=
 match r with
 | .ok (Q,j)=>x=.inl (.tup [])/\Fr p L O.heap/\∃ev wv rv,Pc lv en (qC Q ev wv rv) p O.heap j 0/\QL base O.toks Q ev wv rv
 | .error e=>x=.inr (flt e)/\Fr p L O.heap
theorem QX.tr {lv:V}{en:Int}{p base:Nat}{L L1:List AObj}{r:R Qry}{x:Sum V V}{O:S}(h:Fr p L L1)(g:QX lv en p base L1 r x O):QX lv en p base L r x O:=by
 match r,g with
 | .ok (a,j),⟨g1,g2,g3⟩=>exact⟨g1,h.tr g2,g3⟩
 | .error e,⟨g1,g2⟩=>exact⟨g1,h.tr g2⟩
section
variable {fn:FuncId}{rnd:Option Nat}{n:Nat}{Qp:Post}{ks:List Kt}{m:Bool}{ops:Array Oper}{ol:List Oper}{T:Tm}{D:List DE}{f:FuncId}{args:List V}{X:V->List DE->S->Prop}{Y:V->S->Prop}{d:Nat}
theorem jdf {α:Type}{enc:α->V}{r:R α}{lv:V}{en:Int}{q:List V}{p o:Nat}{L:List AObj}{ts:List Nat}(h:∃x O',jbO env f args ⟨L,ts⟩=some (x,O')/\RX lv en q p L ts o enc r x O')(herr:∀e,r=.error e->∀L',Fr p L L'->Y (flt e) ⟨L',ts⟩)
  (hok:∀a j,r=.ok (a,j)->∀L',Fr p L L'->Pc lv en q p L' j o->HL env fn rnd n X Qp ks Y m ops ol (upd T d (enc a)) D ⟨L',ts⟩):HX env fn rnd n X Qp ks Y m ops ol T D d (jbO env f args ⟨L,ts⟩):=by
 refine jaV h ?_ ?_
 ·rintro v ⟨L',t'⟩ hk
  match r,hok,hk with
  | .ok (a,j),hok,⟨h1,h2,h3,h4⟩=>cases h1;simp only at h4;subst h4;exact hok a j rfl L' h2 h3
  | .error e,_,⟨h1,_⟩=>cases h1
 ·rintro v ⟨L',t'⟩ hk
  match r,herr,hk with
  | .ok (a,j),_,⟨h1,_⟩=>cases h1
  | .error e,herr,⟨h1,h2,h3⟩=>cases h1;simp only at h3;subst h3;exact herr e rfl L' h2
end
theorem jbu(a b:AObj)(p:Nat)(L:List AObj):(L.set p a).set p b=L.set p b:=Q3 ..
section
variable {lv:V}{en:Int}{p i o:Nat}{Q:Qry}{ev wv rv:V}{O:S}
theorem ja3(a:Int):storeAt O [.int .i64 a] p 4 (some (pcL lv en (qC Q ev wv rv) i o))=some (O.set p (pcL lv en (qC { Q with kind:=a } ev wv rv) i o)):=rfl
theorem jxr(a:List Nd){v:V}(hv:v.isCell=true):storeAt O [v] p 5 (some (pcL lv en (qC Q ev wv rv) i o))=some (O.set p (pcL lv en (qC { Q with expr:=a } v wv rv) i o)):=by
 unfold storeAt pcL
 simp only
 rw[Kk ⟨Qo rfl,by simp[hv]⟩]
 rfl
theorem jb1(a:Int):storeAt O [.int .i64 a] p 6 (some (pcL lv en (qC Q ev wv rv) i o))=some (O.set p (pcL lv en (qC { Q with lo:=a } ev wv rv) i o)):=rfl
theorem jb2(a:Int):storeAt O [.int .i64 a] p 7 (some (pcL lv en (qC Q ev wv rv) i o))=some (O.set p (pcL lv en (qC { Q with hi:=a } ev wv rv) i o)):=rfl
theorem st_p(a:Int):storeAt O [.int .i64 a] p 8 (some (pcL lv en (qC Q ev wv rv) i o))=some (O.set p (pcL lv en (qC { Q with p:=a } ev wv rv) i o)):=rfl
theorem st_q(a:Int):storeAt O [.int .i64 a] p 9 (some (pcL lv en (qC Q ev wv rv) i o))=some (O.set p (pcL lv en (qC { Q with q:=a } ev wv rv) i o)):=rfl
theorem jaH(a:List UInt8):storeAt O [.str a] p 10 (some (pcL lv en (qC Q ev wv rv) i o))=some (O.set p (pcL lv en (qC { Q with column:=a } ev wv rv) i o)):=rfl
theorem jaO(a:Int):storeAt O [.int .i64 a] p 11 (some (pcL lv en (qC Q ev wv rv) i o))=some (O.set p (pcL lv en (qC { Q with bound:=a } ev wv rv) i o)):=rfl
theorem jtR(a:List (Int × Int)){v:V}(hv:v.isCell=true):storeAt O [v] p 12 (some (pcL lv en (qC Q ev wv rv) i o))=some (O.set p (pcL lv en (qC { Q with ranges:=a } ev wv v) i o)):=by
 unfold storeAt pcL
 simp only
 rw[Kk ⟨Qo rfl,by simp[hv]⟩]
 rfl
theorem jaB(a:Int):storeAt O [.int .i64 a] p 13 (some (pcL lv en (qC Q ev wv rv) i o))=some (O.set p (pcL lv en (qC { Q with strategy:=a } ev wv rv) i o)):=rfl
theorem jav(a:Bool):storeAt O [.bool a] p 14 (some (pcL lv en (qC Q ev wv rv) i o))=some (O.set p (pcL lv en (qC { Q with consistent:=a } ev wv rv) i o)):=rfl
theorem jaP(a:List UInt8):storeAt O [.str a] p 15 (some (pcL lv en (qC Q ev wv rv) i o))=some (O.set p (pcL lv en (qC { Q with table:=a } ev wv rv) i o)):=rfl
theorem ja4(a:Int):storeAt O [.int .i64 a] p 16 (some (pcL lv en (qC Q ev wv rv) i o))=some (O.set p (pcL lv en (qC { Q with keep:=a } ev wv rv) i o)):=rfl
theorem jaQ(a:List UInt8):storeAt O [.str a] p 17 (some (pcL lv en (qC Q ev wv rv) i o))=some (O.set p (pcL lv en (qC { Q with other:=a } ev wv rv) i o)):=rfl
theorem ja5(a:List UInt8):storeAt O [.str a] p 18 (some (pcL lv en (qC Q ev wv rv) i o))=some (O.set p (pcL lv en (qC { Q with left:=a } ev wv rv) i o)):=rfl
theorem jaR(a:List UInt8):storeAt O [.str a] p 19 (some (pcL lv en (qC Q ev wv rv) i o))=some (O.set p (pcL lv en (qC { Q with right:=a } ev wv rv) i o)):=rfl
theorem jaS(a:Int):storeAt O [.int .i64 a] p 20 (some (pcL lv en (qC Q ev wv rv) i o))=some (O.set p (pcL lv en (qC { Q with limit:=a } ev wv rv) i o)):=rfl
theorem jxs(a:List Nd){v:V}(hv:v.isCell=true):storeAt O [v] p 21 (some (pcL lv en (qC Q ev wv rv) i o))=some (O.set p (pcL lv en (qC { Q with wher:=a } ev v rv) i o)):=by
 unfold storeAt pcL
 simp only
 rw[Kk ⟨Qo rfl,by simp[hv]⟩]
 rfl
theorem jaI(a:List UInt8):storeAt O [.str a] p 22 (some (pcL lv en (qC Q ev wv rv) i o))=some (O.set p (pcL lv en (qC { Q with factor:=a } ev wv rv) i o)):=rfl
theorem ja6(a:Int):storeAt O [.int .i64 a] p 23 (some (pcL lv en (qC Q ev wv rv) i o))=some (O.set p (pcL lv en (qC { Q with bits:=a } ev wv rv) i o)):=rfl
theorem ld_q:jhF (some (pcL lv en (qC Q ev wv rv) i o)) 0=some lv/\jhF (some (pcL lv en (qC Q ev wv rv) i o)) 1=some (.int .i64 i)/\jhF (some (pcL lv en (qC Q ev wv rv) i o)) 4=some (.int .i64 Q.kind)/\jhF (some (pcL lv en (qC Q ev wv rv) i o)) 12=some rv/\jhF (some (pcL lv en (qC Q ev wv rv) i o)) 22=some (.str Q.factor):=⟨rfl,rfl,rfl,rfl,rfl⟩
theorem Uo:type_of% (And.intro @ja3 (And.intro @jb1 (And.intro @jb2 (And.intro @st_p (And.intro @st_q (And.intro @jaH (And.intro @jaO (And.intro @jaB (And.intro @jav (And.intro @jaP (And.intro @ja4 (And.intro @jaQ (And.intro @ja5 (And.intro @jaR (And.intro @jaS (And.intro @jaI (And.intro @ja6 (@ld_q)))))))))))))))))):=And.intro @ja3 (And.intro @jb1 (And.intro @jb2 (And.intro @st_p (And.intro @st_q (And.intro @jaH (And.intro @jaO (And.intro @jaB (And.intro @jav (And.intro @jaP (And.intro @ja4 (And.intro @jaQ (And.intro @ja5 (And.intro @jaR (And.intro @jaS (And.intro @jaI (And.intro @ja6 (@ld_q)))))))))))))))))
theorem Ut:type_of% (And.intro @YP (And.intro @jbu (@Uo))):=And.intro @YP (And.intro @jbu (@Uo))
end
section
variable {lv:V}{en:Int}{q:List V}{p base:Nat}{l:List Tk}{L:List AObj}{ts:List Nat}{i o j:Nat}
theorem jpp(l:List Tk)(en:Int)(sy:Sy)(i:Nat):go l en deep sy 0 i=some (jj0 l en sy i):=by
 have h:=jcL (ts:=l) (en:=en) deep sy 0 (by omega) (by cases sy<;>simp[rank,deep]) i
 unfold jj0
 cases hg:go l en deep sy 0 i with
 |none=>rw[hg]at h;simp at h
 |some r=>rfl
theorem at62:env.P.funcs[62]? = some Tryz.f62:=by kernel_rfl
theorem jn1(hv:IsK lv l)(hl:l.length<=4000){fo:FuncId}{sy:Sy}(hf:fo=128/\sy=.expr\/fo=63/\sy=.cond)(hi:i<=l.length)(hP:Pc lv en q p L i 0) :
  ∃x O',jbO env 62 [.ptr p 0,.func fo [.ptr p 0] []] ⟨L,ts⟩=some (x,O')/\GoX lv en q p L ts 0 (jcV l en sy i) x O':=by
 obtain⟨c1,c2,c3,c4,c5⟩:=go_x (en:=en) (q:=q) (p:=p) hv hl deep
 have hk:∃x O',jbO env fo [.ptr p 0] ⟨L,ts⟩=some (x,O')/\GoX lv en q p L ts 0 (jj0 l en sy i) x O':=by
  rcases hf with⟨rfl,rfl⟩|⟨rfl,rfl⟩
  ·exact c1 0 i _ (jpp l en .expr i) (by omega) hi L ts hP
  ·exact c3 0 i _ (jpp l en .cond i) (by omega) hi L ts hP
 have ha:=jcx (jeC hv hl hP ts)
 refine ja1 rfl rfl rfl rfl at62 rfl (by simp[Tryz.f62]) (by simp[Tryz.f62]) (jbp ?_)
 simp only[Tryz.f62,Up,simprocAttr,Uq,Ke,Ur,jab,al1,Un,zv47,Um,row1,jak,ha]
 unfold jcV
 generalize jj0 l en sy i=r at *
 refine jaV hk ?_ ?_
 ·rintro v ⟨L2,t2⟩ hk
  match r,hk with
  | .ok (out,j),⟨u',k1,k2,k3,k4,k5⟩ =>
   cases k1
   have hlen:=k4.len 71
   simp only[PP.andThen]
   by_cases h200:200<out.length
   ·have h2:=eq_true (show(200:Int)<(out.length:Int) by omega)
    rw[Kk h200]
    simp only[Up,simprocAttr,Uq,Ke,Ur,jab,al1,Un,zv47,Um,row1,jak,tys,hlen,h2]
    refine jaV (jgn _ _ _) ?_ ?_
    ·rintro v O' ⟨h,_⟩;cases h
    ·rintro v O' ⟨h,rfl⟩;cases h;exact⟨rfl,k2,k5⟩
   ·have h2:=eq_false (show ¬(200:Int)<(out.length:Int) by omega)
    rw[Km h200]
    simp only[Up,simprocAttr,Uq,Ke,Ur,jab,al1,Un,zv47,Um,row1,jak,tys,hlen,h2]
    exact⟨v,rfl,k2,k3,k4,k5⟩
  | .error e,⟨k1,_⟩=>cases k1
 ·rintro v ⟨L2,t2⟩ hk
  match r,hk with
  | .ok (out,j),⟨u',k1,_⟩=>cases k1
  | .error e,hk=>exact hk
theorem at90:env.P.funcs[90]? = some Tryz.f90:=by kernel_rfl
theorem fo29:ja7 env 29 0=some 0/\ja7 env 29 1=some 1/\ja7 env 29 2=some 2/\ja7 env 29 3=some 3/\ja7 env 29 4=some 4/\ja7 env 29 5=some 5/\ja7 env 29 6=some 6/\ja7 env 29 7=some 7/\ja7 env 29 8=some 8/\ja7 env 29 9=some 9/\ja7 env 29 10=some 10/\ja7 env 29 11=some 11/\ja7 env 29 12=some 12/\ja7 env 29 13=some 13/\ja7 env 29 14=some 14/\ja7 env 29 15=some 15/\ja7 env 29 16=some 16/\ja7 env 29 17=some 17/\ja7 env 29 18=some 18/\ja7 env 29 19=some 19 :=
 ⟨by kernel_rfl,by kernel_rfl,by kernel_rfl,by kernel_rfl,by kernel_rfl,by kernel_rfl,by kernel_rfl,by kernel_rfl,by kernel_rfl,by kernel_rfl,by kernel_rfl,by kernel_rfl,by kernel_rfl,by kernel_rfl,by kernel_rfl,by kernel_rfl,by kernel_rfl,by kernel_rfl,by kernel_rfl,by kernel_rfl⟩
def CY(lv:V)(en:Int)(p:Nat)(L:List AObj)(ts:List Nat)(ev wv rv:V)(r:R Qry)(x:Sum V V)(O:S):Prop :=
 match r with
 | .ok (Q,j)=>x=.inl (.tup [])/\Fr p L O.heap/\Pc lv en (qC Q ev wv rv) p O.heap j 0/\O.toks=ts
 | .error e=>x=.inr (flt e)/\Fr p L O.heap
theorem jqG(hv:IsK lv l)(hl:l.length<=4000){Q:Qry}{ev wv rv:V}(hP:Pc lv en (qC Q ev wv rv) p L i 0)(k:Int) :
  ∃x O',jbO env 90 [.ptr p 0,.int .i64 k] ⟨L,ts⟩=some (x,O')/\CY lv en p L ts ev wv rv (jcb l en k Q i) x O':=by
 refine ja1 rfl rfl rfl rfl at90 rfl (by simp[Tryz.f90]) (by simp[Tryz.f90]) (jbp ?_)
 simp only[Tryz.f90,Up,simprocAttr,Uq,Ke,Ur,jab,al1,Un,zv47,Um,row1,jak]
 unfold jcb
 refine jdf (jkt hv hl hP ts) ?_ ?_
 ·intro e he L' hF
  rw[he];exact⟨rfl,hF⟩
 ·intro c j hc L' hF hP'
  rw[hc]
  have hcl:L'[p]? = some (pcL lv en (qC Q ev wv rv) j 0):=hP'
  have hgs:∀a:AObj,(L'.set p a)[p]? = some a:=λa=>Kl hP'.lt
  simp only[Up,simprocAttr,Uq,Ke,Ur,jab,al1,Un,zv47,Um,row1,jak,fo29,hcl,hgs,jbu,Uo]
  exact⟨rfl,hF.tr (Fr.set _ _ _),Kl hP'.lt,rfl⟩
theorem jh5(hv:IsK lv l)(hl:l.length<=4000){Q:Qry}{ev wv rv:V}(hP:Pc lv en (qC Q ev wv rv) p L i 0)(hq:QL base ts Q ev wv rv)(k:Int) :
  ∃x O',jbO env 90 [.ptr p 0,.int .i64 k] ⟨L,ts⟩=some (x,O')/\QX lv en p base L (jcb l en k Q i) x O':=by
 obtain⟨x,O',h1,h2⟩:=jqG (en:=en) (ts:=ts) hv hl hP k
 refine⟨x,O',h1,?_⟩
 unfold jcb at h2 ⊢
 cases hn:jeX l en i with
 |error e=>rw[hn]at h2;exact h2
 |ok y =>
  obtain⟨c,j⟩:=y
  rw[hn]at h2
  obtain⟨g1,g2,g3,g4⟩:=h2
  exact⟨g1,g2,ev,wv,rv,g3,by rw[g4];exact⟨hq.e,hq.w,hq.r,hq.b⟩⟩
theorem jtS {k:Int}{t:Tk}(h:jgL l en k i=.ok (t,j)):j<=l.length:=by
 unfold jgL at h
 split at h
 ·rename_i t' ht
  split at h
  ·simp only[Except.ok.injEq,Kh]at h
   have:=(Kz.1 ht).1
   omega
  ·simp[syn]at h
 ·simp[syn]at h
theorem jdg {s:List UInt8}{u:Unit}(h:must l en s i=.ok (u,j)):j<=l.length:=by
 have h1:=jdK h
 have:=jcg h1.2
 omega
theorem jhl {s:List UInt8}(h:jeX l en i=.ok (s,j)):j<=l.length:=by
 unfold jeX at h
 split at h
 ·rename_i t j' he
  simp only[Except.ok.injEq,Kh]at h
  rw[<- h.2];exact jtS he
 ·cases h
theorem jiY {n:Int}(h:numP l en i=.ok (n,j)):j<=l.length:=by
 unfold numP at h
 split at h
 ·rename_i t j' he
  simp only[Except.ok.injEq,Kh]at h
  rw[<- h.2];exact jtS he
 ·cases h
theorem jkw {n:Int}(h:intP l en i=.ok (n,j)):j<=l.length:=by
 unfold intP at h
 split at h
 ·split at h
  ·rename_i n' j' he
   simp only[Except.ok.injEq,Kh]at h
   rw[<- h.2];exact jiY he
  ·cases h
 ·exact jiY h
theorem jqH {n:Int}(h:posP l en i=.ok (n,j)):j<=l.length:=by
 unfold posP at h
 split at h
 ·rename_i n' j' he
  split at h
  ·cases h
  ·simp only[Except.ok.injEq,Kh]at h
   rw[<- h.2];exact jiY he
 ·cases h
theorem jtT {sy:Sy}{out:List Nd}(h:jcV l en sy i=.ok (out,j)):j<=l.length/\out.length<=4000+l.length:=by
 unfold jcV at h
 have hg:=jpp l en sy i
 generalize jj0 l en sy i=r at *
 match r,h with
 | .ok (a,k),h =>
  simp only[PP.andThen]at h
  have h1:=jcf deep sy 0 _ _ _ hg
  split at h
  ·cases h
  ·simp only[Except.ok.injEq,Kh]at h
   obtain⟨rfl,rfl⟩:=h
   omega
 | .error e,h=>simp[PP.andThen]at h
theorem andThen_ok {α β:Type}(a:α)(j:Nat)(f:α->Nat->R β):PP.andThen (.ok (a,j)) f=f a j:=rfl
section
variable {fn:FuncId}{rnd:Option Nat}{n:Nat}{Qp:Post}{ks:List Kt}{m:Bool}{ops:Array Oper}{ol:List Oper}{T:Tm}{D:List DE}{f:FuncId}{args:List V}{X:V->List DE->S->Prop}{Y:V->S->Prop}{d:Nat}
theorem jzd {r:R (List Nd)}(h:∃x O',jbO env f args ⟨L,ts⟩=some (x,O')/\GoX lv en q p L ts o r x O')(herr:∀e,r=.error e->∀L' t',Fr p L L'->Y (flt e) ⟨L',t'⟩)
  (hok:∀a j,r=.ok (a,j)->∀L' t' v,Fr p L L'->Pc lv en q p L' j o->GrowV ts.length t' 3 v a.length (jbR a)->Ext ts.length ts t'->HL env fn rnd n X Qp ks Y m ops ol (upd T d v) D ⟨L',t'⟩):HX env fn rnd n X Qp ks Y m ops ol T D d (jbO env f args ⟨L,ts⟩):=by
 refine jaV h ?_ ?_
 ·rintro v ⟨L',t'⟩ hk
  match r,hok,hk with
  | .ok (a,j),hok,⟨u,h1,h2,h3,h4,h5⟩=>cases h1;exact hok a j rfl L' t' v h2 h3 h4 h5
  | .error e,_,⟨h1,_⟩=>cases h1
 ·rintro v ⟨L',t'⟩ hk
  match r,herr,hk with
  | .ok (a,j),_,⟨u,h1,_⟩=>cases h1
  | .error e,herr,⟨h1,h2,h3⟩=>cases h1;exact herr e rfl L' t' h2
theorem jBa {r:R Qry}(h:∃x O',jbO env f args ⟨L,ts⟩=some (x,O')/\QX lv en p base L r x O')(herr:∀e,r=.error e->∀L' t',Fr p L L'->Y (flt e) ⟨L',t'⟩)
  (hok:∀Q j,r=.ok (Q,j)->∀L' t' ev wv rv,Fr p L L'->Pc lv en (qC Q ev wv rv) p L' j 0->QL base t' Q ev wv rv->HL env fn rnd n X Qp ks Y m ops ol (upd T d (.tup [])) D ⟨L',t'⟩):HX env fn rnd n X Qp ks Y m ops ol T D d (jbO env f args ⟨L,ts⟩):=by
 refine jaV h ?_ ?_
 ·rintro v ⟨L',t'⟩ hk
  match r,hok,hk with
  | .ok (Q,j),hok,⟨h1,h2,ev,wv,rv,h3,h4⟩=>cases h1;exact hok Q j rfl L' t' ev wv rv h2 h3 h4
  | .error e,_,⟨h1,_⟩=>cases h1
 ·rintro v ⟨L',t'⟩ hk
  match r,herr,hk with
  | .ok (Q,j),_,⟨h1,_⟩=>cases h1
  | .error e,herr,⟨h1,h2⟩=>cases h1;exact herr e rfl L' t' h2
end
end
section
variable {lv:V}{en:Int}{q:List V}{p base:Nat}{l:List Tk}{L:List AObj}{ts:List Nat}{i o j:Nat}
theorem QX.inl {r:R Qry}{v:V}{O:S}(g:QX lv en p base L r (.inl v) O):QX lv en p base L r (.inl (.tup [])) O:=by
 match r,g with
 | .ok (a,j),⟨g1,g2⟩=>exact⟨rfl,g2⟩
 | .error e,⟨g1,_⟩=>cases g1
theorem at89:env.P.funcs[89]? = some Tryz.f89:=by kernel_rfl
theorem jmr(hv:IsK lv l)(hl:l.length<=4000)(hs:jem l){Q:Qry}{ev wv rv:V}(hi:i<=l.length)(hP:Pc lv en (qC Q ev wv rv) p L i 0)(hq:QL base ts Q ev wv rv)(k:Int) :
  ∃x O',jbO env 89 [.ptr p 0,.int .i64 k] ⟨L,ts⟩=some (x,O')/\QX lv en p base L (jdC l en k Q i) x O':=by
 refine ja1 rfl rfl rfl rfl at89 rfl (by simp[Tryz.f89]) (by simp[Tryz.f89]) (jbp ?_)
 have hc:L[p]? = some (pcL lv en (qC Q ev wv rv) i 0):=hP
 unfold jdC
 simp only[Tryz.f89,Up,simprocAttr,Uq,Ke,Ur,jab,al1,Un,zv47,Um,row1,jak,fo29,Ut,hc]
 have hs0:Pc lv en (qC { Q with kind:=k } ev wv rv) p (L.set p (pcL lv en (qC { Q with kind:=k } ev wv rv) i 0)) i 0:=Kl hP.lt
 have hf0:=(Fr.rf p L).tr (Fr.set p L (pcL lv en (qC { Q with kind:=k } ev wv rv) i 0))
 have hq0:QL base ts { Q with kind:=k } ev wv rv:=⟨hq.e,hq.w,hq.r,hq.b⟩
 refine jzd (jn1 (ts:=ts) hv hl (.inl ⟨rfl,rfl⟩) hi hs0) ?_ ?_
 ·intro e he L' t' hF'
  simp only[he];exact⟨rfl,hf0.tr hF'⟩
 intro a1 j1 h1 L1 t1 v1 hF1' hP1 hG1 hE1
 simp only[h1,andThen_ok]
 have hi1:j1<=l.length:=(jtT h1).1
 have hF1:=hf0.tr hF1'
 have hv1:=hG1.cells
 have hc1:L1[p]? = some (pcL lv en (qC { Q with kind:=k } ev wv rv) j1 0):=hP1
 have hg1:∀a:AObj,(L1.set p a)[p]? = some a:=λa=>Kl hP1.lt
 simp only[Up,simprocAttr,Uq,Ke,Ur,jab,al1,Un,zv47,Um,row1,jak,fo29,Ut,hc1,hg1,jxr a1 hv1.2,hv1.1,hv1.2]
 have hs1:Pc lv en (qC { { Q with kind:=k } with expr:=a1 } v1 wv rv) p (L1.set p (pcL lv en (qC { { Q with kind:=k } with expr:=a1 } v1 wv rv) j1 0)) j1 0:=Kl hP1.lt
 have hf1:=hF1.tr (Fr.set p L1 (pcL lv en (qC { { Q with kind:=k } with expr:=a1 } v1 wv rv) j1 0))
 have hq1:QL base t1 { { Q with kind:=k } with expr:=a1 } v1 wv rv:=⟨(hG1.weakbase hq0.b),(hq0.w.ext hE1),hq0.r.ext hE1,Qu hq0.b hE1.1⟩
 refine jdf (jdF hv hl hi1 hs1 t1 jmc) ?_ ?_
 ·intro e he L' hF'
  simp only[he];exact⟨rfl,hf1.tr hF'⟩
 intro a2 j2 h2 L2 hF2' hP2
 simp only[h2,andThen_ok]
 have hi2:j2<=l.length:=jdg h2
 have hF2:=hf1.tr hF2'
 simp only[Up,simprocAttr,Uq,Ke,Ur,jab,al1,Un,zv47,Um,row1,jak,fo29,Ut]
 refine jdf (jtN hv hl hs hi2 hP2 t1) ?_ ?_
 ·intro e he L' hF'
  simp only[he];exact⟨rfl,hF2.tr hF'⟩
 intro a3 j3 h3 L3 hF3' hP3
 simp only[h3,andThen_ok]
 have hi3:j3<=l.length:=jkw h3
 have hF3:=hF2.tr hF3'
 have hc3:L3[p]? = some (pcL lv en (qC { { Q with kind:=k } with expr:=a1 } v1 wv rv) j3 0):=hP3
 have hg3:∀a:AObj,(L3.set p a)[p]? = some a:=λa=>Kl hP3.lt
 simp only[Up,simprocAttr,Uq,Ke,Ur,jab,al1,Un,zv47,Um,row1,jak,fo29,Ut,hc3,hg3]
 have hs3:Pc lv en (qC { { { Q with kind:=k } with expr:=a1 } with lo:=a3 } v1 wv rv) p (L3.set p (pcL lv en (qC { { { Q with kind:=k } with expr:=a1 } with lo:=a3 } v1 wv rv) j3 0)) j3 0:=Kl hP3.lt
 have hf3:=hF3.tr (Fr.set p L3 (pcL lv en (qC { { { Q with kind:=k } with expr:=a1 } with lo:=a3 } v1 wv rv) j3 0))
 have hq3:QL base t1 { { { Q with kind:=k } with expr:=a1 } with lo:=a3 } v1 wv rv:=⟨hq1.e,hq1.w,hq1.r,hq1.b⟩
 refine jdf (jdF hv hl hi3 hs3 t1 wAnd) ?_ ?_
 ·intro e he L' hF'
  simp only[he];exact⟨rfl,hf3.tr hF'⟩
 intro a4 j4 h4 L4 hF4' hP4
 simp only[h4,andThen_ok]
 have hi4:j4<=l.length:=jdg h4
 have hF4:=hf3.tr hF4'
 simp only[Up,simprocAttr,Uq,Ke,Ur,jab,al1,Un,zv47,Um,row1,jak,fo29,Ut]
 refine jdf (jtN hv hl hs hi4 hP4 t1) ?_ ?_
 ·intro e he L' hF'
  simp only[he];exact⟨rfl,hF4.tr hF'⟩
 intro a5 j5 h5 L5 hF5' hP5
 simp only[h5,andThen_ok]
 have hi5:j5<=l.length:=jkw h5
 have hF5:=hF4.tr hF5'
 have hc5:L5[p]? = some (pcL lv en (qC { { { Q with kind:=k } with expr:=a1 } with lo:=a3 } v1 wv rv) j5 0):=hP5
 have hg5:∀a:AObj,(L5.set p a)[p]? = some a:=λa=>Kl hP5.lt
 simp only[Up,simprocAttr,Uq,Ke,Ur,jab,al1,Un,zv47,Um,row1,jak,fo29,Ut,hc5,hg5]
 have hs5:Pc lv en (qC { { { { Q with kind:=k } with expr:=a1 } with lo:=a3 } with hi:=a5 } v1 wv rv) p (L5.set p (pcL lv en (qC { { { { Q with kind:=k } with expr:=a1 } with lo:=a3 } with hi:=a5 } v1 wv rv) j5 0)) j5 0:=Kl hP5.lt
 have hf5:=hF5.tr (Fr.set p L5 (pcL lv en (qC { { { { Q with kind:=k } with expr:=a1 } with lo:=a3 } with hi:=a5 } v1 wv rv) j5 0))
 have hq5:QL base t1 { { { { Q with kind:=k } with expr:=a1 } with lo:=a3 } with hi:=a5 } v1 wv rv:=⟨hq3.e,hq3.w,hq3.r,hq3.b⟩
 exact⟨rfl,hf5,v1,wv,rv,hs5,hq5⟩
theorem jtU {k:Int}{Q Q':Qry}(h:jdC l en k Q i=.ok (Q',j)):j<=l.length:=by
 unfold jdC at h
 match h1:jcV l en .expr i,h with
 | .ok (e,j1),h =>
  simp only[andThen_ok]at h
  match h2:must l en jmc j1,h with
  | .ok (_,j2),h =>
   simp only[andThen_ok]at h
   match h3:intP l en j2,h with
   | .ok (_,j3),h =>
    simp only[andThen_ok]at h
    match h4:must l en wAnd j3,h with
    | .ok (_,j4),h =>
     simp only[andThen_ok]at h
     match h5:intP l en j4,h with
     | .ok (_,j5),h =>
      simp only[andThen_ok,Except.ok.injEq,Kh]at h
      rw[<- h.2];exact jkw h5
     | .error e,h=>cases h
    | .error e,h=>cases h
   | .error e,h=>cases h
  | .error e,h=>cases h
 | .error e,h=>cases h
theorem at51:env.P.funcs[51]? = some Tryz.f51:=by kernel_rfl
theorem jxt(hv:IsK lv l)(hl:l.length<=4000)(hs:jem l){Q:Qry}{ev wv rv:V}(hi:i<=l.length)(hP:Pc lv en (qC Q ev wv rv) p L i 0)(hq:QL base ts Q ev wv rv) :
  ∃x O',jbO env 51 [.ptr p 0] ⟨L,ts⟩=some (x,O')/\QX lv en p base L (jnp l en Q i) x O':=by
 refine ja1 rfl rfl rfl rfl at51 rfl (by simp[Tryz.f51]) (by simp[Tryz.f51]) (jbp ?_)
 unfold jnp
 simp only[Tryz.f51,Up,simprocAttr,Uq,Ke,Ur,jab,al1,Un,zv47,Um,row1,jak,fo29,Ut]
 refine jBa (jmr hv hl hs hi hP hq 4) ?_ ?_
 ·intro e he L' t' hF'
  simp only[he];exact⟨rfl,(Fr.rf p L).tr hF'⟩
 intro a1 j1 h1 L1 t1 ev1 wv1 rv1 hF1' hP1 hq1
 simp only[h1,andThen_ok]
 have hi1:j1<=l.length:=jtU h1
 have hF1:=(Fr.rf p L).tr hF1'
 simp only[Up,simprocAttr,Uq,Ke,Ur,jab,al1,Un,zv47,Um,row1,jak,fo29,Ut]
 refine jdf (jdF hv hl hi1 hP1 t1 wBy) ?_ ?_
 ·intro e he L' hF'
  simp only[he];exact⟨rfl,hF1.tr hF'⟩
 intro a2 j2 h2 L2 hF2' hP2
 simp only[h2,andThen_ok]
 have hi2:j2<=l.length:=jdg h2
 have hF2:=hF1.tr hF2'
 simp only[Up,simprocAttr,Uq,Ke,Ur,jab,al1,Un,zv47,Um,row1,jak,fo29,Ut]
 refine jdf (jkt hv hl hP2 t1) ?_ ?_
 ·intro e he L' hF'
  simp only[he];exact⟨rfl,hF2.tr hF'⟩
 intro a3 j3 h3 L3 hF3' hP3
 simp only[h3,andThen_ok]
 have hi3:j3<=l.length:=jhl h3
 have hF3:=hF2.tr hF3'
 have hc3:L3[p]? = some (pcL lv en (qC a1 ev1 wv1 rv1) j3 0):=hP3
 have hg3:∀a:AObj,(L3.set p a)[p]? = some a:=λa=>Kl hP3.lt
 simp only[Up,simprocAttr,Uq,Ke,Ur,jab,al1,Un,zv47,Um,row1,jak,fo29,Ut,hc3,hg3]
 have hs3:Pc lv en (qC { a1 with column:=a3 } ev1 wv1 rv1) p (L3.set p (pcL lv en (qC { a1 with column:=a3 } ev1 wv1 rv1) j3 0)) j3 0:=Kl hP3.lt
 have hf3:=hF3.tr (Fr.set p L3 (pcL lv en (qC { a1 with column:=a3 } ev1 wv1 rv1) j3 0))
 have hq3:QL base t1 { a1 with column:=a3 } ev1 wv1 rv1:=⟨hq1.e,hq1.w,hq1.r,hq1.b⟩
 exact⟨rfl,hf3,ev1,wv1,rv1,hs3,hq3⟩
theorem at52:env.P.funcs[52]? = some Tryz.f52:=by kernel_rfl
theorem jrv(hv:IsK lv l)(hl:l.length<=4000)(hs:jem l){Q:Qry}{ev wv rv:V}(hi:i<=l.length)(hP:Pc lv en (qC Q ev wv rv) p L i 0)(hq:QL base ts Q ev wv rv) :
  ∃x O',jbO env 52 [.ptr p 0] ⟨L,ts⟩=some (x,O')/\QX lv en p base L (jgg l en Q i) x O':=by
 refine ja1 rfl rfl rfl rfl at52 rfl (by simp[Tryz.f52]) (by simp[Tryz.f52]) (jbp ?_)
 unfold jgg
 simp only[Tryz.f52,Up,simprocAttr,Uq,Ke,Ur,jab,al1,Un,zv47,Um,row1,jak,fo29,Ut]
 refine jdf (jfL hv hl hP ts) ?_ ?_
 ·intro e he L' hF'
  simp only[he];exact⟨rfl,(Fr.rf p L).tr hF'⟩
 intro a1 j1 h1 L1 hF1' hP1
 simp only[h1,andThen_ok]
 have hi1:j1<=l.length:=jiY h1
 have hF1:=(Fr.rf p L).tr hF1'
 have hc1:L1[p]? = some (pcL lv en (qC Q ev wv rv) j1 0):=hP1
 have hg1:∀a:AObj,(L1.set p a)[p]? = some a:=λa=>Kl hP1.lt
 simp only[Up,simprocAttr,Uq,Ke,Ur,jab,al1,Un,zv47,Um,row1,jak,fo29,Ut,hc1,hg1]
 have hs1:Pc lv en (qC { Q with p:=a1 } ev wv rv) p (L1.set p (pcL lv en (qC { Q with p:=a1 } ev wv rv) j1 0)) j1 0:=Kl hP1.lt
 have hf1:=hF1.tr (Fr.set p L1 (pcL lv en (qC { Q with p:=a1 } ev wv rv) j1 0))
 have hq1:QL base ts { Q with p:=a1 } ev wv rv:=⟨hq.e,hq.w,hq.r,hq.b⟩
 refine jdf (jdF hv hl hi1 hs1 ts [47]) ?_ ?_
 ·intro e he L' hF'
  simp only[he];exact⟨rfl,hf1.tr hF'⟩
 intro a2 j2 h2 L2 hF2' hP2
 simp only[h2,andThen_ok]
 have hi2:j2<=l.length:=jdg h2
 have hF2:=hf1.tr hF2'
 simp only[Up,simprocAttr,Uq,Ke,Ur,jab,al1,Un,zv47,Um,row1,jak,fo29,Ut]
 refine jdf (jfL hv hl hP2 ts) ?_ ?_
 ·intro e he L' hF'
  simp only[he];exact⟨rfl,hF2.tr hF'⟩
 intro a3 j3 h3 L3 hF3' hP3
 simp only[h3,andThen_ok]
 have hi3:j3<=l.length:=jiY h3
 have hF3:=hF2.tr hF3'
 have hc3:L3[p]? = some (pcL lv en (qC { Q with p:=a1 } ev wv rv) j3 0):=hP3
 have hg3:∀a:AObj,(L3.set p a)[p]? = some a:=λa=>Kl hP3.lt
 simp only[Up,simprocAttr,Uq,Ke,Ur,jab,al1,Un,zv47,Um,row1,jak,fo29,Ut,hc3,hg3]
 have hs3:Pc lv en (qC { { Q with p:=a1 } with q:=a3 } ev wv rv) p (L3.set p (pcL lv en (qC { { Q with p:=a1 } with q:=a3 } ev wv rv) j3 0)) j3 0:=Kl hP3.lt
 have hf3:=hF3.tr (Fr.set p L3 (pcL lv en (qC { { Q with p:=a1 } with q:=a3 } ev wv rv) j3 0))
 have hq3:QL base ts { { Q with p:=a1 } with q:=a3 } ev wv rv:=⟨hq1.e,hq1.w,hq1.r,hq1.b⟩
 refine jdf (jdF hv hl hi3 hs3 ts wOf) ?_ ?_
 ·intro e he L' hF'
  simp only[he];exact⟨rfl,hf3.tr hF'⟩
 intro a4 j4 h4 L4 hF4' hP4
 simp only[h4,andThen_ok]
 have hi4:j4<=l.length:=jdg h4
 have hF4:=hf3.tr hF4'
 simp only[Up,simprocAttr,Uq,Ke,Ur,jab,al1,Un,zv47,Um,row1,jak,fo29,Ut]
 refine jaV (jmr hv hl hs hi4 hP4 hq3 5) ?_ ?_
 ·rintro v ⟨L',t'⟩ hk
  simp only[Up,simprocAttr,Uq,Ke,Ur,jab,al1,Un,zv47,Um,row1,jak,fo29,Ut]
  exact(hk.tr hF4).inl
 ·rintro v ⟨L',t'⟩ hk
  exact hk.tr hF4
theorem at54:env.P.funcs[54]? = some Tryz.f54:=by kernel_rfl
theorem jxu(hv:IsK lv l)(hl:l.length<=4000)(hs:jem l){Q:Qry}{ev wv rv:V}(hi:i<=l.length)(hP:Pc lv en (qC Q ev wv rv) p L i 0)(hq:QL base ts Q ev wv rv) :
  ∃x O',jbO env 54 [.ptr p 0] ⟨L,ts⟩=some (x,O')/\QX lv en p base L (jnq l en Q i) x O':=by
 refine ja1 rfl rfl rfl rfl at54 rfl (by simp[Tryz.f54]) (by simp[Tryz.f54]) (jbp ?_)
 unfold jnq
 simp only[Tryz.f54,Up,simprocAttr,Uq,Ke,Ur,jab,al1,Un,zv47,Um,row1,jak,fo29,Ut]
 refine jdf (jtN hv hl hs hi hP ts) ?_ ?_
 ·intro e he L' hF'
  simp only[he];exact⟨rfl,(Fr.rf p L).tr hF'⟩
 intro a1 j1 h1 L1 hF1' hP1
 simp only[h1,andThen_ok]
 have hi1:j1<=l.length:=jkw h1
 have hF1:=(Fr.rf p L).tr hF1'
 have hc1:L1[p]? = some (pcL lv en (qC Q ev wv rv) j1 0):=hP1
 have hg1:∀a:AObj,(L1.set p a)[p]? = some a:=λa=>Kl hP1.lt
 simp only[Up,simprocAttr,Uq,Ke,Ur,jab,al1,Un,zv47,Um,row1,jak,fo29,Ut,hc1,hg1]
 have hs1:Pc lv en (qC { Q with bound:=a1 } ev wv rv) p (L1.set p (pcL lv en (qC { Q with bound:=a1 } ev wv rv) j1 0)) j1 0:=Kl hP1.lt
 have hf1:=hF1.tr (Fr.set p L1 (pcL lv en (qC { Q with bound:=a1 } ev wv rv) j1 0))
 have hq1:QL base ts { Q with bound:=a1 } ev wv rv:=⟨hq.e,hq.w,hq.r,hq.b⟩
 refine jaV (jh5 hv hl hs1 hq1 7) ?_ ?_
 ·rintro v ⟨L',t'⟩ hk
  simp only[Up,simprocAttr,Uq,Ke,Ur,jab,al1,Un,zv47,Um,row1,jak,fo29,Ut]
  exact(hk.tr hf1).inl
 ·rintro v ⟨L',t'⟩ hk
  exact hk.tr hf1
theorem at48:env.P.funcs[48]? = some Tryz.f48:=by kernel_rfl
theorem jxv(hv:IsK lv l)(hl:l.length<=4000)(hs:jem l){Q:Qry}{ev wv rv:V}(hi:i<=l.length)(hP:Pc lv en (qC Q ev wv rv) p L i 0)(hq:QL base ts Q ev wv rv) :
  ∃x O',jbO env 48 [.ptr p 0] ⟨L,ts⟩=some (x,O')/\QX lv en p base L (.ok ({ Q with kind:=1 },i)) x O':=by
 refine ja1 rfl rfl rfl rfl at48 rfl (by simp[Tryz.f48]) (by simp[Tryz.f48]) (jbp ?_)
 have hc:L[p]? = some (pcL lv en (qC Q ev wv rv) i 0):=hP
 simp only[Tryz.f48,Up,simprocAttr,Uq,Ke,Ur,jab,al1,Un,zv47,Um,row1,jak,fo29,Ut,hc]
 have hs0:Pc lv en (qC { Q with kind:=1 } ev wv rv) p (L.set p (pcL lv en (qC { Q with kind:=1 } ev wv rv) i 0)) i 0:=Kl hP.lt
 have hf0:=(Fr.rf p L).tr (Fr.set p L (pcL lv en (qC { Q with kind:=1 } ev wv rv) i 0))
 have hq0:QL base ts { Q with kind:=1 } ev wv rv:=⟨hq.e,hq.w,hq.r,hq.b⟩
 exact⟨rfl,hf0,ev,wv,rv,hs0,hq0⟩
theorem at49:env.P.funcs[49]? = some Tryz.f49:=by kernel_rfl
theorem jBb(hv:IsK lv l)(hl:l.length<=4000)(hs:jem l){Q:Qry}{ev wv rv:V}(hi:i<=l.length)(hP:Pc lv en (qC Q ev wv rv) p L i 0)(hq:QL base ts Q ev wv rv) :
  ∃x O',jbO env 49 [.ptr p 0] ⟨L,ts⟩=some (x,O')/\QX lv en p base L (jdC l en 2 Q i) x O':=by
 refine ja1 rfl rfl rfl rfl at49 rfl (by simp[Tryz.f49]) (by simp[Tryz.f49]) (jbp ?_)
 simp only[Tryz.f49,Up,simprocAttr,Uq,Ke,Ur,jab,al1,Un,zv47,Um,row1,jak,fo29,Ut]
 refine jaV (jmr hv hl hs hi hP hq 2) ?_ ?_
 ·rintro v ⟨L',t'⟩ hk
  simp only[Up,simprocAttr,Uq,Ke,Ur,jab,al1,Un,zv47,Um,row1,jak,fo29,Ut]
  exact(hk.tr (Fr.rf p L)).inl
 ·rintro v ⟨L',t'⟩ hk
  exact hk.tr (Fr.rf p L)
theorem at50:env.P.funcs[50]? = some Tryz.f50:=by kernel_rfl
theorem jpq(hv:IsK lv l)(hl:l.length<=4000)(hs:jem l){Q:Qry}{ev wv rv:V}(hi:i<=l.length)(hP:Pc lv en (qC Q ev wv rv) p L i 0)(hq:QL base ts Q ev wv rv) :
  ∃x O',jbO env 50 [.ptr p 0] ⟨L,ts⟩=some (x,O')/\QX lv en p base L (jcb l en 3 Q i) x O':=by
 refine ja1 rfl rfl rfl rfl at50 rfl (by simp[Tryz.f50]) (by simp[Tryz.f50]) (jbp ?_)
 simp only[Tryz.f50,Up,simprocAttr,Uq,Ke,Ur,jab,al1,Un,zv47,Um,row1,jak,fo29,Ut]
 refine jaV (jh5 hv hl hP hq 3) ?_ ?_
 ·rintro v ⟨L',t'⟩ hk
  simp only[Up,simprocAttr,Uq,Ke,Ur,jab,al1,Un,zv47,Um,row1,jak,fo29,Ut]
  exact(hk.tr (Fr.rf p L)).inl
 ·rintro v ⟨L',t'⟩ hk
  exact hk.tr (Fr.rf p L)
theorem at53:env.P.funcs[53]? = some Tryz.f53:=by kernel_rfl
theorem jze(hv:IsK lv l)(hl:l.length<=4000)(hs:jem l){Q:Qry}{ev wv rv:V}(hi:i<=l.length)(hP:Pc lv en (qC Q ev wv rv) p L i 0)(hq:QL base ts Q ev wv rv) :
  ∃x O',jbO env 53 [.ptr p 0] ⟨L,ts⟩=some (x,O')/\QX lv en p base L (jcb l en 6 Q i) x O':=by
 refine ja1 rfl rfl rfl rfl at53 rfl (by simp[Tryz.f53]) (by simp[Tryz.f53]) (jbp ?_)
 simp only[Tryz.f53,Up,simprocAttr,Uq,Ke,Ur,jab,al1,Un,zv47,Um,row1,jak,fo29,Ut]
 refine jaV (jh5 hv hl hP hq 6) ?_ ?_
 ·rintro v ⟨L',t'⟩ hk
  simp only[Up,simprocAttr,Uq,Ke,Ur,jab,al1,Un,zv47,Um,row1,jak,fo29,Ut]
  exact(hk.tr (Fr.rf p L)).inl
 ·rintro v ⟨L',t'⟩ hk
  exact hk.tr (Fr.rf p L)
theorem at55:env.P.funcs[55]? = some Tryz.f55:=by kernel_rfl
theorem jzf(hv:IsK lv l)(hl:l.length<=4000)(hs:jem l){Q:Qry}{ev wv rv:V}(hi:i<=l.length)(hP:Pc lv en (qC Q ev wv rv) p L i 0)(hq:QL base ts Q ev wv rv) :
  ∃x O',jbO env 55 [.ptr p 0] ⟨L,ts⟩=some (x,O')/\QX lv en p base L (jcb l en 8 Q i) x O':=by
 refine ja1 rfl rfl rfl rfl at55 rfl (by simp[Tryz.f55]) (by simp[Tryz.f55]) (jbp ?_)
 simp only[Tryz.f55,Up,simprocAttr,Uq,Ke,Ur,jab,al1,Un,zv47,Um,row1,jak,fo29,Ut]
 refine jaV (jh5 hv hl hP hq 8) ?_ ?_
 ·rintro v ⟨L',t'⟩ hk
  simp only[Up,simprocAttr,Uq,Ke,Ur,jab,al1,Un,zv47,Um,row1,jak,fo29,Ut]
  exact(hk.tr (Fr.rf p L)).inl
 ·rintro v ⟨L',t'⟩ hk
  exact hk.tr (Fr.rf p L)
theorem at56:env.P.funcs[56]? = some Tryz.f56:=by kernel_rfl
theorem jtV(hv:IsK lv l)(hl:l.length<=4000)(hs:jem l){Q:Qry}{ev wv rv:V}(hi:i<=l.length)(hP:Pc lv en (qC Q ev wv rv) p L i 0)(hq:QL base ts Q ev wv rv) :
  ∃x O',jbO env 56 [.ptr p 0] ⟨L,ts⟩=some (x,O')/\QX lv en p base L (jcb l en 9 Q i) x O':=by
 refine ja1 rfl rfl rfl rfl at56 rfl (by simp[Tryz.f56]) (by simp[Tryz.f56]) (jbp ?_)
 simp only[Tryz.f56,Up,simprocAttr,Uq,Ke,Ur,jab,al1,Un,zv47,Um,row1,jak,fo29,Ut]
 refine jaV (jh5 hv hl hP hq 9) ?_ ?_
 ·rintro v ⟨L',t'⟩ hk
  simp only[Up,simprocAttr,Uq,Ke,Ur,jab,al1,Un,zv47,Um,row1,jak,fo29,Ut]
  exact(hk.tr (Fr.rf p L)).inl
 ·rintro v ⟨L',t'⟩ hk
  exact hk.tr (Fr.rf p L)
end
def hdC:Code->Code
 | .seq a _=>a
 |c=>c
abbrev QE(K:Sum V V->S->Prop):Post:=⟨wpR env [] λv O'=>K (.inl v) O',λ_ _ _ _=>False,wpR env [] λv O'=>K (.inl v) O'⟩
theorem at27:env.P.funcs[27]? = some Tryz.f27:=by kernel_rfl
section
variable {lv:V}{en:Int}{q:List V}{p base:Nat}{l:List Tk}{L0 L:List AObj}{ts:List Nat}{i o j:Nat}
theorem jzg(hv:IsK lv l)(hl:l.length<=4000){Q:Qry}{ev wv rv:V}(hi:i<=l.length)(hF:Fr p L0 L)(hP:Pc lv en (qC Q ev wv rv) p L i 0)(hq:QL base ts Q ev wv rv){T:Tm}(t0:T 0=.ptr p 0) :
  H env 27 none 60 (λv D O'=>D=[]/\QX lv en p base L0 (jhS l en Q i) (.inr v) O') (QE (QX lv en p base L0 (jhS l en Q i))) [.code (jbq 5 (jay Tryz.f27))] (regZ 12 (jay Tryz.f27)) T [] ⟨L,ts⟩:=by
 simp only[regZ,regA,jbq,jay,Tryz.f27,Kv,simprocAttr,Option.or,Up,Uq,Ke,Ur,jab,al1,Un,zv47,Um,row1,jak,t0]
 refine jcq (jfK hv hl hi hP ts jsZ) ?_
 rintro _ ⟨L1,ts⟩ ⟨rfl,hF1',hP1,rfl⟩
 have hF1:=hF.tr hF1'
 simp only at hF1 hP1
 unfold jhS
 cases hs:sees l jsZ i
 ·rw[hs]at hP1
  simp only[Kn,Kr]at hP1
  simp only[Up,simprocAttr,Uq,Ke,Ur,jab,al1,Un,zv47,Um,row1,jak]
  exact⟨rfl,hF1,ev,wv,rv,hP1,hq⟩
 ·rw[hs]at hP1
  simp only[Ku]at hP1
  have hi1:=jcg hs
  simp only[Up,simprocAttr,Uq,Ke,Ur,jab,al1,Un,zv47,Um,row1,jak,t0,YP]
  refine jzd (jn1 (ts:=ts) hv hl (.inr ⟨rfl,rfl⟩) hi1 hP1) ?_ ?_
  ·intro e he L' t' hF'
   simp only[he];exact⟨rfl,hF1.tr hF'⟩
  intro a2 j2 h2 L2 t2 v2 hF2' hP2 hG2 hE2
  simp only[h2,andThen_ok]
  have hi2:j2<=l.length:=(jtT h2).1
  have hF2:=hF1.tr hF2'
  have hv2:=hG2.cells
  have hc2:L2[p]? = some (pcL lv en (qC Q ev wv rv) j2 0):=hP2
  have hg2:∀a:AObj,(L2.set p a)[p]? = some a:=λa=>Kl hP2.lt
  simp only[Up,simprocAttr,Uq,Ke,Ur,jab,al1,Un,zv47,Um,row1,jak,fo29,Ut,hc2,hg2,jxs a2 hv2.2,hv2.1,hv2.2]
  have hs2:Pc lv en (qC { Q with wher:=a2 } ev v2 rv) p (L2.set p (pcL lv en (qC { Q with wher:=a2 } ev v2 rv) j2 0)) j2 0:=Kl hP2.lt
  have hf2:=hF2.tr (Fr.set p L2 (pcL lv en (qC { Q with wher:=a2 } ev v2 rv) j2 0))
  have hq2:QL base t2 { Q with wher:=a2 } ev v2 rv:=⟨(hq.e.ext hE2),(hG2.weakbase hq.b),hq.r.ext hE2,Qu hq.b hE2.1⟩
  exact⟨rfl,hf2,ev,v2,rv,hs2,hq2⟩
theorem src4(hv:IsK lv l)(hl:l.length<=4000){Q:Qry}{ev wv rv:V}(hi:i<=l.length)(hF:Fr p L0 L)(hP:Pc lv en (qC Q ev wv rv) p L i 0)(hq:QL base ts Q ev wv rv){T:Tm}(t0:T 0=.ptr p 0) :
  H env 27 none 60 (λv D O'=>D=[]/\QX lv en p base L0 (andThen (jnr l en Q i) λq j=>jhS l en q j) (.inr v) O') (QE (QX lv en p base L0 (andThen (jnr l en Q i) λq j=>jhS l en q j))) [.code (jbq 1 (hdC (jbq 3 (jay Tryz.f27)))),.code (jbq 4 (jay Tryz.f27))] (regZ 4 (jay Tryz.f27)) T [] ⟨L,ts⟩:=by
 simp only[regZ,regA,jbq,hdC,jay,Tryz.f27,Kv,simprocAttr,Option.or,Kc,jce 12,jaw,Kb,Uq,Ke,Ur,jab,al1,Un,zv47,Um,row1,jak,t0]
 refine jcq (jfK hv hl hi hP ts jwN) ?_
 rintro _ ⟨L1,ts⟩ ⟨rfl,hF1',hP1,rfl⟩
 have hF1:=hF.tr hF1'
 simp only at hF1 hP1
 unfold jnr
 cases hs:sees l jwN i
 ·rw[hs]at hP1
  simp only[Kn,Kr]at hP1
  simp only[Kc,jce 12,jaw,Kb,simprocAttr,Uq,Ke,Ur,jab,al1,Un,zv47,Um,row1,jak,andThen_ok]
  exact jzg hv hl hi hF1 hP1 hq t0
 ·rw[hs]at hP1
  simp only[Ku]at hP1
  have hi1:=jcg hs
  simp only[Kc,jce 12,jaw,Kb,simprocAttr,Uq,Ke,Ur,jab,al1,Un,zv47,Um,row1,jak,t0]
  refine jdf (jkt hv hl hP1 ts) ?_ ?_
  ·intro e he L' hF'
   simp only[he];exact⟨rfl,hF1.tr hF'⟩
  intro a2 j2 h2 L2 hF2' hP2
  simp only[h2,andThen_ok]
  have hi2:j2<=l.length:=jhl h2
  have hF2:=hF1.tr hF2'
  have hc2:L2[p]? = some (pcL lv en (qC Q ev wv rv) j2 0):=hP2
  have hg2:∀a:AObj,(L2.set p a)[p]? = some a:=λa=>Kl hP2.lt
  simp only[t0,Kc,jce 12,jaw,Kb,simprocAttr,Uq,Ke,Ur,jab,al1,Un,zv47,Um,row1,jak,fo29,Ut,hc2,hg2]
  have hs2:Pc lv en (qC { Q with other:=a2 } ev wv rv) p (L2.set p (pcL lv en (qC { Q with other:=a2 } ev wv rv) j2 0)) j2 0:=Kl hP2.lt
  have hf2:=hF2.tr (Fr.set p L2 (pcL lv en (qC { Q with other:=a2 } ev wv rv) j2 0))
  have hq2:QL base ts { Q with other:=a2 } ev wv rv:=⟨hq.e,hq.w,hq.r,hq.b⟩
  refine jdf (jdF hv hl hi2 hs2 ts wOn) ?_ ?_
  ·intro e he L' hF'
   simp only[he];exact⟨rfl,hf2.tr hF'⟩
  intro a3 j3 h3 L3 hF3' hP3
  simp only[h3,andThen_ok]
  have hi3:j3<=l.length:=jdg h3
  have hF3:=hf2.tr hF3'
  simp only[t0,Kc,jce 12,jaw,Kb,simprocAttr,Uq,Ke,Ur,jab,al1,Un,zv47,Um,row1,jak,fo29,Ut]
  refine jdf (jkt hv hl hP3 ts) ?_ ?_
  ·intro e he L' hF'
   simp only[he];exact⟨rfl,hF3.tr hF'⟩
  intro a4 j4 h4 L4 hF4' hP4
  simp only[h4,andThen_ok]
  have hi4:j4<=l.length:=jhl h4
  have hF4:=hF3.tr hF4'
  have hc4:L4[p]? = some (pcL lv en (qC { Q with other:=a2 } ev wv rv) j4 0):=hP4
  have hg4:∀a:AObj,(L4.set p a)[p]? = some a:=λa=>Kl hP4.lt
  simp only[t0,Kc,jce 12,jaw,Kb,simprocAttr,Uq,Ke,Ur,jab,al1,Un,zv47,Um,row1,jak,fo29,Ut,hc4,hg4]
  have hs4:Pc lv en (qC { { Q with other:=a2 } with left:=a4 } ev wv rv) p (L4.set p (pcL lv en (qC { { Q with other:=a2 } with left:=a4 } ev wv rv) j4 0)) j4 0:=Kl hP4.lt
  have hf4:=hF4.tr (Fr.set p L4 (pcL lv en (qC { { Q with other:=a2 } with left:=a4 } ev wv rv) j4 0))
  have hq4:QL base ts { { Q with other:=a2 } with left:=a4 } ev wv rv:=⟨hq2.e,hq2.w,hq2.r,hq2.b⟩
  refine jdf (jdF hv hl hi4 hs4 ts [61]) ?_ ?_
  ·intro e he L' hF'
   simp only[he];exact⟨rfl,hf4.tr hF'⟩
  intro a5 j5 h5 L5 hF5' hP5
  simp only[h5,andThen_ok]
  have hi5:j5<=l.length:=jdg h5
  have hF5:=hf4.tr hF5'
  simp only[t0,Kc,jce 12,jaw,Kb,simprocAttr,Uq,Ke,Ur,jab,al1,Un,zv47,Um,row1,jak,fo29,Ut]
  refine jdf (jkt hv hl hP5 ts) ?_ ?_
  ·intro e he L' hF'
   simp only[he];exact⟨rfl,hF5.tr hF'⟩
  intro a6 j6 h6 L6 hF6' hP6
  simp only[h6,andThen_ok]
  have hi6:j6<=l.length:=jhl h6
  have hF6:=hF5.tr hF6'
  have hc6:L6[p]? = some (pcL lv en (qC { { Q with other:=a2 } with left:=a4 } ev wv rv) j6 0):=hP6
  have hg6:∀a:AObj,(L6.set p a)[p]? = some a:=λa=>Kl hP6.lt
  simp only[t0,Kc,jce 12,jaw,Kb,simprocAttr,Uq,Ke,Ur,jab,al1,Un,zv47,Um,row1,jak,fo29,Ut,hc6,hg6]
  have hs6:Pc lv en (qC { { { Q with other:=a2 } with left:=a4 } with right:=a6 } ev wv rv) p (L6.set p (pcL lv en (qC { { { Q with other:=a2 } with left:=a4 } with right:=a6 } ev wv rv) j6 0)) j6 0:=Kl hP6.lt
  have hf6:=hF6.tr (Fr.set p L6 (pcL lv en (qC { { { Q with other:=a2 } with left:=a4 } with right:=a6 } ev wv rv) j6 0))
  have hq6:QL base ts { { { Q with other:=a2 } with left:=a4 } with right:=a6 } ev wv rv:=⟨hq4.e,hq4.w,hq4.r,hq4.b⟩
  refine jdf (jdF hv hl hi6 hs6 ts jv5) ?_ ?_
  ·intro e he L' hF'
   simp only[he];exact⟨rfl,hf6.tr hF'⟩
  intro a7 j7 h7 L7 hF7' hP7
  simp only[h7,andThen_ok]
  have hi7:j7<=l.length:=jdg h7
  have hF7:=hf6.tr hF7'
  simp only[t0,Kc,jce 12,jaw,Kb,simprocAttr,Uq,Ke,Ur,jab,al1,Un,zv47,Um,row1,jak,fo29,Ut]
  refine jdf (jiB hv hl hP7 ts) ?_ ?_
  ·intro e he L' hF'
   simp only[he];exact⟨rfl,hF7.tr hF'⟩
  intro a8 j8 h8 L8 hF8' hP8
  simp only[h8,andThen_ok]
  have hi8:j8<=l.length:=jqH h8
  have hF8:=hF7.tr hF8'
  have hc8:L8[p]? = some (pcL lv en (qC { { { Q with other:=a2 } with left:=a4 } with right:=a6 } ev wv rv) j8 0):=hP8
  have hg8:∀a:AObj,(L8.set p a)[p]? = some a:=λa=>Kl hP8.lt
  simp only[t0,Kc,jce 12,jaw,Kb,simprocAttr,Uq,Ke,Ur,jab,al1,Un,zv47,Um,row1,jak,fo29,Ut,hc8,hg8]
  have hs8:Pc lv en (qC { { { { Q with other:=a2 } with left:=a4 } with right:=a6 } with limit:=a8 } ev wv rv) p (L8.set p (pcL lv en (qC { { { { Q with other:=a2 } with left:=a4 } with right:=a6 } with limit:=a8 } ev wv rv) j8 0)) j8 0:=Kl hP8.lt
  have hf8:=hF8.tr (Fr.set p L8 (pcL lv en (qC { { { { Q with other:=a2 } with left:=a4 } with right:=a6 } with limit:=a8 } ev wv rv) j8 0))
  have hq8:QL base ts { { { { Q with other:=a2 } with left:=a4 } with right:=a6 } with limit:=a8 } ev wv rv:=⟨hq6.e,hq6.w,hq6.r,hq6.b⟩
  exact jzg hv hl hi8 hf8 hs8 hq8 t0
theorem jvo(hv:IsK lv l)(hl:l.length<=4000){Q:Qry}{ev wv rv:V}(hi:i<=l.length)(hP:Pc lv en (qC Q ev wv rv) p L i 0)(hq:QL base ts Q ev wv rv) :
  ∃x O',jbO env 27 [.ptr p 0] ⟨L,ts⟩=some (x,O')/\QX lv en p base L (jcs l en Q i) x O':=by
 refine ja1 rfl rfl rfl rfl at27 rfl (by simp[Tryz.f27]) (by simp[Tryz.f27]) (jbp ?_)
 unfold jcs
 simp only[Tryz.f27,Kc,jce 4,jaw,Kb,simprocAttr,Uq,Ke,Ur,jab,al1,Un,zv47,Um,row1,jak]
 refine jdf (jdF hv hl hi hP ts jya) ?_ ?_
 ·intro e he L' hF'
  simp only[he];exact⟨rfl,(Fr.rf p L).tr hF'⟩
 intro a1 j1 h1 L1 hF1' hP1
 simp only[h1,andThen_ok]
 have hi1:j1<=l.length:=jdg h1
 have hF1:=(Fr.rf p L).tr hF1'
 simp only[Kc,jce 4,jaw,Kb,simprocAttr,Uq,Ke,Ur,jab,al1,Un,zv47,Um,row1,jak,fo29,Ut]
 refine jdf (jkt hv hl hP1 ts) ?_ ?_
 ·intro e he L' hF'
  simp only[he];exact⟨rfl,hF1.tr hF'⟩
 intro a2 j2 h2 L2 hF2' hP2
 simp only[h2,andThen_ok]
 have hi2:j2<=l.length:=jhl h2
 have hF2:=hF1.tr hF2'
 have hc2:L2[p]? = some (pcL lv en (qC Q ev wv rv) j2 0):=hP2
 have hg2:∀a:AObj,(L2.set p a)[p]? = some a:=λa=>Kl hP2.lt
 simp only[Kc,jce 4,jaw,Kb,simprocAttr,Uq,Ke,Ur,jab,al1,Un,zv47,Um,row1,jak,fo29,Ut,hc2,hg2]
 have hs2:Pc lv en (qC { Q with table:=a2 } ev wv rv) p (L2.set p (pcL lv en (qC { Q with table:=a2 } ev wv rv) j2 0)) j2 0:=Kl hP2.lt
 have hf2:=hF2.tr (Fr.set p L2 (pcL lv en (qC { Q with table:=a2 } ev wv rv) j2 0))
 have hq2:QL base ts { Q with table:=a2 } ev wv rv:=⟨hq.e,hq.w,hq.r,hq.b⟩
 refine jcq (jfK hv hl hi2 hs2 ts jwM) ?_
 rintro _ ⟨L9,ts⟩ ⟨rfl,hF9',hP9,rfl⟩
 have hF9:=hf2.tr hF9'
 simp only at hF9 hP9
 unfold jq9
 cases hs9:sees l jwM j2
 ·rw[hs9]at hP9
  simp only[Kn,Kr]at hP9
  simp only[Kc,jce 4,jaw,Kb,simprocAttr,Uq,Ke,Ur,jab,al1,Un,zv47,Um,row1,jak,andThen_ok]
  exact src4 hv hl hi2 hF9 hP9 hq2 rfl
 ·rw[hs9]at hP9
  simp only[Ku]at hP9
  have hi9:=jcg hs9
  simp only[Kc,jce 4,jaw,Kb,simprocAttr,Uq,Ke,Ur,jab,al1,Un,zv47,Um,row1,jak]
  refine jdf (jiB hv hl hP9 ts) ?_ ?_
  ·intro e he L' hF'
   simp only[he];exact⟨rfl,hF9.tr hF'⟩
  intro a10 j10 h10 L10 hF10' hP10
  simp only[h10,andThen_ok]
  have hi10:j10<=l.length:=jqH h10
  have hF10:=hF9.tr hF10'
  have hc10:L10[p]? = some (pcL lv en (qC { Q with table:=a2 } ev wv rv) j10 0):=hP10
  have hg10:∀a:AObj,(L10.set p a)[p]? = some a:=λa=>Kl hP10.lt
  simp only[Kc,jce 4,jaw,Kb,simprocAttr,Uq,Ke,Ur,jab,al1,Un,zv47,Um,row1,jak,fo29,Ut,hc10,hg10]
  have hs10:Pc lv en (qC { { Q with table:=a2 } with keep:=a10 } ev wv rv) p (L10.set p (pcL lv en (qC { { Q with table:=a2 } with keep:=a10 } ev wv rv) j10 0)) j10 0:=Kl hP10.lt
  have hf10:=hF10.tr (Fr.set p L10 (pcL lv en (qC { { Q with table:=a2 } with keep:=a10 } ev wv rv) j10 0))
  have hq10:QL base ts { { Q with table:=a2 } with keep:=a10 } ev wv rv:=⟨hq2.e,hq2.w,hq2.r,hq2.b⟩
  exact src4 hv hl hi10 hf10 hs10 hq10 rfl
end
theorem at28:env.P.funcs[28]? = some Tryz.f28:=by kernel_rfl
theorem at64:env.P.funcs[64]? = some Tryz.f64:=by kernel_rfl
def ItOK(itoa:Int->List UInt8):Prop:=∀n:Int,0<=n->n<=1000000000->∀O,jar env (ev env) 65 [.int .i64 n] O=some (.str (itoa n),O)
def MkOK(l:List Tk)(en:Int)(itoa:Int->List UInt8)(mk me:Int->Int->List UInt8):Prop:=∀(j:Nat) (n d:Int) (k:Nat),sees l [47] j=true->numP l en (j+1)=.ok (d,k)->d ≠ 0->0<=n->n<=1000000000->0<=d->d<=1000000000->∃e:Int,∀O,jar env (ev env) 67 [.str (itoa n),.str (itoa d)] O=some (.tup [.str (mk n d),.int .i64 e],O)
theorem jms {itoa:Int->List UInt8}(hI:ItOK itoa)(n:Int)(h0:0<=n)(h1:n<=1000000000)(L:List AObj)(ts:List Nat):jar env (ev env) 64 [.int .i64 n] ⟨L,ts⟩=some (.str (itoa n),⟨L,ts⟩):=by
 refine jbk rfl rfl at64 rfl (by simp[Tryz.f64]) (by simp[Tryz.f64]) (jaq ?_)
 simp only[Tryz.f64,Ka,simprocAttr,Uq,Ke,Vq,hI n h0 h1]
 exact⟨rfl,trivial⟩
theorem u27:env.P.underlying 27=some .string:=by kernel_rfl
theorem s27:sz env 27=some 1:=by kernel_rfl
theorem al27(h:List AObj)(p:V):jbi env h 27 p=(jai h 1 p).bind (·[0]?):=ja0 (by kernel_rfl)
section
variable {lv:V}{en:Int}{q:List V}{p base:Nat}{l:List Tk}{L0 L:List AObj}{ts:List Nat}{i o j:Nat}{itoa:Int->List UInt8}{mk:Int->Int->List UInt8}
def endP(l:List Tk)(en:Int)(Q:Qry)(i:Nat):R Qry :=
 if(if Q.kind=3/\sees l jdc i=true then i+1 else i)<l.length then syn l en (if Q.kind=3/\sees l jdc i=true then i+1 else i)
 else .ok ({ Q with consistent:=if Q.kind=3/\sees l jdc i=true then true else Q.consistent },if Q.kind=3/\sees l jdc i=true then i+1 else i)
theorem jxw(hv:IsK lv l)(hl:l.length<=4000){Q:Qry}{ev wv rv:V}(hi:i<=l.length)(hF:Fr p L0 L)(hP:Pc lv en (qC Q ev wv rv) p L i 0)(hq:QL base ts Q ev wv rv){T:Tm}(t0:T 0=.ptr p 0){r:R Qry}(hr:r=if i<l.length then syn l en i else .ok (Q,i)) :
  H env 28 none 76 (λv D O'=>D=[]/\QX lv en p base L0 r (.inr v) O') (QE (QX lv en p base L0 r)) [] (jbq 1 (jbq 7 (jay Tryz.f28))) T [] ⟨L,ts⟩:=by
 subst hr
 have hc:L[p]? = some (pcL lv en (qC Q ev wv rv) i 0):=hP
 have hlen:=jvh hv 47
 have ha:=jcx (jeC hv hl hP ts)
 by_cases h:i<l.length
 ·rw[Kk h]
  have h2:=eq_true (show(i:Int)<(l.length:Int) by omega)
  simp only[jbq,jay,Tryz.f28,Kv,Up,simprocAttr,Uq,Ke,Ur,jab,al1,Un,zv47,Um,row1,jak,t0,hc,ld_q,hlen,h2,ha]
  refine⟨by kernel_rfl,jaV (jgn _ _ _) ?_ ?_⟩
  ·rintro v O' ⟨h,_⟩;cases h
  ·rintro v O' ⟨h,rfl⟩;cases h;exact⟨rfl,hF⟩
 ·rw[Km h]
  have h2:=eq_false (show ¬(i:Int)<(l.length:Int) by omega)
  simp only[jbq,jay,Tryz.f28,Kv,Up,simprocAttr,Uq,Ke,Ur,jab,al1,Un,zv47,Um,row1,jak,t0,hc,ld_q,hlen,h2]
  exact⟨by kernel_rfl,rfl,hF,ev,wv,rv,hP,hq⟩
theorem jBc(hv:IsK lv l)(hl:l.length<=4000){Q:Qry}{ev wv rv:V}(hi:i<=l.length)(hF:Fr p L0 L)(hP:Pc lv en (qC Q ev wv rv) p L i 0)(hq:QL base ts Q ev wv rv){T:Tm}(t0:T 0=.ptr p 0)(hcon:Q.consistent=false) :
  H env 28 none 76 (λv D O'=>D=[]/\QX lv en p base L0 (endP l en Q i) (.inr v) O') (QE (QX lv en p base L0 (endP l en Q i))) [.code (jbq 1 (hdC (jbq 7 (jay Tryz.f28)))),.code (jbq 1 (jbq 7 (jay Tryz.f28)))] (regZ 12 (jay Tryz.f28)) T [] ⟨L,ts⟩:=by
 have hc:L[p]? = some (pcL lv en (qC Q ev wv rv) i 0):=hP
 by_cases hk:Q.kind=3
 ·have hk2:=eq_true hk
  simp only[regZ,regA,jbq,hdC,jay,Tryz.f28,Kv,simprocAttr,Option.or,Kc,jaj,Kb,Uq,Ke,Ur,jab,al1,Un,zv47,Um,row1,jak,fo29,t0,hc,ld_q,hk2]
  refine jcq (jfK hv hl hi hP ts jdc) ?_
  rintro _ ⟨L1,ts⟩ ⟨rfl,hF1',hP1,rfl⟩
  have hF1:=hF.tr hF1'
  simp only at hF1 hP1
  have hc1:∀j,L1[p]? = some (pcL lv en (qC Q ev wv rv) j 0)->∀b:Bool,storeAt ⟨L1,ts⟩ [.bool b] p 14 (some (pcL lv en (qC Q ev wv rv) j 0))=some ⟨L1.set p (pcL lv en (qC { Q with consistent:=b } ev wv rv) j 0),ts⟩:=λj _ b=>rfl
  cases hs:sees l jdc i
  ·rw[hs]at hP1
   simp only[Kn,Kr]at hP1
   have hc1:L1[p]? = some (pcL lv en (qC Q ev wv rv) i 0):=hP1
   simp only[Kc,jaj,Kb,simprocAttr,Uq,Ke,Ur,jab,al1,Un,zv47,Um,row1,jak,fo29,t0,hc1,Uo]
   refine jxw (Q:={ Q with consistent:=false }) hv hl hi (hF1.tr (Fr.set p L1 _)) (Kl hP1.lt) ⟨hq.e,hq.w,hq.r,hq.b⟩ t0 ?_
   unfold endP
   rw[hs]
   simp only[Kn,and_false,Kr,hcon]
  ·rw[hs]at hP1
   simp only[Ku]at hP1
   have hc1:L1[p]? = some (pcL lv en (qC Q ev wv rv) ((i+1:Nat)) 0):=hP1
   simp only[Kc,jaj,Kb,simprocAttr,Uq,Ke,Ur,jab,al1,Un,zv47,Um,row1,jak,fo29,t0,hc1,Uo]
   refine jxw (Q:={ Q with consistent:=true }) hv hl (jcg hs) (hF1.tr (Fr.set p L1 _)) (Kl hP1.lt) ⟨hq.e,hq.w,hq.r,hq.b⟩ t0 ?_
   unfold endP
   rw[hs]
   simp only[hk,and_self,Ku]
 ·have hk2:=eq_false hk
  simp only[regZ,regA,jbq,hdC,jay,Tryz.f28,Kv,simprocAttr,Option.or,Kc,jaj,Kb,Uq,Ke,Ur,jab,al1,Un,zv47,Um,row1,jak,fo29,t0,hc,ld_q,hk2]
  refine jxw (Q:=Q) hv hl hi hF hP hq t0 ?_
  unfold endP
  simp only[hk,false_and,Kr]
theorem jzh(hv:IsK lv l)(hl:l.length<=4000){Q:Qry}{ev wv rv:V}(hi:i<=l.length)(hF:Fr p L0 L)(hP:Pc lv en (qC Q ev wv rv) p L i 0)(hq:QL base ts Q ev wv rv){T:Tm}(t0:T 0=.ptr p 0)(hcon:Q.consistent=false){r:R Qry}
  (hr:r=andThen (must l en juu i) λ_ j=>andThen (posP l en j) λb j=>endP l en { Q with bits:=b } j) :
  H env 28 none 76 (λv D O'=>D=[]/\QX lv en p base L0 r (.inr v) O') (QE (QX lv en p base L0 r)) [.code (jbq 6 (jay Tryz.f28))] (regZ 10 (jay Tryz.f28)) T [] ⟨L,ts⟩:=by
 subst hr
 simp only[regZ,regA,jbq,hdC,jay,Tryz.f28,Kv,simprocAttr,Option.or,Kc,jce 12,jaw,Kb,Uq,Ke,Ur,jab,al1,Un,zv47,Um,row1,jak,t0]
 refine jdf (jdF hv hl hi hP ts juu) ?_ ?_
 ·intro e he L' hF'
  simp only[he];exact⟨rfl,hF.tr hF'⟩
 intro a1 j1 h1 L1 hF1' hP1
 simp only[h1,andThen_ok]
 have hi1:j1<=l.length:=jdg h1
 have hF1:=hF.tr hF1'
 simp only[t0,Kc,jce 12,jaw,Kb,simprocAttr,Uq,Ke,Ur,jab,al1,Un,zv47,Um,row1,jak,fo29,Ut]
 refine jdf (jiB hv hl hP1 ts) ?_ ?_
 ·intro e he L' hF'
  simp only[he];exact⟨rfl,hF1.tr hF'⟩
 intro a2 j2 h2 L2 hF2' hP2
 simp only[h2,andThen_ok]
 have hi2:j2<=l.length:=jqH h2
 have hF2:=hF1.tr hF2'
 have hc2:L2[p]? = some (pcL lv en (qC Q ev wv rv) j2 0):=hP2
 have hg2:∀a:AObj,(L2.set p a)[p]? = some a:=λa=>Kl hP2.lt
 simp only[t0,Kc,jce 12,jaw,Kb,simprocAttr,Uq,Ke,Ur,jab,al1,Un,zv47,Um,row1,jak,fo29,Ut,hc2,hg2]
 have hs2:Pc lv en (qC { Q with bits:=a2 } ev wv rv) p (L2.set p (pcL lv en (qC { Q with bits:=a2 } ev wv rv) j2 0)) j2 0:=Kl hP2.lt
 have hf2:=hF2.tr (Fr.set p L2 (pcL lv en (qC { Q with bits:=a2 } ev wv rv) j2 0))
 have hq2:QL base ts { Q with bits:=a2 } ev wv rv:=⟨hq.e,hq.w,hq.r,hq.b⟩
 exact jBc hv hl hi2 hf2 hs2 hq2 t0 hcon
theorem sc67(a:Array Operand)(b:Array TypeId):scOp env (.call ⟨.value (.func 67),a,b⟩)=false:=rfl
def jzi(l:List Tk)(en:Int)(Q:Qry)(f:List UInt8)(i:Nat):R Qry:=andThen (must l en juu i) λ_ j=>andThen (posP l en j) λb j=>endP l en { Q with factor:=f,bits:=b } j
theorem wth9 {X:V->List DE->S->Prop}{Qp:Post}{ks:List Kt}{D:List DE}(hI:ItOK itoa){Q:Qry}{ev wv rv:V}{n d e:Int}{f:List UInt8}(hd0:0<=d)(hd1:d<=1000000000)(hmk:∀O,jar env (Go.Ab.ev env) 67 [.str (itoa n),.str (itoa d)] O=some (.tup [.str f,.int .i64 e],O)){T:Tm}{k:Nat}(t0:T 0=.ptr p 0)(t2:T 2=.func 64 [] [])(t4:T 4=.int .i64 d)
  (hc2:L[p]? = some (pcL lv en (qC { Q with factor:=itoa n } ev wv rv) k 0))
  (h:∀T',T' 0=T 0->H env 28 none 76 X Qp ks .skip T' D ⟨L.set p (pcL lv en (qC { Q with factor:=f } ev wv rv) k 0),ts⟩):H env 28 none 76 X Qp ks (regB 9 (jay Tryz.f28)) T D ⟨L,ts⟩:=by
 have hit:=jms hI d hd0 hd1 L ts
 refine jjY rfl (jq7 ?_)
 refine jsz rfl [(false,[]),(false,[]),(false,[]),(false,[]),(false,[]),(false,[1]),(false,[]),(false,[]),(true,[]),(false,[]),(false,[]),(false,[]),(false,[]),(false,[]),(false,[]),(false,[]),(true,[])] (λm s0=>m<=1->s0.heap[p]? = some (pcL lv en (qC { Q with factor:=itoa n } ev wv rv) k 0)) (λ_=>hc2) (by kernel_rfl) (by kernel_rfl) ?_
 simp only[regB,regO,jay,Tryz.f28,Kv,Ka,simprocAttr,Uq,Ke,Ur,jab,al1,Un,zv47,Um,row1,jak,hhWa,hhWb,hhWc,hhWd,jhH,jl6,jl7,jhI,jl8,jhJ,jl9,jfE,jej,jdA,jdB,fo29,t0,t2,t4,hc2,hit,hmk,sc67,u27,s27,al27,Uo]
 refine⟨⟨λs h=>by rw[h];rfl,trivial⟩,?_⟩
 exact h _ rfl
theorem wth4 {me:Int->Int->List UInt8}(hv:IsK lv l)(hl:l.length<=4000)(hs:jem l)(hI:ItOK itoa)(hM:MkOK l en itoa mk me){Q:Qry}{ev wv rv:V}(hi:i<=l.length)(hF:Fr p L0 L){n:Int}(hn0:0<=n)(hn1:n<=1000000000)(hP:Pc lv en (qC { Q with factor:=itoa n } ev wv rv) p L i 0)(hq:QL base ts Q ev wv rv){T:Tm}(t0:T 0=.ptr p 0)(t2:T 2=.func 64 [] [])(hcon:Q.consistent=false){r:R Qry}
  (hr:r=if sees l [47] i=true then andThen (numP l en (i+1)) λd k=>if d=0 then .error (6,atP l en (i+1))else jzi l en Q (mk n d) k else jzi l en Q (itoa n) i) :
  H env 28 none 76 (λv D O'=>D=[]/\QX lv en p base L0 r (.inr v) O') (QE (QX lv en p base L0 r)) [.code (jbq 1 (hdC (jbq 4 (jay Tryz.f28)))),.code (jbq 5 (jay Tryz.f28))] (regZ 4 (jay Tryz.f28)) T [] ⟨L,ts⟩:=by
 subst hr
 have hsteps:=hI n hn0 hn1
 simp only[regZ,regA,jbq,hdC,jay,Tryz.f28,Kv,simprocAttr,Option.or,Kc,jce 10,jaw,Kb,Uq,Ke,Ur,jab,al1,Un,zv47,Um,row1,jak,t0]
 refine jcq (jfK hv hl hi hP ts [47]) ?_
 rintro _ ⟨L1,ts⟩ ⟨rfl,hF1',hP1,rfl⟩
 have hF1:=hF.tr hF1'
 simp only at hF1 hP1
 cases hs2:sees l [47] i
 ·rw[hs2]at hP1
  simp only[Kn,Kr]at hP1
  simp only[Kc,jce 10,jaw,Kb,simprocAttr,Uq,Ke,Ur,jab,al1,Un,zv47,Um,row1,jak]
  refine jzh (Q:={ Q with factor:=itoa n }) hv hl hi hF1 hP1 ⟨hq.e,hq.w,hq.r,hq.b⟩ ?_ hcon ?_
  ·exact t0
  ·rfl
 ·rw[hs2]at hP1
  simp only[Ku]at hP1
  have hi1:=jcg hs2
  have ha:=jcx (jeC hv hl hP1 ts)
  simp only[Kc,jce 10,jaw,Kb,simprocAttr,Uq,Ke,Ur,jab,al1,Un,zv47,Um,row1,jak,t0,ha]
  refine jdf (jfL hv hl hP1 ts) ?_ ?_
  ·intro e he L' hF'
   simp only[he];exact⟨rfl,hF1.tr hF'⟩
  intro d k hd L2 hF2' hP2
  have hdn:=jku hs hd
  have hi2:=jiY hd
  have hF2:=hF1.tr hF2'
  simp only[hd,andThen_ok]
  by_cases hd0:d=0
  ·have hd2:=eq_true hd0
   rw[Kk hd0]
   simp only[Kc,jce 10,jaw,Kb,simprocAttr,Uq,Ke,Ur,jab,al1,Un,zv47,Um,row1,jak,hd2]
   refine jaV (jgn _ _ _) ?_ ?_
   ·rintro v O' ⟨h,_⟩;cases h
   ·rintro v O' ⟨h,rfl⟩;cases h;exact⟨rfl,hF2⟩
  ·have hd2:=eq_false hd0
   rw[Km hd0]
   obtain⟨e,hmk⟩:=hM i n d k hs2 hd hd0 hn0 hn1 hdn.1 hdn.2
   have hit:=jms hI d hdn.1 hdn.2 L2 ts
   have hc2:L2[p]? = some (pcL lv en (qC { Q with factor:=itoa n } ev wv rv) k 0):=hP2
   simp only[Kc,jaj,Kb,simprocAttr,Uq,Ke,Ur,jab,al1,Un,zv47,Um,row1,jak,hd2]
   refine wth9 (Q:=Q) hI hdn.1 hdn.2 hmk ?_ ?_ ?_ hc2 ?_
   ·exact t0
   ·exact t2
   ·rfl
   intro T' t0'
   have t0'':T' 0=.ptr p 0:=by rw[t0'];exact t0
   simp only[Kc,jce 10,jaw,Kb,simprocAttr,Uq,Ke,Ur,jab,al1,Un,zv47,Um,row1,jak]
   refine jzh (Q:={ Q with factor:=mk n d }) hv hl hi2 (hF2.tr (Fr.set p L2 _)) (Kl hP2.lt) ⟨hq.e,hq.w,hq.r,hq.b⟩ ?_ hcon ?_
   ·exact t0''
   ·rfl
theorem jzj {me:Int->Int->List UInt8}(hv:IsK lv l)(hl:l.length<=4000)(hs:jem l)(hI:ItOK itoa)(hM:MkOK l en itoa mk me){Q:Qry}{ev wv rv:V}(hi:i<=l.length)(hP:Pc lv en (qC Q ev wv rv) p L i 0)(hq:QL base ts Q ev wv rv)(hcon:Q.consistent=false) :
  ∃x O',jbO env 28 [.ptr p 0] ⟨L,ts⟩=some (x,O')/\QX lv en p base L (jfF l en itoa mk Q i) x O':=by
 refine ja1 rfl rfl rfl rfl at28 rfl (by simp[Tryz.f28]) (by simp[Tryz.f28]) (jbp ?_)
 unfold jfF
 simp only[Tryz.f28,Kc,jce 4,jaw,Kb,simprocAttr,Uq,Ke,Ur,jab,al1,Un,zv47,Um,row1,jak]
 refine jdf (jdF hv hl hi hP ts jyb) ?_ ?_
 ·intro e he L' hF'
  simp only[he];exact⟨rfl,(Fr.rf p L).tr hF'⟩
 intro a1 j1 h1 L1 hF1' hP1
 simp only[h1,andThen_ok]
 have hi1:j1<=l.length:=jdg h1
 have hF1:=(Fr.rf p L).tr hF1'
 simp only[Kc,jce 4,jaw,Kb,simprocAttr,Uq,Ke,Ur,jab,al1,Un,zv47,Um,row1,jak,fo29,Ut]
 refine jdf (jdF hv hl hi1 hP1 ts js0) ?_ ?_
 ·intro e he L' hF'
  simp only[he];exact⟨rfl,hF1.tr hF'⟩
 intro a2 j2 h2 L2 hF2' hP2
 simp only[h2,andThen_ok]
 have hi2:j2<=l.length:=jdg h2
 have hF2:=hF1.tr hF2'
 simp only[Kc,jce 4,jaw,Kb,simprocAttr,Uq,Ke,Ur,jab,al1,Un,zv47,Um,row1,jak,fo29,Ut]
 unfold jmd
 refine jdf (jfL hv hl hP2 ts) ?_ ?_
 ·intro e he L' hF'
  simp only[he];exact⟨rfl,hF2.tr hF'⟩
 intro n j3 h3 L3 hF3' hP3
 have hn:=jku hs h3
 have hi3:=jiY h3
 have hF3:=hF2.tr hF3'
 simp only[h3,andThen_ok]
 have hit:=jcx (jms hI n hn.1 hn.2 L3 ts)
 have hc3:L3[p]? = some (pcL lv en (qC Q ev wv rv) j3 0):=hP3
 simp only[Kc,jce 4,jaw,Kb,simprocAttr,Uq,Ke,Ur,jab,al1,Un,zv47,Um,row1,jak,fo29,hit,hc3,s27,Uo]
 refine wth4 (Q:=Q) hv hl hs hI hM hi3 (hF3.tr (Fr.set p L3 _)) hn.1 hn.2 (Kl hP3.lt) hq ?_ ?_ hcon ?_
 ·rfl
 ·rfl
 cases sees l [47] j3 with
 |false=>rfl
 | true =>
  simp only[Ku]
  cases numP l en (j3+1)with
  |error e=>rfl
  |ok x =>
   obtain⟨d,k⟩:=x
   simp only[andThen_ok]
   by_cases hd:d=0
   ·rw[Kk hd,Kk hd];rfl
   ·rw[Km hd,Km hd];rfl
end
theorem at57:env.P.funcs[57]? = some Tryz.f57:=by kernel_rfl
theorem u26:env.P.underlying 26=some (.slice 73):=by kernel_rfl
theorem s26:sz env 26=some 1:=by kernel_rfl
theorem al26(h:List AObj)(p:V):jbi env h 26 p=(jai h 1 p).bind (·[0]?):=ja0 (by kernel_rfl)
theorem jBd:Elt env 26 73 2 16:=⟨by kernel_rfl,by kernel_rfl,by kernel_rfl,by kernel_rfl,by kernel_rfl⟩
theorem bd73(a b:Int):jcd env 73 [(0,.int .i64 a),(1,.int .i64 b)]=some (.agg [.int .i64 a,.int .i64 b]):=by kernel_rfl
theorem jBe(a b:Int):rowO env 26 1 [(0,.agg [.int .i64 a,.int .i64 b])]=some (.row [.int .i64 a,.int .i64 b] 1 .full):=by kernel_rfl
theorem jtW(a b:List (Int × Int)):jeb (a++b)=jeb a++jeb b:=by simp[jeb]
section
variable {lv:V}{en:Int}{q:List V}{p base:Nat}{l:List Tk}{L0 L:List AObj}{ts:List Nat}{i o j:Nat}
theorem d57 {X:V->List DE->S->Prop}{Qp:Post}{ks:List Kt}{D:List DE}{T:Tm}{Q:Qry}{ev wv rv:V}{lo:Int}{r:R Int}(t0:T 0=.ptr p 0)(t2:T 2=.int .i64 lo)(hc:L[p]? = some (pcL lv en (qC Q ev wv rv) i 0))(hq:GrowV base ts 2 rv Q.ranges.length (jeb Q.ranges))(hb:base<=ts.length)(hlen:Q.ranges.length<=100)
  (hk:∃x O',jbO env 91 [.ptr p 0] ⟨L,ts⟩=some (x,O')/\RX lv en (qC Q ev wv rv) p L ts 0 (V.int .i64) r x O')
  (hok:∀n j,r=.ok (n,j)->∀T' L2 t2 rv',T' 0=T 0->Fr p L L2->Pc lv en (qC { Q with ranges:=Q.ranges++[(lo,n)] } ev wv rv') p L2 j 0->GrowV base t2 2 rv' (Q.ranges++[(lo,n)]).length (jeb (Q.ranges++[(lo,n)]))->base<=t2.length->H env 57 none 60 X Qp ks .skip T' D ⟨L2,t2⟩)
  (hbad:∀e,r=.error e->∀L',Fr p L L'->X (flt e) D ⟨L',ts⟩):H env 57 none 60 X Qp ks (regB 5 (jay Tryz.f57)) T D ⟨L,ts⟩:=by
 obtain⟨x,⟨L1,t1'⟩,hcx,hK⟩:=hk
 match r,hK with
 | .ok (n,j),⟨k1,k2,k3,k4⟩ =>
  subst k1
  simp only at k4
  subst k4
  have hcf:=jge hcx
  have hlim:lim=2^40:=rfl
  obtain⟨rv',t3,h1,h2,h3⟩:=hq.push jBd ⟨73,u26⟩ (hp:=L1) (new:=[.int .i64 lo,.int .i64 n]) (q:=.full) hb rfl rfl (by rw[hlim];omega)
  have hwc:=h2.cells
  have hc1:L1[p]? = some (pcL lv en (qC Q ev wv rv) j 0):=k3
  refine jjY rfl (jq7 ?_)
  refine jsz rfl [(false,[]),(false,[]),(false,[]),(false,[]),(false,[]),(false,[1,2]),(false,[]),(false,[]),(true,[]),(false,[]),(true,[]),(true,[]),(false,[]),(false,[]),(false,[]),(true,[])] (λm s0=>m<=2->jhF s0.heap[p]? 12=some rv) (λ_=>by rw[hc];rfl) (by kernel_rfl) (by kernel_rfl) ?_
  simp only[regB,regO,jay,Tryz.f57,Kv,Ka,simprocAttr,Uq,Ke,Ur,jab,al1,Un,zv47,Um,row1,jak,hhWa,hhWb,hhWc,hhWd,jhH,jl6,jl7,jhI,jl8,jhJ,jl9,jfE,jej,jdA,jdB,fo29,t0,t2,hc,hc1,hcf,u26,s26,al26,ld_q,bd73,jBe,h1,jtR (Q.ranges++[(lo,n)]) hwc.2,hwc.1,hwc.2]
  refine⟨⟨λs h=>h,λs h=>h,trivial⟩,hok n j rfl _ _ _ rv' rfl (k2.tr (Fr.set _ _ _)) (Kl k3.lt) ?_ (Qu hb h3.1)⟩
  rw[Ks,jtW]
  exact h2
 | .error e,⟨k1,k2,k3⟩ =>
  subst k1
  simp only at k3
  subst k3
  obtain⟨p1,p2,p3,p4,p5⟩:=jfc hcx
  refine jjY rfl ?_
  simp only[regB,regO,jay,Tryz.f57,Kv]
  refine jma 8 _ _ [(false,[]),(false,[]),(false,[]),(false,[]),(false,[]),(false,[]),(false,[]),(false,[])] (λm s0=>True) rfl rfl rfl trivial (by kernel_rfl) (by kernel_rfl) (by kernel_rfl) (by kernel_rfl) rfl ?_
  simp only[Jb,Q4,Ka,simprocAttr,Uq,Ke,Ur,jab,al1,Un,zv47,Um,row1,jak,hhWa,hhWb,hhWc,hhWd,jhH,jl6,jl7,jhI,jl8,jhJ,jl9,jfE,jej,jdA,jdB,fo29,t0,t2,hc,u26,s26,al26,ld_q]
  exact⟨_,[],[],[.ptr p 0],_,_,rfl,rfl,p1,p2,p3,p4,p5,λvals _=>hbad e rfl L1 k2⟩
def jfP:List (List UInt8):=[jfd,jj1,jut]
theorem jzk:rowO env 107 3 [(0,.str [105,100,101,110,116,105,116,121]),(1,.str [112,114,101,102,105,120]),(2,.str [116,114,101,101])]=some (.row (jfP.map V.str) 3 .full):=by kernel_rfl
theorem u107:env.P.underlying 107=some (.slice 9):=by kernel_rfl
theorem jvp {k:Nat}(hk:k<3)(hno:∀x,x<k->sees l (jfP.getD x []) j=false)(h:sees l (jfP.getD k []) j=true):jcr l en j=.ok ((k:Int),j+1):=by
 unfold jcr
 have c:k=0\/k=1\/k=2:=by omega
 rcases c with rfl|rfl|rfl
 ·have h0:sees l jfd j=true:=h
  rw[Kk h0];rfl
 ·have h0:sees l jfd j=false:=hno 0 (by omega)
  have h1:sees l jj1 j=true:=h
  rw[Km (by simp[h0]),Kk h1];rfl
 ·have h0:sees l jfd j=false:=hno 0 (by omega)
  have h1:sees l jj1 j=false:=hno 1 (by omega)
  have h2:sees l jut j=true:=h
  rw[Km (by simp[h0]),Km (by simp[h1]),Kk h2];rfl
theorem jvq(hno:∀x,x<3->sees l (jfP.getD x []) j=false):jcr l en j=syn l en j:=by
 unfold jcr
 have h0:sees l jfd j=false:=hno 0 (by omega)
 have h1:sees l jj1 j=false:=hno 1 (by omega)
 have h2:sees l jut j=false:=hno 2 (by omega)
 rw[Km (by simp[h0]),Km (by simp[h1]),Km (by simp[h2])]
theorem jzl {k:Nat}(hk:k<3):jaJ 1 (.row (jfP.map V.str) 3 .full) (.int .i64 k)=some (.rptr ((jfP.map V.str).drop k)):=by
 have c:k=0\/k=1\/k=2:=by omega
 rcases c with rfl|rfl|rfl<;>rfl
theorem jzm {k:Nat}(hk:k<3):(jfP.map V.str)[k]? = some (.str (jfP.getD k [])):=by
 have c:k=0\/k=1\/k=2:=by omega
 rcases c with rfl|rfl|rfl<;>rfl
theorem bat7(hv:IsK lv l)(hl:l.length<=4000){Q:Qry}{ev wv rv:V}(hi:i<=l.length)(hF:Fr p L0 L)(hP:Pc lv en (qC Q ev wv rv) p L i 0)(hq:QL base ts Q ev wv rv){T:Tm}(t0:T 0=.ptr p 0){r:R Qry}
  (hr:r=andThen (must l en jsY i) λ_ j=>andThen (jcr l en j) λs j=>.ok ({ Q with strategy:=s },j)) :
  H env 57 none 60 (λv D O'=>D=[]/\QX lv en p base L0 r (.inr v) O') (QE (QX lv en p base L0 r)) [.code (jbq 3 (jay Tryz.f57))] (regZ 7 (jay Tryz.f57)) T [] ⟨L,ts⟩:=by
 subst hr
 simp only[regZ,regA,jbq,hdC,jay,Tryz.f57,Kv,simprocAttr,Option.or,Up,Uq,Ke,Ur,jab,al1,Un,zv47,Um,row1,jak,t0]
 refine jdf (jdF hv hl hi hP ts jsY) ?_ ?_
 ·intro e he L' hF'
  simp only[he];exact⟨rfl,hF.tr hF'⟩
 intro a j h1 L1 hF1' hP1
 simp only[h1,andThen_ok]
 have hi1:j<=l.length:=jdg h1
 have hF1:=hF.tr hF1'
 simp only[Up,simprocAttr,Uq,Ke,Ur,jab,al1,Un,zv47,Um,row1,jak,jzk,u107]
 refine jiu (λm T D O=>D=[]/\T 0=.ptr p 0/\T 41=.row (jfP.map V.str) 3 .full/\T 42=.int .i64 3/\∃(k:Nat) (L':List AObj),O=⟨L',ts⟩/\T 43=.int .i64 k/\k<=3/\m=3-k/\Fr p L0 L'/\Pc lv en (qC Q ev wv rv) p L' j 0/\∀x,x<k->sees l (jfP.getD x []) j=false) ?_ (3-0) _ _ _ ⟨rfl,t0,rfl,rfl,0,L1,rfl,rfl,by omega,rfl,hF1,hP1,λx h=>absurd h (Nat.not_lt_zero x)⟩
 rintro m T' D O ⟨rfl,t0',t41,t42,k,L',rfl,t43,hk3,rfl,hF',hP',hno⟩
 by_cases hlt:k<3
 ·have c1:=eq_true (show(k:Int)<3 by omega)
  have e1:IntKind.i64.wrap ((k:Int)+1)=((k+1:Nat):Int):=by rw[wrap_i64 (by omega) (by omega)];omega
  have hx:=jzl hlt
  have hg:=jzm hlt
  simp only[Up,simprocAttr,Uq,Ke,Ur,jab,al1,Un,zv47,Um,row1,jak,t0',t41,t42,t43,c1,e1,u107,s9,hx,hg]
  refine⟨⟨by omega,trivial⟩,?_⟩
  refine jcq (jfK hv hl hi1 hP' ts (jfP.getD k [])) ?_
  rintro _ ⟨L2,ts⟩ ⟨rfl,hF2',hP2,rfl⟩
  have hF2:=hF'.tr hF2'
  simp only at hF2 hP2
  cases hs:sees l (jfP.getD k []) j
  ·rw[hs]at hP2
   simp only[Kn,Kr]at hP2
   simp only[Up,simprocAttr,Uq,Ke,Ur,jab,al1,Un,zv47,Um,row1,jak,t0',t41,t42,t43,e1]
   refine⟨3-(k+1),by omega,k+1,L2,rfl,rfl,by omega,rfl,hF2,hP2,λx hx => ?_⟩
   rcases K9 x k with h|h
   ·exact hno x h
   ·rw[show x=k by omega];exact hs
  ·rw[hs]at hP2
   simp only[Ku]at hP2
   have hc2:L2[p]? = some (pcL lv en (qC Q ev wv rv) ((j+1:Nat)) 0):=hP2
   rw[jvp hlt hno hs]
   simp only[Up,simprocAttr,Uq,Ke,Ur,jab,al1,Un,zv47,Um,row1,jak,fo29,t0',t41,t42,t43,hc2,Uo,andThen_ok]
   exact⟨rfl,hF2.tr (Fr.set _ _ _),ev,wv,rv,Kl hP2.lt,⟨hq.e,hq.w,hq.r,hq.b⟩⟩
 ·have c1:=eq_false (show ¬(k:Int)<3 by omega)
  have hk:k=3:=by omega
  subst hk
  have ha:=jcx (jeC hv hl hP' ts)
  simp only[Up,simprocAttr,Uq,Ke,Ur,jab,al1,Un,zv47,Um,row1,jak,t0',t41,t42,t43,c1,ha]
  rw[jvq hno]
  refine jaV (jgn _ _ _) ?_ ?_
  ·rintro v O' ⟨h,_⟩;cases h
  ·rintro v O' ⟨h,rfl⟩;cases h;exact⟨rfl,hF'⟩
theorem jkx(m:Nat)(out:List (Int × Int))(i:Nat):jd7 l en (m+1) out i=if 64<=out.length then .error (4,atP l en i)else
  andThen (intP l en i) λlo j=>andThen (must l en [46,46] j) λ_ j=>andThen (intP l en j) λhi j =>
   if sees l [44] j then jd7 l en m (out++[(lo,hi)]) (j+1)else .ok (out++[(lo,hi)],j):=rfl
theorem jxx(hv:IsK lv l)(hl:l.length<=4000)(hs:jem l){Q:Qry}{rv:V}(hi:i<=l.length)(hP:Pc lv en (qC Q .nilsl .nilsl rv) p L i 0)(hq:QL base ts Q .nilsl .nilsl rv)(he:Q.expr=[])(hw:Q.wher=[])(hr0:Q.ranges=[]) :
  ∃x O',jbO env 57 [.ptr p 0] ⟨L,ts⟩=some (x,O')/\QX lv en p base L (jno l en Q i) x O':=by
 refine ja1 rfl rfl rfl rfl at57 rfl (by simp[Tryz.f57]) (by simp[Tryz.f57]) (jbp ?_)
 unfold jno jcb
 simp only[Tryz.f57,Kc,jaj,Kb,simprocAttr,Uq,Ke,Ur,jab,al1,Un,zv47,Um,row1,jak]
 have hcx:=jqG (en:=en) (ts:=ts) hv hl hP 10
 unfold jcb at hcx
 cases hn:jeX l en i with
 |error e =>
  rw[hn]at hcx
  refine jaV hcx ?_ ?_
  ·rintro v O' ⟨h,_⟩;cases h
  ·rintro v O' ⟨h,h2⟩;exact⟨h,h2⟩
 |ok x =>
 obtain⟨c,j⟩:=x
 rw[hn]at hcx
 simp only[andThen_ok]at hcx ⊢
 have hj:=jhl hn
 refine jaV hcx ?_ ?_
 rotate_left
 ·rintro v O' ⟨h,_⟩;cases h
 rintro v ⟨L1,ts⟩ ⟨h1,hF1,hP1,rfl⟩
 cases h1
 simp only at hF1 hP1
 simp only[Kc,jaj,Kb,simprocAttr,Uq,Ke,Ur,jab,al1,Un,zv47,Um,row1,jak]
 have hP1':Pc lv en (qC { Q with kind:=10,column:=c,ranges:=[] } .nilsl .nilsl rv) p L1 j 0:=hP1
 have hg0:GrowV base ts 2 rv ([]:List (Int × Int)).length (jeb []):=by have:=hq.r;rw[hr0]at this;exact this
 refine jiu (λm T D O=>D=[]/\T 0=.ptr p 0/\∃(out:List (Int × Int)) (i':Nat) (L':List AObj) (ts':List Nat) (rv':V),O=⟨L',ts'⟩/\Fr p L L'/\Pc lv en (qC { Q with kind:=10,column:=c,ranges:=out } .nilsl .nilsl rv') p L' i' 0/\GrowV base ts' 2 rv' out.length (jeb out)/\base<=ts'.length/\i'<=l.length/\m+out.length=65/\out.length<=64 /\
  jd7 l en 65 [] j=jd7 l en m out i') ?_ 65 _ _ _ ⟨rfl,rfl,[],j,L1,_,rv,rfl,hF1,hP1',hg0,hq.b,hj,rfl,by simp,rfl⟩
 rintro m T D O ⟨rfl,t0,out,i',L',ts',rv',rfl,hF',hP',hG',hb',hi',hmo,ho64,hR⟩
 rw[hR]
 cases m with
 |zero=>omega
 |succ m =>
 rw[jkx]
 have hc:L'[p]? = some (pcL lv en (qC { Q with kind:=10,column:=c,ranges:=out } .nilsl .nilsl rv') i' 0):=hP'
 have hlen:=hG'.len 73
 by_cases h64:64<=out.length
 ·have h2:=eq_true (show(64:Int)<=(out.length:Int) by omega)
  have ha:=jcx (jeC hv hl hP' ts')
  simp only[Kc,jaj,Kb,simprocAttr,Uq,Ke,Ur,jab,al1,Un,zv47,Um,row1,jak,fo29,t0,hc,ld_q,hlen,u26,s26,al26,h2,ha]
  rw[Kk h64]
  refine jaV (jgn _ _ _) ?_ ?_
  ·rintro v O' ⟨h,_⟩;cases h
  ·rintro v O' ⟨h,rfl⟩;cases h;exact⟨rfl,hF'⟩
 ·have h2:=eq_false (show ¬(64:Int)<=(out.length:Int) by omega)
  simp only[Km h64]
  simp only[Kc,jaj,Kb,simprocAttr,Uq,Ke,Ur,jab,al1,Un,zv47,Um,row1,jak,fo29,t0,hc,ld_q,hlen,u26,s26,al26,h2]
  refine jdf (jtN hv hl hs hi' hP' ts') ?_ ?_
  ·intro e he L2 hF2
   simp only[he];exact⟨rfl,hF'.tr hF2⟩
  intro lo j1 h1 L2 hF2' hP2
  have hF2:=hF'.tr hF2'
  have hi2:=jkw h1
  simp only[h1,andThen_ok]
  simp only[Kc,jaj,Kb,simprocAttr,Uq,Ke,Ur,jab,al1,Un,zv47,Um,row1,jak,t0]
  refine jdf (jdF hv hl hi2 hP2 ts' [46,46]) ?_ ?_
  ·intro e he L3 hF3
   simp only[he];exact⟨rfl,hF2.tr hF3⟩
  intro _ j2 h3 L3 hF3' hP3
  have hF3:=hF2.tr hF3'
  have hi3:=jdg h3
  simp only[h3,andThen_ok]
  simp only[Kc,jaj,Kb,simprocAttr,Uq,Ke,Ur,jab,al1,Un,zv47,Um,row1,jak,t0]
  refine d57 (Q:={ Q with kind:=10,column:=c,ranges:=out }) (ev:=.nilsl) (wv:=.nilsl) (rv:=rv') (lo:=lo) (r:=intP l en j2) ?_ ?_ hP3 hG' hb' (by show out.length<=100;omega) (jtN hv hl hs hi3 hP3 ts') ?_ ?_
  ·exact t0
  ·rfl
  ·intro n j3 h4 T' L4 t4 rv4 T0 hF4' hP4 hG4 hb4
   have hF4:=hF3.tr hF4'
   have hi4:=jkw h4
   have t0':T' 0=.ptr p 0:=by rw[T0];exact t0
   simp only[h4,andThen_ok]
   simp only[Kc,jce 7,jaw,Kb,simprocAttr,Uq,Ke,Ur,jab,al1,Un,zv47,Um,row1,jak,t0']
   refine jcq (jfK hv hl hi4 hP4 t4 [44]) ?_
   rintro _ ⟨L5,t4⟩ ⟨rfl,hF5',hP5,rfl⟩
   have hF5:=hF4.tr hF5'
   simp only at hF5 hP5
   cases hs5:sees l [44] j3
   ·rw[hs5]at hP5
    simp only[Kn,Kr]at hP5
    simp only[Kc,jce 7,jaw,Kb,simprocAttr,Uq,Ke,Ur,jab,al1,Un,zv47,Um,row1,jak,t0',andThen_ok]
    refine bat7 (Q:={ Q with kind:=10,column:=c,ranges:=out++[(lo,n)] }) hv hl hi4 hF5 hP5 ⟨?_,?_,hG4,hb4⟩ ?_ ?_
    ·show GrowV base _ 3 .nilsl Q.expr.length (jbR Q.expr);rw[he];exact .nil
    ·show GrowV base _ 3 .nilsl Q.wher.length (jbR Q.wher);rw[hw];exact .nil
    ·exact t0'
    ·rfl
   ·rw[hs5]at hP5
    simp only[Ku]at hP5
    simp only[Kc,jce 7,jaw,Kb,simprocAttr,Uq,Ke,Ur,jab,al1,Un,zv47,Um,row1,jak,t0']
    refine⟨m,by omega,out++[(lo,n)],j3+1,L5,t4,rv4,rfl,hF5,hP5,hG4,hb4,jcg hs5,?_,?_,?_⟩
    ·simp only[Ks,K2,K5];omega
    ·simp only[Ks,K2,K5];omega
    ·rfl
  ·intro e he L4 hF4
   simp only[he];exact⟨trivial,rfl,hF3.tr hF4⟩
end
def AP {α:Type}(P:α->Nat->Prop)(r:R α):Prop:=match r with
 | .ok (a,j)=>P a j
 | .error _=>True
theorem AP.andThen {α β:Type}{P:α->Nat->Prop}{Q:β->Nat->Prop}{x:R α}{f:α->Nat->R β}(h:AP P x)(hf:∀a j,P a j->AP Q (f a j)):AP Q (PP.andThen x f):=by
 match x,h with
 | .ok (a,j),h=>exact hf a j h
 | .error e,h=>trivial
theorem AP.of {α:Type}{P:α->Nat->Prop}{x:R α}(h:∀a j,x=.ok (a,j)->P a j):AP P x:=by
 match x,h with
 | .ok (a,j),h=>exact h a j rfl
 | .error e,h=>trivial
section
variable {l:List Tk}{en:Int}{i:Nat}
def jrw(l:List Tk)(Q:Qry)(j:Nat):Prop:=j<=l.length/\Q.consistent=false
theorem jeE(s:List UInt8)(i:Nat):AP (λ_ j=>j<=l.length) (must l en s i):=AP.of λ_ _ h=>jdg h
theorem jiD(i:Nat):AP (λ_ j=>j<=l.length) (jeX l en i):=AP.of λ_ _ h=>jhl h
theorem jwg(i:Nat):AP (λ_ j=>j<=l.length) (numP l en i):=AP.of λ_ _ h=>jiY h
theorem jn2(i:Nat):AP (λ_ j=>j<=l.length) (intP l en i):=AP.of λ_ _ h=>jkw h
theorem jwh(i:Nat):AP (λ_ j=>j<=l.length) (posP l en i):=AP.of λ_ _ h=>jqH h
theorem jwi(sy:Sy)(i:Nat):AP (λ_ j=>j<=l.length) (jcV l en sy i):=AP.of λ_ _ h=>(jtT h).1
theorem jky {k:Int}{Q:Qry}(hc:Q.consistent=false)(i:Nat):AP (jrw l) (jdC l en k Q i) :=
 (jwi _ _).andThen λ_ _ _=>(jeE _ _).andThen λ_ _ _=>(jn2 _).andThen λ_ _ _=>(jeE _ _).andThen λ_ _ _=>(jn2 _).andThen λ_ _ h=>⟨h,hc⟩
theorem jfn {k:Int}{Q:Qry}(hc:Q.consistent=false)(i:Nat):AP (jrw l) (jcb l en k Q i):=(jiD _).andThen λ_ _ h=>⟨h,hc⟩
theorem jn3:∀(m:Nat) (out:List (Int × Int)) (i:Nat),AP (λ_ j=>j<=l.length) (jd7 l en m out i)
 |0,out,i=>trivial
 | m+1,out,i=>by
  rw[jkx]
  split
  ·trivial
  ·refine(jn2 _).andThen λ_ _ _=>(jeE _ _).andThen λ_ _ _=>(jn2 _).andThen λ_ j h => ?_
   split
   ·exact jn3 m _ _
   ·exact h
theorem jvr(i:Nat):AP (λ_ j=>j<=l.length) (jcr l en i):=by
 unfold jcr
 split
 ·rename_i h;exact jcg h
 ·split
  ·rename_i h;exact jcg h
  ·split
   ·rename_i h;exact jcg h
   ·trivial
theorem jvs(k:Int){Q:Qry}(hc:Q.consistent=false)(hi:i<=l.length):AP (jrw l) (jfU l en k Q i):=by
 unfold jfU
 repeat' split
 ·exact⟨hi,hc⟩
 ·exact jky hc i
 ·exact jfn hc i
 ·exact(jky hc i).andThen λQ' _ h=>(jeE _ _).andThen λ_ _ _=>(jiD _).andThen λ_ _ h2=>⟨h2,h.2⟩
 ·exact(jwg _).andThen λ_ _ _=>(jeE _ _).andThen λ_ _ _=>(jwg _).andThen λ_ _ _=>(jeE _ _).andThen λ_ j _=>jky (by exact hc) j
 ·exact jfn hc i
 ·exact(jn2 _).andThen λ_ j _=>jfn (by exact hc) j
 ·exact jfn hc i
 ·exact jfn hc i
 ·exact(jfn hc i).andThen λQ' _ h=>(jn3 _ _ _).andThen λ_ _ _=>(jeE _ _).andThen λ_ _ _=>(jvr _).andThen λ_ _ h2=>⟨h2,h.2⟩
theorem jtX {Q:Qry}(hc:Q.consistent=false)(i:Nat):AP (jrw l) (jcs l en Q i):=by
 unfold jcs
 refine(jeE _ _).andThen λ_ _ _=>(jiD _).andThen λt j hj => ?_
 have hk:AP (jrw l) (jq9 l en { Q with table:=t } j):=by
  unfold jq9
  split
  ·exact(jwh _).andThen λ_ _ h=>⟨h,hc⟩
  ·exact⟨hj,hc⟩
 refine hk.andThen λQ1 j1 h1 => ?_
 have hjn:AP (jrw l) (jnr l en Q1 j1):=by
  unfold jnr
  split
  ·exact(jiD _).andThen λ_ _ _=>(jeE _ _).andThen λ_ _ _=>(jiD _).andThen λ_ _ _=>(jeE _ _).andThen λ_ _ _=>(jiD _).andThen λ_ _ _=>(jeE _ _).andThen λ_ _ _=>(jwh _).andThen λ_ _ h=>⟨h,h1.2⟩
  ·exact h1
 refine hjn.andThen λQ2 j2 h2 => ?_
 unfold jhS
 split
 ·exact(jwi _ _).andThen λ_ _ h=>⟨h,h2.2⟩
 ·exact h2
end
theorem at24:env.P.funcs[24]? = some Tryz.f24:=by kernel_rfl
theorem u60:env.P.underlying 60=some (.map 9 58):=by kernel_rfl
theorem z58:jbG env 58=some .nilfn:=by kernel_rfl
theorem jBf(L:List AObj)(ts:List Nat):newO env 60 ⟨L,ts⟩=some (.map L.length,⟨L++[.map [] 0],ts⟩):=by unfold newO;rw[u60];rfl
theorem insK {L:List AObj}{ts:List Nat}{k:List UInt8}{v:V}{es:List (V × V × Nat)}{c:Nat}(hf:jcM env 9 (.str k) es 0=some none) :
  insO env 60 (.map L.length) (.str k) v ⟨L++[.map es c],ts⟩=some (.tup [],⟨L++[.map (es++[(.str k,v,c)]) (c+1)],ts⟩):=by
 unfold insO
 simp only[u60,jal,jhK u9,Ku,hf,S.set,jah]
def jpr:List (List UInt8 × V):=jed.map λp=>(p.1,.func (47+p.2.toNat) [] [])
def kE(n:Nat):List (V × V × Nat):=mapS (jpr.take n) 0
theorem jkM {L:List AObj}{ts:List Nat}(k:List UInt8)(v:V)(n:Nat)(h:jpr[n]? = some (k,v))(hf:jcM env 9 (.str k) (kE n) 0=some none)(hl:n<=jpr.length) :
  insO env 60 (.map L.length) (.str k) v ⟨L++[.map (kE n) n],ts⟩=some (.tup [],⟨L++[.map (kE (n+1)) (n+1)],ts⟩):=by
 rw[insK hf]
 have e:jpr.take (n+1)=jpr.take n++[(k,v)]:=by
  obtain⟨h1,h2⟩:=Kz.1 h
  rw[<- h2,List.take_append_getElem h1]
 unfold kE
 rw[e,jpO,K7,K8,Ju hl]
theorem jrx(L:List AObj)(ts:List Nat):jar env (ev env) 24 [] ⟨L,ts⟩=some (.map L.length,⟨L++[.map (kE 10) 10],ts⟩):=by
 refine jbk rfl rfl at24 rfl (by simp[Tryz.f24]) (by simp[Tryz.f24]) (jaq ?_)
 have h0:([]:List (V × V × Nat))=kE 0:=rfl
 have i0:=jkM (L:=L) (ts:=ts) [99,111,117,110,116] (.func 48 [] []) 0 rfl (by kernel_rfl) (by decide)
 have i1:=jkM (L:=L) (ts:=ts) [115,117,109] (.func 49 [] []) 1 rfl (by kernel_rfl) (by decide)
 have i2:=jkM (L:=L) (ts:=ts) [104,105,115,116,111,103,114,97,109] (.func 50 [] []) 2 rfl (by kernel_rfl) (by decide)
 have i3:=jkM (L:=L) (ts:=ts) [116,111,116,97,108] (.func 51 [] []) 3 rfl (by kernel_rfl) (by decide)
 have i4:=jkM (L:=L) (ts:=ts) [113,117,97,110,116,105,108,101] (.func 52 [] []) 4 rfl (by kernel_rfl) (by decide)
 have i5:=jkM (L:=L) (ts:=ts) [109,111,100,101] (.func 53 [] []) 5 rfl (by kernel_rfl) (by decide)
 have i6:=jkM (L:=L) (ts:=ts) [97,98,111,118,101] (.func 54 [] []) 6 rfl (by kernel_rfl) (by decide)
 have i7:=jkM (L:=L) (ts:=ts) [112,101,97,107] (.func 55 [] []) 7 rfl (by kernel_rfl) (by decide)
 have i8:=jkM (L:=L) (ts:=ts) [114,117,110,110,105,110,103] (.func 56 [] []) 8 rfl (by kernel_rfl) (by decide)
 have i9:=jkM (L:=L) (ts:=ts) [98,97,116,99,104] (.func 57 [] []) 9 rfl (by kernel_rfl) (by decide)
 simp only[Tryz.f24,Ka,simprocAttr,Uq,Ke,Ur,jab,jgC,jgD,jBf,h0,i0,i1,i2,i3,i4,i5,i6,i7,i8,i9]
 exact⟨rfl,trivial⟩
theorem jxy {L:List AObj}{ts:List Nat}{b:Nat}(h:L[b]? = some (.map (kE 10) 10))(s:List UInt8) :
  jne env 60 true (.map b) (.str s) ⟨L,ts⟩=some (match PP.look jed s with|some k=>.tup [.func (47+k.toNat) [] [],.bool true]|none=>.tup [.nilfn,.bool false]):=by
 have h':L[b]? = some (.map (mapS jpr 0) 10):=h
 rw[jmb u9 u60 z58 h' s]
 have hk:∀ks:Lvl,((ks.map λp=>(p.1,V.func (47+p.2.toNat) [] [])).find? λp=>p.1==s)=(ks.find? λp=>p.1=s).map λp=>(p.1,V.func (47+p.2.toNat) [] []):=by
  intro ks
  induction ks with
  |nil=>rfl
  | cons a r ih =>
   simp only[Ja,List.find?_cons]
   by_cases h:a.1=s
   ·simp[h]
   ·have:(a.1==s)=false:=by simpa using h
    simp[h,this,ih]
 unfold jpr PP.look
 rw[hk]
 cases jed.find? λp=>p.1=s<;>rfl
theorem jzn {lv:V}{en:Int}{p base:Nat}{l:List Tk}{L:List AObj}{ts:List Nat}{i:Nat}(hv:IsK lv l)(hl:l.length<=4000)(hs:jem l)(hi:i<=l.length)(hP:Pc lv en (qC Qry.zero .nilsl .nilsl .nilsl) p L i 0)(hb:base<=ts.length){k:Int}(hk:1<=k/\k<=10) :
  ∃x O',jbO env (47+k.toNat) [.ptr p 0] ⟨L,ts⟩=some (x,O')/\QX lv en p base L (jfU l en k Qry.zero i) x O':=by
 have hq:QL base ts Qry.zero .nilsl .nilsl .nilsl:=⟨.nil,.nil,.nil,hb⟩
 have c:k=1\/k=2\/k=3\/k=4\/k=5\/k=6\/k=7\/k=8\/k=9\/k=10:=by omega
 rcases c with rfl|rfl|rfl|rfl|rfl|rfl|rfl|rfl|rfl|rfl
 ·exact jxv hv hl hs hi hP hq
 ·exact jBb hv hl hs hi hP hq
 ·exact jpq hv hl hs hi hP hq
 ·exact jxt hv hl hs hi hP hq
 ·exact jrv hv hl hs hi hP hq
 ·exact jze hv hl hs hi hP hq
 ·exact jxu hv hl hs hi hP hq
 ·exact jzf hv hl hs hi hP hq
 ·exact jtV hv hl hs hi hP hq
 ·exact jxx hv hl hs hi hP hq rfl rfl rfl
theorem at22:env.P.funcs[22]? = some Tryz.f22:=by kernel_rfl
theorem n22:Tryz.f22.ntmps=17:=rfl
theorem u20:env.P.underlying 20=some (.interface #[]):=by kernel_rfl
theorem jzo(a b v:V):Rep 17 (argT [a,b,v,.tup [],.tup [],v]) (([a,b,v,.tup [],.tup [],v]:List V)++List.replicate 11 (V.tup [])):=Rep.args [a,b,v,.tup [],.tup [],v] 17 (by simp)
theorem z51:jbG env 51=some (.agg [.int .i64 0,.int .i64 0]):=by kernel_rfl
theorem s51:sz env 51=some 2:=by kernel_rfl
theorem s29:sz env 29=some 20:=by kernel_rfl
theorem s32:sz env 32=some 2:=by kernel_rfl
theorem bd29:jcd env 29 []=some (.agg (qC Qry.zero .nilsl .nilsl .nilsl)):=by kernel_rfl
theorem jzp:jh8 env 51 true .nilif=some (.tup [.agg [.int .i64 0,.int .i64 0],.bool false]):=by kernel_rfl
theorem jzq(e:Fl):jh8 env 51 true (flt e)=some (.tup [.agg [.int .i64 e.1,.int .i64 e.2],.bool true]):=by kernel_rfl
theorem al51(h:List AObj)(p:V):jbi env h 51 p=(jai h 2 p).map .agg:=by
 have g:Go.Ab.aggT env 51=some true:=by kernel_rfl
 unfold jbi
 simp only[g,s51,Kj]
theorem jn4(a b:V)(L:List AObj)(ts:List Nat):ev env (.dcall 22 [a,b] none ⟨L,ts⟩)=some ⟨.ret,[.bool false],[],⟨L++[.cells [.int .i64 0,.int .i64 0] 51],ts⟩⟩:=by
 exact jpN (E:=env) (pv:=none) (O:=⟨L,ts⟩) (O1:=⟨L,ts⟩) (args:=[a,b]) (rc:=some none) (tmps1:=([a,b,.nilif,.tup [],.tup [],.nilif]:List V)++List.replicate 11 (V.tup [])) at22 rfl (by simp[Tryz.f22]) (by
  simp[n22,jdq,Region.wanted,opV,jbn,jbt,jbD,opP,opD,jgK,jbb,jbv,putT,List.range,List.range.loop]) (jzo a b .nilif) rfl (by
  simp only[n22,Ka,simprocAttr,Uq,Ke,Ur,jab,al1,Un,zv47,Um,row1,jak,jgR,jzp,z51,s51,jbB,jcw u20,Xx])
theorem jn5 {L:List AObj}{ts:List Nat}{a b:Nat}{c0 c1:List V}(e:Fl)(ha:L[a]? = some (.cells c0 29))(hl0:c0.length=20)(hb:L[b]? = some (.cells c1 32))(hl1:c1.length=2)(hab:a ≠ b) :
  ev env (.dcall 22 [.ptr a 0,.ptr b 0] (some (flt e)) ⟨L,ts⟩)=some ⟨.ret,[.bool true],[],⟨((L++[AObj.cells [.int .i64 e.1,.int .i64 e.2] 51]).set a (.cells (qC Qry.zero .nilsl .nilsl .nilsl) 29)).set b (.cells [.int .i64 e.1,.int .i64 e.2] 32),ts⟩⟩:=by
 have hla:=jaU ha
 have hlb:=jaU hb
 have g0:(L++[AObj.cells [.int .i64 e.1,.int .i64 e.2] 51])[L.length]? = some (.cells [.int .i64 e.1,.int .i64 e.2] 51):=by simp
 have g1:(L++[AObj.cells [.int .i64 e.1,.int .i64 e.2] 51])[a]? = some (.cells c0 29):=jbH ha _
 have g2:((L++[AObj.cells [.int .i64 e.1,.int .i64 e.2] 51]).set a (.cells (qC Qry.zero .nilsl .nilsl .nilsl) 29))[b]? = some (.cells c1 32):=by rw[Ki hab];exact jbH hb _
 have g3:((L++[AObj.cells [.int .i64 e.1,.int .i64 e.2] 51]).set a (.cells (qC Qry.zero .nilsl .nilsl .nilsl) 29))[L.length]? = some (.cells [.int .i64 e.1,.int .i64 e.2] 51):=by rw[Ki (by omega)];exact g0
 have g4:(((L++[AObj.cells [.int .i64 e.1,.int .i64 e.2] 51]).set a (.cells (qC Qry.zero .nilsl .nilsl .nilsl) 29)).set b (.cells [.int .i64 e.1,.int .i64 e.2] 32))[L.length]? = some (.cells [.int .i64 e.1,.int .i64 e.2] 51):=by rw[Ki (by omega)];exact g3
 have ld:∀H:List AObj,H[L.length]? = some (.cells [.int .i64 e.1,.int .i64 e.2] 51)->jai H 2 (.ptr L.length 0)=some [.int .i64 e.1,.int .i64 e.2]:=λH h=>by simp[jai,h]
 have st1:∀H:List AObj,storeAt ⟨H,ts⟩ (qC Qry.zero .nilsl .nilsl .nilsl) a 0 (some (.cells c0 29))=some ⟨H.set a (.cells (qC Qry.zero .nilsl .nilsl .nilsl) 29),ts⟩:=λH=>by
  unfold storeAt
  simp only
  rw[Kk ⟨by rw[hl0];exact Qo rfl,rfl⟩]
  have:jab c0 0 (qC Qry.zero .nilsl .nilsl .nilsl)=qC Qry.zero .nilsl .nilsl .nilsl:=by
   unfold jab
   rw[Xg (by rw[hl0];exact Qo rfl)]
   simp
  rw[this];rfl
 have st2:∀H:List AObj,storeAt ⟨H,ts⟩ [.int .i64 e.1,.int .i64 e.2] b 0 (some (.cells c1 32))=some ⟨H.set b (.cells [.int .i64 e.1,.int .i64 e.2] 32),ts⟩:=λH=>by
  unfold storeAt
  simp only
  rw[Kk ⟨by rw[hl1];exact Qo rfl,rfl⟩]
  have:jab c1 0 [.int .i64 e.1,.int .i64 e.2]=[.int .i64 e.1,.int .i64 e.2]:=by
   unfold jab
   rw[Xg (by rw[hl1];exact Qo rfl)]
   simp
  rw[this];rfl
 have hq20:(qC Qry.zero .nilsl .nilsl .nilsl).length=20:=rfl
 exact jpN (E:=env) (pv:=some (flt e)) (O:=⟨L,ts⟩) (O1:=⟨L,ts⟩) (args:=[.ptr a 0,.ptr b 0]) (rc:=some none) (tmps1:=([.ptr a 0,.ptr b 0,flt e,.tup [],.tup [],flt e]:List V)++List.replicate 11 (V.tup [])) at22 rfl (by simp[Tryz.f22]) (by
  simp[n22,jdq,Region.wanted,opV,jbn,jbt,jbD,opP,opD,jgK,jbb,jbv,putT,List.range,List.range.loop]) (jzo _ _ (flt e)) rfl (by
  simp only[n22,Kd,simprocAttr,Uq,Ke,Ur,jab,al1,Un,zv47,Um,row1,jak,jgR,jzq,z51,s51,jbB]
  refine jk9 rfl (λs=>s.heap[L.length]? = some (.cells [.int .i64 e.1,.int .i64 e.2] 51)) g0 (by kernel_rfl) ?_
  simp only[n22,Ka,simprocAttr,Uq,Ke,Ur,jab,al1,Un,zv47,Um,row1,jak,hhWa,hhWb,hhWc,hhWd,bd29,s29,s32,s51,al51,ld _ g0,g1,g2,g3,st1,st2,hq20]
  exact⟨λs h=>by rw[ld _ h];rfl,g4,trivial⟩)
theorem jkN {E:Env}{f:FuncId}{args:List V}{v v':V}{O':S}(hp:E.pure f=true)(hk:E.hook f=none)(hc:args.all V.closed=true)(h:Go.Ab.ev E (.call f args S.empty)=some ⟨.ret,[v],[],O'⟩)(hs:jbo O'.heap jax v=some v')(O:S):jar E (Go.Ab.ev E) f args O=some (v',O):=by
 unfold jar
 simp only[hk,hp,jeO hc,hc,h,hs,Ku,Kw]
theorem jc7 {E:Env}{fn:FuncId}{rnd:Option Nat}{n:Nat}{X:V->List V->List DE->S->Prop}{T:Tm}{D:List DE}{O:S}{Q:Post}{a b:Code}(h:G E fn rnd n ⟨λT D O=>wpP E fn rnd n X b T D O Q,Q.exit,Q.ret⟩ [] a T D O):wpP E fn rnd n X (.seq a b) T D O Q:=jhb (jq7 h)
theorem jry {E:Env}{fn:FuncId}{n:Nat}{X:V->List V->List DE->S->Prop}{id:Nat}{g:FuncId}{d:Nat}{cs:Array Operand}{caps:List V}{ty ty2:TypeId}{ps ps2:String}{af af2:Array Edge}{T:Tm}{D:List DE}{O:S}{Q:Post}(hc:jbv (jaK E T) cs.toList=some caps)(hd:d<n)
  (h:Q.norm (upd T d (.func g [] caps)) (.call g caps::D) O):wpP E fn none n X (.region id #[⟨some d,.makeFunc (.func g) #[] cs,ty,ps,af,none⟩,⟨none,.defer ⟨.value (.tmp d),#[],#[]⟩,ty2,ps2,af2,none⟩] false) T D O Q:=λtmps hr=>by
 refine⟨⟨.normal,tmps.set d (.func g [] caps),.call g caps::D,O⟩,?_,_,hr.upd hd _,h⟩
 have h1:opV E (Go.Ab.ev E) (E.mutb fn id) tmps O (.makeFunc (.func g) #[] cs)=some (.func g [] caps,O):=by
  rw[<- jjM E hr,YP,hc];rfl
 have hl:d<tmps.length:=by rw[hr.1];exact hd
 have h2:jbb E (tmps.set d (.func g [] caps)) (.tmp d)=some (.func g [] caps):=by simp[jbb,hl]
 have h3:∀t:List V,opV E (Go.Ab.ev E) (E.mutb fn id) t O (.defer ⟨.value (.tmp d),#[],#[]⟩)=none:=λt=>by simp[opV,jbn,jbt,jbD]
 simp[jbj,XR.res,jdq,Region.wanted,h1,h2,h3,opP,opD,jbv,putT,List.range,List.range.loop]
def RowU(v:V)(n:Nat)(cs:List V):Prop:=(v=.nilsl/\n=0/\cs=[])\/v=.row cs n .unk
def PV(r:Except Fl Qry)(v:V):Prop :=
 match r with
 | .ok Q=>∃ev wv rv,v=.tup [.agg (qC Q ev wv rv),.agg [.int .i64 0,.int .i64 0]]/\RowU ev Q.expr.length (jbR Q.expr)/\RowU wv Q.wher.length (jbR Q.wher)/\RowU rv Q.ranges.length (jeb Q.ranges)
 | .error e=>v=.tup [.agg (qC Qry.zero .nilsl .nilsl .nilsl),.agg [.int .i64 e.1,.int .i64 e.2]]
def KP(r:Except Fl Qry)(v:V)(O:S):Prop:=∃v',jbo O.heap jax v=some v'/\PV r v'
theorem jlH {h:List AObj}{d:Nat}{cs:List V}(hc:∀v∈cs,(∃k n,v=.int k n)\/∃s,v=.str s):cs.mapM (jbo h (d+1))=some cs :=
 jeW h (d+1) cs λv hv=>by
  rcases hc v hv with⟨k,n,rfl⟩|⟨s,rfl⟩<;>rfl
theorem jkz {h:List AObj}{d base w n:Nat}{ts:List Nat}{v:V}{cs:List V}(g:GrowV base ts w v n cs)(hc:∀v∈cs,(∃k n,v=.int k n)\/∃s,v=.str s):∃v',jbo h (d+2) v=some v'/\RowU v' n cs:=by
 cases g with
 |nil=>exact⟨_,rfl,.inl ⟨rfl,rfl,rfl⟩⟩
 |full _ _ hl=>exact⟨.row cs n .unk,by rw[jgb,jlH hc];rfl,.inr rfl⟩
 |tok _ _ k e hl hb ht=>exact⟨.row cs n .unk,by rw[jgb,jlH hc];rfl,.inr rfl⟩
theorem jch(l:List Nd):∀v∈jbR l,(∃k n,v=.int k n)\/∃s,v=.str s:=by
 intro v hv
 simp only[jbR,List.mem_flatten,Xa]at hv
 obtain⟨_,⟨x,_,rfl⟩,h⟩:=hv
 simp only[jbP,Qy,Jz,or_false]at h
 rcases h with rfl|rfl|rfl
 ·exact .inl ⟨_,_,rfl⟩
 ·exact .inl ⟨_,_,rfl⟩
 ·exact .inr ⟨_,rfl⟩
theorem jdP(l:List (Int × Int)):∀v∈jeb l,(∃k n,v=.int k n)\/∃s,v=.str s:=by
 intro v hv
 simp only[jeb,List.mem_flatten,Xa]at hv
 obtain⟨_,⟨x,_,rfl⟩,h⟩:=hv
 simp only[Qy,Jz,or_false]at h
 rcases h with rfl|rfl
 ·exact .inl ⟨_,_,rfl⟩
 ·exact .inl ⟨_,_,rfl⟩
theorem jBg {Q:Qry}{ev wv rv:V}{base:Nat}{ts:List Nat}{h:List AObj}{t2:List Nat}(hq:QL base ts Q ev wv rv):KP (.ok Q) (.tup [.agg (qC Q ev wv rv),.agg [.int .i64 0,.int .i64 0]]) ⟨h,t2⟩:=by
 obtain⟨e',he,re⟩:=jkz (h:=h) (d:=8) hq.e (jch _)
 obtain⟨w',hw,rw'⟩:=jkz (h:=h) (d:=8) hq.w (jch _)
 obtain⟨r',hr,rr⟩:=jkz (h:=h) (d:=8) hq.r (jdP _)
 refine⟨.tup [.agg (qC Q e' w' r'),.agg [.int .i64 0,.int .i64 0]],?_,e',w',r',rfl,re,rw',rr⟩
 simp only[jax,ja8,jcD,jaA,jaF,jaW,jb8,jbc,qC,he,hw,hr,Kj,Kw]
theorem jzr {e:Fl}{h:List AObj}{t2:List Nat}:KP (.error e) (.tup [.agg (qC Qry.zero .nilsl .nilsl .nilsl),.agg [.int .i64 e.1,.int .i64 e.2]]) ⟨h,t2⟩ :=
 ⟨_,by simp only[jax,ja8,jcD,jaA,jaF,jaW,jb8,jbc,jg7,qC,Kj,Kw],rfl⟩
theorem at10:env.P.funcs[10]? = some Tryz.f10:=by kernel_rfl
noncomputable def p10(i:Nat):Code:=hdC (jbq i (jay Tryz.f10))
theorem jzs:Tryz.f10.body=some (.seq (p10 0) (.seq (p10 1) (.seq (p10 2) (.seq (p10 3) (.seq (p10 4) (.seq (p10 5) (.seq (p10 6) (.seq (p10 7) (.seq (p10 8) (.seq (p10 9) (.seq (p10 10) (.seq (p10 11) (jbq 12 (jay Tryz.f10)))))))))))))):=by kernel_rfl
noncomputable def rs10:List ResultVar:=Tryz.f10.results.toList
theorem jtY:rs10=[.cell 2 29,.cell 3 32]:=rfl
def jn6:List V:=[.ptr 0 0,.ptr 1 0]
def D10:List DE:=[.call 22 jn6]
abbrev X10(r:Except Fl Qry):V->List V->List DE->S->Prop:=jx4 env 22 jn6 rs10 (KP r)
abbrev E10(r:Except Fl Qry):Tm->List DE->S->Prop:=EndD env 22 jn6 rs10 (KP r)
abbrev Q10(r:Except Fl Qry):Post:=⟨E10 r,λ_ _ _ _=>False,E10 r⟩
abbrev W10(r:Except Fl Qry)(c:Code)(T:Tm)(O:S):Prop:=wpP env 10 none 63 (X10 r) c T D10 O (Q10 r)
theorem al29(h:List AObj)(p:V):jbi env h 29 p=(jai h 20 p).map .agg:=by
 have g:Go.Ab.aggT env 29=some true:=by kernel_rfl
 unfold jbi
 simp only[g,s29,Kj]
theorem al32(h:List AObj)(p:V):jbi env h 32 p=(jai h 2 p).map .agg:=by
 have g:Go.Ab.aggT env 32=some true:=by kernel_rfl
 unfold jbi
 simp only[g,s32,Kj]
structure RC (L:List AObj):Prop where
 a:∃c,L[0]? = some (.cells c 29)/\c.length=20
 b:∃c,L[1]? = some (.cells c 32)/\c.length=2
theorem RC.mv {p:Nat}{L L':List AObj}(h:RC L)(f:Fr p L L')(hp:2<=p):RC L':=by
 obtain⟨⟨c,a1,a2⟩,⟨d,b1,b2⟩⟩:=h
 exact⟨⟨c,f.has a1 (by omega),a2⟩,⟨d,f.has b1 (by omega),b2⟩⟩
theorem jvt {r:Except Fl Qry}{e:Fl}(hr:r=.error e){L:List AObj}{ts:List Nat}(hc:RC L){vals:List V}(h2:vals.getD 2 (.tup [])=.ptr 0 0)(h3:vals.getD 3 (.tup [])=.ptr 1 0):X10 r (flt e) vals D10 ⟨L,ts⟩:=by
 obtain⟨⟨c,a1,a2⟩,⟨d,b1,b2⟩⟩:=hc
 have hla:=jaU a1
 have hlb:=jaU b1
 refine⟨rfl,_,jn5 e a1 a2 b1 b2 (by omega),?_⟩
 subst hr
 have g1:(((L++[AObj.cells [.int .i64 e.1,.int .i64 e.2] 51]).set 0 (.cells (qC Qry.zero .nilsl .nilsl .nilsl) 29)).set 1 (.cells [.int .i64 e.1,.int .i64 e.2] 32))[0]? = some (.cells (qC Qry.zero .nilsl .nilsl .nilsl) 29):=by
  rw[Ki (by omega),Kl (by simp)]
 have g2:(((L++[AObj.cells [.int .i64 e.1,.int .i64 e.2] 51]).set 0 (.cells (qC Qry.zero .nilsl .nilsl .nilsl) 29)).set 1 (.cells [.int .i64 e.1,.int .i64 e.2] 32))[1]? = some (.cells [.int .i64 e.1,.int .i64 e.2] 32):=by
  rw[Kl (by simp;omega)]
 have l1:∀H:List AObj,H[0]? = some (.cells (qC Qry.zero .nilsl .nilsl .nilsl) 29)->jai H 20 (.ptr 0 0)=some (qC Qry.zero .nilsl .nilsl .nilsl):=λH h=>by simp only[jai,h];rfl
 have l2:∀H:List AObj,H[1]? = some (.cells [.int .i64 e.1,.int .i64 e.2] 32)->jai H 2 (.ptr 1 0)=some [.int .i64 e.1,.int .i64 e.2]:=λH h=>by simp[jai,h]
 refine⟨[.agg (qC Qry.zero .nilsl .nilsl .nilsl),.agg [.int .i64 e.1,.int .i64 e.2]],?_,jzr⟩
 rw[jtY]
 simp only[resV,h2,h3,al29,al32,l1 _ g1,l2 _ g2,Kw,Kj]
theorem jBh {Q:Qry}{ev wv rv:V}{base:Nat}{ts:List Nat}(hq:QL base ts Q ev wv rv){L:List AObj}{T:Tm}(t2:T 2=.ptr 0 0)(t3:T 3=.ptr 1 0)(h0:L[0]? = some (.cells (qC Q ev wv rv) 29))(h1:L[1]? = some (.cells [.int .i64 0,.int .i64 0] 32)):E10 (.ok Q) T D10 ⟨L,ts⟩:=by
 refine⟨rfl,_,jn4 _ _ _ _,[.agg (qC Q ev wv rv),.agg [.int .i64 0,.int .i64 0]],?_,jBg hq⟩
 rw[jtY]
 have l1:jai (L++[AObj.cells [.int .i64 0,.int .i64 0] 51]) 20 (.ptr 0 0)=some (qC Q ev wv rv):=by simp only[jai,jbH h0];rfl
 have l2:jai (L++[AObj.cells [.int .i64 0,.int .i64 0] 51]) 2 (.ptr 1 0)=some [.int .i64 0,.int .i64 0]:=by simp only[jai,jbH h1];rfl
 simp only[resT,t2,t3,al29,al32,l1,l2,Kw,Kj]
section
variable {lv:V}{en:Int}{l:List Tk}{L:List AObj}{ts:List Nat}{itoa:Int->List UInt8}{mk:Int->Int->List UInt8}{me:Int->Int->List UInt8}
theorem qs12 {Q:Qry}{ev wv rv:V}{base j:Nat}(hq:QL base ts Q ev wv rv)(hc:RC L)(hP:Pc lv en (qC Q ev wv rv) 2 L j 0){T:Tm}(t2:T 2=.ptr 0 0)(t3:T 3=.ptr 1 0)(t5:T 5=.ptr 2 0):W10 (.ok Q) (jbq 12 (jay Tryz.f10)) T ⟨L,ts⟩:=by
 obtain⟨⟨c,a1,a2⟩,⟨d,b1,b2⟩⟩:=hc
 have hla:=jaU a1
 have hlb:=jaU b1
 have l1:jai L 20 (.ptr 2 4)=some (qC Q ev wv rv):=by
  have h:L[2]? = some (pcL lv en (qC Q ev wv rv) j 0):=hP
  simp only[jai,h,pcL];rfl
 have bd32:jcd env 32 []=some (.agg [.int .i64 0,.int .i64 0]):=by kernel_rfl
 have st1:storeAt ⟨L,ts⟩ (qC Q ev wv rv) 0 0 (some (.cells c 29))=some ⟨L.set 0 (.cells (qC Q ev wv rv) 29),ts⟩:=by
  unfold storeAt
  simp only
  rw[Kk ⟨by rw[a2];exact Qo rfl,by simp[qC,ic,hq.e.cells.2,hq.w.cells.2,hq.r.cells.2]⟩]
  have:jab c 0 (qC Q ev wv rv)=qC Q ev wv rv:=by
   unfold jab
   rw[Xg (by rw[a2];exact Qo rfl)]
   simp
  rw[this];rfl
 have g1:(L.set 0 (.cells (qC Q ev wv rv) 29))[1]? = some (.cells d 32):=by rw[Ki (by omega)];exact b1
 have st2:storeAt ⟨L.set 0 (.cells (qC Q ev wv rv) 29),ts⟩ [.int .i64 0,.int .i64 0] 1 0 (some (.cells d 32))=some ⟨(L.set 0 (.cells (qC Q ev wv rv) 29)).set 1 (.cells [.int .i64 0,.int .i64 0] 32),ts⟩:=by
  unfold storeAt
  simp only
  rw[Kk ⟨by rw[b2];exact Qo rfl,rfl⟩]
  have:jab d 0 [.int .i64 0,.int .i64 0]=[.int .i64 0,.int .i64 0]:=by
   unfold jab
   rw[Xg (by rw[b2];exact Qo rfl)]
   simp
  rw[this];rfl
 have hq20:(qC Q ev wv rv).length=20:=rfl
 refine jq7 ?_
 simp only[jbq,jay,Tryz.f10,Kv,Ka,simprocAttr,Uq,Ke,Ur,jab,al1,Un,zv47,Um,row1,jak,t2,t3,t5,al29,l1,bd32,a1,st1,g1,st2,s29,s32,hq20]
 exact jBh hq t2 t3 (by rw[Ki (by omega),Kl hla]) (Kl (by simpa using hlb))
def fin(x:R Qry):Except Fl Qry:=match x with
 | .ok (q,_)=>.ok q
 | .error e=>.error e
theorem qs11(hv:IsK lv l)(hl:l.length<=4000)(hs:jem l)(hI:ItOK itoa)(hM:MkOK l en itoa mk me){Q:Qry}{ev wv rv:V}{base j:Nat}(hq:QL base ts Q ev wv rv)(hcon:Q.consistent=false)(hj:j<=l.length)(hc:RC L)(hP:Pc lv en (qC Q ev wv rv) 2 L j 0){T:Tm}(t2:T 2=.ptr 0 0)(t3:T 3=.ptr 1 0)(t5:T 5=.ptr 2 0):W10 (fin (jfF l en itoa mk Q j)) (.seq (p10 11) (jbq 12 (jay Tryz.f10))) T ⟨L,ts⟩:=by
 obtain⟨x,⟨L',t'⟩,hcx,hX⟩:=jzj (ts:=ts) hv hl hs hI hM hj hP hq hcon
 generalize jfF l en itoa mk Q j=r at *
 match r,hX with
 | .ok (Q',j'),⟨k1,k2,ev',wv',rv',k3,k4⟩ =>
  subst k1
  refine jc7 ?_
  simp only[show p10 11=hdC (jbq 11 (jay Tryz.f10))from rfl,hdC,jbq,jay,Tryz.f10,Kv,Ka,simprocAttr,Uq,Ke,Vq,t5,jge hcx]
  refine qs12 k4 (hc.mv k2 (Kx _)) k3 ?_ ?_ ?_
  ·exact t2
  ·exact t3
  ·exact t5
 | .error e,⟨k1,k2⟩ =>
  subst k1
  obtain⟨p1,p2,p3,p4,p5⟩:=jfc hcx
  refine jhb ?_
  simp only[show p10 11=hdC (jbq 11 (jay Tryz.f10))from rfl,hdC,jbq,jay,Tryz.f10,Kv]
  refine jjg 1 _ _ rfl rfl rfl ?_
  simp only[Jb,Q4,Ka,simprocAttr,Uq,Ke,Vq,t5]
  exact⟨_,[],[],[.ptr 2 0],_,_,rfl,rfl,p1,p2,p3,p4,p5,λvals hr=>jvt rfl (hc.mv k2 (Kx _)) ((hr.2 2).trans t2) ((hr.2 3).trans t3)⟩
theorem qs10(hv:IsK lv l)(hl:l.length<=4000)(hs:jem l)(hI:ItOK itoa)(hM:MkOK l en itoa mk me){Q:Qry}{ev wv rv:V}{base j:Nat}(hq:QL base ts Q ev wv rv)(hcon:Q.consistent=false)(hj:j<=l.length)(hc:RC L)(hP:Pc lv en (qC Q ev wv rv) 2 L j 0){T:Tm}(t2:T 2=.ptr 0 0)(t3:T 3=.ptr 1 0)(t5:T 5=.ptr 2 0):W10 (fin (andThen (jcs l en Q j) λq j=>jfF l en itoa mk q j)) (.seq (p10 10) (.seq (p10 11) (jbq 12 (jay Tryz.f10)))) T ⟨L,ts⟩:=by
 obtain⟨x,⟨L',t'⟩,hcx,hX⟩:=jvo (ts:=ts) hv hl hj hP hq
 have hap:=jtX (l:=l) (en:=en) hcon j
 generalize jcs l en Q j=r at *
 match r,hap,hX with
 | .ok (Q',j'),hap,⟨k1,k2,ev',wv',rv',k3,k4⟩ =>
  subst k1
  refine jc7 ?_
  simp only[show p10 10=hdC (jbq 10 (jay Tryz.f10))from rfl,hdC,jbq,jay,Tryz.f10,Kv,Ka,simprocAttr,Uq,Ke,Vq,t5,jge hcx]
  refine qs11 (Q:=Q') hv hl hs hI hM k4 hap.2 hap.1 (hc.mv k2 (Kx _)) k3 ?_ ?_ ?_
  ·exact t2
  ·exact t3
  ·exact t5
 | .error e,_,⟨k1,k2⟩ =>
  subst k1
  obtain⟨p1,p2,p3,p4,p5⟩:=jfc hcx
  refine jhb ?_
  simp only[show p10 10=hdC (jbq 10 (jay Tryz.f10))from rfl,hdC,jbq,jay,Tryz.f10,Kv]
  refine jjg 1 _ _ rfl rfl rfl ?_
  simp only[Jb,Q4,Ka,simprocAttr,Uq,Ke,Vq,t5]
  exact⟨_,[],[],[.ptr 2 0],_,_,rfl,rfl,p1,p2,p3,p4,p5,λvals hr=>jvt rfl (hc.mv k2 (Kx _)) ((hr.2 2).trans t2) ((hr.2 3).trans t3)⟩
theorem qs9(hv:IsK lv l)(hl:l.length<=4000)(hs:jem l)(hI:ItOK itoa)(hM:MkOK l en itoa mk me){base j:Nat}{k:Int}(hk:1<=k/\k<=10)(hb:base<=ts.length)(hj:j<=l.length)(hc:RC L)(hP:Pc lv en (qC Qry.zero .nilsl .nilsl .nilsl) 2 L j 0){T:Tm}(t2:T 2=.ptr 0 0)(t3:T 3=.ptr 1 0)(t5:T 5=.ptr 2 0)(t8:T 8=.func (47+k.toNat) [] []):W10 (fin (andThen (jfU l en k Qry.zero j) λq j=>andThen (jcs l en q j) λq j=>jfF l en itoa mk q j)) (.seq (p10 9) (.seq (p10 10) (.seq (p10 11) (jbq 12 (jay Tryz.f10))))) T ⟨L,ts⟩:=by
 obtain⟨x,⟨L',t'⟩,hcx,hX⟩:=jzn (ts:=ts) hv hl hs hj hP hb hk
 have hap:=jvs (l:=l) (en:=en) k (Q:=Qry.zero) rfl hj
 generalize jfU l en k Qry.zero j=r at *
 match r,hap,hX with
 | .ok (Q',j'),hap,⟨k1,k2,ev',wv',rv',k3,k4⟩ =>
  subst k1
  refine jc7 ?_
  simp only[show p10 9=hdC (jbq 9 (jay Tryz.f10))from rfl,hdC,jbq,jay,Tryz.f10,Kv,Ka,simprocAttr,Uq,Ke,Vq,t5,t8,jge hcx]
  refine qs10 (Q:=Q') hv hl hs hI hM k4 hap.2 hap.1 (hc.mv k2 (Kx _)) k3 ?_ ?_ ?_
  ·exact t2
  ·exact t3
  ·exact t5
 | .error e,_,⟨k1,k2⟩ =>
  subst k1
  obtain⟨p1,p2,p3,p4,p5⟩:=jfc hcx
  refine jhb ?_
  simp only[show p10 9=hdC (jbq 9 (jay Tryz.f10))from rfl,hdC,jbq,jay,Tryz.f10,Kv]
  refine jjg 2 _ _ rfl rfl rfl ?_
  simp only[Jb,Q4,Ka,simprocAttr,Uq,Ke,Vq,t5,t8]
  exact⟨_,[],[],[.ptr 2 0],_,_,rfl,rfl,p1,p2,p3,p4,p5,λvals hr=>jvt rfl (hc.mv k2 (Kx _)) ((hr.2 2).trans t2) ((hr.2 3).trans t3)⟩
theorem qs8(hv:IsK lv l)(hl:l.length<=4000)(hs:jem l)(hI:ItOK itoa)(hM:MkOK l en itoa mk me){base j:Nat}{k:Int}(hk:1<=k/\k<=10)(hb:base<=ts.length)(hj:j<l.length)(hc:RC L)(hP:Pc lv en (qC Qry.zero .nilsl .nilsl .nilsl) 2 L j 0){T:Tm}(t2:T 2=.ptr 0 0)(t3:T 3=.ptr 1 0)(t5:T 5=.ptr 2 0)(t8:T 8=.func (47+k.toNat) [] []):W10 (fin (andThen (jfU l en k Qry.zero (j+1)) λq j=>andThen (jcs l en q j) λq j=>jfF l en itoa mk q j)) (.seq (p10 8) (.seq (p10 9) (.seq (p10 10) (.seq (p10 11) (jbq 12 (jay Tryz.f10)))))) T ⟨L,ts⟩:=by
 have e1:IntKind.i64.wrap ((j:Int)+1)=((j+1:Nat):Int):=by rw[wrap_i64 (by omega) (by omega)];omega
 have hcl:=Pc.has hP
 refine jc7 ?_
 simp only[show p10 8=hdC (jbq 8 (jay Tryz.f10))from rfl,hdC,jbq,jay,Tryz.f10,Kv,Ka,simprocAttr,Uq,Ke,Ur,jab,al1,Un,zv47,Um,row1,jak,t5,hcl,e1]
 refine qs9 hv hl hs hI hM hk hb hj (hc.mv (Fr.set 2 L _) (Kx _)) (hP.set (j+1) 0) ?_ ?_ ?_ ?_
 ·exact t2
 ·exact t3
 ·exact t5
 ·exact t8
theorem jzt(l:List Tk)(i:Nat):keyT l i=(pkT l [2] i).1.text:=by
 unfold keyT pkT
 cases l[i]? with
 |none=>rfl
 |some t =>
  simp only[Xz]
  by_cases h:t.kind=2
  ·simp[h]
  ·simp[h,tk0]
theorem jvu {l:List Tk}{i:Nat}{k:Int}(h:PP.look jed (keyT l i)=some k):i<l.length:=by
 unfold keyT at h
 split at h
 ·rename_i t ht;exact jhd ht
 ·have:PP.look jed []=none:=by decide
  rw[this]at h;cases h
def jzu(l:List Tk)(en:Int)(itoa:Int->List UInt8)(mk:Int->Int->List UInt8)(o:Option Int):Except Fl Qry :=
 match o with
 |none=>.error (11,atP l en 0)
 |some k=>fin (andThen (jfU l en k Qry.zero 1) λq j=>andThen (jcs l en q j) λq j=>jfF l en itoa mk q j)
theorem jrz:jdD l en itoa mk=jzu l en itoa mk (PP.look jed (keyT l 0)):=by
 unfold jdD jzu
 cases PP.look jed (keyT l 0)with
 |none=>rfl
 |some k =>
  simp only
  generalize (andThen (jfU l en k Qry.zero 1) λq j=>andThen (jcs l en q j) λq j=>jfF l en itoa mk q j)=r
  match r with
  | .ok (q,j)=>rfl
  | .error e=>rfl
theorem qs7(hv:IsK lv l)(hl:l.length<=4000)(hs:jem l)(hI:ItOK itoa)(hM:MkOK l en itoa mk me){base:Nat}(hb:base<=ts.length)(hc:RC L)(hP:Pc lv en (qC Qry.zero .nilsl .nilsl .nilsl) 2 L 0 0){T:Tm}(t2:T 2=.ptr 0 0)(t3:T 3=.ptr 1 0)(t5:T 5=.ptr 2 0)
  (t9:T 9=.bool (PP.look jed (keyT l 0)).isSome) (t8:∀k,PP.look jed (keyT l 0)=some k->T 8=.func (47+k.toNat) [] []):W10 (jdD l en itoa mk) (.seq (p10 7) (.seq (p10 8) (.seq (p10 9) (.seq (p10 10) (.seq (p10 11) (jbq 12 (jay Tryz.f10))))))) T ⟨L,ts⟩:=by
 rw[jrz]
 cases hk:PP.look jed (keyT l 0)with
 |some k =>
  rw[hk]at t9
  have t8:=t8 k hk
  have t9':T 9=.bool true:=t9
  refine jc7 ?_
  simp only[show p10 7=hdC (jbq 7 (jay Tryz.f10))from rfl,hdC,jbq,jay,Tryz.f10,Kv,Ka,simprocAttr,Uq,Ke,Vq,t9']
  refine qs8 hv hl hs hI hM (jnv hk) hb (jvu hk) hc hP ?_ ?_ ?_ ?_
  ·exact t2
  ·exact t3
  ·exact t5
  ·exact t8
 |none =>
  rw[hk]at t9
  have t9':T 9=.bool false:=t9
  have ha:=jeC hv hl hP ts
  obtain⟨r,O',hcx,rfl,rfl⟩:=jgn 11 (atP l en 0) ⟨L,ts⟩
  obtain⟨p1,p2,p3,p4,p5⟩:=jfc hcx
  refine jhb ?_
  simp only[show p10 7=hdC (jbq 7 (jay Tryz.f10))from rfl,hdC,jbq,jay,Tryz.f10,Kv]
  refine jc7 ?_
  simp only[Ka,simprocAttr,Uq,Ke,Vq,t9']
  refine jpL (b:=true) rfl ?_
  simp only[Ku]
  refine jjg 2 _ _ rfl rfl rfl ?_
  simp only[Jb,Q4,Ka,simprocAttr,Uq,Ke,Vq,t5,ha]
  exact⟨_,[],[],[.int .i64 11,.int .i64 (atP l en 0)],_,_,rfl,rfl,p1,p2,p3,p4,p5,λvals hr=>jvt rfl hc ((hr.2 2).trans t2) ((hr.2 3).trans t3)⟩
theorem qs6(hv:IsK lv l)(hl:l.length<=4000)(hs:jem l)(hI:ItOK itoa)(hM:MkOK l en itoa mk me){base:Nat}(hb:base<=ts.length)(hc:RC L)(hP:Pc lv en (qC Qry.zero .nilsl .nilsl .nilsl) 2 L 0 0){T:Tm}(t2:T 2=.ptr 0 0)(t3:T 3=.ptr 1 0)(t5:T 5=.ptr 2 0)
  {b:Nat} {t:Tk} (ht:t.text=keyT l 0) (t6:T 6=.ptr b 0) (h6:L[b]? = some (.cells (jak t) 47)):W10 (jdD l en itoa mk) (.seq (p10 6) (.seq (p10 7) (.seq (p10 8) (.seq (p10 9) (.seq (p10 10) (.seq (p10 11) (jbq 12 (jay Tryz.f10)))))))) T ⟨L,ts⟩:=by
 have hkc:=jrx L ts
 have hlk:=jxy (ts:=ts) (L:=L++[.map (kE 10) 10]) (b:=L.length) (by simp) t.text
 have h6':(L++[AObj.map (kE 10) 10])[b]? = some (.cells [.int .i64 t.kind,.str t.text,.int .i64 t.n,.int .i64 t.pos] 47):=jbH h6 _
 have hF:Fr 2 L (L++[AObj.map (kE 10) 10]):=Fr.app _ _ _
 refine jc7 ?_
 rw[ht]at hlk
 simp only[show p10 6=hdC (jbq 6 (jay Tryz.f10))from rfl,hdC,jbq,jay,Tryz.f10,Kv]
 refine jsz rfl [(true,[]),(false,[]),(false,[0]),(false,[]),(false,[]),(false,[]),(false,[]),(false,[]),(false,[])] (λm s0=>m=0->s0.heap[b]? = some (.cells (jak t) 47)) (λ_=>h6) (by kernel_rfl) (by kernel_rfl) ?_
 cases hk:PP.look jed (keyT l 0)with
 | some k =>
  rw[hk]at hlk
  simp only[Ka,simprocAttr,Uq,Ke,Ur,jab,al1,Un,zv47,Um,row1,jak,hhWa,hhWb,hhWc,hhWd,jhH,jl6,jl7,jhI,jl8,jhJ,jl9,jfE,jej,jdA,jdB,t6,hkc,h6',jep,ht,hlk]
  refine⟨⟨λs h=>by rw[h];rfl,trivial⟩,?_⟩
  refine qs7 hv hl hs hI hM hb (hc.mv hF (Kx _)) (hP.app _) ?_ ?_ ?_ ?_ ?_
  ·exact t2
  ·exact t3
  ·exact t5
  ·rw[hk];rfl
  ·intro k' hk'
   rw[hk]at hk'
   cases hk';rfl
 | none =>
  rw[hk]at hlk
  simp only[Ka,simprocAttr,Uq,Ke,Ur,jab,al1,Un,zv47,Um,row1,jak,hhWa,hhWb,hhWc,hhWd,jhH,jl6,jl7,jhI,jl8,jhJ,jl9,jfE,jej,jdA,jdB,t6,hkc,h6',jep,ht,hlk]
  refine⟨⟨λs h=>by rw[h];rfl,trivial⟩,?_⟩
  refine qs7 hv hl hs hI hM hb (hc.mv hF (Kx _)) (hP.app _) ?_ ?_ ?_ ?_ ?_
  ·exact t2
  ·exact t3
  ·exact t5
  ·rw[hk];rfl
  ·intro k' hk'
   rw[hk]at hk'
   cases hk'
theorem fo32:ja7 env 32 0=some 0/\ja7 env 32 1=some 1:=⟨by kernel_rfl,by kernel_rfl⟩
theorem bd55(hv:IsK lv l)(n:Int):jcd env 55 [(0,lv),(2,.int .i64 n)]=some (.agg (lv::.int .i64 0::.int .i64 n::.int .i64 0::qC Qry.zero .nilsl .nilsl .nilsl)):=by
 rcases hv with⟨rfl,rfl⟩|⟨q,rfl⟩<;>kernel_rfl
theorem jvv(hv:IsK lv l)(hl:l.length<=4000)(hs:jem l)(hI:ItOK itoa)(s:List UInt8)(hM:MkOK l (s.length:Nat) itoa mk me)(hsp:∀O,jar env (ev env) 19 [.str s] O=some (.tup [lv,.agg [.int .i64 0,.int .i64 0]],O)) :
  ∃v,PV (jdD l (s.length:Nat) itoa mk) v/\∀O,jar env (ev env) 10 [.str s] O=some (v,O):=by
 have key:∃v O',ev env (.call 10 [.str s] S.empty)=some ⟨.ret,[v],[],O'⟩/\KP (jdD l (s.length:Nat) itoa mk) v O':=by
  refine jx5 (g:=22) (caps:=jn6) at10 jzs (by simp[Tryz.f10]) (by simp[Tryz.f10]) ?_
  show wpP env 10 none 63 (X10 (jdD l (s.length:Nat) itoa mk)) _ (argT [.str s]) [] ⟨[],[]⟩ (Q10 (jdD l (s.length:Nat) itoa mk))
  have z29:jbG env 29=some (.agg (qC Qry.zero .nilsl .nilsl .nilsl)):=by kernel_rfl
  have z32:jbG env 32=some (.agg [.int .i64 0,.int .i64 0]):=by kernel_rfl
  refine jc7 ?_
  simp only[show p10 0=hdC (jbq 0 (jay Tryz.f10))from rfl,hdC,jbq,jay,Tryz.f10,Kv,Ka,simprocAttr,Uq,Ke,Ur,jab,al1,Un,zv47,Um,row1,jak,z29,z32]
  refine jc7 ?_
  simp only[show p10 1=hdC (jbq 1 (jay Tryz.f10))from rfl,hdC,jbq,jay,Tryz.f10,Kv,Ka,simprocAttr,Uq,Ke,Ur,jab,al1,Un,zv47,Um,row1,jak,hsp,s32]
  refine jc7 ?_
  simp only[show p10 2=hdC (jbq 2 (jay Tryz.f10))from rfl,hdC,jbq,jay,Tryz.f10,Kv,Ka,simprocAttr,Uq,Ke,Ur,jab,al1,Un,zv47,Um,row1,jak,fo32,tys]
  refine jhb ?_
  simp only[show p10 3=hdC (jbq 3 (jay Tryz.f10))from rfl,hdC,jbq,jay,Tryz.f10,Kv]
  refine jry (caps:=jn6) rfl (by omega) ?_
  refine jc7 ?_
  have hlen:=bd55 hv (s.length:Nat)
  have hpc:=hv
  simp only[show p10 4=hdC (jbq 4 (jay Tryz.f10))from rfl,hdC,jbq,jay,Tryz.f10,Kv,Ka,simprocAttr,Uq,Ke,Ur,jab,al1,Un,zv47,Um,row1,jak,jaN,hlen]
  refine jc7 ?_
  simp only[show p10 5=hdC (jbq 5 (jay Tryz.f10))from rfl,hdC,jbq,jay,Tryz.f10,Kv,Ka,simprocAttr,Uq,Ke,Ur,jab,al1,Un,zv47,Um,row1,jak]
  have hP0:Pc lv (s.length:Nat) (qC Qry.zero .nilsl .nilsl .nilsl) 2 [AObj.cells (qC Qry.zero .nilsl .nilsl .nilsl) 29,AObj.cells [V.int IntKind.i64 0,V.int IntKind.i64 0] 32,AObj.cells (lv::V.int IntKind.i64 0::V.int IntKind.i64 ↑s.length::V.int IntKind.i64 0::qC Qry.zero .nilsl .nilsl .nilsl) 55] 0 0:=rfl
  have hc0:RC [AObj.cells (qC Qry.zero .nilsl .nilsl .nilsl) 29,AObj.cells [V.int IntKind.i64 0,V.int IntKind.i64 0] 32,AObj.cells (lv::V.int IntKind.i64 0::V.int IntKind.i64 ↑s.length::V.int IntKind.i64 0::qC Qry.zero .nilsl .nilsl .nilsl) 55]:=⟨⟨_,rfl,rfl⟩,⟨_,rfl,rfl⟩⟩
  generalize [AObj.cells (qC Qry.zero .nilsl .nilsl .nilsl) 29,AObj.cells [V.int IntKind.i64 0,V.int IntKind.i64 0] 32,AObj.cells (lv::V.int IntKind.i64 0::V.int IntKind.i64 ↑s.length::V.int IntKind.i64 0::qC Qry.zero .nilsl .nilsl .nilsl) 55]=L0 at hP0 hc0
  refine jsU (jks hv hl hP0 [] [2] .full (by decide)) ?_
  rintro _ _ ⟨rfl,X,rfl⟩
  have hP1:=hP0.app X
  have hc1:=hc0.mv (Fr.app 2 L0 X) (Kx _)
  have hkp:=jzt l 0
  generalize pkT l [2] 0=pk at *
  obtain⟨tk,pb⟩:=pk
  simp only at hkp
  generalize L0++X=L1 at *
  have hz:∀o:AObj,(L1++[o])[L1.length]? = some o:=λo=>by simp
  simp only[Ka,simprocAttr,Uq,Ke,Ur,jab,al1,Un,zv47,Um,row1,jak,hz]
  refine qs6 (base:=0) (t:=tk) (b:=L1.length) hv hl hs hI hM (Qm _) (hc1.mv (Fr.app 2 L1 _) (Kx _)) (hP1.app _) ?_ ?_ ?_ hkp.symm ?_ ?_
  ·rfl
  ·rfl
  ·rfl
  ·rfl
  ·exact hz _
 obtain⟨v,O',h1,v',h2,h3⟩:=key
 exact⟨v',h3,jkN rfl rfl rfl h1 h2⟩
theorem jn7(s:List UInt8)(e a:Int)(he:e ≠ 0)(lv:V)(hv:lv=.nilsl)(hsp:∀O,jar env (ev env) 19 [.str s] O=some (.tup [lv,.agg [.int .i64 e,.int .i64 a]],O)) :
  ∃v,PV (.error (e,a)) v/\∀O,jar env (ev env) 10 [.str s] O=some (v,O):=by
 refine⟨_,rfl,λO => ?_⟩
 refine jau rfl rfl rfl at10 rfl (by simp[Tryz.f10]) (by simp[Tryz.f10]) (jaq ?_) O
 have z29:jbG env 29=some (.agg (qC Qry.zero .nilsl .nilsl .nilsl)):=by kernel_rfl
 have z32:jbG env 32=some (.agg [.int .i64 0,.int .i64 0]):=by kernel_rfl
 have he2:=eq_false he
 have em:S.empty=⟨[],[]⟩:=rfl
 subst hv
 rw[em]
 have l1:jai [AObj.cells (qC Qry.zero .nilsl .nilsl .nilsl) 29,AObj.cells [V.int IntKind.i64 e,V.int IntKind.i64 a] 32] 2 (.ptr 1 0)=some [.int .i64 e,.int .i64 a]:=rfl
 have l2:jai [AObj.cells (qC Qry.zero .nilsl .nilsl .nilsl) 29,AObj.cells [V.int IntKind.i64 e,V.int IntKind.i64 a] 32] 20 (.ptr 0 0)=some (qC Qry.zero .nilsl .nilsl .nilsl):=rfl
 have hq20:(qC Qry.zero .nilsl .nilsl .nilsl).length=20:=rfl
 have st1:storeAt ⟨[AObj.cells (qC Qry.zero .nilsl .nilsl .nilsl) 29,AObj.cells [V.int IntKind.i64 e,V.int IntKind.i64 a] 32],[]⟩ (qC Qry.zero .nilsl .nilsl .nilsl) 0 0 (some (.cells (qC Qry.zero .nilsl .nilsl .nilsl) 29))=some ⟨[AObj.cells (qC Qry.zero .nilsl .nilsl .nilsl) 29,AObj.cells [V.int IntKind.i64 e,V.int IntKind.i64 a] 32],[]⟩:=rfl
 simp only[Tryz.f10,Ka,simprocAttr,Uq,Ke,Ur,jab,al1,Un,zv47,Um,row1,jak,z29,z32,hsp,s32,s29,fo32,tys,he2,bd29,al32,al29,l1,l2,hq20,st1]
 refine jk9 rfl (λs=>s.heap[1]? = some (.cells [.int .i64 e,.int .i64 a] 32)) rfl (by kernel_rfl) ?_
 simp only[Tryz.f10,Ka,simprocAttr,Uq,Ke,Ur,jab,al1,Un,zv47,Um,row1,jak,hhWa,hhWb,hhWc,hhWd,z29,z32,hsp,s32,s29,fo32,tys,he2,bd29,al32,al29,l1,l2,hq20,st1]
 refine⟨λs h => ?_,?_⟩
 ·have:jai s.heap 2 (.ptr 1 0)=some [.int .i64 e,.int .i64 a]:=by simp[jai,h]
  rw[this];rfl
 ·simp only[jaX,jax,ja8,jcD,jaA,jaF,jaW,jb8,jbc,jg7,qC,Kj,Kw]
end
end Go.Proofs.YtpclebdkhpapjaaGreatDoor
