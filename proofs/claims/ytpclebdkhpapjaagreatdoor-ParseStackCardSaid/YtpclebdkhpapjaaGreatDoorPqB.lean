/- Proved here: the parser, the whole. Conditions: those of each theorem; no statement of the seat is proved in this text. -/
import Derived.Test.YtpclebdkhpapjaaGreatDoorPqA
set_option linter.unusedSimpArgs false
set_option linter.unusedVariables false
set_option linter.unusedSectionVars false
namespace Go.Proofs.YtpclebdkhpapjaaGreatDoor
open Go.Ab
open Go.Ab.PP
set_option maxHeartbeats 8000000
set_option maxRecDepth 100000
def jiG (l:List (Int × Int)):List V:=(l.map fun r=>[V.int .i64 r.1,V.int .i64 r.2]).flatten
def qC (Q:Qry)(ev wv rv:V):List V:=[.int .i64 Q.kind,ev,.int .i64 Q.lo,.int .i64 Q.hi,.int .i64 Q.p,.int .i64 Q.q,.str Q.column,.int .i64 Q.bound,rv,.int .i64 Q.strategy,.bool Q.consistent,.str Q.table,.int .i64 Q.keep,.str Q.other,.str Q.left,.str Q.right,.int .i64 Q.limit,wv,.str Q.factor,.int .i64 Q.bits]
structure QL (base:Nat) (ts:List Nat) (Q:Qry) (ev wv rv:V):Prop where
 e:GrowV base ts 3 ev Q.expr.length (jb2 Q.expr)
 w:GrowV base ts 3 wv Q.wher.length (jb2 Q.wher)
 r:GrowV base ts 2 rv Q.ranges.length (jiG Q.ranges)
 b:base≤ts.length
theorem QL.ext {base:Nat}{ts t2:List Nat}{Q:Qry}{ev wv rv:V}(h:QL base ts Q ev wv rv)(x:Ext ts.length ts t2):QL base t2 Q ev wv rv:=⟨h.e.ext x,h.w.ext x,h.r.ext x,Qr h.b x.1⟩
def QX (lv:V)(en:Int)(p base:Nat)(L:List AObj)(r:R Qry)(x:Sum V V)(σ:S):Prop :=
 match r with
 | .ok (Q,j)=>x=.inl (.tup [])∧Fr p L σ.heap∧∃ ev wv rv,Pc lv en (qC Q ev wv rv) p σ.heap j 0∧QL base σ.toks Q ev wv rv
 | .error e=>x=.inr (flt e)∧Fr p L σ.heap
theorem QX.tr {lv:V}{en:Int}{p base:Nat}{L L1:List AObj}{r:R Qry}{x:Sum V V}{σ:S}(h:Fr p L L1)(g:QX lv en p base L1 r x σ):QX lv en p base L r x σ:=by
 match r,g with
 | .ok (a,j),⟨g1,g2,g3⟩=>exact ⟨g1,h.tr g2,g3⟩
 | .error e,⟨g1,g2⟩=>exact ⟨g1,h.tr g2⟩
section
variable {fn:FuncId}{rnd:Option Nat}{n:Nat}{Qp:Post}{ks:List Kt}{m:Bool}{ops:Array Oper}{ol:List Oper}{T:Tm}{D:List DE}{f:FuncId}{args:List V}{X:V→List DE→S→Prop}{Y:V→S→Prop}{d:Nat}
theorem jc6 {α:Type}{enc:α→V}{r:R α}{lv:V}{en:Int}{q:List V}{p o:Nat}{L:List AObj}{ts:List Nat}(h:∃ x σ',jbL env f args ⟨L,ts⟩=some (x,σ')∧RX lv en q p L ts o enc r x σ')(herr:∀ e,r=.error e→∀ L',Fr p L L'→Y (flt e) ⟨L',ts⟩)
  (hok:∀ a j,r=.ok (a,j)→∀ L',Fr p L L'→Pc lv en q p L' j o→HL env fn rnd n X Qp ks Y m ops ol (upd T d (enc a)) D ⟨L',ts⟩):HX env fn rnd n X Qp ks Y m ops ol T D d (jbL env f args ⟨L,ts⟩):=by
 refine jaU h ?_ ?_
 ·rintro v ⟨L',t'⟩ hk
  match r,hok,hk with
  | .ok (a,j),hok,⟨h1,h2,h3,h4⟩=>cases h1; simp only at h4; subst h4; exact hok a j rfl L' h2 h3
  | .error e,_,⟨h1,_⟩=>cases h1
 ·rintro v ⟨L',t'⟩ hk
  match r,herr,hk with
  | .ok (a,j),_,⟨h1,_⟩=>cases h1
  | .error e,herr,⟨h1,h2,h3⟩=>cases h1; simp only at h3; subst h3; exact herr e rfl L' h2
end
theorem jbr (a b:AObj)(p:Nat)(L:List AObj):(L.set p a).set p b=L.set p b:=Qy ..
section
variable {lv:V}{en:Int}{p i o:Nat}{Q:Qry}{ev wv rv:V}{σ:S}
theorem ja0 (a:Int):storeAt σ [.int .i64 a] p 4 (some (pcL lv en (qC Q ev wv rv) i o))=some (σ.set p (pcL lv en (qC { Q with kind:=a } ev wv rv) i o)):=rfl
theorem jwp (a:List Nd){v:V}(hv:v.isCell=true):storeAt σ [v] p 5 (some (pcL lv en (qC Q ev wv rv) i o))=some (σ.set p (pcL lv en (qC { Q with expr:=a } v wv rv) i o)):=by
 unfold storeAt pcL
 simp only
 rw [Km ⟨Qn rfl,by simp [hv]⟩]
 rfl
theorem jbV (a:Int):storeAt σ [.int .i64 a] p 6 (some (pcL lv en (qC Q ev wv rv) i o))=some (σ.set p (pcL lv en (qC { Q with lo:=a } ev wv rv) i o)):=rfl
theorem jbW (a:Int):storeAt σ [.int .i64 a] p 7 (some (pcL lv en (qC Q ev wv rv) i o))=some (σ.set p (pcL lv en (qC { Q with hi:=a } ev wv rv) i o)):=rfl
theorem st_p (a:Int):storeAt σ [.int .i64 a] p 8 (some (pcL lv en (qC Q ev wv rv) i o))=some (σ.set p (pcL lv en (qC { Q with p:=a } ev wv rv) i o)):=rfl
theorem st_q (a:Int):storeAt σ [.int .i64 a] p 9 (some (pcL lv en (qC Q ev wv rv) i o))=some (σ.set p (pcL lv en (qC { Q with q:=a } ev wv rv) i o)):=rfl
theorem jaH (a:List UInt8):storeAt σ [.str a] p 10 (some (pcL lv en (qC Q ev wv rv) i o))=some (σ.set p (pcL lv en (qC { Q with column:=a } ev wv rv) i o)):=rfl
theorem jaO (a:Int):storeAt σ [.int .i64 a] p 11 (some (pcL lv en (qC Q ev wv rv) i o))=some (σ.set p (pcL lv en (qC { Q with bound:=a } ev wv rv) i o)):=rfl
theorem js0 (a:List (Int × Int)){v:V}(hv:v.isCell=true):storeAt σ [v] p 12 (some (pcL lv en (qC Q ev wv rv) i o))=some (σ.set p (pcL lv en (qC { Q with ranges:=a } ev wv v) i o)):=by
 unfold storeAt pcL
 simp only
 rw [Km ⟨Qn rfl,by simp [hv]⟩]
 rfl
theorem jaA (a:Int):storeAt σ [.int .i64 a] p 13 (some (pcL lv en (qC Q ev wv rv) i o))=some (σ.set p (pcL lv en (qC { Q with strategy:=a } ev wv rv) i o)):=rfl
theorem jau (a:Bool):storeAt σ [.bool a] p 14 (some (pcL lv en (qC Q ev wv rv) i o))=some (σ.set p (pcL lv en (qC { Q with consistent:=a } ev wv rv) i o)):=rfl
theorem jaP (a:List UInt8):storeAt σ [.str a] p 15 (some (pcL lv en (qC Q ev wv rv) i o))=some (σ.set p (pcL lv en (qC { Q with table:=a } ev wv rv) i o)):=rfl
theorem ja1 (a:Int):storeAt σ [.int .i64 a] p 16 (some (pcL lv en (qC Q ev wv rv) i o))=some (σ.set p (pcL lv en (qC { Q with keep:=a } ev wv rv) i o)):=rfl
theorem jaQ (a:List UInt8):storeAt σ [.str a] p 17 (some (pcL lv en (qC Q ev wv rv) i o))=some (σ.set p (pcL lv en (qC { Q with other:=a } ev wv rv) i o)):=rfl
theorem ja2 (a:List UInt8):storeAt σ [.str a] p 18 (some (pcL lv en (qC Q ev wv rv) i o))=some (σ.set p (pcL lv en (qC { Q with left:=a } ev wv rv) i o)):=rfl
theorem jaR (a:List UInt8):storeAt σ [.str a] p 19 (some (pcL lv en (qC Q ev wv rv) i o))=some (σ.set p (pcL lv en (qC { Q with right:=a } ev wv rv) i o)):=rfl
theorem jaS (a:Int):storeAt σ [.int .i64 a] p 20 (some (pcL lv en (qC Q ev wv rv) i o))=some (σ.set p (pcL lv en (qC { Q with limit:=a } ev wv rv) i o)):=rfl
theorem jwq (a:List Nd){v:V}(hv:v.isCell=true):storeAt σ [v] p 21 (some (pcL lv en (qC Q ev wv rv) i o))=some (σ.set p (pcL lv en (qC { Q with wher:=a } ev v rv) i o)):=by
 unfold storeAt pcL
 simp only
 rw [Km ⟨Qn rfl,by simp [hv]⟩]
 rfl
theorem jaI (a:List UInt8):storeAt σ [.str a] p 22 (some (pcL lv en (qC Q ev wv rv) i o))=some (σ.set p (pcL lv en (qC { Q with factor:=a } ev wv rv) i o)):=rfl
theorem ja3 (a:Int):storeAt σ [.int .i64 a] p 23 (some (pcL lv en (qC Q ev wv rv) i o))=some (σ.set p (pcL lv en (qC { Q with bits:=a } ev wv rv) i o)):=rfl
theorem ld_q:jhf (some (pcL lv en (qC Q ev wv rv) i o)) 0=some lv∧jhf (some (pcL lv en (qC Q ev wv rv) i o)) 1=some (.int .i64 i)∧jhf (some (pcL lv en (qC Q ev wv rv) i o)) 4=some (.int .i64 Q.kind)∧jhf (some (pcL lv en (qC Q ev wv rv) i o)) 12=some rv∧jhf (some (pcL lv en (qC Q ev wv rv) i o)) 22=some (.str Q.factor):=⟨rfl,rfl,rfl,rfl,rfl⟩
end
section
variable {lv:V}{en:Int}{q:List V}{p base:Nat}{l:List Tk}{L:List AObj}{ts:List Nat}{i o j:Nat}
theorem joI (l:List Tk)(en:Int)(sy:Sy)(i:Nat):go l en deep sy 0 i=some (jmP l en sy i):=by
 have h:=jcC (ts:=l) (en:=en) deep sy 0 (by omega) (by cases sy <;> simp [rank,deep]) i
 unfold jmP
 cases hg:go l en deep sy 0 i with
 | none=>rw [hg] at h; simp at h
 | some r=>rfl
theorem at62:env.P.funcs[62]? = some Tryz.f62:=by kernel_rfl
theorem jno (hv:IsK lv l)(hl:l.length≤4000){fo:FuncId}{sy:Sy}(hf:fo=128∧sy=.expr∨fo=63∧sy=.cond)(hi:i≤l.length)(hP:Pc lv en q p L i 0) :
  ∃ x σ',jbL env 62 [.ptr p 0,.func fo [.ptr p 0] []] ⟨L,ts⟩=some (x,σ')∧GoX lv en q p L ts 0 (jdF l en sy i) x σ':=by
 obtain ⟨c1,c2,c3,c4,c5⟩:=go_x (en:=en) (q:=q) (p:=p) hv hl deep
 have hk:∃ x σ',jbL env fo [.ptr p 0] ⟨L,ts⟩=some (x,σ')∧GoX lv en q p L ts 0 (jmP l en sy i) x σ':=by
  rcases hf with ⟨rfl,rfl⟩ | ⟨rfl,rfl⟩
  ·exact c1 0 i _ (joI l en .expr i) (by omega) hi L ts hP
  ·exact c3 0 i _ (joI l en .cond i) (by omega) hi L ts hP
 have ha:=jcp (jep hv hl hP ts)
 refine jaY rfl rfl rfl rfl at62 rfl (by simp [Tryz.f62]) (by simp [Tryz.f62]) (jbo ?_)
 simp only [Tryz.f62,Kc,jaj,jaw,Kb,simprocAttr,Ys,Y0,Ke,Vq,Va,jab,al1,al47,ic,fo55,fo47,jaa,jae,zv47,bd47,YW,YI,jal,jah,jam,jan,jao,jap,len1,app2,jac,jad,jag,jaB,row1,jak,ha]
 unfold jdF
 generalize jmP l en sy i=r at *
 refine jaU hk ?_ ?_
 ·rintro v ⟨L2,t2⟩ hk
  match r,hk with
  | .ok (out,j),⟨u',k1,k2,k3,k4,k5⟩ =>
   cases k1
   have hlen:=k4.len 71
   simp only [PP.andThen]
   by_cases h200:200<out.length
   ·have h2:=eq_true (show (200:Int)<(out.length:Int) by omega)
    rw [Km h200]
    simp only [Kc,jaj,jaw,Kb,simprocAttr,Ys,Y0,Ke,Vq,Va,jab,al1,al47,ic,fo55,fo47,jaa,jae,zv47,bd47,YW,YI,jal,jah,jam,jan,jao,jap,len1,app2,jac,jad,jag,jaB,row1,jak,tys,hlen,h2]
    refine jaU (jf0 _ _ _) ?_ ?_
    ·rintro v σ' ⟨h,_⟩; cases h
    ·rintro v σ' ⟨h,rfl⟩; cases h; exact ⟨rfl,k2,k5⟩
   ·have h2:=eq_false (show ¬ (200:Int)<(out.length:Int) by omega)
    rw [Kn h200]
    simp only [Kc,jaj,jaw,Kb,simprocAttr,Ys,Y0,Ke,Vq,Va,jab,al1,al47,ic,fo55,fo47,jaa,jae,zv47,bd47,YW,YI,jal,jah,jam,jan,jao,jap,len1,app2,jac,jad,jag,jaB,row1,jak,tys,hlen,h2]
    exact ⟨v,rfl,k2,k3,k4,k5⟩
  | .error e,⟨k1,_⟩=>cases k1
 ·rintro v ⟨L2,t2⟩ hk
  match r,hk with
  | .ok (out,j),⟨u',k1,_⟩=>cases k1
  | .error e,hk=>exact hk
theorem at90:env.P.funcs[90]? = some Tryz.f90:=by kernel_rfl
theorem fo29:ja4 env 29 0=some 0∧ja4 env 29 1=some 1∧ja4 env 29 2=some 2∧ja4 env 29 3=some 3∧ja4 env 29 4=some 4∧ja4 env 29 5=some 5∧ja4 env 29 6=some 6∧ja4 env 29 7=some 7∧ja4 env 29 8=some 8∧ja4 env 29 9=some 9∧ja4 env 29 10=some 10∧ja4 env 29 11=some 11∧ja4 env 29 12=some 12∧ja4 env 29 13=some 13∧ja4 env 29 14=some 14∧ja4 env 29 15=some 15∧ja4 env 29 16=some 16∧ja4 env 29 17=some 17∧ja4 env 29 18=some 18∧ja4 env 29 19=some 19 :=
 ⟨by kernel_rfl,by kernel_rfl,by kernel_rfl,by kernel_rfl,by kernel_rfl,by kernel_rfl,by kernel_rfl,by kernel_rfl,by kernel_rfl,by kernel_rfl,by kernel_rfl,by kernel_rfl,by kernel_rfl,by kernel_rfl,by kernel_rfl,by kernel_rfl,by kernel_rfl,by kernel_rfl,by kernel_rfl,by kernel_rfl⟩
def CY (lv:V)(en:Int)(p:Nat)(L:List AObj)(ts:List Nat)(ev wv rv:V)(r:R Qry)(x:Sum V V)(σ:S):Prop :=
 match r with
 | .ok (Q,j)=>x=.inl (.tup [])∧Fr p L σ.heap∧Pc lv en (qC Q ev wv rv) p σ.heap j 0∧σ.toks=ts
 | .error e=>x=.inr (flt e)∧Fr p L σ.heap
theorem jp0 (hv:IsK lv l)(hl:l.length≤4000){Q:Qry}{ev wv rv:V}(hP:Pc lv en (qC Q ev wv rv) p L i 0)(k:Int) :
  ∃ x σ',jbL env 90 [.ptr p 0,.int .i64 k] ⟨L,ts⟩=some (x,σ')∧CY lv en p L ts ev wv rv (jcq l en k Q i) x σ':=by
 refine jaY rfl rfl rfl rfl at90 rfl (by simp [Tryz.f90]) (by simp [Tryz.f90]) (jbo ?_)
 simp only [Tryz.f90,Kc,jaj,jaw,Kb,simprocAttr,Ys,Y0,Ke,Vq,Va,jab,al1,al47,ic,fo55,fo47,jaa,jae,zv47,bd47,YW,YI,jal,jah,jam,jan,jao,jap,len1,app2,jac,jad,jag,jaB,row1,jak]
 unfold jcq
 refine jc6 (jjY hv hl hP ts) ?_ ?_
 ·intro e he L' hF
  rw [he]; exact ⟨rfl,hF⟩
 ·intro c j hc L' hF hP'
  rw [hc]
  have hcl:L'[p]? = some (pcL lv en (qC Q ev wv rv) j 0):=hP'
  have hgs:∀ a:AObj,(L'.set p a)[p]? = some a:=fun a=>Kj hP'.lt
  simp only [Kc,jaj,jaw,Kb,simprocAttr,Ys,Y0,Ke,Vq,Va,jab,al1,al47,ic,fo55,fo47,jaa,jae,zv47,bd47,YW,YI,jal,jah,jam,jan,jao,jap,len1,app2,jac,jad,jag,jaB,row1,jak,fo29,hcl,hgs,jbr,ja0,jbV,jbW,st_p,st_q,jaH,jaO,jaA,jau,jaP,ja1,jaQ,ja2,jaR,jaS,jaI,ja3,ld_q]
  exact ⟨rfl,hF.tr (Fr.set _ _ _),Kj hP'.lt,rfl⟩
theorem jhF (hv:IsK lv l)(hl:l.length≤4000){Q:Qry}{ev wv rv:V}(hP:Pc lv en (qC Q ev wv rv) p L i 0)(hq:QL base ts Q ev wv rv)(k:Int) :
  ∃ x σ',jbL env 90 [.ptr p 0,.int .i64 k] ⟨L,ts⟩=some (x,σ')∧QX lv en p base L (jcq l en k Q i) x σ':=by
 obtain ⟨x,σ',h1,h2⟩:=jp0 (en:=en) (ts:=ts) hv hl hP k
 refine ⟨x,σ',h1,?_⟩
 unfold jcq at h2 ⊢
 cases hn:jfA l en i with
 | error e=>rw [hn] at h2; exact h2
 | ok y =>
  obtain ⟨c,j⟩:=y
  rw [hn] at h2
  obtain ⟨g1,g2,g3,g4⟩:=h2
  exact ⟨g1,g2,ev,wv,rv,g3,by rw [g4]; exact ⟨hq.e,hq.w,hq.r,hq.b⟩⟩
theorem js1 {k:Int}{t:Tk}(h:jhr l en k i=.ok (t,j)):j≤l.length:=by
 unfold jhr at h
 split at h
 ·rename_i t' ht
  split at h
  ·simp only [Except.ok.injEq,Kh] at h
   have:=(Kz.1 ht).1
   omega
  ·simp [syn] at h
 ·simp [syn] at h
theorem jc7 {s:List UInt8}{u:Unit}(h:must l en s i=.ok (u,j)):j≤l.length:=by
 have h1:=jdz h
 have:=jcd h1.2
 omega
theorem jgU {s:List UInt8}(h:jfA l en i=.ok (s,j)):j≤l.length:=by
 unfold jfA at h
 split at h
 ·rename_i t j' he
  simp only [Except.ok.injEq,Kh] at h
  rw [← h.2]; exact js1 he
 ·cases h
theorem jiA {n:Int}(h:numP l en i=.ok (n,j)):j≤l.length:=by
 unfold numP at h
 split at h
 ·rename_i t j' he
  simp only [Except.ok.injEq,Kh] at h
  rw [← h.2]; exact js1 he
 ·cases h
theorem jj1 {n:Int}(h:intP l en i=.ok (n,j)):j≤l.length:=by
 unfold intP at h
 split at h
 ·split at h
  ·rename_i n' j' he
   simp only [Except.ok.injEq,Kh] at h
   rw [← h.2]; exact jiA he
  ·cases h
 ·exact jiA h
theorem jp1 {n:Int}(h:posP l en i=.ok (n,j)):j≤l.length:=by
 unfold posP at h
 split at h
 ·rename_i n' j' he
  split at h
  ·cases h
  ·simp only [Except.ok.injEq,Kh] at h
   rw [← h.2]; exact jiA he
 ·cases h
theorem js2 {sy:Sy}{out:List Nd}(h:jdF l en sy i=.ok (out,j)):j≤l.length∧out.length≤4000+l.length:=by
 unfold jdF at h
 have hg:=joI l en sy i
 generalize jmP l en sy i=r at *
 match r,h with
 | .ok (a,k),h =>
  simp only [PP.andThen] at h
  have h1:=jcb deep sy 0 _ _ _ hg
  split at h
  ·cases h
  ·simp only [Except.ok.injEq,Kh] at h
   obtain ⟨rfl,rfl⟩:=h
   omega
 | .error e,h=>simp [PP.andThen] at h
theorem andThen_ok {α β:Type}(a:α)(j:Nat)(f:α→Nat→R β):PP.andThen (.ok (a,j)) f=f a j:=rfl
section
variable {fn:FuncId}{rnd:Option Nat}{n:Nat}{Qp:Post}{ks:List Kt}{m:Bool}{ops:Array Oper}{ol:List Oper}{T:Tm}{D:List DE}{f:FuncId}{args:List V}{X:V→List DE→S→Prop}{Y:V→S→Prop}{d:Nat}
theorem jx5 {r:R (List Nd)}(h:∃ x σ',jbL env f args ⟨L,ts⟩=some (x,σ')∧GoX lv en q p L ts o r x σ')(herr:∀ e,r=.error e→∀ L' t',Fr p L L'→Y (flt e) ⟨L',t'⟩)
  (hok:∀ a j,r=.ok (a,j)→∀ L' t' v,Fr p L L'→Pc lv en q p L' j o→GrowV ts.length t' 3 v a.length (jb2 a)→Ext ts.length ts t'→HL env fn rnd n X Qp ks Y m ops ol (upd T d v) D ⟨L',t'⟩):HX env fn rnd n X Qp ks Y m ops ol T D d (jbL env f args ⟨L,ts⟩):=by
 refine jaU h ?_ ?_
 ·rintro v ⟨L',t'⟩ hk
  match r,hok,hk with
  | .ok (a,j),hok,⟨u,h1,h2,h3,h4,h5⟩=>cases h1; exact hok a j rfl L' t' v h2 h3 h4 h5
  | .error e,_,⟨h1,_⟩=>cases h1
 ·rintro v ⟨L',t'⟩ hk
  match r,herr,hk with
  | .ok (a,j),_,⟨u,h1,_⟩=>cases h1
  | .error e,herr,⟨h1,h2,h3⟩=>cases h1; exact herr e rfl L' t' h2
theorem jzZ {r:R Qry}(h:∃ x σ',jbL env f args ⟨L,ts⟩=some (x,σ')∧QX lv en p base L r x σ')(herr:∀ e,r=.error e→∀ L' t',Fr p L L'→Y (flt e) ⟨L',t'⟩)
  (hok:∀ Q j,r=.ok (Q,j)→∀ L' t' ev wv rv,Fr p L L'→Pc lv en (qC Q ev wv rv) p L' j 0→QL base t' Q ev wv rv→HL env fn rnd n X Qp ks Y m ops ol (upd T d (.tup [])) D ⟨L',t'⟩):HX env fn rnd n X Qp ks Y m ops ol T D d (jbL env f args ⟨L,ts⟩):=by
 refine jaU h ?_ ?_
 ·rintro v ⟨L',t'⟩ hk
  match r,hok,hk with
  | .ok (Q,j),hok,⟨h1,h2,ev,wv,rv,h3,h4⟩=>cases h1; exact hok Q j rfl L' t' ev wv rv h2 h3 h4
  | .error e,_,⟨h1,_⟩=>cases h1
 ·rintro v ⟨L',t'⟩ hk
  match r,herr,hk with
  | .ok (Q,j),_,⟨h1,_⟩=>cases h1
  | .error e,herr,⟨h1,h2⟩=>cases h1; exact herr e rfl L' t' h2
end
end
section
variable {lv:V}{en:Int}{q:List V}{p base:Nat}{l:List Tk}{L:List AObj}{ts:List Nat}{i o j:Nat}
theorem QX.inl {r:R Qry}{v:V}{σ:S}(g:QX lv en p base L r (.inl v) σ):QX lv en p base L r (.inl (.tup [])) σ:=by
 match r,g with
 | .ok (a,j),⟨g1,g2⟩=>exact ⟨rfl,g2⟩
 | .error e,⟨g1,_⟩=>cases g1
theorem at89:env.P.funcs[89]? = some Tryz.f89:=by kernel_rfl
theorem jlU (hv:IsK lv l)(hl:l.length≤4000)(hs:jd6 l){Q:Qry}{ev wv rv:V}(hi:i≤l.length)(hP:Pc lv en (qC Q ev wv rv) p L i 0)(hq:QL base ts Q ev wv rv)(k:Int) :
  ∃ x σ',jbL env 89 [.ptr p 0,.int .i64 k] ⟨L,ts⟩=some (x,σ')∧QX lv en p base L (jej l en k Q i) x σ':=by
 refine jaY rfl rfl rfl rfl at89 rfl (by simp [Tryz.f89]) (by simp [Tryz.f89]) (jbo ?_)
 have hc:L[p]? = some (pcL lv en (qC Q ev wv rv) i 0):=hP
 unfold jej
 simp only [Tryz.f89,Kc,jaj,jaw,Kb,simprocAttr,Ys,Y0,Ke,Vq,Va,jab,al1,al47,ic,fo55,fo47,jaa,jae,zv47,bd47,YW,YI,jal,jah,jam,jan,jao,jap,len1,app2,jac,jad,jag,jaB,row1,jak,fo29,YP,jbr,ja0,jbV,jbW,st_p,st_q,jaH,jaO,jaA,jau,jaP,ja1,jaQ,ja2,jaR,jaS,jaI,ja3,ld_q,hc]
 have hs0:Pc lv en (qC { Q with kind:=k } ev wv rv) p (L.set p (pcL lv en (qC { Q with kind:=k } ev wv rv) i 0)) i 0:=Kj hP.lt
 have hf0:=(Fr.rf p L).tr (Fr.set p L (pcL lv en (qC { Q with kind:=k } ev wv rv) i 0))
 have hq0:QL base ts { Q with kind:=k } ev wv rv:=⟨hq.e,hq.w,hq.r,hq.b⟩
 refine jx5 (jno (ts:=ts) hv hl (.inl ⟨rfl,rfl⟩) hi hs0) ?_ ?_
 ·intro e he L' t' hF'
  simp only [he]; exact ⟨rfl,hf0.tr hF'⟩
 intro a1 j1 h1 L1 t1 v1 hF1' hP1 hG1 hE1
 simp only [h1,andThen_ok]
 have hi1:j1≤l.length:=(js2 h1).1
 have hF1:=hf0.tr hF1'
 have hv1:=hG1.cells
 have hc1:L1[p]? = some (pcL lv en (qC { Q with kind:=k } ev wv rv) j1 0):=hP1
 have hg1:∀ a:AObj,(L1.set p a)[p]? = some a:=fun a=>Kj hP1.lt
 simp only [Kc,jaj,jaw,Kb,simprocAttr,Ys,Y0,Ke,Vq,Va,jab,al1,al47,ic,fo55,fo47,jaa,jae,zv47,bd47,YW,YI,jal,jah,jam,jan,jao,jap,len1,app2,jac,jad,jag,jaB,row1,jak,fo29,YP,jbr,ja0,jbV,jbW,st_p,st_q,jaH,jaO,jaA,jau,jaP,ja1,jaQ,ja2,jaR,jaS,jaI,ja3,ld_q,hc1,hg1,jwp a1 hv1.2,hv1.1,hv1.2]
 have hs1:Pc lv en (qC { { Q with kind:=k } with expr:=a1 } v1 wv rv) p (L1.set p (pcL lv en (qC { { Q with kind:=k } with expr:=a1 } v1 wv rv) j1 0)) j1 0:=Kj hP1.lt
 have hf1:=hF1.tr (Fr.set p L1 (pcL lv en (qC { { Q with kind:=k } with expr:=a1 } v1 wv rv) j1 0))
 have hq1:QL base t1 { { Q with kind:=k } with expr:=a1 } v1 wv rv:=⟨(hG1.weakbase hq0.b),(hq0.w.ext hE1),hq0.r.ext hE1,Qr hq0.b hE1.1⟩
 refine jc6 (jds hv hl hi1 hs1 t1 jlI) ?_ ?_
 ·intro e he L' hF'
  simp only [he]; exact ⟨rfl,hf1.tr hF'⟩
 intro a2 j2 h2 L2 hF2' hP2
 simp only [h2,andThen_ok]
 have hi2:j2≤l.length:=jc7 h2
 have hF2:=hf1.tr hF2'
 simp only [Kc,jaj,jaw,Kb,simprocAttr,Ys,Y0,Ke,Vq,Va,jab,al1,al47,ic,fo55,fo47,jaa,jae,zv47,bd47,YW,YI,jal,jah,jam,jan,jao,jap,len1,app2,jac,jad,jag,jaB,row1,jak,fo29,YP,jbr,ja0,jbV,jbW,st_p,st_q,jaH,jaO,jaA,jau,jaP,ja1,jaQ,ja2,jaR,jaS,jaI,ja3,ld_q]
 refine jc6 (jsW hv hl hs hi2 hP2 t1) ?_ ?_
 ·intro e he L' hF'
  simp only [he]; exact ⟨rfl,hF2.tr hF'⟩
 intro a3 j3 h3 L3 hF3' hP3
 simp only [h3,andThen_ok]
 have hi3:j3≤l.length:=jj1 h3
 have hF3:=hF2.tr hF3'
 have hc3:L3[p]? = some (pcL lv en (qC { { Q with kind:=k } with expr:=a1 } v1 wv rv) j3 0):=hP3
 have hg3:∀ a:AObj,(L3.set p a)[p]? = some a:=fun a=>Kj hP3.lt
 simp only [Kc,jaj,jaw,Kb,simprocAttr,Ys,Y0,Ke,Vq,Va,jab,al1,al47,ic,fo55,fo47,jaa,jae,zv47,bd47,YW,YI,jal,jah,jam,jan,jao,jap,len1,app2,jac,jad,jag,jaB,row1,jak,fo29,YP,jbr,ja0,jbV,jbW,st_p,st_q,jaH,jaO,jaA,jau,jaP,ja1,jaQ,ja2,jaR,jaS,jaI,ja3,ld_q,hc3,hg3]
 have hs3:Pc lv en (qC { { { Q with kind:=k } with expr:=a1 } with lo:=a3 } v1 wv rv) p (L3.set p (pcL lv en (qC { { { Q with kind:=k } with expr:=a1 } with lo:=a3 } v1 wv rv) j3 0)) j3 0:=Kj hP3.lt
 have hf3:=hF3.tr (Fr.set p L3 (pcL lv en (qC { { { Q with kind:=k } with expr:=a1 } with lo:=a3 } v1 wv rv) j3 0))
 have hq3:QL base t1 { { { Q with kind:=k } with expr:=a1 } with lo:=a3 } v1 wv rv:=⟨hq1.e,hq1.w,hq1.r,hq1.b⟩
 refine jc6 (jds hv hl hi3 hs3 t1 wAnd) ?_ ?_
 ·intro e he L' hF'
  simp only [he]; exact ⟨rfl,hf3.tr hF'⟩
 intro a4 j4 h4 L4 hF4' hP4
 simp only [h4,andThen_ok]
 have hi4:j4≤l.length:=jc7 h4
 have hF4:=hf3.tr hF4'
 simp only [Kc,jaj,jaw,Kb,simprocAttr,Ys,Y0,Ke,Vq,Va,jab,al1,al47,ic,fo55,fo47,jaa,jae,zv47,bd47,YW,YI,jal,jah,jam,jan,jao,jap,len1,app2,jac,jad,jag,jaB,row1,jak,fo29,YP,jbr,ja0,jbV,jbW,st_p,st_q,jaH,jaO,jaA,jau,jaP,ja1,jaQ,ja2,jaR,jaS,jaI,ja3,ld_q]
 refine jc6 (jsW hv hl hs hi4 hP4 t1) ?_ ?_
 ·intro e he L' hF'
  simp only [he]; exact ⟨rfl,hF4.tr hF'⟩
 intro a5 j5 h5 L5 hF5' hP5
 simp only [h5,andThen_ok]
 have hi5:j5≤l.length:=jj1 h5
 have hF5:=hF4.tr hF5'
 have hc5:L5[p]? = some (pcL lv en (qC { { { Q with kind:=k } with expr:=a1 } with lo:=a3 } v1 wv rv) j5 0):=hP5
 have hg5:∀ a:AObj,(L5.set p a)[p]? = some a:=fun a=>Kj hP5.lt
 simp only [Kc,jaj,jaw,Kb,simprocAttr,Ys,Y0,Ke,Vq,Va,jab,al1,al47,ic,fo55,fo47,jaa,jae,zv47,bd47,YW,YI,jal,jah,jam,jan,jao,jap,len1,app2,jac,jad,jag,jaB,row1,jak,fo29,YP,jbr,ja0,jbV,jbW,st_p,st_q,jaH,jaO,jaA,jau,jaP,ja1,jaQ,ja2,jaR,jaS,jaI,ja3,ld_q,hc5,hg5]
 have hs5:Pc lv en (qC { { { { Q with kind:=k } with expr:=a1 } with lo:=a3 } with hi:=a5 } v1 wv rv) p (L5.set p (pcL lv en (qC { { { { Q with kind:=k } with expr:=a1 } with lo:=a3 } with hi:=a5 } v1 wv rv) j5 0)) j5 0:=Kj hP5.lt
 have hf5:=hF5.tr (Fr.set p L5 (pcL lv en (qC { { { { Q with kind:=k } with expr:=a1 } with lo:=a3 } with hi:=a5 } v1 wv rv) j5 0))
 have hq5:QL base t1 { { { { Q with kind:=k } with expr:=a1 } with lo:=a3 } with hi:=a5 } v1 wv rv:=⟨hq3.e,hq3.w,hq3.r,hq3.b⟩
 exact ⟨rfl,hf5,v1,wv,rv,hs5,hq5⟩
theorem js3 {k:Int}{Q Q':Qry}(h:jej l en k Q i=.ok (Q',j)):j≤l.length:=by
 unfold jej at h
 match h1:jdF l en .expr i,h with
 | .ok (e,j1),h =>
  simp only [andThen_ok] at h
  match h2:must l en jlI j1,h with
  | .ok (_,j2),h =>
   simp only [andThen_ok] at h
   match h3:intP l en j2,h with
   | .ok (_,j3),h =>
    simp only [andThen_ok] at h
    match h4:must l en wAnd j3,h with
    | .ok (_,j4),h =>
     simp only [andThen_ok] at h
     match h5:intP l en j4,h with
     | .ok (_,j5),h =>
      simp only [andThen_ok,Except.ok.injEq,Kh] at h
      rw [← h.2]; exact jj1 h5
     | .error e,h=>cases h
    | .error e,h=>cases h
   | .error e,h=>cases h
  | .error e,h=>cases h
 | .error e,h=>cases h
theorem at51:env.P.funcs[51]? = some Tryz.f51:=by kernel_rfl
theorem jwr (hv:IsK lv l)(hl:l.length≤4000)(hs:jd6 l){Q:Qry}{ev wv rv:V}(hi:i≤l.length)(hP:Pc lv en (qC Q ev wv rv) p L i 0)(hq:QL base ts Q ev wv rv) :
  ∃ x σ',jbL env 51 [.ptr p 0] ⟨L,ts⟩=some (x,σ')∧QX lv en p base L (jpC l en Q i) x σ':=by
 refine jaY rfl rfl rfl rfl at51 rfl (by simp [Tryz.f51]) (by simp [Tryz.f51]) (jbo ?_)
 unfold jpC
 simp only [Tryz.f51,Kc,jaj,jaw,Kb,simprocAttr,Ys,Y0,Ke,Vq,Va,jab,al1,al47,ic,fo55,fo47,jaa,jae,zv47,bd47,YW,YI,jal,jah,jam,jan,jao,jap,len1,app2,jac,jad,jag,jaB,row1,jak,fo29,YP,jbr,ja0,jbV,jbW,st_p,st_q,jaH,jaO,jaA,jau,jaP,ja1,jaQ,ja2,jaR,jaS,jaI,ja3,ld_q]
 refine jzZ (jlU hv hl hs hi hP hq 4) ?_ ?_
 ·intro e he L' t' hF'
  simp only [he]; exact ⟨rfl,(Fr.rf p L).tr hF'⟩
 intro a1 j1 h1 L1 t1 ev1 wv1 rv1 hF1' hP1 hq1
 simp only [h1,andThen_ok]
 have hi1:j1≤l.length:=js3 h1
 have hF1:=(Fr.rf p L).tr hF1'
 simp only [Kc,jaj,jaw,Kb,simprocAttr,Ys,Y0,Ke,Vq,Va,jab,al1,al47,ic,fo55,fo47,jaa,jae,zv47,bd47,YW,YI,jal,jah,jam,jan,jao,jap,len1,app2,jac,jad,jag,jaB,row1,jak,fo29,YP,jbr,ja0,jbV,jbW,st_p,st_q,jaH,jaO,jaA,jau,jaP,ja1,jaQ,ja2,jaR,jaS,jaI,ja3,ld_q]
 refine jc6 (jds hv hl hi1 hP1 t1 wBy) ?_ ?_
 ·intro e he L' hF'
  simp only [he]; exact ⟨rfl,hF1.tr hF'⟩
 intro a2 j2 h2 L2 hF2' hP2
 simp only [h2,andThen_ok]
 have hi2:j2≤l.length:=jc7 h2
 have hF2:=hF1.tr hF2'
 simp only [Kc,jaj,jaw,Kb,simprocAttr,Ys,Y0,Ke,Vq,Va,jab,al1,al47,ic,fo55,fo47,jaa,jae,zv47,bd47,YW,YI,jal,jah,jam,jan,jao,jap,len1,app2,jac,jad,jag,jaB,row1,jak,fo29,YP,jbr,ja0,jbV,jbW,st_p,st_q,jaH,jaO,jaA,jau,jaP,ja1,jaQ,ja2,jaR,jaS,jaI,ja3,ld_q]
 refine jc6 (jjY hv hl hP2 t1) ?_ ?_
 ·intro e he L' hF'
  simp only [he]; exact ⟨rfl,hF2.tr hF'⟩
 intro a3 j3 h3 L3 hF3' hP3
 simp only [h3,andThen_ok]
 have hi3:j3≤l.length:=jgU h3
 have hF3:=hF2.tr hF3'
 have hc3:L3[p]? = some (pcL lv en (qC a1 ev1 wv1 rv1) j3 0):=hP3
 have hg3:∀ a:AObj,(L3.set p a)[p]? = some a:=fun a=>Kj hP3.lt
 simp only [Kc,jaj,jaw,Kb,simprocAttr,Ys,Y0,Ke,Vq,Va,jab,al1,al47,ic,fo55,fo47,jaa,jae,zv47,bd47,YW,YI,jal,jah,jam,jan,jao,jap,len1,app2,jac,jad,jag,jaB,row1,jak,fo29,YP,jbr,ja0,jbV,jbW,st_p,st_q,jaH,jaO,jaA,jau,jaP,ja1,jaQ,ja2,jaR,jaS,jaI,ja3,ld_q,hc3,hg3]
 have hs3:Pc lv en (qC { a1 with column:=a3 } ev1 wv1 rv1) p (L3.set p (pcL lv en (qC { a1 with column:=a3 } ev1 wv1 rv1) j3 0)) j3 0:=Kj hP3.lt
 have hf3:=hF3.tr (Fr.set p L3 (pcL lv en (qC { a1 with column:=a3 } ev1 wv1 rv1) j3 0))
 have hq3:QL base t1 { a1 with column:=a3 } ev1 wv1 rv1:=⟨hq1.e,hq1.w,hq1.r,hq1.b⟩
 exact ⟨rfl,hf3,ev1,wv1,rv1,hs3,hq3⟩
theorem at52:env.P.funcs[52]? = some Tryz.f52:=by kernel_rfl
theorem jqL (hv:IsK lv l)(hl:l.length≤4000)(hs:jd6 l){Q:Qry}{ev wv rv:V}(hi:i≤l.length)(hP:Pc lv en (qC Q ev wv rv) p L i 0)(hq:QL base ts Q ev wv rv) :
  ∃ x σ',jbL env 52 [.ptr p 0] ⟨L,ts⟩=some (x,σ')∧QX lv en p base L (jht l en Q i) x σ':=by
 refine jaY rfl rfl rfl rfl at52 rfl (by simp [Tryz.f52]) (by simp [Tryz.f52]) (jbo ?_)
 unfold jht
 simp only [Tryz.f52,Kc,jaj,jaw,Kb,simprocAttr,Ys,Y0,Ke,Vq,Va,jab,al1,al47,ic,fo55,fo47,jaa,jae,zv47,bd47,YW,YI,jal,jah,jam,jan,jao,jap,len1,app2,jac,jad,jag,jaB,row1,jak,fo29,YP,jbr,ja0,jbV,jbW,st_p,st_q,jaH,jaO,jaA,jau,jaP,ja1,jaQ,ja2,jaR,jaS,jaI,ja3,ld_q]
 refine jc6 (jfr hv hl hP ts) ?_ ?_
 ·intro e he L' hF'
  simp only [he]; exact ⟨rfl,(Fr.rf p L).tr hF'⟩
 intro a1 j1 h1 L1 hF1' hP1
 simp only [h1,andThen_ok]
 have hi1:j1≤l.length:=jiA h1
 have hF1:=(Fr.rf p L).tr hF1'
 have hc1:L1[p]? = some (pcL lv en (qC Q ev wv rv) j1 0):=hP1
 have hg1:∀ a:AObj,(L1.set p a)[p]? = some a:=fun a=>Kj hP1.lt
 simp only [Kc,jaj,jaw,Kb,simprocAttr,Ys,Y0,Ke,Vq,Va,jab,al1,al47,ic,fo55,fo47,jaa,jae,zv47,bd47,YW,YI,jal,jah,jam,jan,jao,jap,len1,app2,jac,jad,jag,jaB,row1,jak,fo29,YP,jbr,ja0,jbV,jbW,st_p,st_q,jaH,jaO,jaA,jau,jaP,ja1,jaQ,ja2,jaR,jaS,jaI,ja3,ld_q,hc1,hg1]
 have hs1:Pc lv en (qC { Q with p:=a1 } ev wv rv) p (L1.set p (pcL lv en (qC { Q with p:=a1 } ev wv rv) j1 0)) j1 0:=Kj hP1.lt
 have hf1:=hF1.tr (Fr.set p L1 (pcL lv en (qC { Q with p:=a1 } ev wv rv) j1 0))
 have hq1:QL base ts { Q with p:=a1 } ev wv rv:=⟨hq.e,hq.w,hq.r,hq.b⟩
 refine jc6 (jds hv hl hi1 hs1 ts [47]) ?_ ?_
 ·intro e he L' hF'
  simp only [he]; exact ⟨rfl,hf1.tr hF'⟩
 intro a2 j2 h2 L2 hF2' hP2
 simp only [h2,andThen_ok]
 have hi2:j2≤l.length:=jc7 h2
 have hF2:=hf1.tr hF2'
 simp only [Kc,jaj,jaw,Kb,simprocAttr,Ys,Y0,Ke,Vq,Va,jab,al1,al47,ic,fo55,fo47,jaa,jae,zv47,bd47,YW,YI,jal,jah,jam,jan,jao,jap,len1,app2,jac,jad,jag,jaB,row1,jak,fo29,YP,jbr,ja0,jbV,jbW,st_p,st_q,jaH,jaO,jaA,jau,jaP,ja1,jaQ,ja2,jaR,jaS,jaI,ja3,ld_q]
 refine jc6 (jfr hv hl hP2 ts) ?_ ?_
 ·intro e he L' hF'
  simp only [he]; exact ⟨rfl,hF2.tr hF'⟩
 intro a3 j3 h3 L3 hF3' hP3
 simp only [h3,andThen_ok]
 have hi3:j3≤l.length:=jiA h3
 have hF3:=hF2.tr hF3'
 have hc3:L3[p]? = some (pcL lv en (qC { Q with p:=a1 } ev wv rv) j3 0):=hP3
 have hg3:∀ a:AObj,(L3.set p a)[p]? = some a:=fun a=>Kj hP3.lt
 simp only [Kc,jaj,jaw,Kb,simprocAttr,Ys,Y0,Ke,Vq,Va,jab,al1,al47,ic,fo55,fo47,jaa,jae,zv47,bd47,YW,YI,jal,jah,jam,jan,jao,jap,len1,app2,jac,jad,jag,jaB,row1,jak,fo29,YP,jbr,ja0,jbV,jbW,st_p,st_q,jaH,jaO,jaA,jau,jaP,ja1,jaQ,ja2,jaR,jaS,jaI,ja3,ld_q,hc3,hg3]
 have hs3:Pc lv en (qC { { Q with p:=a1 } with q:=a3 } ev wv rv) p (L3.set p (pcL lv en (qC { { Q with p:=a1 } with q:=a3 } ev wv rv) j3 0)) j3 0:=Kj hP3.lt
 have hf3:=hF3.tr (Fr.set p L3 (pcL lv en (qC { { Q with p:=a1 } with q:=a3 } ev wv rv) j3 0))
 have hq3:QL base ts { { Q with p:=a1 } with q:=a3 } ev wv rv:=⟨hq1.e,hq1.w,hq1.r,hq1.b⟩
 refine jc6 (jds hv hl hi3 hs3 ts wOf) ?_ ?_
 ·intro e he L' hF'
  simp only [he]; exact ⟨rfl,hf3.tr hF'⟩
 intro a4 j4 h4 L4 hF4' hP4
 simp only [h4,andThen_ok]
 have hi4:j4≤l.length:=jc7 h4
 have hF4:=hf3.tr hF4'
 simp only [Kc,jaj,jaw,Kb,simprocAttr,Ys,Y0,Ke,Vq,Va,jab,al1,al47,ic,fo55,fo47,jaa,jae,zv47,bd47,YW,YI,jal,jah,jam,jan,jao,jap,len1,app2,jac,jad,jag,jaB,row1,jak,fo29,YP,jbr,ja0,jbV,jbW,st_p,st_q,jaH,jaO,jaA,jau,jaP,ja1,jaQ,ja2,jaR,jaS,jaI,ja3,ld_q]
 refine jaU (jlU hv hl hs hi4 hP4 hq3 5) ?_ ?_
 ·rintro v ⟨L',t'⟩ hk
  simp only [Kc,jaj,jaw,Kb,simprocAttr,Ys,Y0,Ke,Vq,Va,jab,al1,al47,ic,fo55,fo47,jaa,jae,zv47,bd47,YW,YI,jal,jah,jam,jan,jao,jap,len1,app2,jac,jad,jag,jaB,row1,jak,fo29,YP,jbr,ja0,jbV,jbW,st_p,st_q,jaH,jaO,jaA,jau,jaP,ja1,jaQ,ja2,jaR,jaS,jaI,ja3,ld_q]
  exact (hk.tr hF4).inl
 ·rintro v ⟨L',t'⟩ hk
  exact hk.tr hF4
theorem at54:env.P.funcs[54]? = some Tryz.f54:=by kernel_rfl
theorem jws (hv:IsK lv l)(hl:l.length≤4000)(hs:jd6 l){Q:Qry}{ev wv rv:V}(hi:i≤l.length)(hP:Pc lv en (qC Q ev wv rv) p L i 0)(hq:QL base ts Q ev wv rv) :
  ∃ x σ',jbL env 54 [.ptr p 0] ⟨L,ts⟩=some (x,σ')∧QX lv en p base L (jpD l en Q i) x σ':=by
 refine jaY rfl rfl rfl rfl at54 rfl (by simp [Tryz.f54]) (by simp [Tryz.f54]) (jbo ?_)
 unfold jpD
 simp only [Tryz.f54,Kc,jaj,jaw,Kb,simprocAttr,Ys,Y0,Ke,Vq,Va,jab,al1,al47,ic,fo55,fo47,jaa,jae,zv47,bd47,YW,YI,jal,jah,jam,jan,jao,jap,len1,app2,jac,jad,jag,jaB,row1,jak,fo29,YP,jbr,ja0,jbV,jbW,st_p,st_q,jaH,jaO,jaA,jau,jaP,ja1,jaQ,ja2,jaR,jaS,jaI,ja3,ld_q]
 refine jc6 (jsW hv hl hs hi hP ts) ?_ ?_
 ·intro e he L' hF'
  simp only [he]; exact ⟨rfl,(Fr.rf p L).tr hF'⟩
 intro a1 j1 h1 L1 hF1' hP1
 simp only [h1,andThen_ok]
 have hi1:j1≤l.length:=jj1 h1
 have hF1:=(Fr.rf p L).tr hF1'
 have hc1:L1[p]? = some (pcL lv en (qC Q ev wv rv) j1 0):=hP1
 have hg1:∀ a:AObj,(L1.set p a)[p]? = some a:=fun a=>Kj hP1.lt
 simp only [Kc,jaj,jaw,Kb,simprocAttr,Ys,Y0,Ke,Vq,Va,jab,al1,al47,ic,fo55,fo47,jaa,jae,zv47,bd47,YW,YI,jal,jah,jam,jan,jao,jap,len1,app2,jac,jad,jag,jaB,row1,jak,fo29,YP,jbr,ja0,jbV,jbW,st_p,st_q,jaH,jaO,jaA,jau,jaP,ja1,jaQ,ja2,jaR,jaS,jaI,ja3,ld_q,hc1,hg1]
 have hs1:Pc lv en (qC { Q with bound:=a1 } ev wv rv) p (L1.set p (pcL lv en (qC { Q with bound:=a1 } ev wv rv) j1 0)) j1 0:=Kj hP1.lt
 have hf1:=hF1.tr (Fr.set p L1 (pcL lv en (qC { Q with bound:=a1 } ev wv rv) j1 0))
 have hq1:QL base ts { Q with bound:=a1 } ev wv rv:=⟨hq.e,hq.w,hq.r,hq.b⟩
 refine jaU (jhF hv hl hs1 hq1 7) ?_ ?_
 ·rintro v ⟨L',t'⟩ hk
  simp only [Kc,jaj,jaw,Kb,simprocAttr,Ys,Y0,Ke,Vq,Va,jab,al1,al47,ic,fo55,fo47,jaa,jae,zv47,bd47,YW,YI,jal,jah,jam,jan,jao,jap,len1,app2,jac,jad,jag,jaB,row1,jak,fo29,YP,jbr,ja0,jbV,jbW,st_p,st_q,jaH,jaO,jaA,jau,jaP,ja1,jaQ,ja2,jaR,jaS,jaI,ja3,ld_q]
  exact (hk.tr hf1).inl
 ·rintro v ⟨L',t'⟩ hk
  exact hk.tr hf1
theorem at48:env.P.funcs[48]? = some Tryz.f48:=by kernel_rfl
theorem jwt (hv:IsK lv l)(hl:l.length≤4000)(hs:jd6 l){Q:Qry}{ev wv rv:V}(hi:i≤l.length)(hP:Pc lv en (qC Q ev wv rv) p L i 0)(hq:QL base ts Q ev wv rv) :
  ∃ x σ',jbL env 48 [.ptr p 0] ⟨L,ts⟩=some (x,σ')∧QX lv en p base L (.ok ({ Q with kind:=1 },i)) x σ':=by
 refine jaY rfl rfl rfl rfl at48 rfl (by simp [Tryz.f48]) (by simp [Tryz.f48]) (jbo ?_)
 have hc:L[p]? = some (pcL lv en (qC Q ev wv rv) i 0):=hP
 simp only [Tryz.f48,Kc,jaj,jaw,Kb,simprocAttr,Ys,Y0,Ke,Vq,Va,jab,al1,al47,ic,fo55,fo47,jaa,jae,zv47,bd47,YW,YI,jal,jah,jam,jan,jao,jap,len1,app2,jac,jad,jag,jaB,row1,jak,fo29,YP,jbr,ja0,jbV,jbW,st_p,st_q,jaH,jaO,jaA,jau,jaP,ja1,jaQ,ja2,jaR,jaS,jaI,ja3,ld_q,hc]
 have hs0:Pc lv en (qC { Q with kind:=1 } ev wv rv) p (L.set p (pcL lv en (qC { Q with kind:=1 } ev wv rv) i 0)) i 0:=Kj hP.lt
 have hf0:=(Fr.rf p L).tr (Fr.set p L (pcL lv en (qC { Q with kind:=1 } ev wv rv) i 0))
 have hq0:QL base ts { Q with kind:=1 } ev wv rv:=⟨hq.e,hq.w,hq.r,hq.b⟩
 exact ⟨rfl,hf0,ev,wv,rv,hs0,hq0⟩
theorem at49:env.P.funcs[49]? = some Tryz.f49:=by kernel_rfl
theorem jz0 (hv:IsK lv l)(hl:l.length≤4000)(hs:jd6 l){Q:Qry}{ev wv rv:V}(hi:i≤l.length)(hP:Pc lv en (qC Q ev wv rv) p L i 0)(hq:QL base ts Q ev wv rv) :
  ∃ x σ',jbL env 49 [.ptr p 0] ⟨L,ts⟩=some (x,σ')∧QX lv en p base L (jej l en 2 Q i) x σ':=by
 refine jaY rfl rfl rfl rfl at49 rfl (by simp [Tryz.f49]) (by simp [Tryz.f49]) (jbo ?_)
 simp only [Tryz.f49,Kc,jaj,jaw,Kb,simprocAttr,Ys,Y0,Ke,Vq,Va,jab,al1,al47,ic,fo55,fo47,jaa,jae,zv47,bd47,YW,YI,jal,jah,jam,jan,jao,jap,len1,app2,jac,jad,jag,jaB,row1,jak,fo29,YP,jbr,ja0,jbV,jbW,st_p,st_q,jaH,jaO,jaA,jau,jaP,ja1,jaQ,ja2,jaR,jaS,jaI,ja3,ld_q]
 refine jaU (jlU hv hl hs hi hP hq 2) ?_ ?_
 ·rintro v ⟨L',t'⟩ hk
  simp only [Kc,jaj,jaw,Kb,simprocAttr,Ys,Y0,Ke,Vq,Va,jab,al1,al47,ic,fo55,fo47,jaa,jae,zv47,bd47,YW,YI,jal,jah,jam,jan,jao,jap,len1,app2,jac,jad,jag,jaB,row1,jak,fo29,YP,jbr,ja0,jbV,jbW,st_p,st_q,jaH,jaO,jaA,jau,jaP,ja1,jaQ,ja2,jaR,jaS,jaI,ja3,ld_q]
  exact (hk.tr (Fr.rf p L)).inl
 ·rintro v ⟨L',t'⟩ hk
  exact hk.tr (Fr.rf p L)
theorem at50:env.P.funcs[50]? = some Tryz.f50:=by kernel_rfl
theorem joJ (hv:IsK lv l)(hl:l.length≤4000)(hs:jd6 l){Q:Qry}{ev wv rv:V}(hi:i≤l.length)(hP:Pc lv en (qC Q ev wv rv) p L i 0)(hq:QL base ts Q ev wv rv) :
  ∃ x σ',jbL env 50 [.ptr p 0] ⟨L,ts⟩=some (x,σ')∧QX lv en p base L (jcq l en 3 Q i) x σ':=by
 refine jaY rfl rfl rfl rfl at50 rfl (by simp [Tryz.f50]) (by simp [Tryz.f50]) (jbo ?_)
 simp only [Tryz.f50,Kc,jaj,jaw,Kb,simprocAttr,Ys,Y0,Ke,Vq,Va,jab,al1,al47,ic,fo55,fo47,jaa,jae,zv47,bd47,YW,YI,jal,jah,jam,jan,jao,jap,len1,app2,jac,jad,jag,jaB,row1,jak,fo29,YP,jbr,ja0,jbV,jbW,st_p,st_q,jaH,jaO,jaA,jau,jaP,ja1,jaQ,ja2,jaR,jaS,jaI,ja3,ld_q]
 refine jaU (jhF hv hl hP hq 3) ?_ ?_
 ·rintro v ⟨L',t'⟩ hk
  simp only [Kc,jaj,jaw,Kb,simprocAttr,Ys,Y0,Ke,Vq,Va,jab,al1,al47,ic,fo55,fo47,jaa,jae,zv47,bd47,YW,YI,jal,jah,jam,jan,jao,jap,len1,app2,jac,jad,jag,jaB,row1,jak,fo29,YP,jbr,ja0,jbV,jbW,st_p,st_q,jaH,jaO,jaA,jau,jaP,ja1,jaQ,ja2,jaR,jaS,jaI,ja3,ld_q]
  exact (hk.tr (Fr.rf p L)).inl
 ·rintro v ⟨L',t'⟩ hk
  exact hk.tr (Fr.rf p L)
theorem at53:env.P.funcs[53]? = some Tryz.f53:=by kernel_rfl
theorem jx6 (hv:IsK lv l)(hl:l.length≤4000)(hs:jd6 l){Q:Qry}{ev wv rv:V}(hi:i≤l.length)(hP:Pc lv en (qC Q ev wv rv) p L i 0)(hq:QL base ts Q ev wv rv) :
  ∃ x σ',jbL env 53 [.ptr p 0] ⟨L,ts⟩=some (x,σ')∧QX lv en p base L (jcq l en 6 Q i) x σ':=by
 refine jaY rfl rfl rfl rfl at53 rfl (by simp [Tryz.f53]) (by simp [Tryz.f53]) (jbo ?_)
 simp only [Tryz.f53,Kc,jaj,jaw,Kb,simprocAttr,Ys,Y0,Ke,Vq,Va,jab,al1,al47,ic,fo55,fo47,jaa,jae,zv47,bd47,YW,YI,jal,jah,jam,jan,jao,jap,len1,app2,jac,jad,jag,jaB,row1,jak,fo29,YP,jbr,ja0,jbV,jbW,st_p,st_q,jaH,jaO,jaA,jau,jaP,ja1,jaQ,ja2,jaR,jaS,jaI,ja3,ld_q]
 refine jaU (jhF hv hl hP hq 6) ?_ ?_
 ·rintro v ⟨L',t'⟩ hk
  simp only [Kc,jaj,jaw,Kb,simprocAttr,Ys,Y0,Ke,Vq,Va,jab,al1,al47,ic,fo55,fo47,jaa,jae,zv47,bd47,YW,YI,jal,jah,jam,jan,jao,jap,len1,app2,jac,jad,jag,jaB,row1,jak,fo29,YP,jbr,ja0,jbV,jbW,st_p,st_q,jaH,jaO,jaA,jau,jaP,ja1,jaQ,ja2,jaR,jaS,jaI,ja3,ld_q]
  exact (hk.tr (Fr.rf p L)).inl
 ·rintro v ⟨L',t'⟩ hk
  exact hk.tr (Fr.rf p L)
theorem at55:env.P.funcs[55]? = some Tryz.f55:=by kernel_rfl
theorem jx7 (hv:IsK lv l)(hl:l.length≤4000)(hs:jd6 l){Q:Qry}{ev wv rv:V}(hi:i≤l.length)(hP:Pc lv en (qC Q ev wv rv) p L i 0)(hq:QL base ts Q ev wv rv) :
  ∃ x σ',jbL env 55 [.ptr p 0] ⟨L,ts⟩=some (x,σ')∧QX lv en p base L (jcq l en 8 Q i) x σ':=by
 refine jaY rfl rfl rfl rfl at55 rfl (by simp [Tryz.f55]) (by simp [Tryz.f55]) (jbo ?_)
 simp only [Tryz.f55,Kc,jaj,jaw,Kb,simprocAttr,Ys,Y0,Ke,Vq,Va,jab,al1,al47,ic,fo55,fo47,jaa,jae,zv47,bd47,YW,YI,jal,jah,jam,jan,jao,jap,len1,app2,jac,jad,jag,jaB,row1,jak,fo29,YP,jbr,ja0,jbV,jbW,st_p,st_q,jaH,jaO,jaA,jau,jaP,ja1,jaQ,ja2,jaR,jaS,jaI,ja3,ld_q]
 refine jaU (jhF hv hl hP hq 8) ?_ ?_
 ·rintro v ⟨L',t'⟩ hk
  simp only [Kc,jaj,jaw,Kb,simprocAttr,Ys,Y0,Ke,Vq,Va,jab,al1,al47,ic,fo55,fo47,jaa,jae,zv47,bd47,YW,YI,jal,jah,jam,jan,jao,jap,len1,app2,jac,jad,jag,jaB,row1,jak,fo29,YP,jbr,ja0,jbV,jbW,st_p,st_q,jaH,jaO,jaA,jau,jaP,ja1,jaQ,ja2,jaR,jaS,jaI,ja3,ld_q]
  exact (hk.tr (Fr.rf p L)).inl
 ·rintro v ⟨L',t'⟩ hk
  exact hk.tr (Fr.rf p L)
theorem at56:env.P.funcs[56]? = some Tryz.f56:=by kernel_rfl
theorem js4 (hv:IsK lv l)(hl:l.length≤4000)(hs:jd6 l){Q:Qry}{ev wv rv:V}(hi:i≤l.length)(hP:Pc lv en (qC Q ev wv rv) p L i 0)(hq:QL base ts Q ev wv rv) :
  ∃ x σ',jbL env 56 [.ptr p 0] ⟨L,ts⟩=some (x,σ')∧QX lv en p base L (jcq l en 9 Q i) x σ':=by
 refine jaY rfl rfl rfl rfl at56 rfl (by simp [Tryz.f56]) (by simp [Tryz.f56]) (jbo ?_)
 simp only [Tryz.f56,Kc,jaj,jaw,Kb,simprocAttr,Ys,Y0,Ke,Vq,Va,jab,al1,al47,ic,fo55,fo47,jaa,jae,zv47,bd47,YW,YI,jal,jah,jam,jan,jao,jap,len1,app2,jac,jad,jag,jaB,row1,jak,fo29,YP,jbr,ja0,jbV,jbW,st_p,st_q,jaH,jaO,jaA,jau,jaP,ja1,jaQ,ja2,jaR,jaS,jaI,ja3,ld_q]
 refine jaU (jhF hv hl hP hq 9) ?_ ?_
 ·rintro v ⟨L',t'⟩ hk
  simp only [Kc,jaj,jaw,Kb,simprocAttr,Ys,Y0,Ke,Vq,Va,jab,al1,al47,ic,fo55,fo47,jaa,jae,zv47,bd47,YW,YI,jal,jah,jam,jan,jao,jap,len1,app2,jac,jad,jag,jaB,row1,jak,fo29,YP,jbr,ja0,jbV,jbW,st_p,st_q,jaH,jaO,jaA,jau,jaP,ja1,jaQ,ja2,jaR,jaS,jaI,ja3,ld_q]
  exact (hk.tr (Fr.rf p L)).inl
 ·rintro v ⟨L',t'⟩ hk
  exact hk.tr (Fr.rf p L)
end
def hdC:Code→Code
 | .seq a _=>a
 | c=>c
abbrev QE (K:Sum V V→S→Prop):Post:=⟨wpR env [] fun v σ'=>K (.inl v) σ',fun _ _ _ _=>False,wpR env [] fun v σ'=>K (.inl v) σ'⟩
theorem at27:env.P.funcs[27]? = some Tryz.f27:=by kernel_rfl
section
variable {lv:V}{en:Int}{q:List V}{p base:Nat}{l:List Tk}{L0 L:List AObj}{ts:List Nat}{i o j:Nat}
theorem jx8 (hv:IsK lv l)(hl:l.length≤4000){Q:Qry}{ev wv rv:V}(hi:i≤l.length)(hF:Fr p L0 L)(hP:Pc lv en (qC Q ev wv rv) p L i 0)(hq:QL base ts Q ev wv rv){T:Tm}(t0:T 0=.ptr p 0) :
  H env 27 none 60 (fun v D σ'=>D=[]∧QX lv en p base L0 (jiw l en Q i) (.inr v) σ') (QE (QX lv en p base L0 (jiw l en Q i))) [.code (jbp 5 (jax Tryz.f27))] (regZ 12 (jax Tryz.f27)) T [] ⟨L,ts⟩:=by
 simp only [regZ,regA,jbp,jax,Tryz.f27,Kv,simprocAttr,Option.or,Kc,jaj,jaw,Kb,Ys,Y0,Ke,Vq,Va,jab,al1,al47,ic,fo55,fo47,jaa,jae,zv47,bd47,YW,YI,jal,jah,jam,jan,jao,jap,len1,app2,jac,jad,jag,jaB,row1,jak,t0]
 refine jcl (jfq hv hl hi hP ts jsd) ?_
 rintro _ ⟨L1,ts⟩ ⟨rfl,hF1',hP1,rfl⟩
 have hF1:=hF.tr hF1'
 simp only at hF1 hP1
 unfold jiw
 cases hs:sees l jsd i
 ·rw [hs] at hP1
  simp only [Kl,Kr] at hP1
  simp only [Kc,jaj,jaw,Kb,simprocAttr,Ys,Y0,Ke,Vq,Va,jab,al1,al47,ic,fo55,fo47,jaa,jae,zv47,bd47,YW,YI,jal,jah,jam,jan,jao,jap,len1,app2,jac,jad,jag,jaB,row1,jak]
  exact ⟨rfl,hF1,ev,wv,rv,hP1,hq⟩
 ·rw [hs] at hP1
  simp only [Ks] at hP1
  have hi1:=jcd hs
  simp only [Kc,jaj,jaw,Kb,simprocAttr,Ys,Y0,Ke,Vq,Va,jab,al1,al47,ic,fo55,fo47,jaa,jae,zv47,bd47,YW,YI,jal,jah,jam,jan,jao,jap,len1,app2,jac,jad,jag,jaB,row1,jak,t0,YP]
  refine jx5 (jno (ts:=ts) hv hl (.inr ⟨rfl,rfl⟩) hi1 hP1) ?_ ?_
  ·intro e he L' t' hF'
   simp only [he]; exact ⟨rfl,hF1.tr hF'⟩
  intro a2 j2 h2 L2 t2 v2 hF2' hP2 hG2 hE2
  simp only [h2,andThen_ok]
  have hi2:j2≤l.length:=(js2 h2).1
  have hF2:=hF1.tr hF2'
  have hv2:=hG2.cells
  have hc2:L2[p]? = some (pcL lv en (qC Q ev wv rv) j2 0):=hP2
  have hg2:∀ a:AObj,(L2.set p a)[p]? = some a:=fun a=>Kj hP2.lt
  simp only [Kc,jaj,jaw,Kb,simprocAttr,Ys,Y0,Ke,Vq,Va,jab,al1,al47,ic,fo55,fo47,jaa,jae,zv47,bd47,YW,YI,jal,jah,jam,jan,jao,jap,len1,app2,jac,jad,jag,jaB,row1,jak,fo29,YP,jbr,ja0,jbV,jbW,st_p,st_q,jaH,jaO,jaA,jau,jaP,ja1,jaQ,ja2,jaR,jaS,jaI,ja3,ld_q,hc2,hg2,jwq a2 hv2.2,hv2.1,hv2.2]
  have hs2:Pc lv en (qC { Q with wher:=a2 } ev v2 rv) p (L2.set p (pcL lv en (qC { Q with wher:=a2 } ev v2 rv) j2 0)) j2 0:=Kj hP2.lt
  have hf2:=hF2.tr (Fr.set p L2 (pcL lv en (qC { Q with wher:=a2 } ev v2 rv) j2 0))
  have hq2:QL base t2 { Q with wher:=a2 } ev v2 rv:=⟨(hq.e.ext hE2),(hG2.weakbase hq.b),hq.r.ext hE2,Qr hq.b hE2.1⟩
  exact ⟨rfl,hf2,ev,v2,rv,hs2,hq2⟩
theorem src4 (hv:IsK lv l)(hl:l.length≤4000){Q:Qry}{ev wv rv:V}(hi:i≤l.length)(hF:Fr p L0 L)(hP:Pc lv en (qC Q ev wv rv) p L i 0)(hq:QL base ts Q ev wv rv){T:Tm}(t0:T 0=.ptr p 0) :
  H env 27 none 60 (fun v D σ'=>D=[]∧QX lv en p base L0 (andThen (jog l en Q i) fun q j=>jiw l en q j) (.inr v) σ') (QE (QX lv en p base L0 (andThen (jog l en Q i) fun q j=>jiw l en q j))) [.code (jbp 1 (hdC (jbp 3 (jax Tryz.f27)))),.code (jbp 4 (jax Tryz.f27))] (regZ 4 (jax Tryz.f27)) T [] ⟨L,ts⟩:=by
 simp only [regZ,regA,jbp,hdC,jax,Tryz.f27,Kv,simprocAttr,Option.or,Kc,jca 12,jaw,Kb,Ys,Y0,Ke,Vq,Va,jab,al1,al47,ic,fo55,fo47,jaa,jae,zv47,bd47,YW,YI,jal,jah,jam,jan,jao,jap,len1,app2,jac,jad,jag,jaB,row1,jak,t0]
 refine jcl (jfq hv hl hi hP ts jvR) ?_
 rintro _ ⟨L1,ts⟩ ⟨rfl,hF1',hP1,rfl⟩
 have hF1:=hF.tr hF1'
 simp only at hF1 hP1
 unfold jog
 cases hs:sees l jvR i
 ·rw [hs] at hP1
  simp only [Kl,Kr] at hP1
  simp only [Kc,jca 12,jaw,Kb,simprocAttr,Ys,Y0,Ke,Vq,Va,jab,al1,al47,ic,fo55,fo47,jaa,jae,zv47,bd47,YW,YI,jal,jah,jam,jan,jao,jap,len1,app2,jac,jad,jag,jaB,row1,jak,andThen_ok]
  exact jx8 hv hl hi hF1 hP1 hq t0
 ·rw [hs] at hP1
  simp only [Ks] at hP1
  have hi1:=jcd hs
  simp only [Kc,jca 12,jaw,Kb,simprocAttr,Ys,Y0,Ke,Vq,Va,jab,al1,al47,ic,fo55,fo47,jaa,jae,zv47,bd47,YW,YI,jal,jah,jam,jan,jao,jap,len1,app2,jac,jad,jag,jaB,row1,jak,t0]
  refine jc6 (jjY hv hl hP1 ts) ?_ ?_
  ·intro e he L' hF'
   simp only [he]; exact ⟨rfl,hF1.tr hF'⟩
  intro a2 j2 h2 L2 hF2' hP2
  simp only [h2,andThen_ok]
  have hi2:j2≤l.length:=jgU h2
  have hF2:=hF1.tr hF2'
  have hc2:L2[p]? = some (pcL lv en (qC Q ev wv rv) j2 0):=hP2
  have hg2:∀ a:AObj,(L2.set p a)[p]? = some a:=fun a=>Kj hP2.lt
  simp only [t0,Kc,jca 12,jaw,Kb,simprocAttr,Ys,Y0,Ke,Vq,Va,jab,al1,al47,ic,fo55,fo47,jaa,jae,zv47,bd47,YW,YI,jal,jah,jam,jan,jao,jap,len1,app2,jac,jad,jag,jaB,row1,jak,fo29,YP,jbr,ja0,jbV,jbW,st_p,st_q,jaH,jaO,jaA,jau,jaP,ja1,jaQ,ja2,jaR,jaS,jaI,ja3,ld_q,hc2,hg2]
  have hs2:Pc lv en (qC { Q with other:=a2 } ev wv rv) p (L2.set p (pcL lv en (qC { Q with other:=a2 } ev wv rv) j2 0)) j2 0:=Kj hP2.lt
  have hf2:=hF2.tr (Fr.set p L2 (pcL lv en (qC { Q with other:=a2 } ev wv rv) j2 0))
  have hq2:QL base ts { Q with other:=a2 } ev wv rv:=⟨hq.e,hq.w,hq.r,hq.b⟩
  refine jc6 (jds hv hl hi2 hs2 ts wOn) ?_ ?_
  ·intro e he L' hF'
   simp only [he]; exact ⟨rfl,hf2.tr hF'⟩
  intro a3 j3 h3 L3 hF3' hP3
  simp only [h3,andThen_ok]
  have hi3:j3≤l.length:=jc7 h3
  have hF3:=hf2.tr hF3'
  simp only [t0,Kc,jca 12,jaw,Kb,simprocAttr,Ys,Y0,Ke,Vq,Va,jab,al1,al47,ic,fo55,fo47,jaa,jae,zv47,bd47,YW,YI,jal,jah,jam,jan,jao,jap,len1,app2,jac,jad,jag,jaB,row1,jak,fo29,YP,jbr,ja0,jbV,jbW,st_p,st_q,jaH,jaO,jaA,jau,jaP,ja1,jaQ,ja2,jaR,jaS,jaI,ja3,ld_q]
  refine jc6 (jjY hv hl hP3 ts) ?_ ?_
  ·intro e he L' hF'
   simp only [he]; exact ⟨rfl,hF3.tr hF'⟩
  intro a4 j4 h4 L4 hF4' hP4
  simp only [h4,andThen_ok]
  have hi4:j4≤l.length:=jgU h4
  have hF4:=hF3.tr hF4'
  have hc4:L4[p]? = some (pcL lv en (qC { Q with other:=a2 } ev wv rv) j4 0):=hP4
  have hg4:∀ a:AObj,(L4.set p a)[p]? = some a:=fun a=>Kj hP4.lt
  simp only [t0,Kc,jca 12,jaw,Kb,simprocAttr,Ys,Y0,Ke,Vq,Va,jab,al1,al47,ic,fo55,fo47,jaa,jae,zv47,bd47,YW,YI,jal,jah,jam,jan,jao,jap,len1,app2,jac,jad,jag,jaB,row1,jak,fo29,YP,jbr,ja0,jbV,jbW,st_p,st_q,jaH,jaO,jaA,jau,jaP,ja1,jaQ,ja2,jaR,jaS,jaI,ja3,ld_q,hc4,hg4]
  have hs4:Pc lv en (qC { { Q with other:=a2 } with left:=a4 } ev wv rv) p (L4.set p (pcL lv en (qC { { Q with other:=a2 } with left:=a4 } ev wv rv) j4 0)) j4 0:=Kj hP4.lt
  have hf4:=hF4.tr (Fr.set p L4 (pcL lv en (qC { { Q with other:=a2 } with left:=a4 } ev wv rv) j4 0))
  have hq4:QL base ts { { Q with other:=a2 } with left:=a4 } ev wv rv:=⟨hq2.e,hq2.w,hq2.r,hq2.b⟩
  refine jc6 (jds hv hl hi4 hs4 ts [61]) ?_ ?_
  ·intro e he L' hF'
   simp only [he]; exact ⟨rfl,hf4.tr hF'⟩
  intro a5 j5 h5 L5 hF5' hP5
  simp only [h5,andThen_ok]
  have hi5:j5≤l.length:=jc7 h5
  have hF5:=hf4.tr hF5'
  simp only [t0,Kc,jca 12,jaw,Kb,simprocAttr,Ys,Y0,Ke,Vq,Va,jab,al1,al47,ic,fo55,fo47,jaa,jae,zv47,bd47,YW,YI,jal,jah,jam,jan,jao,jap,len1,app2,jac,jad,jag,jaB,row1,jak,fo29,YP,jbr,ja0,jbV,jbW,st_p,st_q,jaH,jaO,jaA,jau,jaP,ja1,jaQ,ja2,jaR,jaS,jaI,ja3,ld_q]
  refine jc6 (jjY hv hl hP5 ts) ?_ ?_
  ·intro e he L' hF'
   simp only [he]; exact ⟨rfl,hF5.tr hF'⟩
  intro a6 j6 h6 L6 hF6' hP6
  simp only [h6,andThen_ok]
  have hi6:j6≤l.length:=jgU h6
  have hF6:=hF5.tr hF6'
  have hc6:L6[p]? = some (pcL lv en (qC { { Q with other:=a2 } with left:=a4 } ev wv rv) j6 0):=hP6
  have hg6:∀ a:AObj,(L6.set p a)[p]? = some a:=fun a=>Kj hP6.lt
  simp only [t0,Kc,jca 12,jaw,Kb,simprocAttr,Ys,Y0,Ke,Vq,Va,jab,al1,al47,ic,fo55,fo47,jaa,jae,zv47,bd47,YW,YI,jal,jah,jam,jan,jao,jap,len1,app2,jac,jad,jag,jaB,row1,jak,fo29,YP,jbr,ja0,jbV,jbW,st_p,st_q,jaH,jaO,jaA,jau,jaP,ja1,jaQ,ja2,jaR,jaS,jaI,ja3,ld_q,hc6,hg6]
  have hs6:Pc lv en (qC { { { Q with other:=a2 } with left:=a4 } with right:=a6 } ev wv rv) p (L6.set p (pcL lv en (qC { { { Q with other:=a2 } with left:=a4 } with right:=a6 } ev wv rv) j6 0)) j6 0:=Kj hP6.lt
  have hf6:=hF6.tr (Fr.set p L6 (pcL lv en (qC { { { Q with other:=a2 } with left:=a4 } with right:=a6 } ev wv rv) j6 0))
  have hq6:QL base ts { { { Q with other:=a2 } with left:=a4 } with right:=a6 } ev wv rv:=⟨hq4.e,hq4.w,hq4.r,hq4.b⟩
  refine jc6 (jds hv hl hi6 hs6 ts ju9) ?_ ?_
  ·intro e he L' hF'
   simp only [he]; exact ⟨rfl,hf6.tr hF'⟩
  intro a7 j7 h7 L7 hF7' hP7
  simp only [h7,andThen_ok]
  have hi7:j7≤l.length:=jc7 h7
  have hF7:=hf6.tr hF7'
  simp only [t0,Kc,jca 12,jaw,Kb,simprocAttr,Ys,Y0,Ke,Vq,Va,jab,al1,al47,ic,fo55,fo47,jaa,jae,zv47,bd47,YW,YI,jal,jah,jam,jan,jao,jap,len1,app2,jac,jad,jag,jaB,row1,jak,fo29,YP,jbr,ja0,jbV,jbW,st_p,st_q,jaH,jaO,jaA,jau,jaP,ja1,jaQ,ja2,jaR,jaS,jaI,ja3,ld_q]
  refine jc6 (jid hv hl hP7 ts) ?_ ?_
  ·intro e he L' hF'
   simp only [he]; exact ⟨rfl,hF7.tr hF'⟩
  intro a8 j8 h8 L8 hF8' hP8
  simp only [h8,andThen_ok]
  have hi8:j8≤l.length:=jp1 h8
  have hF8:=hF7.tr hF8'
  have hc8:L8[p]? = some (pcL lv en (qC { { { Q with other:=a2 } with left:=a4 } with right:=a6 } ev wv rv) j8 0):=hP8
  have hg8:∀ a:AObj,(L8.set p a)[p]? = some a:=fun a=>Kj hP8.lt
  simp only [t0,Kc,jca 12,jaw,Kb,simprocAttr,Ys,Y0,Ke,Vq,Va,jab,al1,al47,ic,fo55,fo47,jaa,jae,zv47,bd47,YW,YI,jal,jah,jam,jan,jao,jap,len1,app2,jac,jad,jag,jaB,row1,jak,fo29,YP,jbr,ja0,jbV,jbW,st_p,st_q,jaH,jaO,jaA,jau,jaP,ja1,jaQ,ja2,jaR,jaS,jaI,ja3,ld_q,hc8,hg8]
  have hs8:Pc lv en (qC { { { { Q with other:=a2 } with left:=a4 } with right:=a6 } with limit:=a8 } ev wv rv) p (L8.set p (pcL lv en (qC { { { { Q with other:=a2 } with left:=a4 } with right:=a6 } with limit:=a8 } ev wv rv) j8 0)) j8 0:=Kj hP8.lt
  have hf8:=hF8.tr (Fr.set p L8 (pcL lv en (qC { { { { Q with other:=a2 } with left:=a4 } with right:=a6 } with limit:=a8 } ev wv rv) j8 0))
  have hq8:QL base ts { { { { Q with other:=a2 } with left:=a4 } with right:=a6 } with limit:=a8 } ev wv rv:=⟨hq6.e,hq6.w,hq6.r,hq6.b⟩
  exact jx8 hv hl hi8 hf8 hs8 hq8 t0
theorem jux (hv:IsK lv l)(hl:l.length≤4000){Q:Qry}{ev wv rv:V}(hi:i≤l.length)(hP:Pc lv en (qC Q ev wv rv) p L i 0)(hq:QL base ts Q ev wv rv) :
  ∃ x σ',jbL env 27 [.ptr p 0] ⟨L,ts⟩=some (x,σ')∧QX lv en p base L (jc2 l en Q i) x σ':=by
 refine jaY rfl rfl rfl rfl at27 rfl (by simp [Tryz.f27]) (by simp [Tryz.f27]) (jbo ?_)
 unfold jc2
 simp only [Tryz.f27,Kc,jca 4,jaw,Kb,simprocAttr,Ys,Y0,Ke,Vq,Va,jab,al1,al47,ic,fo55,fo47,jaa,jae,zv47,bd47,YW,YI,jal,jah,jam,jan,jao,jap,len1,app2,jac,jad,jag,jaB,row1,jak]
 refine jc6 (jds hv hl hi hP ts jw9) ?_ ?_
 ·intro e he L' hF'
  simp only [he]; exact ⟨rfl,(Fr.rf p L).tr hF'⟩
 intro a1 j1 h1 L1 hF1' hP1
 simp only [h1,andThen_ok]
 have hi1:j1≤l.length:=jc7 h1
 have hF1:=(Fr.rf p L).tr hF1'
 simp only [Kc,jca 4,jaw,Kb,simprocAttr,Ys,Y0,Ke,Vq,Va,jab,al1,al47,ic,fo55,fo47,jaa,jae,zv47,bd47,YW,YI,jal,jah,jam,jan,jao,jap,len1,app2,jac,jad,jag,jaB,row1,jak,fo29,YP,jbr,ja0,jbV,jbW,st_p,st_q,jaH,jaO,jaA,jau,jaP,ja1,jaQ,ja2,jaR,jaS,jaI,ja3,ld_q]
 refine jc6 (jjY hv hl hP1 ts) ?_ ?_
 ·intro e he L' hF'
  simp only [he]; exact ⟨rfl,hF1.tr hF'⟩
 intro a2 j2 h2 L2 hF2' hP2
 simp only [h2,andThen_ok]
 have hi2:j2≤l.length:=jgU h2
 have hF2:=hF1.tr hF2'
 have hc2:L2[p]? = some (pcL lv en (qC Q ev wv rv) j2 0):=hP2
 have hg2:∀ a:AObj,(L2.set p a)[p]? = some a:=fun a=>Kj hP2.lt
 simp only [Kc,jca 4,jaw,Kb,simprocAttr,Ys,Y0,Ke,Vq,Va,jab,al1,al47,ic,fo55,fo47,jaa,jae,zv47,bd47,YW,YI,jal,jah,jam,jan,jao,jap,len1,app2,jac,jad,jag,jaB,row1,jak,fo29,YP,jbr,ja0,jbV,jbW,st_p,st_q,jaH,jaO,jaA,jau,jaP,ja1,jaQ,ja2,jaR,jaS,jaI,ja3,ld_q,hc2,hg2]
 have hs2:Pc lv en (qC { Q with table:=a2 } ev wv rv) p (L2.set p (pcL lv en (qC { Q with table:=a2 } ev wv rv) j2 0)) j2 0:=Kj hP2.lt
 have hf2:=hF2.tr (Fr.set p L2 (pcL lv en (qC { Q with table:=a2 } ev wv rv) j2 0))
 have hq2:QL base ts { Q with table:=a2 } ev wv rv:=⟨hq.e,hq.w,hq.r,hq.b⟩
 refine jcl (jfq hv hl hi2 hs2 ts jvQ) ?_
 rintro _ ⟨L9,ts⟩ ⟨rfl,hF9',hP9,rfl⟩
 have hF9:=hf2.tr hF9'
 simp only at hF9 hP9
 unfold jse
 cases hs9:sees l jvQ j2
 ·rw [hs9] at hP9
  simp only [Kl,Kr] at hP9
  simp only [Kc,jca 4,jaw,Kb,simprocAttr,Ys,Y0,Ke,Vq,Va,jab,al1,al47,ic,fo55,fo47,jaa,jae,zv47,bd47,YW,YI,jal,jah,jam,jan,jao,jap,len1,app2,jac,jad,jag,jaB,row1,jak,andThen_ok]
  exact src4 hv hl hi2 hF9 hP9 hq2 rfl
 ·rw [hs9] at hP9
  simp only [Ks] at hP9
  have hi9:=jcd hs9
  simp only [Kc,jca 4,jaw,Kb,simprocAttr,Ys,Y0,Ke,Vq,Va,jab,al1,al47,ic,fo55,fo47,jaa,jae,zv47,bd47,YW,YI,jal,jah,jam,jan,jao,jap,len1,app2,jac,jad,jag,jaB,row1,jak]
  refine jc6 (jid hv hl hP9 ts) ?_ ?_
  ·intro e he L' hF'
   simp only [he]; exact ⟨rfl,hF9.tr hF'⟩
  intro a10 j10 h10 L10 hF10' hP10
  simp only [h10,andThen_ok]
  have hi10:j10≤l.length:=jp1 h10
  have hF10:=hF9.tr hF10'
  have hc10:L10[p]? = some (pcL lv en (qC { Q with table:=a2 } ev wv rv) j10 0):=hP10
  have hg10:∀ a:AObj,(L10.set p a)[p]? = some a:=fun a=>Kj hP10.lt
  simp only [Kc,jca 4,jaw,Kb,simprocAttr,Ys,Y0,Ke,Vq,Va,jab,al1,al47,ic,fo55,fo47,jaa,jae,zv47,bd47,YW,YI,jal,jah,jam,jan,jao,jap,len1,app2,jac,jad,jag,jaB,row1,jak,fo29,YP,jbr,ja0,jbV,jbW,st_p,st_q,jaH,jaO,jaA,jau,jaP,ja1,jaQ,ja2,jaR,jaS,jaI,ja3,ld_q,hc10,hg10]
  have hs10:Pc lv en (qC { { Q with table:=a2 } with keep:=a10 } ev wv rv) p (L10.set p (pcL lv en (qC { { Q with table:=a2 } with keep:=a10 } ev wv rv) j10 0)) j10 0:=Kj hP10.lt
  have hf10:=hF10.tr (Fr.set p L10 (pcL lv en (qC { { Q with table:=a2 } with keep:=a10 } ev wv rv) j10 0))
  have hq10:QL base ts { { Q with table:=a2 } with keep:=a10 } ev wv rv:=⟨hq2.e,hq2.w,hq2.r,hq2.b⟩
  exact src4 hv hl hi10 hf10 hs10 hq10 rfl
end
theorem at28:env.P.funcs[28]? = some Tryz.f28:=by kernel_rfl
theorem at64:env.P.funcs[64]? = some Tryz.f64:=by kernel_rfl
def ItOK (itoa:Int→List UInt8):Prop:=∀ n:Int,0≤n→n≤1000000000→∀ σ,jas env (ev env) 65 [.int .i64 n] σ=some (.str (itoa n),σ)
def MkOK (l:List Tk)(en:Int)(itoa:Int→List UInt8)(mk me:Int→Int→List UInt8):Prop:=∀ (j:Nat) (n d:Int) (k:Nat),sees l [47] j=true→numP l en (j+1)=.ok (d,k)→d ≠ 0→0≤n→n≤1000000000→0≤d→d≤1000000000→∃ e:Int,∀ σ,jas env (ev env) 67 [.str (itoa n),.str (itoa d)] σ=some (.tup [.str (mk n d),.int .i64 e],σ)
theorem jlV {itoa:Int→List UInt8}(hI:ItOK itoa)(n:Int)(h0:0≤n)(h1:n≤1000000000)(L:List AObj)(ts:List Nat):jas env (ev env) 64 [.int .i64 n] ⟨L,ts⟩=some (.str (itoa n),⟨L,ts⟩):=by
 refine jbh rfl rfl at64 rfl (by simp [Tryz.f64]) (by simp [Tryz.f64]) (jar ?_)
 simp only [Tryz.f64,Ka,simprocAttr,Ys,Y0,Ke,Vq,hI n h0 h1]
 exact ⟨rfl,trivial⟩
theorem u27:env.P.underlying 27=some .string:=by kernel_rfl
theorem s27:sz env 27=some 1:=by kernel_rfl
theorem al27 (h:List AObj)(p:V):jbj env h 27 p=(jai h 1 p).bind (·[0]?):=jaX (by kernel_rfl)
section
variable {lv:V}{en:Int}{q:List V}{p base:Nat}{l:List Tk}{L0 L:List AObj}{ts:List Nat}{i o j:Nat}{itoa:Int→List UInt8}{mk:Int→Int→List UInt8}
def endP (l:List Tk)(en:Int)(Q:Qry)(i:Nat):R Qry :=
 if (if Q.kind=3∧sees l jc3 i=true then i+1 else i)<l.length then syn l en (if Q.kind=3∧sees l jc3 i=true then i+1 else i)
 else .ok ({ Q with consistent:=if Q.kind=3∧sees l jc3 i=true then true else Q.consistent },if Q.kind=3∧sees l jc3 i=true then i+1 else i)
theorem jwu (hv:IsK lv l)(hl:l.length≤4000){Q:Qry}{ev wv rv:V}(hi:i≤l.length)(hF:Fr p L0 L)(hP:Pc lv en (qC Q ev wv rv) p L i 0)(hq:QL base ts Q ev wv rv){T:Tm}(t0:T 0=.ptr p 0){r:R Qry}(hr:r=if i<l.length then syn l en i else .ok (Q,i)) :
  H env 28 none 76 (fun v D σ'=>D=[]∧QX lv en p base L0 r (.inr v) σ') (QE (QX lv en p base L0 r)) [] (jbp 1 (jbp 7 (jax Tryz.f28))) T [] ⟨L,ts⟩:=by
 subst hr
 have hc:L[p]? = some (pcL lv en (qC Q ev wv rv) i 0):=hP
 have hlen:=juq hv 47
 have ha:=jcp (jep hv hl hP ts)
 by_cases h:i<l.length
 ·rw [Km h]
  have h2:=eq_true (show (i:Int)<(l.length:Int) by omega)
  simp only [jbp,jax,Tryz.f28,Kv,Kc,jaj,jaw,Kb,simprocAttr,Ys,Y0,Ke,Vq,Va,jab,al1,al47,ic,fo55,fo47,jaa,jae,zv47,bd47,YW,YI,jal,jah,jam,jan,jao,jap,len1,app2,jac,jad,jag,jaB,row1,jak,t0,hc,ld_q,hlen,h2,ha]
  refine ⟨by kernel_rfl,jaU (jf0 _ _ _) ?_ ?_⟩
  ·rintro v σ' ⟨h,_⟩; cases h
  ·rintro v σ' ⟨h,rfl⟩; cases h; exact ⟨rfl,hF⟩
 ·rw [Kn h]
  have h2:=eq_false (show ¬ (i:Int)<(l.length:Int) by omega)
  simp only [jbp,jax,Tryz.f28,Kv,Kc,jaj,jaw,Kb,simprocAttr,Ys,Y0,Ke,Vq,Va,jab,al1,al47,ic,fo55,fo47,jaa,jae,zv47,bd47,YW,YI,jal,jah,jam,jan,jao,jap,len1,app2,jac,jad,jag,jaB,row1,jak,t0,hc,ld_q,hlen,h2]
  exact ⟨by kernel_rfl,rfl,hF,ev,wv,rv,hP,hq⟩
theorem jz1 (hv:IsK lv l)(hl:l.length≤4000){Q:Qry}{ev wv rv:V}(hi:i≤l.length)(hF:Fr p L0 L)(hP:Pc lv en (qC Q ev wv rv) p L i 0)(hq:QL base ts Q ev wv rv){T:Tm}(t0:T 0=.ptr p 0)(hcon:Q.consistent=false) :
  H env 28 none 76 (fun v D σ'=>D=[]∧QX lv en p base L0 (endP l en Q i) (.inr v) σ') (QE (QX lv en p base L0 (endP l en Q i))) [.code (jbp 1 (hdC (jbp 7 (jax Tryz.f28)))),.code (jbp 1 (jbp 7 (jax Tryz.f28)))] (regZ 12 (jax Tryz.f28)) T [] ⟨L,ts⟩:=by
 have hc:L[p]? = some (pcL lv en (qC Q ev wv rv) i 0):=hP
 by_cases hk:Q.kind=3
 ·have hk2:=eq_true hk
  simp only [regZ,regA,jbp,hdC,jax,Tryz.f28,Kv,simprocAttr,Option.or,Kc,jaj,Kb,Ys,Y0,Ke,Vq,Va,jab,al1,al47,ic,fo55,fo47,jaa,jae,zv47,bd47,YW,YI,jal,jah,jam,jan,jao,jap,len1,app2,jac,jad,jag,jaB,row1,jak,fo29,t0,hc,ld_q,hk2]
  refine jcl (jfq hv hl hi hP ts jc3) ?_
  rintro _ ⟨L1,ts⟩ ⟨rfl,hF1',hP1,rfl⟩
  have hF1:=hF.tr hF1'
  simp only at hF1 hP1
  have hc1:∀ j,L1[p]? = some (pcL lv en (qC Q ev wv rv) j 0)→∀ b:Bool,storeAt ⟨L1,ts⟩ [.bool b] p 14 (some (pcL lv en (qC Q ev wv rv) j 0))=some ⟨L1.set p (pcL lv en (qC { Q with consistent:=b } ev wv rv) j 0),ts⟩:=fun j _ b=>rfl
  cases hs:sees l jc3 i
  ·rw [hs] at hP1
   simp only [Kl,Kr] at hP1
   have hc1:L1[p]? = some (pcL lv en (qC Q ev wv rv) i 0):=hP1
   simp only [Kc,jaj,Kb,simprocAttr,Ys,Y0,Ke,Vq,Va,jab,al1,al47,ic,fo55,fo47,jaa,jae,zv47,bd47,YW,YI,jal,jah,jam,jan,jao,jap,len1,app2,jac,jad,jag,jaB,row1,jak,fo29,t0,hc1,ja0,jbV,jbW,st_p,st_q,jaH,jaO,jaA,jau,jaP,ja1,jaQ,ja2,jaR,jaS,jaI,ja3,ld_q]
   refine jwu (Q:={ Q with consistent:=false }) hv hl hi (hF1.tr (Fr.set p L1 _)) (Kj hP1.lt) ⟨hq.e,hq.w,hq.r,hq.b⟩ t0 ?_
   unfold endP
   rw [hs]
   simp only [Kl,and_false,Kr,hcon]
  ·rw [hs] at hP1
   simp only [Ks] at hP1
   have hc1:L1[p]? = some (pcL lv en (qC Q ev wv rv) ((i+1:Nat)) 0):=hP1
   simp only [Kc,jaj,Kb,simprocAttr,Ys,Y0,Ke,Vq,Va,jab,al1,al47,ic,fo55,fo47,jaa,jae,zv47,bd47,YW,YI,jal,jah,jam,jan,jao,jap,len1,app2,jac,jad,jag,jaB,row1,jak,fo29,t0,hc1,ja0,jbV,jbW,st_p,st_q,jaH,jaO,jaA,jau,jaP,ja1,jaQ,ja2,jaR,jaS,jaI,ja3,ld_q]
   refine jwu (Q:={ Q with consistent:=true }) hv hl (jcd hs) (hF1.tr (Fr.set p L1 _)) (Kj hP1.lt) ⟨hq.e,hq.w,hq.r,hq.b⟩ t0 ?_
   unfold endP
   rw [hs]
   simp only [hk,and_self,Ks]
 ·have hk2:=eq_false hk
  simp only [regZ,regA,jbp,hdC,jax,Tryz.f28,Kv,simprocAttr,Option.or,Kc,jaj,Kb,Ys,Y0,Ke,Vq,Va,jab,al1,al47,ic,fo55,fo47,jaa,jae,zv47,bd47,YW,YI,jal,jah,jam,jan,jao,jap,len1,app2,jac,jad,jag,jaB,row1,jak,fo29,t0,hc,ld_q,hk2]
  refine jwu (Q:=Q) hv hl hi hF hP hq t0 ?_
  unfold endP
  simp only [hk,false_and,Kr]
theorem jx9 (hv:IsK lv l)(hl:l.length≤4000){Q:Qry}{ev wv rv:V}(hi:i≤l.length)(hF:Fr p L0 L)(hP:Pc lv en (qC Q ev wv rv) p L i 0)(hq:QL base ts Q ev wv rv){T:Tm}(t0:T 0=.ptr p 0)(hcon:Q.consistent=false){r:R Qry}
  (hr:r=andThen (must l en jtD i) fun _ j=>andThen (posP l en j) fun b j=>endP l en { Q with bits:=b } j) :
  H env 28 none 76 (fun v D σ'=>D=[]∧QX lv en p base L0 r (.inr v) σ') (QE (QX lv en p base L0 r)) [.code (jbp 6 (jax Tryz.f28))] (regZ 10 (jax Tryz.f28)) T [] ⟨L,ts⟩:=by
 subst hr
 simp only [regZ,regA,jbp,hdC,jax,Tryz.f28,Kv,simprocAttr,Option.or,Kc,jca 12,jaw,Kb,Ys,Y0,Ke,Vq,Va,jab,al1,al47,ic,fo55,fo47,jaa,jae,zv47,bd47,YW,YI,jal,jah,jam,jan,jao,jap,len1,app2,jac,jad,jag,jaB,row1,jak,t0]
 refine jc6 (jds hv hl hi hP ts jtD) ?_ ?_
 ·intro e he L' hF'
  simp only [he]; exact ⟨rfl,hF.tr hF'⟩
 intro a1 j1 h1 L1 hF1' hP1
 simp only [h1,andThen_ok]
 have hi1:j1≤l.length:=jc7 h1
 have hF1:=hF.tr hF1'
 simp only [t0,Kc,jca 12,jaw,Kb,simprocAttr,Ys,Y0,Ke,Vq,Va,jab,al1,al47,ic,fo55,fo47,jaa,jae,zv47,bd47,YW,YI,jal,jah,jam,jan,jao,jap,len1,app2,jac,jad,jag,jaB,row1,jak,fo29,YP,jbr,ja0,jbV,jbW,st_p,st_q,jaH,jaO,jaA,jau,jaP,ja1,jaQ,ja2,jaR,jaS,jaI,ja3,ld_q]
 refine jc6 (jid hv hl hP1 ts) ?_ ?_
 ·intro e he L' hF'
  simp only [he]; exact ⟨rfl,hF1.tr hF'⟩
 intro a2 j2 h2 L2 hF2' hP2
 simp only [h2,andThen_ok]
 have hi2:j2≤l.length:=jp1 h2
 have hF2:=hF1.tr hF2'
 have hc2:L2[p]? = some (pcL lv en (qC Q ev wv rv) j2 0):=hP2
 have hg2:∀ a:AObj,(L2.set p a)[p]? = some a:=fun a=>Kj hP2.lt
 simp only [t0,Kc,jca 12,jaw,Kb,simprocAttr,Ys,Y0,Ke,Vq,Va,jab,al1,al47,ic,fo55,fo47,jaa,jae,zv47,bd47,YW,YI,jal,jah,jam,jan,jao,jap,len1,app2,jac,jad,jag,jaB,row1,jak,fo29,YP,jbr,ja0,jbV,jbW,st_p,st_q,jaH,jaO,jaA,jau,jaP,ja1,jaQ,ja2,jaR,jaS,jaI,ja3,ld_q,hc2,hg2]
 have hs2:Pc lv en (qC { Q with bits:=a2 } ev wv rv) p (L2.set p (pcL lv en (qC { Q with bits:=a2 } ev wv rv) j2 0)) j2 0:=Kj hP2.lt
 have hf2:=hF2.tr (Fr.set p L2 (pcL lv en (qC { Q with bits:=a2 } ev wv rv) j2 0))
 have hq2:QL base ts { Q with bits:=a2 } ev wv rv:=⟨hq.e,hq.w,hq.r,hq.b⟩
 exact jz1 hv hl hi2 hf2 hs2 hq2 t0 hcon
theorem sc67 (a:Array Operand)(b:Array TypeId):scOp env (.call ⟨.value (.func 67),a,b⟩)=false:=rfl
def jya (l:List Tk)(en:Int)(Q:Qry)(f:List UInt8)(i:Nat):R Qry:=andThen (must l en jtD i) fun _ j=>andThen (posP l en j) fun b j=>endP l en { Q with factor:=f,bits:=b } j
theorem wth9 {X:V→List DE→S→Prop}{Qp:Post}{ks:List Kt}{D:List DE}(hI:ItOK itoa){Q:Qry}{ev wv rv:V}{n d e:Int}{f:List UInt8}(hd0:0≤d)(hd1:d≤1000000000)(hmk:∀ σ,jas env (Go.Ab.ev env) 67 [.str (itoa n),.str (itoa d)] σ=some (.tup [.str f,.int .i64 e],σ)){T:Tm}{k:Nat}(t0:T 0=.ptr p 0)(t2:T 2=.func 64 [] [])(t4:T 4=.int .i64 d)
  (hc2:L[p]? = some (pcL lv en (qC { Q with factor:=itoa n } ev wv rv) k 0))
  (h:∀ T',T' 0=T 0→H env 28 none 76 X Qp ks .skip T' D ⟨L.set p (pcL lv en (qC { Q with factor:=f } ev wv rv) k 0),ts⟩):H env 28 none 76 X Qp ks (regB 9 (jax Tryz.f28)) T D ⟨L,ts⟩:=by
 have hit:=jlV hI d hd0 hd1 L ts
 refine jjA rfl (jqs ?_)
 refine jrP rfl [(false,[]),(false,[]),(false,[]),(false,[]),(false,[]),(false,[1]),(false,[]),(false,[]),(true,[]),(false,[]),(false,[]),(false,[]),(false,[]),(false,[]),(false,[]),(false,[]),(true,[])] (fun m s0=>m≤1→s0.heap[p]? = some (pcL lv en (qC { Q with factor:=itoa n } ev wv rv) k 0)) (fun _=>hc2) (by kernel_rfl) (by kernel_rfl) ?_
 simp only [regB,regO,jax,Tryz.f28,Kv,Ka,simprocAttr,Ys,Y0,Ke,Vq,Va,jab,al1,al47,ic,fo55,fo47,jaa,jae,zv47,bd47,YW,YI,jal,jah,jam,jan,jao,jap,len1,app2,jac,jad,jag,jaB,row1,jak,hhWa,hhWb,hhWc,hhWd,jhh,jlC,jlD,jhi,jlE,jhj,jlF,jfl,jd4,jdq,jdr,fo29,t0,t2,t4,hc2,hit,hmk,sc67,u27,s27,al27,ja0,jbV,jbW,st_p,st_q,jaH,jaO,jaA,jau,jaP,ja1,jaQ,ja2,jaR,jaS,jaI,ja3,ld_q]
 refine ⟨⟨fun s h=>by rw [h]; rfl,trivial⟩,?_⟩
 exact h _ rfl
theorem wth4 {me:Int→Int→List UInt8}(hv:IsK lv l)(hl:l.length≤4000)(hs:jd6 l)(hI:ItOK itoa)(hM:MkOK l en itoa mk me){Q:Qry}{ev wv rv:V}(hi:i≤l.length)(hF:Fr p L0 L){n:Int}(hn0:0≤n)(hn1:n≤1000000000)(hP:Pc lv en (qC { Q with factor:=itoa n } ev wv rv) p L i 0)(hq:QL base ts Q ev wv rv){T:Tm}(t0:T 0=.ptr p 0)(t2:T 2=.func 64 [] [])(hcon:Q.consistent=false){r:R Qry}
  (hr:r=if sees l [47] i=true then andThen (numP l en (i+1)) fun d k=>if d=0 then .error (6,atP l en (i+1)) else jya l en Q (mk n d) k else jya l en Q (itoa n) i) :
  H env 28 none 76 (fun v D σ'=>D=[]∧QX lv en p base L0 r (.inr v) σ') (QE (QX lv en p base L0 r)) [.code (jbp 1 (hdC (jbp 4 (jax Tryz.f28)))),.code (jbp 5 (jax Tryz.f28))] (regZ 4 (jax Tryz.f28)) T [] ⟨L,ts⟩:=by
 subst hr
 have hsteps:=hI n hn0 hn1
 simp only [regZ,regA,jbp,hdC,jax,Tryz.f28,Kv,simprocAttr,Option.or,Kc,jca 10,jaw,Kb,Ys,Y0,Ke,Vq,Va,jab,al1,al47,ic,fo55,fo47,jaa,jae,zv47,bd47,YW,YI,jal,jah,jam,jan,jao,jap,len1,app2,jac,jad,jag,jaB,row1,jak,t0]
 refine jcl (jfq hv hl hi hP ts [47]) ?_
 rintro _ ⟨L1,ts⟩ ⟨rfl,hF1',hP1,rfl⟩
 have hF1:=hF.tr hF1'
 simp only at hF1 hP1
 cases hs2:sees l [47] i
 ·rw [hs2] at hP1
  simp only [Kl,Kr] at hP1
  simp only [Kc,jca 10,jaw,Kb,simprocAttr,Ys,Y0,Ke,Vq,Va,jab,al1,al47,ic,fo55,fo47,jaa,jae,zv47,bd47,YW,YI,jal,jah,jam,jan,jao,jap,len1,app2,jac,jad,jag,jaB,row1,jak]
  refine jx9 (Q:={ Q with factor:=itoa n }) hv hl hi hF1 hP1 ⟨hq.e,hq.w,hq.r,hq.b⟩ ?_ hcon ?_
  ·exact t0
  ·rfl
 ·rw [hs2] at hP1
  simp only [Ks] at hP1
  have hi1:=jcd hs2
  have ha:=jcp (jep hv hl hP1 ts)
  simp only [Kc,jca 10,jaw,Kb,simprocAttr,Ys,Y0,Ke,Vq,Va,jab,al1,al47,ic,fo55,fo47,jaa,jae,zv47,bd47,YW,YI,jal,jah,jam,jan,jao,jap,len1,app2,jac,jad,jag,jaB,row1,jak,t0,ha]
  refine jc6 (jfr hv hl hP1 ts) ?_ ?_
  ·intro e he L' hF'
   simp only [he]; exact ⟨rfl,hF1.tr hF'⟩
  intro d k hd L2 hF2' hP2
  have hdn:=jjZ hs hd
  have hi2:=jiA hd
  have hF2:=hF1.tr hF2'
  simp only [hd,andThen_ok]
  by_cases hd0:d=0
  ·have hd2:=eq_true hd0
   rw [Km hd0]
   simp only [Kc,jca 10,jaw,Kb,simprocAttr,Ys,Y0,Ke,Vq,Va,jab,al1,al47,ic,fo55,fo47,jaa,jae,zv47,bd47,YW,YI,jal,jah,jam,jan,jao,jap,len1,app2,jac,jad,jag,jaB,row1,jak,hd2]
   refine jaU (jf0 _ _ _) ?_ ?_
   ·rintro v σ' ⟨h,_⟩; cases h
   ·rintro v σ' ⟨h,rfl⟩; cases h; exact ⟨rfl,hF2⟩
  ·have hd2:=eq_false hd0
   rw [Kn hd0]
   obtain ⟨e,hmk⟩:=hM i n d k hs2 hd hd0 hn0 hn1 hdn.1 hdn.2
   have hit:=jlV hI d hdn.1 hdn.2 L2 ts
   have hc2:L2[p]? = some (pcL lv en (qC { Q with factor:=itoa n } ev wv rv) k 0):=hP2
   simp only [Kc,jaj,Kb,simprocAttr,Ys,Y0,Ke,Vq,Va,jab,al1,al47,ic,fo55,fo47,jaa,jae,zv47,bd47,YW,YI,jal,jah,jam,jan,jao,jap,len1,app2,jac,jad,jag,jaB,row1,jak,hd2]
   refine wth9 (Q:=Q) hI hdn.1 hdn.2 hmk ?_ ?_ ?_ hc2 ?_
   ·exact t0
   ·exact t2
   ·rfl
   intro T' t0'
   have t0'':T' 0=.ptr p 0:=by rw [t0']; exact t0
   simp only [Kc,jca 10,jaw,Kb,simprocAttr,Ys,Y0,Ke,Vq,Va,jab,al1,al47,ic,fo55,fo47,jaa,jae,zv47,bd47,YW,YI,jal,jah,jam,jan,jao,jap,len1,app2,jac,jad,jag,jaB,row1,jak]
   refine jx9 (Q:={ Q with factor:=mk n d }) hv hl hi2 (hF2.tr (Fr.set p L2 _)) (Kj hP2.lt) ⟨hq.e,hq.w,hq.r,hq.b⟩ ?_ hcon ?_
   ·exact t0''
   ·rfl
theorem jyb {me:Int→Int→List UInt8}(hv:IsK lv l)(hl:l.length≤4000)(hs:jd6 l)(hI:ItOK itoa)(hM:MkOK l en itoa mk me){Q:Qry}{ev wv rv:V}(hi:i≤l.length)(hP:Pc lv en (qC Q ev wv rv) p L i 0)(hq:QL base ts Q ev wv rv)(hcon:Q.consistent=false) :
  ∃ x σ',jbL env 28 [.ptr p 0] ⟨L,ts⟩=some (x,σ')∧QX lv en p base L (jhu l en itoa mk Q i) x σ':=by
 refine jaY rfl rfl rfl rfl at28 rfl (by simp [Tryz.f28]) (by simp [Tryz.f28]) (jbo ?_)
 unfold jhu
 simp only [Tryz.f28,Kc,jca 4,jaw,Kb,simprocAttr,Ys,Y0,Ke,Vq,Va,jab,al1,al47,ic,fo55,fo47,jaa,jae,zv47,bd47,YW,YI,jal,jah,jam,jan,jao,jap,len1,app2,jac,jad,jag,jaB,row1,jak]
 refine jc6 (jds hv hl hi hP ts jxa) ?_ ?_
 ·intro e he L' hF'
  simp only [he]; exact ⟨rfl,(Fr.rf p L).tr hF'⟩
 intro a1 j1 h1 L1 hF1' hP1
 simp only [h1,andThen_ok]
 have hi1:j1≤l.length:=jc7 h1
 have hF1:=(Fr.rf p L).tr hF1'
 simp only [Kc,jca 4,jaw,Kb,simprocAttr,Ys,Y0,Ke,Vq,Va,jab,al1,al47,ic,fo55,fo47,jaa,jae,zv47,bd47,YW,YI,jal,jah,jam,jan,jao,jap,len1,app2,jac,jad,jag,jaB,row1,jak,fo29,YP,jbr,ja0,jbV,jbW,st_p,st_q,jaH,jaO,jaA,jau,jaP,ja1,jaQ,ja2,jaR,jaS,jaI,ja3,ld_q]
 refine jc6 (jds hv hl hi1 hP1 ts jsf) ?_ ?_
 ·intro e he L' hF'
  simp only [he]; exact ⟨rfl,hF1.tr hF'⟩
 intro a2 j2 h2 L2 hF2' hP2
 simp only [h2,andThen_ok]
 have hi2:j2≤l.length:=jc7 h2
 have hF2:=hF1.tr hF2'
 simp only [Kc,jca 4,jaw,Kb,simprocAttr,Ys,Y0,Ke,Vq,Va,jab,al1,al47,ic,fo55,fo47,jaa,jae,zv47,bd47,YW,YI,jal,jah,jam,jan,jao,jap,len1,app2,jac,jad,jag,jaB,row1,jak,fo29,YP,jbr,ja0,jbV,jbW,st_p,st_q,jaH,jaO,jaA,jau,jaP,ja1,jaQ,ja2,jaR,jaS,jaI,ja3,ld_q]
 unfold joh
 refine jc6 (jfr hv hl hP2 ts) ?_ ?_
 ·intro e he L' hF'
  simp only [he]; exact ⟨rfl,hF2.tr hF'⟩
 intro n j3 h3 L3 hF3' hP3
 have hn:=jjZ hs h3
 have hi3:=jiA h3
 have hF3:=hF2.tr hF3'
 simp only [h3,andThen_ok]
 have hit:=jcp (jlV hI n hn.1 hn.2 L3 ts)
 have hc3:L3[p]? = some (pcL lv en (qC Q ev wv rv) j3 0):=hP3
 simp only [Kc,jca 4,jaw,Kb,simprocAttr,Ys,Y0,Ke,Vq,Va,jab,al1,al47,ic,fo55,fo47,jaa,jae,zv47,bd47,YW,YI,jal,jah,jam,jan,jao,jap,len1,app2,jac,jad,jag,jaB,row1,jak,fo29,hit,hc3,s27,ja0,jbV,jbW,st_p,st_q,jaH,jaO,jaA,jau,jaP,ja1,jaQ,ja2,jaR,jaS,jaI,ja3,ld_q]
 refine wth4 (Q:=Q) hv hl hs hI hM hi3 (hF3.tr (Fr.set p L3 _)) hn.1 hn.2 (Kj hP3.lt) hq ?_ ?_ hcon ?_
 ·rfl
 ·rfl
 cases sees l [47] j3 with
 | false=>rfl
 | true =>
  simp only [Ks]
  cases numP l en (j3+1) with
  | error e=>rfl
  | ok x =>
   obtain ⟨d,k⟩:=x
   simp only [andThen_ok]
   by_cases hd:d=0
   ·rw [Km hd,Km hd]; rfl
   ·rw [Kn hd,Kn hd]; rfl
end
theorem at57:env.P.funcs[57]? = some Tryz.f57:=by kernel_rfl
theorem u26:env.P.underlying 26=some (.slice 73):=by kernel_rfl
theorem s26:sz env 26=some 1:=by kernel_rfl
theorem al26 (h:List AObj)(p:V):jbj env h 26 p=(jai h 1 p).bind (·[0]?):=jaX (by kernel_rfl)
theorem jz2:Elt env 26 73 2 16:=⟨by kernel_rfl,by kernel_rfl,by kernel_rfl,by kernel_rfl,by kernel_rfl⟩
theorem bd73 (a b:Int):jb9 env 73 [(0,.int .i64 a),(1,.int .i64 b)]=some (.agg [.int .i64 a,.int .i64 b]):=by kernel_rfl
theorem jz3 (a b:Int):rowO env 26 1 [(0,.agg [.int .i64 a,.int .i64 b])]=some (.row [.int .i64 a,.int .i64 b] 1 .full):=by kernel_rfl
theorem js5 (a b:List (Int × Int)):jiG (a++b)=jiG a++jiG b:=by simp [jiG]
section
variable {lv:V}{en:Int}{q:List V}{p base:Nat}{l:List Tk}{L0 L:List AObj}{ts:List Nat}{i o j:Nat}
theorem d57 {X:V→List DE→S→Prop}{Qp:Post}{ks:List Kt}{D:List DE}{T:Tm}{Q:Qry}{ev wv rv:V}{lo:Int}{r:R Int}(t0:T 0=.ptr p 0)(t2:T 2=.int .i64 lo)(hc:L[p]? = some (pcL lv en (qC Q ev wv rv) i 0))(hq:GrowV base ts 2 rv Q.ranges.length (jiG Q.ranges))(hb:base≤ts.length)(hlen:Q.ranges.length≤100)
  (hk:∃ x σ',jbL env 91 [.ptr p 0] ⟨L,ts⟩=some (x,σ')∧RX lv en (qC Q ev wv rv) p L ts 0 (V.int .i64) r x σ')
  (hok:∀ n j,r=.ok (n,j)→∀ T' L2 t2 rv',T' 0=T 0→Fr p L L2→Pc lv en (qC { Q with ranges:=Q.ranges++[(lo,n)] } ev wv rv') p L2 j 0→GrowV base t2 2 rv' (Q.ranges++[(lo,n)]).length (jiG (Q.ranges++[(lo,n)]))→base≤t2.length→H env 57 none 60 X Qp ks .skip T' D ⟨L2,t2⟩)
  (hbad:∀ e,r=.error e→∀ L',Fr p L L'→X (flt e) D ⟨L',ts⟩):H env 57 none 60 X Qp ks (regB 5 (jax Tryz.f57)) T D ⟨L,ts⟩:=by
 obtain ⟨x,⟨L1,t1'⟩,hcx,hK⟩:=hk
 match r,hK with
 | .ok (n,j),⟨k1,k2,k3,k4⟩ =>
  subst k1
  simp only at k4
  subst k4
  have hcf:=jfU hcx
  have hlim:lim=2 ^ 40:=rfl
  obtain ⟨rv',t3,h1,h2,h3⟩:=hq.push jz2 ⟨73,u26⟩ (hp:=L1) (new:=[.int .i64 lo,.int .i64 n]) (q:=.full) hb rfl rfl (by rw [hlim]; omega)
  have hwc:=h2.cells
  have hc1:L1[p]? = some (pcL lv en (qC Q ev wv rv) j 0):=k3
  refine jjA rfl (jqs ?_)
  refine jrP rfl [(false,[]),(false,[]),(false,[]),(false,[]),(false,[]),(false,[1,2]),(false,[]),(false,[]),(true,[]),(false,[]),(true,[]),(true,[]),(false,[]),(false,[]),(false,[]),(true,[])] (fun m s0=>m≤2→jhf s0.heap[p]? 12=some rv) (fun _=>by rw [hc]; rfl) (by kernel_rfl) (by kernel_rfl) ?_
  simp only [regB,regO,jax,Tryz.f57,Kv,Ka,simprocAttr,Ys,Y0,Ke,Vq,Va,jab,al1,al47,ic,fo55,fo47,jaa,jae,zv47,bd47,YW,YI,jal,jah,jam,jan,jao,jap,len1,app2,jac,jad,jag,jaB,row1,jak,hhWa,hhWb,hhWc,hhWd,jhh,jlC,jlD,jhi,jlE,jhj,jlF,jfl,jd4,jdq,jdr,fo29,t0,t2,hc,hc1,hcf,u26,s26,al26,ld_q,bd73,jz3,h1,js0 (Q.ranges++[(lo,n)]) hwc.2,hwc.1,hwc.2]
  refine ⟨⟨fun s h=>h,fun s h=>h,trivial⟩,hok n j rfl _ _ _ rv' rfl (k2.tr (Fr.set _ _ _)) (Kj k3.lt) ?_ (Qr hb h3.1)⟩
  rw [Ku,js5]
  exact h2
 | .error e,⟨k1,k2,k3⟩ =>
  subst k1
  simp only at k3
  subst k3
  obtain ⟨p1,p2,p3,p4,p5⟩:=jeY hcx
  refine jjA rfl ?_
  simp only [regB,regO,jax,Tryz.f57,Kv]
  refine jlG 8 _ _ [(false,[]),(false,[]),(false,[]),(false,[]),(false,[]),(false,[]),(false,[]),(false,[])] (fun m s0=>True) rfl rfl rfl trivial (by kernel_rfl) (by kernel_rfl) (by kernel_rfl) (by kernel_rfl) rfl ?_
  simp only [Q5,Jk,Ka,simprocAttr,Ys,Y0,Ke,Vq,Va,jab,al1,al47,ic,fo55,fo47,jaa,jae,zv47,bd47,YW,YI,jal,jah,jam,jan,jao,jap,len1,app2,jac,jad,jag,jaB,row1,jak,hhWa,hhWb,hhWc,hhWd,jhh,jlC,jlD,jhi,jlE,jhj,jlF,jfl,jd4,jdq,jdr,fo29,t0,t2,hc,u26,s26,al26,ld_q]
  exact ⟨_,[],[],[.ptr p 0],_,_,rfl,rfl,p1,p2,p3,p4,p5,fun vals _=>hbad e rfl L1 k2⟩
def jfv:List (List UInt8):=[jeZ,jjC,jtC]
theorem jyc:rowO env 107 3 [(0,.str [105,100,101,110,116,105,116,121]),(1,.str [112,114,101,102,105,120]),(2,.str [116,114,101,101])]=some (.row (jfv.map V.str) 3 .full):=by kernel_rfl
theorem u107:env.P.underlying 107=some (.slice 9):=by kernel_rfl
theorem juy {k:Nat}(hk:k<3)(hno:∀ x,x<k→sees l (jfv.getD x []) j=false)(h:sees l (jfv.getD k []) j=true):jcV l en j=.ok ((k:Int),j+1):=by
 unfold jcV
 have c:k=0∨k=1∨k=2:=by omega
 rcases c with rfl | rfl | rfl
 ·have h0:sees l jeZ j=true:=h
  rw [Km h0]; rfl
 ·have h0:sees l jeZ j=false:=hno 0 (by omega)
  have h1:sees l jjC j=true:=h
  rw [Kn (by simp [h0]),Km h1]; rfl
 ·have h0:sees l jeZ j=false:=hno 0 (by omega)
  have h1:sees l jjC j=false:=hno 1 (by omega)
  have h2:sees l jtC j=true:=h
  rw [Kn (by simp [h0]),Kn (by simp [h1]),Km h2]; rfl
theorem juz (hno:∀ x,x<3→sees l (jfv.getD x []) j=false):jcV l en j=syn l en j:=by
 unfold jcV
 have h0:sees l jeZ j=false:=hno 0 (by omega)
 have h1:sees l jjC j=false:=hno 1 (by omega)
 have h2:sees l jtC j=false:=hno 2 (by omega)
 rw [Kn (by simp [h0]),Kn (by simp [h1]),Kn (by simp [h2])]
theorem jyd {k:Nat}(hk:k<3):jaJ 1 (.row (jfv.map V.str) 3 .full) (.int .i64 k)=some (.rptr ((jfv.map V.str).drop k)):=by
 have c:k=0∨k=1∨k=2:=by omega
 rcases c with rfl | rfl | rfl <;> rfl
theorem jye {k:Nat}(hk:k<3):(jfv.map V.str)[k]? = some (.str (jfv.getD k [])):=by
 have c:k=0∨k=1∨k=2:=by omega
 rcases c with rfl | rfl | rfl <;> rfl
theorem bat7 (hv:IsK lv l)(hl:l.length≤4000){Q:Qry}{ev wv rv:V}(hi:i≤l.length)(hF:Fr p L0 L)(hP:Pc lv en (qC Q ev wv rv) p L i 0)(hq:QL base ts Q ev wv rv){T:Tm}(t0:T 0=.ptr p 0){r:R Qry}
  (hr:r=andThen (must l en jsc i) fun _ j=>andThen (jcV l en j) fun s j=>.ok ({ Q with strategy:=s },j)) :
  H env 57 none 60 (fun v D σ'=>D=[]∧QX lv en p base L0 r (.inr v) σ') (QE (QX lv en p base L0 r)) [.code (jbp 3 (jax Tryz.f57))] (regZ 7 (jax Tryz.f57)) T [] ⟨L,ts⟩:=by
 subst hr
 simp only [regZ,regA,jbp,hdC,jax,Tryz.f57,Kv,simprocAttr,Option.or,Kc,jaj,jaw,Kb,Ys,Y0,Ke,Vq,Va,jab,al1,al47,ic,fo55,fo47,jaa,jae,zv47,bd47,YW,YI,jal,jah,jam,jan,jao,jap,len1,app2,jac,jad,jag,jaB,row1,jak,t0]
 refine jc6 (jds hv hl hi hP ts jsc) ?_ ?_
 ·intro e he L' hF'
  simp only [he]; exact ⟨rfl,hF.tr hF'⟩
 intro a j h1 L1 hF1' hP1
 simp only [h1,andThen_ok]
 have hi1:j≤l.length:=jc7 h1
 have hF1:=hF.tr hF1'
 simp only [Kc,jaj,jaw,Kb,simprocAttr,Ys,Y0,Ke,Vq,Va,jab,al1,al47,ic,fo55,fo47,jaa,jae,zv47,bd47,YW,YI,jal,jah,jam,jan,jao,jap,len1,app2,jac,jad,jag,jaB,row1,jak,jyc,u107]
 refine jh5 (fun m T D σ=>D=[]∧T 0=.ptr p 0∧T 41=.row (jfv.map V.str) 3 .full∧T 42=.int .i64 3∧∃ (k:Nat) (L':List AObj),σ=⟨L',ts⟩∧T 43=.int .i64 k∧k≤3∧m=3 - k∧Fr p L0 L'∧Pc lv en (qC Q ev wv rv) p L' j 0∧∀ x,x<k→sees l (jfv.getD x []) j=false) ?_ (3 - 0) _ _ _ ⟨rfl,t0,rfl,rfl,0,L1,rfl,rfl,by omega,rfl,hF1,hP1,fun x h=>absurd h (Nat.not_lt_zero x)⟩
 rintro m T' D σ ⟨rfl,t0',t41,t42,k,L',rfl,t43,hk3,rfl,hF',hP',hno⟩
 by_cases hlt:k<3
 ·have c1:=eq_true (show (k:Int)<3 by omega)
  have e1:IntKind.i64.wrap ((k:Int)+1)=((k+1:Nat):Int):=by rw [wrap_i64 (by omega) (by omega)]; omega
  have hx:=jyd hlt
  have hg:=jye hlt
  simp only [Kc,jaj,jaw,Kb,simprocAttr,Ys,Y0,Ke,Vq,Va,jab,al1,al47,ic,fo55,fo47,jaa,jae,zv47,bd47,YW,YI,jal,jah,jam,jan,jao,jap,len1,app2,jac,jad,jag,jaB,row1,jak,t0',t41,t42,t43,c1,e1,u107,s9,hx,hg]
  refine ⟨⟨by omega,trivial⟩,?_⟩
  refine jcl (jfq hv hl hi1 hP' ts (jfv.getD k [])) ?_
  rintro _ ⟨L2,ts⟩ ⟨rfl,hF2',hP2,rfl⟩
  have hF2:=hF'.tr hF2'
  simp only at hF2 hP2
  cases hs:sees l (jfv.getD k []) j
  ·rw [hs] at hP2
   simp only [Kl,Kr] at hP2
   simp only [Kc,jaj,jaw,Kb,simprocAttr,Ys,Y0,Ke,Vq,Va,jab,al1,al47,ic,fo55,fo47,jaa,jae,zv47,bd47,YW,YI,jal,jah,jam,jan,jao,jap,len1,app2,jac,jad,jag,jaB,row1,jak,t0',t41,t42,t43,e1]
   refine ⟨3 - (k+1),by omega,k+1,L2,rfl,rfl,by omega,rfl,hF2,hP2,fun x hx => ?_⟩
   rcases Qf x k with h | h
   ·exact hno x h
   ·rw [show x=k by omega]; exact hs
  ·rw [hs] at hP2
   simp only [Ks] at hP2
   have hc2:L2[p]? = some (pcL lv en (qC Q ev wv rv) ((j+1:Nat)) 0):=hP2
   rw [juy hlt hno hs]
   simp only [Kc,jaj,jaw,Kb,simprocAttr,Ys,Y0,Ke,Vq,Va,jab,al1,al47,ic,fo55,fo47,jaa,jae,zv47,bd47,YW,YI,jal,jah,jam,jan,jao,jap,len1,app2,jac,jad,jag,jaB,row1,jak,fo29,t0',t41,t42,t43,hc2,ja0,jbV,jbW,st_p,st_q,jaH,jaO,jaA,jau,jaP,ja1,jaQ,ja2,jaR,jaS,jaI,ja3,ld_q,andThen_ok]
   exact ⟨rfl,hF2.tr (Fr.set _ _ _),ev,wv,rv,Kj hP2.lt,⟨hq.e,hq.w,hq.r,hq.b⟩⟩
 ·have c1:=eq_false (show ¬ (k:Int)<3 by omega)
  have hk:k=3:=by omega
  subst hk
  have ha:=jcp (jep hv hl hP' ts)
  simp only [Kc,jaj,jaw,Kb,simprocAttr,Ys,Y0,Ke,Vq,Va,jab,al1,al47,ic,fo55,fo47,jaa,jae,zv47,bd47,YW,YI,jal,jah,jam,jan,jao,jap,len1,app2,jac,jad,jag,jaB,row1,jak,t0',t41,t42,t43,c1,ha]
  rw [juz hno]
  refine jaU (jf0 _ _ _) ?_ ?_
  ·rintro v σ' ⟨h,_⟩; cases h
  ·rintro v σ' ⟨h,rfl⟩; cases h; exact ⟨rfl,hF'⟩
theorem jj2 (m:Nat)(out:List (Int × Int))(i:Nat):jfm l en (m+1) out i=if 64≤out.length then .error (4,atP l en i) else
  andThen (intP l en i) fun lo j=>andThen (must l en [46,46] j) fun _ j=>andThen (intP l en j) fun hi j =>
   if sees l [44] j then jfm l en m (out++[(lo,hi)]) (j+1) else .ok (out++[(lo,hi)],j):=rfl
theorem jwv (hv:IsK lv l)(hl:l.length≤4000)(hs:jd6 l){Q:Qry}{rv:V}(hi:i≤l.length)(hP:Pc lv en (qC Q .nilsl .nilsl rv) p L i 0)(hq:QL base ts Q .nilsl .nilsl rv)(he:Q.expr=[])(hw:Q.wher=[])(hr0:Q.ranges=[]) :
  ∃ x σ',jbL env 57 [.ptr p 0] ⟨L,ts⟩=some (x,σ')∧QX lv en p base L (jpB l en Q i) x σ':=by
 refine jaY rfl rfl rfl rfl at57 rfl (by simp [Tryz.f57]) (by simp [Tryz.f57]) (jbo ?_)
 unfold jpB jcq
 simp only [Tryz.f57,Kc,jaj,Kb,simprocAttr,Ys,Y0,Ke,Vq,Va,jab,al1,al47,ic,fo55,fo47,jaa,jae,zv47,bd47,YW,YI,jal,jah,jam,jan,jao,jap,len1,app2,jac,jad,jag,jaB,row1,jak]
 have hcx:=jp0 (en:=en) (ts:=ts) hv hl hP 10
 unfold jcq at hcx
 cases hn:jfA l en i with
 | error e =>
  rw [hn] at hcx
  refine jaU hcx ?_ ?_
  ·rintro v σ' ⟨h,_⟩; cases h
  ·rintro v σ' ⟨h,h2⟩; exact ⟨h,h2⟩
 | ok x =>
 obtain ⟨c,j⟩:=x
 rw [hn] at hcx
 simp only [andThen_ok] at hcx ⊢
 have hj:=jgU hn
 refine jaU hcx ?_ ?_
 rotate_left
 ·rintro v σ' ⟨h,_⟩; cases h
 rintro v ⟨L1,ts⟩ ⟨h1,hF1,hP1,rfl⟩
 cases h1
 simp only at hF1 hP1
 simp only [Kc,jaj,Kb,simprocAttr,Ys,Y0,Ke,Vq,Va,jab,al1,al47,ic,fo55,fo47,jaa,jae,zv47,bd47,YW,YI,jal,jah,jam,jan,jao,jap,len1,app2,jac,jad,jag,jaB,row1,jak]
 have hP1':Pc lv en (qC { Q with kind:=10,column:=c,ranges:=[] } .nilsl .nilsl rv) p L1 j 0:=hP1
 have hg0:GrowV base ts 2 rv ([]:List (Int × Int)).length (jiG []):=by have:=hq.r; rw [hr0] at this; exact this
 refine jh5 (fun m T D σ=>D=[]∧T 0=.ptr p 0∧∃ (out:List (Int × Int)) (i':Nat) (L':List AObj) (ts':List Nat) (rv':V),σ=⟨L',ts'⟩∧Fr p L L'∧Pc lv en (qC { Q with kind:=10,column:=c,ranges:=out } .nilsl .nilsl rv') p L' i' 0∧GrowV base ts' 2 rv' out.length (jiG out)∧base≤ts'.length∧i'≤l.length∧m+out.length=65∧out.length≤64 ∧
  jfm l en 65 [] j=jfm l en m out i') ?_ 65 _ _ _ ⟨rfl,rfl,[],j,L1,_,rv,rfl,hF1,hP1',hg0,hq.b,hj,rfl,by simp,rfl⟩
 rintro m T D σ ⟨rfl,t0,out,i',L',ts',rv',rfl,hF',hP',hG',hb',hi',hmo,ho64,hR⟩
 rw [hR]
 cases m with
 | zero=>omega
 | succ m =>
 rw [jj2]
 have hc:L'[p]? = some (pcL lv en (qC { Q with kind:=10,column:=c,ranges:=out } .nilsl .nilsl rv') i' 0):=hP'
 have hlen:=hG'.len 73
 by_cases h64:64≤out.length
 ·have h2:=eq_true (show (64:Int)≤(out.length:Int) by omega)
  have ha:=jcp (jep hv hl hP' ts')
  simp only [Kc,jaj,Kb,simprocAttr,Ys,Y0,Ke,Vq,Va,jab,al1,al47,ic,fo55,fo47,jaa,jae,zv47,bd47,YW,YI,jal,jah,jam,jan,jao,jap,len1,app2,jac,jad,jag,jaB,row1,jak,fo29,t0,hc,ld_q,hlen,u26,s26,al26,h2,ha]
  rw [Km h64]
  refine jaU (jf0 _ _ _) ?_ ?_
  ·rintro v σ' ⟨h,_⟩; cases h
  ·rintro v σ' ⟨h,rfl⟩; cases h; exact ⟨rfl,hF'⟩
 ·have h2:=eq_false (show ¬ (64:Int)≤(out.length:Int) by omega)
  simp only [Kn h64]
  simp only [Kc,jaj,Kb,simprocAttr,Ys,Y0,Ke,Vq,Va,jab,al1,al47,ic,fo55,fo47,jaa,jae,zv47,bd47,YW,YI,jal,jah,jam,jan,jao,jap,len1,app2,jac,jad,jag,jaB,row1,jak,fo29,t0,hc,ld_q,hlen,u26,s26,al26,h2]
  refine jc6 (jsW hv hl hs hi' hP' ts') ?_ ?_
  ·intro e he L2 hF2
   simp only [he]; exact ⟨rfl,hF'.tr hF2⟩
  intro lo j1 h1 L2 hF2' hP2
  have hF2:=hF'.tr hF2'
  have hi2:=jj1 h1
  simp only [h1,andThen_ok]
  simp only [Kc,jaj,Kb,simprocAttr,Ys,Y0,Ke,Vq,Va,jab,al1,al47,ic,fo55,fo47,jaa,jae,zv47,bd47,YW,YI,jal,jah,jam,jan,jao,jap,len1,app2,jac,jad,jag,jaB,row1,jak,t0]
  refine jc6 (jds hv hl hi2 hP2 ts' [46,46]) ?_ ?_
  ·intro e he L3 hF3
   simp only [he]; exact ⟨rfl,hF2.tr hF3⟩
  intro _ j2 h3 L3 hF3' hP3
  have hF3:=hF2.tr hF3'
  have hi3:=jc7 h3
  simp only [h3,andThen_ok]
  simp only [Kc,jaj,Kb,simprocAttr,Ys,Y0,Ke,Vq,Va,jab,al1,al47,ic,fo55,fo47,jaa,jae,zv47,bd47,YW,YI,jal,jah,jam,jan,jao,jap,len1,app2,jac,jad,jag,jaB,row1,jak,t0]
  refine d57 (Q:={ Q with kind:=10,column:=c,ranges:=out }) (ev:=.nilsl) (wv:=.nilsl) (rv:=rv') (lo:=lo) (r:=intP l en j2) ?_ ?_ hP3 hG' hb' (by show out.length≤100; omega) (jsW hv hl hs hi3 hP3 ts') ?_ ?_
  ·exact t0
  ·rfl
  ·intro n j3 h4 T' L4 t4 rv4 T0 hF4' hP4 hG4 hb4
   have hF4:=hF3.tr hF4'
   have hi4:=jj1 h4
   have t0':T' 0=.ptr p 0:=by rw [T0]; exact t0
   simp only [h4,andThen_ok]
   simp only [Kc,jca 7,jaw,Kb,simprocAttr,Ys,Y0,Ke,Vq,Va,jab,al1,al47,ic,fo55,fo47,jaa,jae,zv47,bd47,YW,YI,jal,jah,jam,jan,jao,jap,len1,app2,jac,jad,jag,jaB,row1,jak,t0']
   refine jcl (jfq hv hl hi4 hP4 t4 [44]) ?_
   rintro _ ⟨L5,t4⟩ ⟨rfl,hF5',hP5,rfl⟩
   have hF5:=hF4.tr hF5'
   simp only at hF5 hP5
   cases hs5:sees l [44] j3
   ·rw [hs5] at hP5
    simp only [Kl,Kr] at hP5
    simp only [Kc,jca 7,jaw,Kb,simprocAttr,Ys,Y0,Ke,Vq,Va,jab,al1,al47,ic,fo55,fo47,jaa,jae,zv47,bd47,YW,YI,jal,jah,jam,jan,jao,jap,len1,app2,jac,jad,jag,jaB,row1,jak,t0',andThen_ok]
    refine bat7 (Q:={ Q with kind:=10,column:=c,ranges:=out++[(lo,n)] }) hv hl hi4 hF5 hP5 ⟨?_,?_,hG4,hb4⟩ ?_ ?_
    ·show GrowV base _ 3 .nilsl Q.expr.length (jb2 Q.expr); rw [he]; exact .nil
    ·show GrowV base _ 3 .nilsl Q.wher.length (jb2 Q.wher); rw [hw]; exact .nil
    ·exact t0'
    ·rfl
   ·rw [hs5] at hP5
    simp only [Ks] at hP5
    simp only [Kc,jca 7,jaw,Kb,simprocAttr,Ys,Y0,Ke,Vq,Va,jab,al1,al47,ic,fo55,fo47,jaa,jae,zv47,bd47,YW,YI,jal,jah,jam,jan,jao,jap,len1,app2,jac,jad,jag,jaB,row1,jak,t0']
    refine ⟨m,by omega,out++[(lo,n)],j3+1,L5,t4,rv4,rfl,hF5,hP5,hG4,hb4,jcd hs5,?_,?_,?_⟩
    ·simp only [Ku,K1,K5]; omega
    ·simp only [Ku,K1,K5]; omega
    ·rfl
  ·intro e he L4 hF4
   simp only [he]; exact ⟨trivial,rfl,hF3.tr hF4⟩
end
def AP {α:Type}(P:α→Nat→Prop)(r:R α):Prop:=match r with
 | .ok (a,j)=>P a j
 | .error _=>True
theorem AP.andThen {α β:Type}{P:α→Nat→Prop}{Q:β→Nat→Prop}{x:R α}{f:α→Nat→R β}(h:AP P x)(hf:∀ a j,P a j→AP Q (f a j)):AP Q (PP.andThen x f):=by
 match x,h with
 | .ok (a,j),h=>exact hf a j h
 | .error e,h=>trivial
theorem AP.of {α:Type}{P:α→Nat→Prop}{x:R α}(h:∀ a j,x=.ok (a,j)→P a j):AP P x:=by
 match x,h with
 | .ok (a,j),h=>exact h a j rfl
 | .error e,h=>trivial
section
variable {l:List Tk}{en:Int}{i:Nat}
def jqM (l:List Tk)(Q:Qry)(j:Nat):Prop:=j≤l.length∧Q.consistent=false
theorem jer (s:List UInt8)(i:Nat):AP (fun _ j=>j≤l.length) (must l en s i):=AP.of fun _ _ h=>jc7 h
theorem jif (i:Nat):AP (fun _ j=>j≤l.length) (jfA l en i):=AP.of fun _ _ h=>jgU h
theorem jvl (i:Nat):AP (fun _ j=>j≤l.length) (numP l en i):=AP.of fun _ _ h=>jiA h
theorem jnp (i:Nat):AP (fun _ j=>j≤l.length) (intP l en i):=AP.of fun _ _ h=>jj1 h
theorem jvm (i:Nat):AP (fun _ j=>j≤l.length) (posP l en i):=AP.of fun _ _ h=>jp1 h
theorem jvn (sy:Sy)(i:Nat):AP (fun _ j=>j≤l.length) (jdF l en sy i):=AP.of fun _ _ h=>(js2 h).1
theorem jj3 {k:Int}{Q:Qry}(hc:Q.consistent=false)(i:Nat):AP (jqM l) (jej l en k Q i) :=
 (jvn _ _).andThen fun _ _ _=>(jer _ _).andThen fun _ _ _=>(jnp _).andThen fun _ _ _=>(jer _ _).andThen fun _ _ _=>(jnp _).andThen fun _ _ h=>⟨h,hc⟩
theorem je4 {k:Int}{Q:Qry}(hc:Q.consistent=false)(i:Nat):AP (jqM l) (jcq l en k Q i):=(jif _).andThen fun _ _ h=>⟨h,hc⟩
theorem jnq:∀ (m:Nat) (out:List (Int × Int)) (i:Nat),AP (fun _ j=>j≤l.length) (jfm l en m out i)
 | 0,out,i=>trivial
 | m+1,out,i=>by
  rw [jj2]
  split
  ·trivial
  ·refine (jnp _).andThen fun _ _ _=>(jer _ _).andThen fun _ _ _=>(jnp _).andThen fun _ j h => ?_
   split
   ·exact jnq m _ _
   ·exact h
theorem juA (i:Nat):AP (fun _ j=>j≤l.length) (jcV l en i):=by
 unfold jcV
 split
 ·rename_i h; exact jcd h
 ·split
  ·rename_i h; exact jcd h
  ·split
   ·rename_i h; exact jcd h
   ·trivial
theorem juB (k:Int){Q:Qry}(hc:Q.consistent=false)(hi:i≤l.length):AP (jqM l) (jh6 l en k Q i):=by
 unfold jh6
 repeat' split
 ·exact ⟨hi,hc⟩
 ·exact jj3 hc i
 ·exact je4 hc i
 ·exact (jj3 hc i).andThen fun Q' _ h=>(jer _ _).andThen fun _ _ _=>(jif _).andThen fun _ _ h2=>⟨h2,h.2⟩
 ·exact (jvl _).andThen fun _ _ _=>(jer _ _).andThen fun _ _ _=>(jvl _).andThen fun _ _ _=>(jer _ _).andThen fun _ j _=>jj3 (by exact hc) j
 ·exact je4 hc i
 ·exact (jnp _).andThen fun _ j _=>je4 (by exact hc) j
 ·exact je4 hc i
 ·exact je4 hc i
 ·exact (je4 hc i).andThen fun Q' _ h=>(jnq _ _ _).andThen fun _ _ _=>(jer _ _).andThen fun _ _ _=>(juA _).andThen fun _ _ h2=>⟨h2,h.2⟩
theorem js6 {Q:Qry}(hc:Q.consistent=false)(i:Nat):AP (jqM l) (jc2 l en Q i):=by
 unfold jc2
 refine (jer _ _).andThen fun _ _ _=>(jif _).andThen fun t j hj => ?_
 have hk:AP (jqM l) (jse l en { Q with table:=t } j):=by
  unfold jse
  split
  ·exact (jvm _).andThen fun _ _ h=>⟨h,hc⟩
  ·exact ⟨hj,hc⟩
 refine hk.andThen fun Q1 j1 h1 => ?_
 have hjn:AP (jqM l) (jog l en Q1 j1):=by
  unfold jog
  split
  ·exact (jif _).andThen fun _ _ _=>(jer _ _).andThen fun _ _ _=>(jif _).andThen fun _ _ _=>(jer _ _).andThen fun _ _ _=>(jif _).andThen fun _ _ _=>(jer _ _).andThen fun _ _ _=>(jvm _).andThen fun _ _ h=>⟨h,h1.2⟩
  ·exact h1
 refine hjn.andThen fun Q2 j2 h2 => ?_
 unfold jiw
 split
 ·exact (jvn _ _).andThen fun _ _ h=>⟨h,h2.2⟩
 ·exact h2
end
theorem at24:env.P.funcs[24]? = some Tryz.f24:=by kernel_rfl
theorem u60:env.P.underlying 60=some (.map 9 58):=by kernel_rfl
theorem z58:jbE env 58=some .nilfn:=by kernel_rfl
theorem jz4 (L:List AObj)(ts:List Nat):newO env 60 ⟨L,ts⟩=some (.map L.length,⟨L++[.map [] 0],ts⟩):=by unfold newO; rw [u60]; rfl
theorem insK {L:List AObj}{ts:List Nat}{k:List UInt8}{v:V}{es:List (V × V × Nat)}{c:Nat}(hf:jcE env 9 (.str k) es 0=some none) :
  insO env 60 (.map L.length) (.str k) v ⟨L++[.map es c],ts⟩=some (.tup [],⟨L++[.map (es++[(.str k,v,c)]) (c+1)],ts⟩):=by
 unfold insO
 simp only [u60,jal,jhk u9,Ks,hf,S.set,jah]
def joK:List (List UInt8 × V):=jek.map fun p=>(p.1,.func (47+p.2.toNat) [] [])
def kE (n:Nat):List (V × V × Nat):=mapS (joK.take n) 0
theorem jki {L:List AObj}{ts:List Nat}(k:List UInt8)(v:V)(n:Nat)(h:joK[n]? = some (k,v))(hf:jcE env 9 (.str k) (kE n) 0=some none)(hl:n≤joK.length) :
  insO env 60 (.map L.length) (.str k) v ⟨L++[.map (kE n) n],ts⟩=some (.tup [],⟨L++[.map (kE (n+1)) (n+1)],ts⟩):=by
 rw [insK hf]
 have e:joK.take (n+1)=joK.take n++[(k,v)]:=by
  obtain ⟨h1,h2⟩:=Kz.1 h
  rw [← h2,List.take_append_getElem h1]
 unfold kE
 rw [e,jo9,K8,K7,Js hl]
theorem jqN (L:List AObj)(ts:List Nat):jas env (ev env) 24 [] ⟨L,ts⟩=some (.map L.length,⟨L++[.map (kE 10) 10],ts⟩):=by
 refine jbh rfl rfl at24 rfl (by simp [Tryz.f24]) (by simp [Tryz.f24]) (jar ?_)
 have h0:([]:List (V × V × Nat))=kE 0:=rfl
 have i0:=jki (L:=L) (ts:=ts) [99,111,117,110,116] (.func 48 [] []) 0 rfl (by kernel_rfl) (by decide)
 have i1:=jki (L:=L) (ts:=ts) [115,117,109] (.func 49 [] []) 1 rfl (by kernel_rfl) (by decide)
 have i2:=jki (L:=L) (ts:=ts) [104,105,115,116,111,103,114,97,109] (.func 50 [] []) 2 rfl (by kernel_rfl) (by decide)
 have i3:=jki (L:=L) (ts:=ts) [116,111,116,97,108] (.func 51 [] []) 3 rfl (by kernel_rfl) (by decide)
 have i4:=jki (L:=L) (ts:=ts) [113,117,97,110,116,105,108,101] (.func 52 [] []) 4 rfl (by kernel_rfl) (by decide)
 have i5:=jki (L:=L) (ts:=ts) [109,111,100,101] (.func 53 [] []) 5 rfl (by kernel_rfl) (by decide)
 have i6:=jki (L:=L) (ts:=ts) [97,98,111,118,101] (.func 54 [] []) 6 rfl (by kernel_rfl) (by decide)
 have i7:=jki (L:=L) (ts:=ts) [112,101,97,107] (.func 55 [] []) 7 rfl (by kernel_rfl) (by decide)
 have i8:=jki (L:=L) (ts:=ts) [114,117,110,110,105,110,103] (.func 56 [] []) 8 rfl (by kernel_rfl) (by decide)
 have i9:=jki (L:=L) (ts:=ts) [98,97,116,99,104] (.func 57 [] []) 9 rfl (by kernel_rfl) (by decide)
 simp only [Tryz.f24,Ka,simprocAttr,Ys,Y0,Ke,Vq,Va,jab,jgg,jgh,jz4,h0,i0,i1,i2,i3,i4,i5,i6,i7,i8,i9]
 exact ⟨rfl,trivial⟩
theorem jww {L:List AObj}{ts:List Nat}{b:Nat}(h:L[b]? = some (.map (kE 10) 10))(s:List UInt8) :
  jmF env 60 true (.map b) (.str s) ⟨L,ts⟩=some (match PP.look jek s with | some k=>.tup [.func (47+k.toNat) [] [],.bool true] | none=>.tup [.nilfn,.bool false]):=by
 have h':L[b]? = some (.map (mapS joK 0) 10):=h
 rw [jlH u9 u60 z58 h' s]
 have hk:∀ ks:Lvl,((ks.map fun p=>(p.1,V.func (47+p.2.toNat) [] [])).find? fun p=>p.1 == s)=(ks.find? fun p=>p.1=s).map fun p=>(p.1,V.func (47+p.2.toNat) [] []):=by
  intro ks
  induction ks with
  | nil=>rfl
  | cons a r ih =>
   simp only [Ji,List.find?_cons]
   by_cases h:a.1=s
   ·simp [h]
   ·have:(a.1 == s)=false:=by simpa using h
    simp [h,this,ih]
 unfold joK PP.look
 rw [hk]
 cases jek.find? fun p=>p.1=s <;> rfl
theorem jyf {lv:V}{en:Int}{p base:Nat}{l:List Tk}{L:List AObj}{ts:List Nat}{i:Nat}(hv:IsK lv l)(hl:l.length≤4000)(hs:jd6 l)(hi:i≤l.length)(hP:Pc lv en (qC Qry.zero .nilsl .nilsl .nilsl) p L i 0)(hb:base≤ts.length){k:Int}(hk:1≤k∧k≤10) :
  ∃ x σ',jbL env (47+k.toNat) [.ptr p 0] ⟨L,ts⟩=some (x,σ')∧QX lv en p base L (jh6 l en k Qry.zero i) x σ':=by
 have hq:QL base ts Qry.zero .nilsl .nilsl .nilsl:=⟨.nil,.nil,.nil,hb⟩
 have c:k=1∨k=2∨k=3∨k=4∨k=5∨k=6∨k=7∨k=8∨k=9∨k=10:=by omega
 rcases c with rfl | rfl | rfl | rfl | rfl | rfl | rfl | rfl | rfl | rfl
 ·exact jwt hv hl hs hi hP hq
 ·exact jz0 hv hl hs hi hP hq
 ·exact joJ hv hl hs hi hP hq
 ·exact jwr hv hl hs hi hP hq
 ·exact jqL hv hl hs hi hP hq
 ·exact jx6 hv hl hs hi hP hq
 ·exact jws hv hl hs hi hP hq
 ·exact jx7 hv hl hs hi hP hq
 ·exact js4 hv hl hs hi hP hq
 ·exact jwv hv hl hs hi hP hq rfl rfl rfl
theorem at22:env.P.funcs[22]? = some Tryz.f22:=by kernel_rfl
theorem n22:Tryz.f22.ntmps=17:=rfl
theorem u20:env.P.underlying 20=some (.interface #[]):=by kernel_rfl
theorem jyg (a b v:V):Rep 17 (argT [a,b,v,.tup [],.tup [],v]) (([a,b,v,.tup [],.tup [],v]:List V)++List.replicate 11 (V.tup [])):=Rep.args [a,b,v,.tup [],.tup [],v] 17 (by simp)
theorem z51:jbE env 51=some (.agg [.int .i64 0,.int .i64 0]):=by kernel_rfl
theorem s51:sz env 51=some 2:=by kernel_rfl
theorem s29:sz env 29=some 20:=by kernel_rfl
theorem s32:sz env 32=some 2:=by kernel_rfl
theorem bd29:jb9 env 29 []=some (.agg (qC Qry.zero .nilsl .nilsl .nilsl)):=by kernel_rfl
theorem jyh:jhJ env 51 true .nilif=some (.tup [.agg [.int .i64 0,.int .i64 0],.bool false]):=by kernel_rfl
theorem jyi (e:Fl):jhJ env 51 true (flt e)=some (.tup [.agg [.int .i64 e.1,.int .i64 e.2],.bool true]):=by kernel_rfl
theorem al51 (h:List AObj)(p:V):jbj env h 51 p=(jai h 2 p).map .agg:=by
 have g:Go.Ab.aggT env 51=some true:=by kernel_rfl
 unfold jbj
 simp only [g,s51,Kk]
theorem jnr (a b:V)(L:List AObj)(ts:List Nat):ev env (.dcall 22 [a,b] none ⟨L,ts⟩)=some ⟨.ret,[.bool false],[],⟨L++[.cells [.int .i64 0,.int .i64 0] 51],ts⟩⟩:=by
 exact jo8 (E:=env) (pv:=none) (σ:=⟨L,ts⟩) (σ1:=⟨L,ts⟩) (args:=[a,b]) (rc:=some none) (tmps1:=([a,b,.nilif,.tup [],.tup [],.nilif]:List V)++List.replicate 11 (V.tup [])) at22 rfl (by simp [Tryz.f22]) (by
  simp [n22,jdg,Region.wanted,opV,jbn,jbs,jbD,opP,opD,jgn,ja7,jbt,putT,List.range,List.range.loop]) (jyg a b .nilif) rfl (by
  simp only [n22,Ka,simprocAttr,Ys,Y0,Ke,Vq,Va,jab,al1,al47,ic,fo55,fo47,jaa,jae,zv47,bd47,YW,YI,jal,jah,jam,jan,jao,jap,len1,app2,jac,jad,jag,jaB,row1,jak,jgt,jyh,z51,s51,jbz,jco u20,Xv])
theorem jns {L:List AObj}{ts:List Nat}{a b:Nat}{c0 c1:List V}(e:Fl)(ha:L[a]? = some (.cells c0 29))(hl0:c0.length=20)(hb:L[b]? = some (.cells c1 32))(hl1:c1.length=2)(hab:a ≠ b) :
  ev env (.dcall 22 [.ptr a 0,.ptr b 0] (some (flt e)) ⟨L,ts⟩)=some ⟨.ret,[.bool true],[],⟨((L++[AObj.cells [.int .i64 e.1,.int .i64 e.2] 51]).set a (.cells (qC Qry.zero .nilsl .nilsl .nilsl) 29)).set b (.cells [.int .i64 e.1,.int .i64 e.2] 32),ts⟩⟩:=by
 have hla:=jaT ha
 have hlb:=jaT hb
 have g0:(L++[AObj.cells [.int .i64 e.1,.int .i64 e.2] 51])[L.length]? = some (.cells [.int .i64 e.1,.int .i64 e.2] 51):=by simp
 have g1:(L++[AObj.cells [.int .i64 e.1,.int .i64 e.2] 51])[a]? = some (.cells c0 29):=jbR ha _
 have g2:((L++[AObj.cells [.int .i64 e.1,.int .i64 e.2] 51]).set a (.cells (qC Qry.zero .nilsl .nilsl .nilsl) 29))[b]? = some (.cells c1 32):=by rw [Ki hab]; exact jbR hb _
 have g3:((L++[AObj.cells [.int .i64 e.1,.int .i64 e.2] 51]).set a (.cells (qC Qry.zero .nilsl .nilsl .nilsl) 29))[L.length]? = some (.cells [.int .i64 e.1,.int .i64 e.2] 51):=by rw [Ki (by omega)]; exact g0
 have g4:(((L++[AObj.cells [.int .i64 e.1,.int .i64 e.2] 51]).set a (.cells (qC Qry.zero .nilsl .nilsl .nilsl) 29)).set b (.cells [.int .i64 e.1,.int .i64 e.2] 32))[L.length]? = some (.cells [.int .i64 e.1,.int .i64 e.2] 51):=by rw [Ki (by omega)]; exact g3
 have ld:∀ H:List AObj,H[L.length]? = some (.cells [.int .i64 e.1,.int .i64 e.2] 51)→jai H 2 (.ptr L.length 0)=some [.int .i64 e.1,.int .i64 e.2]:=fun H h=>by simp [jai,h]
 have st1:∀ H:List AObj,storeAt ⟨H,ts⟩ (qC Qry.zero .nilsl .nilsl .nilsl) a 0 (some (.cells c0 29))=some ⟨H.set a (.cells (qC Qry.zero .nilsl .nilsl .nilsl) 29),ts⟩:=fun H=>by
  unfold storeAt
  simp only
  rw [Km ⟨by rw [hl0]; exact Qn rfl,rfl⟩]
  have:jab c0 0 (qC Qry.zero .nilsl .nilsl .nilsl)=qC Qry.zero .nilsl .nilsl .nilsl:=by
   unfold jab
   rw [Xu (by rw [hl0]; exact Qn rfl)]
   simp
  rw [this]; rfl
 have st2:∀ H:List AObj,storeAt ⟨H,ts⟩ [.int .i64 e.1,.int .i64 e.2] b 0 (some (.cells c1 32))=some ⟨H.set b (.cells [.int .i64 e.1,.int .i64 e.2] 32),ts⟩:=fun H=>by
  unfold storeAt
  simp only
  rw [Km ⟨by rw [hl1]; exact Qn rfl,rfl⟩]
  have:jab c1 0 [.int .i64 e.1,.int .i64 e.2]=[.int .i64 e.1,.int .i64 e.2]:=by
   unfold jab
   rw [Xu (by rw [hl1]; exact Qn rfl)]
   simp
  rw [this]; rfl
 have hq20:(qC Qry.zero .nilsl .nilsl .nilsl).length=20:=rfl
 exact jo8 (E:=env) (pv:=some (flt e)) (σ:=⟨L,ts⟩) (σ1:=⟨L,ts⟩) (args:=[.ptr a 0,.ptr b 0]) (rc:=some none) (tmps1:=([.ptr a 0,.ptr b 0,flt e,.tup [],.tup [],flt e]:List V)++List.replicate 11 (V.tup [])) at22 rfl (by simp [Tryz.f22]) (by
  simp [n22,jdg,Region.wanted,opV,jbn,jbs,jbD,opP,opD,jgn,ja7,jbt,putT,List.range,List.range.loop]) (jyg _ _ (flt e)) rfl (by
  simp only [n22,Kd,simprocAttr,Ys,Y0,Ke,Vq,Va,jab,al1,al47,ic,fo55,fo47,jaa,jae,zv47,bd47,YW,YI,jal,jah,jam,jan,jao,jap,len1,app2,jac,jad,jag,jaB,row1,jak,jgt,jyi,z51,s51,jbz]
  refine jkG rfl (fun s=>s.heap[L.length]? = some (.cells [.int .i64 e.1,.int .i64 e.2] 51)) g0 (by kernel_rfl) ?_
  simp only [n22,Ka,simprocAttr,Ys,Y0,Ke,Vq,Va,jab,al1,al47,ic,fo55,fo47,jaa,jae,zv47,bd47,YW,YI,jal,jah,jam,jan,jao,jap,len1,app2,jac,jad,jag,jaB,row1,jak,hhWa,hhWb,hhWc,hhWd,bd29,s29,s32,s51,al51,ld _ g0,g1,g2,g3,st1,st2,hq20]
  exact ⟨fun s h=>by rw [ld _ h]; rfl,g4,trivial⟩)
theorem jkj {E:Env}{f:FuncId}{args:List V}{v v':V}{σ':S}(hp:E.pure f=true)(hk:E.hook f=none)(hc:args.all V.closed=true)(h:Go.Ab.ev E (.call f args S.empty)=some ⟨.ret,[v],[],σ'⟩)(hs:jbm σ'.heap jay v=some v')(σ:S):jas E (Go.Ab.ev E) f args σ=some (v',σ):=by
 unfold jas
 simp only [hk,hp,jeA hc,hc,h,hs,Ks,Kw]
theorem jcY {E:Env}{fn:FuncId}{rnd:Option Nat}{n:Nat}{X:V→List V→List DE→S→Prop}{T:Tm}{D:List DE}{σ:S}{Q:Post}{a b:Code}(h:G E fn rnd n ⟨fun T D σ=>wpP E fn rnd n X b T D σ Q,Q.exit,Q.ret⟩ [] a T D σ):wpP E fn rnd n X (.seq a b) T D σ Q:=jgN (jqs h)
theorem jqO {E:Env}{fn:FuncId}{n:Nat}{X:V→List V→List DE→S→Prop}{id:Nat}{g:FuncId}{d:Nat}{cs:Array Operand}{caps:List V}{ty ty2:TypeId}{ps ps2:String}{af af2:Array Edge}{T:Tm}{D:List DE}{σ:S}{Q:Post}(hc:jbt (jaL E T) cs.toList=some caps)(hd:d<n)
  (h:Q.norm (upd T d (.func g [] caps)) (.call g caps::D) σ):wpP E fn none n X (.region id #[⟨some d,.makeFunc (.func g) #[] cs,ty,ps,af,none⟩,⟨none,.defer ⟨.value (.tmp d),#[],#[]⟩,ty2,ps2,af2,none⟩] false) T D σ Q:=fun tmps hr=>by
 refine ⟨⟨.normal,tmps.set d (.func g [] caps),.call g caps::D,σ⟩,?_,_,hr.upd hd _,h⟩
 have h1:opV E (Go.Ab.ev E) (E.mutb fn id) tmps σ (.makeFunc (.func g) #[] cs)=some (.func g [] caps,σ):=by
  rw [← jjo E hr,YP,hc]; rfl
 have hl:d<tmps.length:=by rw [hr.1]; exact hd
 have h2:ja7 E (tmps.set d (.func g [] caps)) (.tmp d)=some (.func g [] caps):=by simp [ja7,hl]
 have h3:∀ t:List V,opV E (Go.Ab.ev E) (E.mutb fn id) t σ (.defer ⟨.value (.tmp d),#[],#[]⟩)=none:=fun t=>by simp [opV,jbn,jbs,jbD]
 simp [jbe,XR.res,jdg,Region.wanted,h1,h2,h3,opP,opD,jbt,putT,List.range,List.range.loop]
def RowU (v:V)(n:Nat)(cs:List V):Prop:=(v=.nilsl∧n=0∧cs=[])∨v=.row cs n .unk
def PV (r:Except Fl Qry)(v:V):Prop :=
 match r with
 | .ok Q=>∃ ev wv rv,v=.tup [.agg (qC Q ev wv rv),.agg [.int .i64 0,.int .i64 0]]∧RowU ev Q.expr.length (jb2 Q.expr)∧RowU wv Q.wher.length (jb2 Q.wher)∧RowU rv Q.ranges.length (jiG Q.ranges)
 | .error e=>v=.tup [.agg (qC Qry.zero .nilsl .nilsl .nilsl),.agg [.int .i64 e.1,.int .i64 e.2]]
def KP (r:Except Fl Qry)(v:V)(σ:S):Prop:=∃ v',jbm σ.heap jay v=some v'∧PV r v'
theorem jld {h:List AObj}{d:Nat}{cs:List V}(hc:∀ v∈cs,(∃ k n,v=.int k n)∨∃ s,v=.str s):cs.mapM (jbm h (d+1))=some cs :=
 jeI h (d+1) cs fun v hv=>by
  rcases hc v hv with ⟨k,n,rfl⟩ | ⟨s,rfl⟩ <;> rfl
theorem jj4 {h:List AObj}{d base w n:Nat}{ts:List Nat}{v:V}{cs:List V}(g:GrowV base ts w v n cs)(hc:∀ v∈cs,(∃ k n,v=.int k n)∨∃ s,v=.str s):∃ v',jbm h (d+2) v=some v'∧RowU v' n cs:=by
 cases g with
 | nil=>exact ⟨_,rfl,.inl ⟨rfl,rfl,rfl⟩⟩
 | full _ _ hl=>exact ⟨.row cs n .unk,by rw [jfR,jld hc]; rfl,.inr rfl⟩
 | tok _ _ k e hl hb ht=>exact ⟨.row cs n .unk,by rw [jfR,jld hc]; rfl,.inr rfl⟩
theorem jfs (l:List Nd):∀ v∈jb2 l,(∃ k n,v=.int k n)∨∃ s,v=.str s:=by
 intro v hv
 simp only [jb2,List.mem_flatten,J7] at hv
 obtain ⟨_,⟨x,_,rfl⟩,h⟩:=hv
 simp only [jb5,Q8,Jw,or_false] at h
 rcases h with rfl | rfl | rfl
 ·exact .inl ⟨_,_,rfl⟩
 ·exact .inl ⟨_,_,rfl⟩
 ·exact .inr ⟨_,rfl⟩
theorem joL (l:List (Int × Int)):∀ v∈jiG l,(∃ k n,v=.int k n)∨∃ s,v=.str s:=by
 intro v hv
 simp only [jiG,List.mem_flatten,J7] at hv
 obtain ⟨_,⟨x,_,rfl⟩,h⟩:=hv
 simp only [Q8,Jw,or_false] at h
 rcases h with rfl | rfl
 ·exact .inl ⟨_,_,rfl⟩
 ·exact .inl ⟨_,_,rfl⟩
theorem jz5 {Q:Qry}{ev wv rv:V}{base:Nat}{ts:List Nat}{h:List AObj}{t2:List Nat}(hq:QL base ts Q ev wv rv):KP (.ok Q) (.tup [.agg (qC Q ev wv rv),.agg [.int .i64 0,.int .i64 0]]) ⟨h,t2⟩:=by
 obtain ⟨e',he,re⟩:=jj4 (h:=h) (d:=8) hq.e (jfs _)
 obtain ⟨w',hw,rw'⟩:=jj4 (h:=h) (d:=8) hq.w (jfs _)
 obtain ⟨r',hr,rr⟩:=jj4 (h:=h) (d:=8) hq.r (joL _)
 refine ⟨.tup [.agg (qC Q e' w' r'),.agg [.int .i64 0,.int .i64 0]],?_,e',w',r',rfl,re,rw',rr⟩
 simp only [jay,ja6,jcv,jaz,jaF,jaW,jb8,jbl,qC,he,hw,hr,Kk,Kw]
theorem jyj {e:Fl}{h:List AObj}{t2:List Nat}:KP (.error e) (.tup [.agg (qC Qry.zero .nilsl .nilsl .nilsl),.agg [.int .i64 e.1,.int .i64 e.2]]) ⟨h,t2⟩ :=
 ⟨_,by simp only [jay,ja6,jcv,jaz,jaF,jaW,jb8,jbl,jgJ,qC,Kk,Kw],rfl⟩
theorem at10:env.P.funcs[10]? = some Tryz.f10:=by kernel_rfl
noncomputable def p10 (i:Nat):Code:=hdC (jbp i (jax Tryz.f10))
theorem jyk:Tryz.f10.body=some (.seq (p10 0) (.seq (p10 1) (.seq (p10 2) (.seq (p10 3) (.seq (p10 4) (.seq (p10 5) (.seq (p10 6) (.seq (p10 7) (.seq (p10 8) (.seq (p10 9) (.seq (p10 10) (.seq (p10 11) (jbp 12 (jax Tryz.f10)))))))))))))):=by kernel_rfl
noncomputable def rs10:List ResultVar:=Tryz.f10.results.toList
theorem js7:rs10=[.cell 2 29,.cell 3 32]:=rfl
def jnt:List V:=[.ptr 0 0,.ptr 1 0]
def D10:List DE:=[.call 22 jnt]
abbrev X10 (r:Except Fl Qry):V→List V→List DE→S→Prop:=jw3 env 22 jnt rs10 (KP r)
abbrev E10 (r:Except Fl Qry):Tm→List DE→S→Prop:=EndD env 22 jnt rs10 (KP r)
abbrev Q10 (r:Except Fl Qry):Post:=⟨E10 r,fun _ _ _ _=>False,E10 r⟩
abbrev W10 (r:Except Fl Qry) (c:Code) (T:Tm) (σ:S):Prop:=wpP env 10 none 63 (X10 r) c T D10 σ (Q10 r)
theorem al29 (h:List AObj)(p:V):jbj env h 29 p=(jai h 20 p).map .agg:=by
 have g:Go.Ab.aggT env 29=some true:=by kernel_rfl
 unfold jbj
 simp only [g,s29,Kk]
theorem al32 (h:List AObj)(p:V):jbj env h 32 p=(jai h 2 p).map .agg:=by
 have g:Go.Ab.aggT env 32=some true:=by kernel_rfl
 unfold jbj
 simp only [g,s32,Kk]
structure RC (L:List AObj):Prop where
 a:∃ c,L[0]? = some (.cells c 29)∧c.length=20
 b:∃ c,L[1]? = some (.cells c 32)∧c.length=2
theorem RC.mv {p:Nat}{L L':List AObj}(h:RC L)(f:Fr p L L')(hp:2≤p):RC L':=by
 obtain ⟨⟨c,a1,a2⟩,⟨d,b1,b2⟩⟩:=h
 exact ⟨⟨c,f.has a1 (by omega),a2⟩,⟨d,f.has b1 (by omega),b2⟩⟩
theorem juC {r:Except Fl Qry}{e:Fl}(hr:r=.error e){L:List AObj}{ts:List Nat}(hc:RC L){vals:List V}(h2:vals.getD 2 (.tup [])=.ptr 0 0)(h3:vals.getD 3 (.tup [])=.ptr 1 0):X10 r (flt e) vals D10 ⟨L,ts⟩:=by
 obtain ⟨⟨c,a1,a2⟩,⟨d,b1,b2⟩⟩:=hc
 have hla:=jaT a1
 have hlb:=jaT b1
 refine ⟨rfl,_,jns e a1 a2 b1 b2 (by omega),?_⟩
 subst hr
 have g1:(((L++[AObj.cells [.int .i64 e.1,.int .i64 e.2] 51]).set 0 (.cells (qC Qry.zero .nilsl .nilsl .nilsl) 29)).set 1 (.cells [.int .i64 e.1,.int .i64 e.2] 32))[0]? = some (.cells (qC Qry.zero .nilsl .nilsl .nilsl) 29):=by
  rw [Ki (by omega),Kj (by simp)]
 have g2:(((L++[AObj.cells [.int .i64 e.1,.int .i64 e.2] 51]).set 0 (.cells (qC Qry.zero .nilsl .nilsl .nilsl) 29)).set 1 (.cells [.int .i64 e.1,.int .i64 e.2] 32))[1]? = some (.cells [.int .i64 e.1,.int .i64 e.2] 32):=by
  rw [Kj (by simp; omega)]
 have l1:∀ H:List AObj,H[0]? = some (.cells (qC Qry.zero .nilsl .nilsl .nilsl) 29)→jai H 20 (.ptr 0 0)=some (qC Qry.zero .nilsl .nilsl .nilsl):=fun H h=>by simp only [jai,h]; rfl
 have l2:∀ H:List AObj,H[1]? = some (.cells [.int .i64 e.1,.int .i64 e.2] 32)→jai H 2 (.ptr 1 0)=some [.int .i64 e.1,.int .i64 e.2]:=fun H h=>by simp [jai,h]
 refine ⟨[.agg (qC Qry.zero .nilsl .nilsl .nilsl),.agg [.int .i64 e.1,.int .i64 e.2]],?_,jyj⟩
 rw [js7]
 simp only [resV,h2,h3,al29,al32,l1 _ g1,l2 _ g2,Kw,Kk]
theorem jz6 {Q:Qry}{ev wv rv:V}{base:Nat}{ts:List Nat}(hq:QL base ts Q ev wv rv){L:List AObj}{T:Tm}(t2:T 2=.ptr 0 0)(t3:T 3=.ptr 1 0)(h0:L[0]? = some (.cells (qC Q ev wv rv) 29))(h1:L[1]? = some (.cells [.int .i64 0,.int .i64 0] 32)):E10 (.ok Q) T D10 ⟨L,ts⟩:=by
 refine ⟨rfl,_,jnr _ _ _ _,[.agg (qC Q ev wv rv),.agg [.int .i64 0,.int .i64 0]],?_,jz5 hq⟩
 rw [js7]
 have l1:jai (L++[AObj.cells [.int .i64 0,.int .i64 0] 51]) 20 (.ptr 0 0)=some (qC Q ev wv rv):=by simp only [jai,jbR h0]; rfl
 have l2:jai (L++[AObj.cells [.int .i64 0,.int .i64 0] 51]) 2 (.ptr 1 0)=some [.int .i64 0,.int .i64 0]:=by simp only [jai,jbR h1]; rfl
 simp only [resT,t2,t3,al29,al32,l1,l2,Kw,Kk]
section
variable {lv:V}{en:Int}{l:List Tk}{L:List AObj}{ts:List Nat}{itoa:Int→List UInt8}{mk:Int→Int→List UInt8}{me:Int→Int→List UInt8}
theorem qs12 {Q:Qry}{ev wv rv:V}{base j:Nat}(hq:QL base ts Q ev wv rv)(hc:RC L)(hP:Pc lv en (qC Q ev wv rv) 2 L j 0){T:Tm}(t2:T 2=.ptr 0 0)(t3:T 3=.ptr 1 0)(t5:T 5=.ptr 2 0):W10 (.ok Q) (jbp 12 (jax Tryz.f10)) T ⟨L,ts⟩:=by
 obtain ⟨⟨c,a1,a2⟩,⟨d,b1,b2⟩⟩:=hc
 have hla:=jaT a1
 have hlb:=jaT b1
 have l1:jai L 20 (.ptr 2 4)=some (qC Q ev wv rv):=by
  have h:L[2]? = some (pcL lv en (qC Q ev wv rv) j 0):=hP
  simp only [jai,h,pcL]; rfl
 have bd32:jb9 env 32 []=some (.agg [.int .i64 0,.int .i64 0]):=by kernel_rfl
 have st1:storeAt ⟨L,ts⟩ (qC Q ev wv rv) 0 0 (some (.cells c 29))=some ⟨L.set 0 (.cells (qC Q ev wv rv) 29),ts⟩:=by
  unfold storeAt
  simp only
  rw [Km ⟨by rw [a2]; exact Qn rfl,by simp [qC,ic,hq.e.cells.2,hq.w.cells.2,hq.r.cells.2]⟩]
  have:jab c 0 (qC Q ev wv rv)=qC Q ev wv rv:=by
   unfold jab
   rw [Xu (by rw [a2]; exact Qn rfl)]
   simp
  rw [this]; rfl
 have g1:(L.set 0 (.cells (qC Q ev wv rv) 29))[1]? = some (.cells d 32):=by rw [Ki (by omega)]; exact b1
 have st2:storeAt ⟨L.set 0 (.cells (qC Q ev wv rv) 29),ts⟩ [.int .i64 0,.int .i64 0] 1 0 (some (.cells d 32))=some ⟨(L.set 0 (.cells (qC Q ev wv rv) 29)).set 1 (.cells [.int .i64 0,.int .i64 0] 32),ts⟩:=by
  unfold storeAt
  simp only
  rw [Km ⟨by rw [b2]; exact Qn rfl,rfl⟩]
  have:jab d 0 [.int .i64 0,.int .i64 0]=[.int .i64 0,.int .i64 0]:=by
   unfold jab
   rw [Xu (by rw [b2]; exact Qn rfl)]
   simp
  rw [this]; rfl
 have hq20:(qC Q ev wv rv).length=20:=rfl
 refine jqs ?_
 simp only [jbp,jax,Tryz.f10,Kv,Ka,simprocAttr,Ys,Y0,Ke,Vq,Va,jab,al1,al47,ic,fo55,fo47,jaa,jae,zv47,bd47,YW,YI,jal,jah,jam,jan,jao,jap,len1,app2,jac,jad,jag,jaB,row1,jak,t2,t3,t5,al29,l1,bd32,a1,st1,g1,st2,s29,s32,hq20]
 exact jz6 hq t2 t3 (by rw [Ki (by omega),Kj hla]) (Kj (by simpa using hlb))
def fin (x:R Qry):Except Fl Qry:=match x with
 | .ok (q,_)=>.ok q
 | .error e=>.error e
theorem qs11 (hv:IsK lv l)(hl:l.length≤4000)(hs:jd6 l)(hI:ItOK itoa)(hM:MkOK l en itoa mk me){Q:Qry}{ev wv rv:V}{base j:Nat}(hq:QL base ts Q ev wv rv)(hcon:Q.consistent=false)(hj:j≤l.length)(hc:RC L)(hP:Pc lv en (qC Q ev wv rv) 2 L j 0){T:Tm}(t2:T 2=.ptr 0 0)(t3:T 3=.ptr 1 0)(t5:T 5=.ptr 2 0):W10 (fin (jhu l en itoa mk Q j)) (.seq (p10 11) (jbp 12 (jax Tryz.f10))) T ⟨L,ts⟩:=by
 obtain ⟨x,⟨L',t'⟩,hcx,hX⟩:=jyb (ts:=ts) hv hl hs hI hM hj hP hq hcon
 generalize jhu l en itoa mk Q j=r at *
 match r,hX with
 | .ok (Q',j'),⟨k1,k2,ev',wv',rv',k3,k4⟩ =>
  subst k1
  refine jcY ?_
  simp only [show p10 11=hdC (jbp 11 (jax Tryz.f10)) from rfl,hdC,jbp,jax,Tryz.f10,Kv,Ka,simprocAttr,Ys,Y0,Ke,Vq,t5,jfU hcx]
  refine qs12 k4 (hc.mv k2 (Ky _)) k3 ?_ ?_ ?_
  ·exact t2
  ·exact t3
  ·exact t5
 | .error e,⟨k1,k2⟩ =>
  subst k1
  obtain ⟨p1,p2,p3,p4,p5⟩:=jeY hcx
  refine jgN ?_
  simp only [show p10 11=hdC (jbp 11 (jax Tryz.f10)) from rfl,hdC,jbp,jax,Tryz.f10,Kv]
  refine jiT 1 _ _ rfl rfl rfl ?_
  simp only [Q5,Jk,Ka,simprocAttr,Ys,Y0,Ke,Vq,t5]
  exact ⟨_,[],[],[.ptr 2 0],_,_,rfl,rfl,p1,p2,p3,p4,p5,fun vals hr=>juC rfl (hc.mv k2 (Ky _)) ((hr.2 2).trans t2) ((hr.2 3).trans t3)⟩
theorem qs10 (hv:IsK lv l)(hl:l.length≤4000)(hs:jd6 l)(hI:ItOK itoa)(hM:MkOK l en itoa mk me){Q:Qry}{ev wv rv:V}{base j:Nat}(hq:QL base ts Q ev wv rv)(hcon:Q.consistent=false)(hj:j≤l.length)(hc:RC L)(hP:Pc lv en (qC Q ev wv rv) 2 L j 0){T:Tm}(t2:T 2=.ptr 0 0)(t3:T 3=.ptr 1 0)(t5:T 5=.ptr 2 0):W10 (fin (andThen (jc2 l en Q j) fun q j=>jhu l en itoa mk q j)) (.seq (p10 10) (.seq (p10 11) (jbp 12 (jax Tryz.f10)))) T ⟨L,ts⟩:=by
 obtain ⟨x,⟨L',t'⟩,hcx,hX⟩:=jux (ts:=ts) hv hl hj hP hq
 have hap:=js6 (l:=l) (en:=en) hcon j
 generalize jc2 l en Q j=r at *
 match r,hap,hX with
 | .ok (Q',j'),hap,⟨k1,k2,ev',wv',rv',k3,k4⟩ =>
  subst k1
  refine jcY ?_
  simp only [show p10 10=hdC (jbp 10 (jax Tryz.f10)) from rfl,hdC,jbp,jax,Tryz.f10,Kv,Ka,simprocAttr,Ys,Y0,Ke,Vq,t5,jfU hcx]
  refine qs11 (Q:=Q') hv hl hs hI hM k4 hap.2 hap.1 (hc.mv k2 (Ky _)) k3 ?_ ?_ ?_
  ·exact t2
  ·exact t3
  ·exact t5
 | .error e,_,⟨k1,k2⟩ =>
  subst k1
  obtain ⟨p1,p2,p3,p4,p5⟩:=jeY hcx
  refine jgN ?_
  simp only [show p10 10=hdC (jbp 10 (jax Tryz.f10)) from rfl,hdC,jbp,jax,Tryz.f10,Kv]
  refine jiT 1 _ _ rfl rfl rfl ?_
  simp only [Q5,Jk,Ka,simprocAttr,Ys,Y0,Ke,Vq,t5]
  exact ⟨_,[],[],[.ptr 2 0],_,_,rfl,rfl,p1,p2,p3,p4,p5,fun vals hr=>juC rfl (hc.mv k2 (Ky _)) ((hr.2 2).trans t2) ((hr.2 3).trans t3)⟩
theorem qs9 (hv:IsK lv l)(hl:l.length≤4000)(hs:jd6 l)(hI:ItOK itoa)(hM:MkOK l en itoa mk me){base j:Nat}{k:Int}(hk:1≤k∧k≤10)(hb:base≤ts.length)(hj:j≤l.length)(hc:RC L)(hP:Pc lv en (qC Qry.zero .nilsl .nilsl .nilsl) 2 L j 0){T:Tm}(t2:T 2=.ptr 0 0)(t3:T 3=.ptr 1 0)(t5:T 5=.ptr 2 0)(t8:T 8=.func (47+k.toNat) [] []):W10 (fin (andThen (jh6 l en k Qry.zero j) fun q j=>andThen (jc2 l en q j) fun q j=>jhu l en itoa mk q j)) (.seq (p10 9) (.seq (p10 10) (.seq (p10 11) (jbp 12 (jax Tryz.f10))))) T ⟨L,ts⟩:=by
 obtain ⟨x,⟨L',t'⟩,hcx,hX⟩:=jyf (ts:=ts) hv hl hs hj hP hb hk
 have hap:=juB (l:=l) (en:=en) k (Q:=Qry.zero) rfl hj
 generalize jh6 l en k Qry.zero j=r at *
 match r,hap,hX with
 | .ok (Q',j'),hap,⟨k1,k2,ev',wv',rv',k3,k4⟩ =>
  subst k1
  refine jcY ?_
  simp only [show p10 9=hdC (jbp 9 (jax Tryz.f10)) from rfl,hdC,jbp,jax,Tryz.f10,Kv,Ka,simprocAttr,Ys,Y0,Ke,Vq,t5,t8,jfU hcx]
  refine qs10 (Q:=Q') hv hl hs hI hM k4 hap.2 hap.1 (hc.mv k2 (Ky _)) k3 ?_ ?_ ?_
  ·exact t2
  ·exact t3
  ·exact t5
 | .error e,_,⟨k1,k2⟩ =>
  subst k1
  obtain ⟨p1,p2,p3,p4,p5⟩:=jeY hcx
  refine jgN ?_
  simp only [show p10 9=hdC (jbp 9 (jax Tryz.f10)) from rfl,hdC,jbp,jax,Tryz.f10,Kv]
  refine jiT 2 _ _ rfl rfl rfl ?_
  simp only [Q5,Jk,Ka,simprocAttr,Ys,Y0,Ke,Vq,t5,t8]
  exact ⟨_,[],[],[.ptr 2 0],_,_,rfl,rfl,p1,p2,p3,p4,p5,fun vals hr=>juC rfl (hc.mv k2 (Ky _)) ((hr.2 2).trans t2) ((hr.2 3).trans t3)⟩
theorem qs8 (hv:IsK lv l)(hl:l.length≤4000)(hs:jd6 l)(hI:ItOK itoa)(hM:MkOK l en itoa mk me){base j:Nat}{k:Int}(hk:1≤k∧k≤10)(hb:base≤ts.length)(hj:j<l.length)(hc:RC L)(hP:Pc lv en (qC Qry.zero .nilsl .nilsl .nilsl) 2 L j 0){T:Tm}(t2:T 2=.ptr 0 0)(t3:T 3=.ptr 1 0)(t5:T 5=.ptr 2 0)(t8:T 8=.func (47+k.toNat) [] []):W10 (fin (andThen (jh6 l en k Qry.zero (j+1)) fun q j=>andThen (jc2 l en q j) fun q j=>jhu l en itoa mk q j)) (.seq (p10 8) (.seq (p10 9) (.seq (p10 10) (.seq (p10 11) (jbp 12 (jax Tryz.f10)))))) T ⟨L,ts⟩:=by
 have e1:IntKind.i64.wrap ((j:Int)+1)=((j+1:Nat):Int):=by rw [wrap_i64 (by omega) (by omega)]; omega
 have hcl:=Pc.has hP
 refine jcY ?_
 simp only [show p10 8=hdC (jbp 8 (jax Tryz.f10)) from rfl,hdC,jbp,jax,Tryz.f10,Kv,Ka,simprocAttr,Ys,Y0,Ke,Vq,Va,jab,al1,al47,ic,fo55,fo47,jaa,jae,zv47,bd47,YW,YI,jal,jah,jam,jan,jao,jap,len1,app2,jac,jad,jag,jaB,row1,jak,t5,hcl,e1]
 refine qs9 hv hl hs hI hM hk hb hj (hc.mv (Fr.set 2 L _) (Ky _)) (hP.set (j+1) 0) ?_ ?_ ?_ ?_
 ·exact t2
 ·exact t3
 ·exact t5
 ·exact t8
theorem jyl (l:List Tk)(i:Nat):keyT l i=(pkT l [2] i).1.text:=by
 unfold keyT pkT
 cases l[i]? with
 | none=>rfl
 | some t =>
  simp only [Xx]
  by_cases h:t.kind=2
  ·simp [h]
  ·simp [h,tk0]
theorem juD {l:List Tk}{i:Nat}{k:Int}(h:PP.look jek (keyT l i)=some k):i<l.length:=by
 unfold keyT at h
 split at h
 ·rename_i t ht; exact jgP ht
 ·have:PP.look jek []=none:=by decide
  rw [this] at h; cases h
def jym (l:List Tk)(en:Int)(itoa:Int→List UInt8)(mk:Int→Int→List UInt8)(o:Option Int):Except Fl Qry :=
 match o with
 | none=>.error (11,atP l en 0)
 | some k=>fin (andThen (jh6 l en k Qry.zero 1) fun q j=>andThen (jc2 l en q j) fun q j=>jhu l en itoa mk q j)
theorem jqP:je0 l en itoa mk=jym l en itoa mk (PP.look jek (keyT l 0)):=by
 unfold je0 jym
 cases PP.look jek (keyT l 0) with
 | none=>rfl
 | some k =>
  simp only
  generalize (andThen (jh6 l en k Qry.zero 1) fun q j=>andThen (jc2 l en q j) fun q j=>jhu l en itoa mk q j)=r
  match r with
  | .ok (q,j)=>rfl
  | .error e=>rfl
theorem qs7 (hv:IsK lv l)(hl:l.length≤4000)(hs:jd6 l)(hI:ItOK itoa)(hM:MkOK l en itoa mk me){base:Nat}(hb:base≤ts.length)(hc:RC L)(hP:Pc lv en (qC Qry.zero .nilsl .nilsl .nilsl) 2 L 0 0){T:Tm}(t2:T 2=.ptr 0 0)(t3:T 3=.ptr 1 0)(t5:T 5=.ptr 2 0)
  (t9:T 9=.bool (PP.look jek (keyT l 0)).isSome) (t8:∀ k,PP.look jek (keyT l 0)=some k→T 8=.func (47+k.toNat) [] []):W10 (je0 l en itoa mk) (.seq (p10 7) (.seq (p10 8) (.seq (p10 9) (.seq (p10 10) (.seq (p10 11) (jbp 12 (jax Tryz.f10))))))) T ⟨L,ts⟩:=by
 rw [jqP]
 cases hk:PP.look jek (keyT l 0) with
 | some k =>
  rw [hk] at t9
  have t8:=t8 k hk
  have t9':T 9=.bool true:=t9
  refine jcY ?_
  simp only [show p10 7=hdC (jbp 7 (jax Tryz.f10)) from rfl,hdC,jbp,jax,Tryz.f10,Kv,Ka,simprocAttr,Ys,Y0,Ke,Vq,t9']
  refine qs8 hv hl hs hI hM (jmT hk) hb (juD hk) hc hP ?_ ?_ ?_ ?_
  ·exact t2
  ·exact t3
  ·exact t5
  ·exact t8
 | none =>
  rw [hk] at t9
  have t9':T 9=.bool false:=t9
  have ha:=jep hv hl hP ts
  obtain ⟨r,σ',hcx,rfl,rfl⟩:=jf0 11 (atP l en 0) ⟨L,ts⟩
  obtain ⟨p1,p2,p3,p4,p5⟩:=jeY hcx
  refine jgN ?_
  simp only [show p10 7=hdC (jbp 7 (jax Tryz.f10)) from rfl,hdC,jbp,jax,Tryz.f10,Kv]
  refine jcY ?_
  simp only [Ka,simprocAttr,Ys,Y0,Ke,Vq,t9']
  refine jo6 (b:=true) rfl ?_
  simp only [Ks]
  refine jiT 2 _ _ rfl rfl rfl ?_
  simp only [Q5,Jk,Ka,simprocAttr,Ys,Y0,Ke,Vq,t5,ha]
  exact ⟨_,[],[],[.int .i64 11,.int .i64 (atP l en 0)],_,_,rfl,rfl,p1,p2,p3,p4,p5,fun vals hr=>juC rfl hc ((hr.2 2).trans t2) ((hr.2 3).trans t3)⟩
theorem qs6 (hv:IsK lv l)(hl:l.length≤4000)(hs:jd6 l)(hI:ItOK itoa)(hM:MkOK l en itoa mk me){base:Nat}(hb:base≤ts.length)(hc:RC L)(hP:Pc lv en (qC Qry.zero .nilsl .nilsl .nilsl) 2 L 0 0){T:Tm}(t2:T 2=.ptr 0 0)(t3:T 3=.ptr 1 0)(t5:T 5=.ptr 2 0)
  {b:Nat} {t:Tk} (ht:t.text=keyT l 0) (t6:T 6=.ptr b 0) (h6:L[b]? = some (.cells (jak t) 47)):W10 (je0 l en itoa mk) (.seq (p10 6) (.seq (p10 7) (.seq (p10 8) (.seq (p10 9) (.seq (p10 10) (.seq (p10 11) (jbp 12 (jax Tryz.f10)))))))) T ⟨L,ts⟩:=by
 have hkc:=jqN L ts
 have hlk:=jww (ts:=ts) (L:=L++[.map (kE 10) 10]) (b:=L.length) (by simp) t.text
 have h6':(L++[AObj.map (kE 10) 10])[b]? = some (.cells [.int .i64 t.kind,.str t.text,.int .i64 t.n,.int .i64 t.pos] 47):=jbR h6 _
 have hF:Fr 2 L (L++[AObj.map (kE 10) 10]):=Fr.app _ _ _
 refine jcY ?_
 rw [ht] at hlk
 simp only [show p10 6=hdC (jbp 6 (jax Tryz.f10)) from rfl,hdC,jbp,jax,Tryz.f10,Kv]
 refine jrP rfl [(true,[]),(false,[]),(false,[0]),(false,[]),(false,[]),(false,[]),(false,[]),(false,[]),(false,[])] (fun m s0=>m=0→s0.heap[b]? = some (.cells (jak t) 47)) (fun _=>h6) (by kernel_rfl) (by kernel_rfl) ?_
 cases hk:PP.look jek (keyT l 0) with
 | some k =>
  rw [hk] at hlk
  simp only [Ka,simprocAttr,Ys,Y0,Ke,Vq,Va,jab,al1,al47,ic,fo55,fo47,jaa,jae,zv47,bd47,YW,YI,jal,jah,jam,jan,jao,jap,len1,app2,jac,jad,jag,jaB,row1,jak,hhWa,hhWb,hhWc,hhWd,jhh,jlC,jlD,jhi,jlE,jhj,jlF,jfl,jd4,jdq,jdr,t6,hkc,h6',jd9,ht,hlk]
  refine ⟨⟨fun s h=>by rw [h]; rfl,trivial⟩,?_⟩
  refine qs7 hv hl hs hI hM hb (hc.mv hF (Ky _)) (hP.app _) ?_ ?_ ?_ ?_ ?_
  ·exact t2
  ·exact t3
  ·exact t5
  ·rw [hk]; rfl
  ·intro k' hk'
   rw [hk] at hk'
   cases hk'; rfl
 | none =>
  rw [hk] at hlk
  simp only [Ka,simprocAttr,Ys,Y0,Ke,Vq,Va,jab,al1,al47,ic,fo55,fo47,jaa,jae,zv47,bd47,YW,YI,jal,jah,jam,jan,jao,jap,len1,app2,jac,jad,jag,jaB,row1,jak,hhWa,hhWb,hhWc,hhWd,jhh,jlC,jlD,jhi,jlE,jhj,jlF,jfl,jd4,jdq,jdr,t6,hkc,h6',jd9,ht,hlk]
  refine ⟨⟨fun s h=>by rw [h]; rfl,trivial⟩,?_⟩
  refine qs7 hv hl hs hI hM hb (hc.mv hF (Ky _)) (hP.app _) ?_ ?_ ?_ ?_ ?_
  ·exact t2
  ·exact t3
  ·exact t5
  ·rw [hk]; rfl
  ·intro k' hk'
   rw [hk] at hk'
   cases hk'
theorem fo32:ja4 env 32 0=some 0∧ja4 env 32 1=some 1:=⟨by kernel_rfl,by kernel_rfl⟩
theorem bd55 (hv:IsK lv l)(n:Int):jb9 env 55 [(0,lv),(2,.int .i64 n)]=some (.agg (lv::.int .i64 0::.int .i64 n::.int .i64 0::qC Qry.zero .nilsl .nilsl .nilsl)):=by
 rcases hv with ⟨rfl,rfl⟩ | ⟨q,rfl⟩ <;> kernel_rfl
theorem juE (hv:IsK lv l)(hl:l.length≤4000)(hs:jd6 l)(hI:ItOK itoa)(s:List UInt8)(hM:MkOK l (s.length:Nat) itoa mk me)(hsp:∀ σ,jas env (ev env) 19 [.str s] σ=some (.tup [lv,.agg [.int .i64 0,.int .i64 0]],σ)) :
  ∃ v,PV (je0 l (s.length:Nat) itoa mk) v∧∀ σ,jas env (ev env) 10 [.str s] σ=some (v,σ):=by
 have key:∃ v σ',ev env (.call 10 [.str s] S.empty)=some ⟨.ret,[v],[],σ'⟩∧KP (je0 l (s.length:Nat) itoa mk) v σ':=by
  refine jw4 (g:=22) (caps:=jnt) at10 jyk (by simp [Tryz.f10]) (by simp [Tryz.f10]) ?_
  show wpP env 10 none 63 (X10 (je0 l (s.length:Nat) itoa mk)) _ (argT [.str s]) [] ⟨[],[]⟩ (Q10 (je0 l (s.length:Nat) itoa mk))
  have z29:jbE env 29=some (.agg (qC Qry.zero .nilsl .nilsl .nilsl)):=by kernel_rfl
  have z32:jbE env 32=some (.agg [.int .i64 0,.int .i64 0]):=by kernel_rfl
  refine jcY ?_
  simp only [show p10 0=hdC (jbp 0 (jax Tryz.f10)) from rfl,hdC,jbp,jax,Tryz.f10,Kv,Ka,simprocAttr,Ys,Y0,Ke,Vq,Va,jab,al1,al47,ic,fo55,fo47,jaa,jae,zv47,bd47,YW,YI,jal,jah,jam,jan,jao,jap,len1,app2,jac,jad,jag,jaB,row1,jak,z29,z32]
  refine jcY ?_
  simp only [show p10 1=hdC (jbp 1 (jax Tryz.f10)) from rfl,hdC,jbp,jax,Tryz.f10,Kv,Ka,simprocAttr,Ys,Y0,Ke,Vq,Va,jab,al1,al47,ic,fo55,fo47,jaa,jae,zv47,bd47,YW,YI,jal,jah,jam,jan,jao,jap,len1,app2,jac,jad,jag,jaB,row1,jak,hsp,s32]
  refine jcY ?_
  simp only [show p10 2=hdC (jbp 2 (jax Tryz.f10)) from rfl,hdC,jbp,jax,Tryz.f10,Kv,Ka,simprocAttr,Ys,Y0,Ke,Vq,Va,jab,al1,al47,ic,fo55,fo47,jaa,jae,zv47,bd47,YW,YI,jal,jah,jam,jan,jao,jap,len1,app2,jac,jad,jag,jaB,row1,jak,fo32,tys]
  refine jgN ?_
  simp only [show p10 3=hdC (jbp 3 (jax Tryz.f10)) from rfl,hdC,jbp,jax,Tryz.f10,Kv]
  refine jqO (caps:=jnt) rfl (by omega) ?_
  refine jcY ?_
  have hlen:=bd55 hv (s.length:Nat)
  have hpc:=hv
  simp only [show p10 4=hdC (jbp 4 (jax Tryz.f10)) from rfl,hdC,jbp,jax,Tryz.f10,Kv,Ka,simprocAttr,Ys,Y0,Ke,Vq,Va,jab,al1,al47,ic,fo55,fo47,jaa,jae,zv47,bd47,YW,YI,jal,jah,jam,jan,jao,jap,len1,app2,jac,jad,jag,jaB,row1,jak,jaK,hlen]
  refine jcY ?_
  simp only [show p10 5=hdC (jbp 5 (jax Tryz.f10)) from rfl,hdC,jbp,jax,Tryz.f10,Kv,Ka,simprocAttr,Ys,Y0,Ke,Vq,Va,jab,al1,al47,ic,fo55,fo47,jaa,jae,zv47,bd47,YW,YI,jal,jah,jam,jan,jao,jap,len1,app2,jac,jad,jag,jaB,row1,jak]
  have hP0:Pc lv (s.length:Nat) (qC Qry.zero .nilsl .nilsl .nilsl) 2 [AObj.cells (qC Qry.zero .nilsl .nilsl .nilsl) 29,AObj.cells [V.int IntKind.i64 0,V.int IntKind.i64 0] 32,AObj.cells (lv::V.int IntKind.i64 0::V.int IntKind.i64 ↑s.length::V.int IntKind.i64 0::qC Qry.zero .nilsl .nilsl .nilsl) 55] 0 0:=rfl
  have hc0:RC [AObj.cells (qC Qry.zero .nilsl .nilsl .nilsl) 29,AObj.cells [V.int IntKind.i64 0,V.int IntKind.i64 0] 32,AObj.cells (lv::V.int IntKind.i64 0::V.int IntKind.i64 ↑s.length::V.int IntKind.i64 0::qC Qry.zero .nilsl .nilsl .nilsl) 55]:=⟨⟨_,rfl,rfl⟩,⟨_,rfl,rfl⟩⟩
  generalize [AObj.cells (qC Qry.zero .nilsl .nilsl .nilsl) 29,AObj.cells [V.int IntKind.i64 0,V.int IntKind.i64 0] 32,AObj.cells (lv::V.int IntKind.i64 0::V.int IntKind.i64 ↑s.length::V.int IntKind.i64 0::qC Qry.zero .nilsl .nilsl .nilsl) 55]=L0 at hP0 hc0
  refine jsa (jjX hv hl hP0 [] [2] .full (by decide)) ?_
  rintro _ _ ⟨rfl,X,rfl⟩
  have hP1:=hP0.app X
  have hc1:=hc0.mv (Fr.app 2 L0 X) (Ky _)
  have hkp:=jyl l 0
  generalize pkT l [2] 0=pk at *
  obtain ⟨tk,pb⟩:=pk
  simp only at hkp
  generalize L0++X=L1 at *
  have hz:∀ o:AObj,(L1++[o])[L1.length]? = some o:=fun o=>by simp
  simp only [Ka,simprocAttr,Ys,Y0,Ke,Vq,Va,jab,al1,al47,ic,fo55,fo47,jaa,jae,zv47,bd47,YW,YI,jal,jah,jam,jan,jao,jap,len1,app2,jac,jad,jag,jaB,row1,jak,hz]
  refine qs6 (base:=0) (t:=tk) (b:=L1.length) hv hl hs hI hM (Ql _) (hc1.mv (Fr.app 2 L1 _) (Ky _)) (hP1.app _) ?_ ?_ ?_ hkp.symm ?_ ?_
  ·rfl
  ·rfl
  ·rfl
  ·rfl
  ·exact hz _
 obtain ⟨v,σ',h1,v',h2,h3⟩:=key
 exact ⟨v',h3,jkj rfl rfl rfl h1 h2⟩
theorem jnu (s:List UInt8)(e a:Int)(he:e ≠ 0)(lv:V)(hv:lv=.nilsl)(hsp:∀ σ,jas env (ev env) 19 [.str s] σ=some (.tup [lv,.agg [.int .i64 e,.int .i64 a]],σ)) :
  ∃ v,PV (.error (e,a)) v∧∀ σ,jas env (ev env) 10 [.str s] σ=some (v,σ):=by
 refine ⟨_,rfl,fun σ => ?_⟩
 refine jav rfl rfl rfl at10 rfl (by simp [Tryz.f10]) (by simp [Tryz.f10]) (jar ?_) σ
 have z29:jbE env 29=some (.agg (qC Qry.zero .nilsl .nilsl .nilsl)):=by kernel_rfl
 have z32:jbE env 32=some (.agg [.int .i64 0,.int .i64 0]):=by kernel_rfl
 have he2:=eq_false he
 have em:S.empty=⟨[],[]⟩:=rfl
 subst hv
 rw [em]
 have l1:jai [AObj.cells (qC Qry.zero .nilsl .nilsl .nilsl) 29,AObj.cells [V.int IntKind.i64 e,V.int IntKind.i64 a] 32] 2 (.ptr 1 0)=some [.int .i64 e,.int .i64 a]:=rfl
 have l2:jai [AObj.cells (qC Qry.zero .nilsl .nilsl .nilsl) 29,AObj.cells [V.int IntKind.i64 e,V.int IntKind.i64 a] 32] 20 (.ptr 0 0)=some (qC Qry.zero .nilsl .nilsl .nilsl):=rfl
 have hq20:(qC Qry.zero .nilsl .nilsl .nilsl).length=20:=rfl
 have st1:storeAt ⟨[AObj.cells (qC Qry.zero .nilsl .nilsl .nilsl) 29,AObj.cells [V.int IntKind.i64 e,V.int IntKind.i64 a] 32],[]⟩ (qC Qry.zero .nilsl .nilsl .nilsl) 0 0 (some (.cells (qC Qry.zero .nilsl .nilsl .nilsl) 29))=some ⟨[AObj.cells (qC Qry.zero .nilsl .nilsl .nilsl) 29,AObj.cells [V.int IntKind.i64 e,V.int IntKind.i64 a] 32],[]⟩:=rfl
 simp only [Tryz.f10,Ka,simprocAttr,Ys,Y0,Ke,Vq,Va,jab,al1,al47,ic,fo55,fo47,jaa,jae,zv47,bd47,YW,YI,jal,jah,jam,jan,jao,jap,len1,app2,jac,jad,jag,jaB,row1,jak,z29,z32,hsp,s32,s29,fo32,tys,he2,bd29,al32,al29,l1,l2,hq20,st1]
 refine jkG rfl (fun s=>s.heap[1]? = some (.cells [.int .i64 e,.int .i64 a] 32)) rfl (by kernel_rfl) ?_
 simp only [Tryz.f10,Ka,simprocAttr,Ys,Y0,Ke,Vq,Va,jab,al1,al47,ic,fo55,fo47,jaa,jae,zv47,bd47,YW,YI,jal,jah,jam,jan,jao,jap,len1,app2,jac,jad,jag,jaB,row1,jak,hhWa,hhWb,hhWc,hhWd,z29,z32,hsp,s32,s29,fo32,tys,he2,bd29,al32,al29,l1,l2,hq20,st1]
 refine ⟨fun s h => ?_,?_⟩
 ·have:jai s.heap 2 (.ptr 1 0)=some [.int .i64 e,.int .i64 a]:=by simp [jai,h]
  rw [this]; rfl
 ·simp only [jaZ,jay,ja6,jcv,jaz,jaF,jaW,jb8,jbl,jgJ,qC,Kk,Kw]
end
end Go.Proofs.YtpclebdkhpapjaaGreatDoor
