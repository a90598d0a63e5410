/- Proved here: the parser, the whole. Conditions: those of each theorem; no statement of the seat is proved in this text. -/
import Derived.Test.YtpclebdkhpapjaaGreatDoorPqA
set_option linter.unusedSimpArgs false
set_option linter.unusedVariables false
set_option linter.unusedSectionVars false
namespace Go.Proofs.YtpclebdkhpapjaaGreatDoor
open Go.Ab
open Go.Ab.PP
set_option maxHeartbeats 8000000
set_option maxRecDepth 100000
def jhR (l:List (Int × Int)):List V:=(l.map fun r=>[V.int .i64 r.1,V.int .i64 r.2]).flatten
def qC (Q:Qry)(ev wv rv:V):List V:=[.int .i64 Q.kind,ev,.int .i64 Q.lo,.int .i64 Q.hi,.int .i64 Q.p,.int .i64 Q.q,.str Q.column,.int .i64 Q.bound,rv,.int .i64 Q.strategy,.bool Q.consistent,.str Q.table,.int .i64 Q.keep,.str Q.other,.str Q.left,.str Q.right,.int .i64 Q.limit,wv,.str Q.factor,.int .i64 Q.bits]
structure QL (base:Nat) (ts:List Nat) (Q:Qry) (ev wv rv:V):Prop where
 e:GrowV base ts 3 ev Q.expr.length (jcp Q.expr)
 w:GrowV base ts 3 wv Q.wher.length (jcp Q.wher)
 r:GrowV base ts 2 rv Q.ranges.length (jhR Q.ranges)
 b:base≤ts.length
theorem QL.ext {base:Nat}{ts t2:List Nat}{Q:Qry}{ev wv rv:V}(h:QL base ts Q ev wv rv)(x:Ext ts.length ts t2):QL base t2 Q ev wv rv:=⟨h.e.ext x,h.w.ext x,h.r.ext x,Qm h.b x.1⟩
def QX (lv:V)(en:Int)(p base:Nat)(L:List AObj)(r:R Qry)(x:Sum V V)(σ:S):Prop :=
 match r with
 | .ok (Q,j)=>x=.inl (.tup [])∧Fr p L σ.heap∧∃ ev wv rv,Pc lv en (qC Q ev wv rv) p σ.heap j 0∧QL base σ.toks Q ev wv rv
 | .error e=>x=.inr (flt e)∧Fr p L σ.heap
theorem QX.tr {lv:V}{en:Int}{p base:Nat}{L L1:List AObj}{r:R Qry}{x:Sum V V}{σ:S}(h:Fr p L L1)(g:QX lv en p base L1 r x σ):QX lv en p base L r x σ:=by
 match r,g with
 | .ok (a,j),⟨g1,g2,g3⟩=>exact ⟨g1,h.tr g2,g3⟩
 | .error e,⟨g1,g2⟩=>exact ⟨g1,h.tr g2⟩
section
variable {fn:FuncId}{rnd:Option Nat}{n:Nat}{Qp:Post}{ks:List Kt}{m:Bool}{ops:Array Oper}{ol:List Oper}{T:Tm}{D:List DE}{f:FuncId}{args:List V}{X:V→List DE→S→Prop}{Y:V→S→Prop}{d:Nat}
theorem jcX {α:Type}{enc:α→V}{r:R α}{lv:V}{en:Int}{q:List V}{p o:Nat}{L:List AObj}{ts:List Nat}(h:∃ x σ',jbH env f args ⟨L,ts⟩=some (x,σ')∧RX lv en q p L ts o enc r x σ')(herr:∀ e,r=.error e→∀ L',Fr p L L'→Y (flt e) ⟨L',ts⟩)
  (hok:∀ a j,r=.ok (a,j)→∀ L',Fr p L L'→Pc lv en q p L' j o→HL env fn rnd n X Qp ks Y m ops ol (upd T d (enc a)) D ⟨L',ts⟩):HX env fn rnd n X Qp ks Y m ops ol T D d (jbH env f args ⟨L,ts⟩):=by
 refine jaT h ?_ ?_
 ·rintro v ⟨L',t'⟩ hk
  match r,hok,hk with
  | .ok (a,j),hok,⟨h1,h2,h3,h4⟩=>cases h1; simp only at h4; subst h4; exact hok a j rfl L' h2 h3
  | .error e,_,⟨h1,_⟩=>cases h1
 ·rintro v ⟨L',t'⟩ hk
  match r,herr,hk with
  | .ok (a,j),_,⟨h1,_⟩=>cases h1
  | .error e,herr,⟨h1,h2,h3⟩=>cases h1; simp only at h3; subst h3; exact herr e rfl L' h2
end
theorem jbk (a b:AObj)(p:Nat)(L:List AObj):(L.set p a).set p b=L.set p b:=Qn ..
section
variable {lv:V}{en:Int}{p i o:Nat}{Q:Qry}{ev wv rv:V}{σ:S}
theorem jaX (a:Int):storeAt σ [.int .i64 a] p 4 (some (pcL lv en (qC Q ev wv rv) i o))=some (σ.set p (pcL lv en (qC { Q with kind:=a } ev wv rv) i o)):=rfl
theorem jtE (a:List Nd){v:V}(hv:v.isCell=true):storeAt σ [v] p 5 (some (pcL lv en (qC Q ev wv rv) i o))=some (σ.set p (pcL lv en (qC { Q with expr:=a } v wv rv) i o)):=by
 unfold storeAt pcL
 simp only
 rw [Kp ⟨Qi rfl,by simp [hv]⟩]
 rfl
theorem jbP (a:Int):storeAt σ [.int .i64 a] p 6 (some (pcL lv en (qC Q ev wv rv) i o))=some (σ.set p (pcL lv en (qC { Q with lo:=a } ev wv rv) i o)):=rfl
theorem jbQ (a:Int):storeAt σ [.int .i64 a] p 7 (some (pcL lv en (qC Q ev wv rv) i o))=some (σ.set p (pcL lv en (qC { Q with hi:=a } ev wv rv) i o)):=rfl
theorem st_p (a:Int):storeAt σ [.int .i64 a] p 8 (some (pcL lv en (qC Q ev wv rv) i o))=some (σ.set p (pcL lv en (qC { Q with p:=a } ev wv rv) i o)):=rfl
theorem st_q (a:Int):storeAt σ [.int .i64 a] p 9 (some (pcL lv en (qC Q ev wv rv) i o))=some (σ.set p (pcL lv en (qC { Q with q:=a } ev wv rv) i o)):=rfl
theorem jaG (a:List UInt8):storeAt σ [.str a] p 10 (some (pcL lv en (qC Q ev wv rv) i o))=some (σ.set p (pcL lv en (qC { Q with column:=a } ev wv rv) i o)):=rfl
theorem jaM (a:Int):storeAt σ [.int .i64 a] p 11 (some (pcL lv en (qC Q ev wv rv) i o))=some (σ.set p (pcL lv en (qC { Q with bound:=a } ev wv rv) i o)):=rfl
theorem jqT (a:List (Int × Int)){v:V}(hv:v.isCell=true):storeAt σ [v] p 12 (some (pcL lv en (qC Q ev wv rv) i o))=some (σ.set p (pcL lv en (qC { Q with ranges:=a } ev wv v) i o)):=by
 unfold storeAt pcL
 simp only
 rw [Kp ⟨Qi rfl,by simp [hv]⟩]
 rfl
theorem jay (a:Int):storeAt σ [.int .i64 a] p 13 (some (pcL lv en (qC Q ev wv rv) i o))=some (σ.set p (pcL lv en (qC { Q with strategy:=a } ev wv rv) i o)):=rfl
theorem jau (a:Bool):storeAt σ [.bool a] p 14 (some (pcL lv en (qC Q ev wv rv) i o))=some (σ.set p (pcL lv en (qC { Q with consistent:=a } ev wv rv) i o)):=rfl
theorem jaN (a:List UInt8):storeAt σ [.str a] p 15 (some (pcL lv en (qC Q ev wv rv) i o))=some (σ.set p (pcL lv en (qC { Q with table:=a } ev wv rv) i o)):=rfl
theorem jaY (a:Int):storeAt σ [.int .i64 a] p 16 (some (pcL lv en (qC Q ev wv rv) i o))=some (σ.set p (pcL lv en (qC { Q with keep:=a } ev wv rv) i o)):=rfl
theorem jaO (a:List UInt8):storeAt σ [.str a] p 17 (some (pcL lv en (qC Q ev wv rv) i o))=some (σ.set p (pcL lv en (qC { Q with other:=a } ev wv rv) i o)):=rfl
theorem jaZ (a:List UInt8):storeAt σ [.str a] p 18 (some (pcL lv en (qC Q ev wv rv) i o))=some (σ.set p (pcL lv en (qC { Q with left:=a } ev wv rv) i o)):=rfl
theorem jaP (a:List UInt8):storeAt σ [.str a] p 19 (some (pcL lv en (qC Q ev wv rv) i o))=some (σ.set p (pcL lv en (qC { Q with right:=a } ev wv rv) i o)):=rfl
theorem jaQ (a:Int):storeAt σ [.int .i64 a] p 20 (some (pcL lv en (qC Q ev wv rv) i o))=some (σ.set p (pcL lv en (qC { Q with limit:=a } ev wv rv) i o)):=rfl
theorem jtF (a:List Nd){v:V}(hv:v.isCell=true):storeAt σ [v] p 21 (some (pcL lv en (qC Q ev wv rv) i o))=some (σ.set p (pcL lv en (qC { Q with wher:=a } ev v rv) i o)):=by
 unfold storeAt pcL
 simp only
 rw [Kp ⟨Qi rfl,by simp [hv]⟩]
 rfl
theorem jaH (a:List UInt8):storeAt σ [.str a] p 22 (some (pcL lv en (qC Q ev wv rv) i o))=some (σ.set p (pcL lv en (qC { Q with factor:=a } ev wv rv) i o)):=rfl
theorem ja0 (a:Int):storeAt σ [.int .i64 a] p 23 (some (pcL lv en (qC Q ev wv rv) i o))=some (σ.set p (pcL lv en (qC { Q with bits:=a } ev wv rv) i o)):=rfl
theorem ld_q:jgx (some (pcL lv en (qC Q ev wv rv) i o)) 0=some lv∧jgx (some (pcL lv en (qC Q ev wv rv) i o)) 1=some (.int .i64 i)∧jgx (some (pcL lv en (qC Q ev wv rv) i o)) 4=some (.int .i64 Q.kind)∧jgx (some (pcL lv en (qC Q ev wv rv) i o)) 12=some rv∧jgx (some (pcL lv en (qC Q ev wv rv) i o)) 22=some (.str Q.factor):=⟨rfl,rfl,rfl,rfl,rfl⟩
end
section
variable {lv:V}{en:Int}{q:List V}{p base:Nat}{l:List Tk}{L:List AObj}{ts:List Nat}{i o j:Nat}
theorem jna (l:List Tk)(en:Int)(sy:Sy)(i:Nat):go l en deep sy 0 i=some (joE l en sy i):=by
 have h:=jcJ (ts:=l) (en:=en) deep sy 0 (by omega) (by cases sy <;> simp [rank,deep]) i
 unfold joE
 cases hg:go l en deep sy 0 i with
 | none=>rw [hg] at h; simp at h
 | some r=>rfl
theorem at62:env.P.funcs[62]? = some Tryz.f62:=by kernel_rfl
theorem jlX (hv:IsK lv l)(hl:l.length≤4000){fo:FuncId}{sy:Sy}(hf:fo=128∧sy=.expr∨fo=63∧sy=.cond)(hi:i≤l.length)(hP:Pc lv en q p L i 0) :
  ∃ x σ',jbH env 62 [.ptr p 0,.func fo [.ptr p 0] []] ⟨L,ts⟩=some (x,σ')∧GoX lv en q p L ts 0 (jek l en sy i) x σ':=by
 obtain ⟨c1,c2,c3,c4,c5⟩:=go_x (en:=en) (q:=q) (p:=p) hv hl deep
 have hk:∃ x σ',jbH env fo [.ptr p 0] ⟨L,ts⟩=some (x,σ')∧GoX lv en q p L ts 0 (joE l en sy i) x σ':=by
  rcases hf with ⟨rfl,rfl⟩ | ⟨rfl,rfl⟩
  ·exact c1 0 i _ (jna l en .expr i) (by omega) hi L ts hP
  ·exact c3 0 i _ (jna l en .cond i) (by omega) hi L ts hP
 have ha:=jcj (jd7 hv hl hP ts)
 refine jaW rfl rfl rfl rfl at62 rfl (by simp [Tryz.f62]) (by simp [Tryz.f62]) (jbg ?_)
 simp -implicitDefEqProofs only [Tryz.f62,Kc,jal,jaw,Ka,jaj,Nat.reduceLT,Nat.reduceEqDiff,Kh,Kg,reduceIte,Ys,jak,jaf,argT,resT,setT,Y0,Int.reduceEq,Int.reduceLT,Int.reduceLE,Int.reduceNeg,mb,Nat.reduceBEq,tys,stb,Va,jab,Nat.reduceAdd,Nat.reduceLeDiff,al1,al47,ic,fo55,fo47,jaa,jae,zv47,bd47,YW,YI,jan,jai,jao,jap,jaq,jar,len1,app2,jac,jad,jah,jax,row1,jam,ha]
 unfold jek
 generalize joE l en sy i=r at *
 refine jaT hk ?_ ?_
 ·rintro v ⟨L2,t2⟩ hk
  match r,hk with
  | .ok (out,j),⟨u',k1,k2,k3,k4,k5⟩ =>
   cases k1
   have hlen:=k4.len 71
   simp only [PP.andThen]
   by_cases h200:200<out.length
   ·have h2:=eq_true (show (200:Int)<(out.length:Int) by omega)
    rw [Kp h200]
    simp -implicitDefEqProofs only [Kc,jal,jaw,Ka,jaj,Nat.reduceLT,Nat.reduceEqDiff,Kh,Kg,reduceIte,Ys,jak,jaf,argT,resT,setT,Y0,Int.reduceEq,Int.reduceLT,Int.reduceLE,Int.reduceNeg,mb,Nat.reduceBEq,tys,stb,Va,jab,Nat.reduceAdd,Nat.reduceLeDiff,al1,al47,ic,fo55,fo47,jaa,jae,zv47,bd47,YW,YI,jan,jai,jao,jap,jaq,jar,len1,app2,jac,jad,jah,jax,row1,jam,tys,hlen,h2]
    refine jaT (jfs _ _ _) ?_ ?_
    ·rintro v σ' ⟨h,_⟩; cases h
    ·rintro v σ' ⟨h,rfl⟩; cases h; exact ⟨rfl,k2,k5⟩
   ·have h2:=eq_false (show ¬ (200:Int)<(out.length:Int) by omega)
    rw [Kq h200]
    simp -implicitDefEqProofs only [Kc,jal,jaw,Ka,jaj,Nat.reduceLT,Nat.reduceEqDiff,Kh,Kg,reduceIte,Ys,jak,jaf,argT,resT,setT,Y0,Int.reduceEq,Int.reduceLT,Int.reduceLE,Int.reduceNeg,mb,Nat.reduceBEq,tys,stb,Va,jab,Nat.reduceAdd,Nat.reduceLeDiff,al1,al47,ic,fo55,fo47,jaa,jae,zv47,bd47,YW,YI,jan,jai,jao,jap,jaq,jar,len1,app2,jac,jad,jah,jax,row1,jam,tys,hlen,h2]
    exact ⟨v,rfl,k2,k3,k4,k5⟩
  | .error e,⟨k1,_⟩=>cases k1
 ·rintro v ⟨L2,t2⟩ hk
  match r,hk with
  | .ok (out,j),⟨u',k1,_⟩=>cases k1
  | .error e,hk=>exact hk
theorem at90:env.P.funcs[90]? = some Tryz.f90:=by kernel_rfl
theorem fo29:jby env 29 0=some 0∧jby env 29 1=some 1∧jby env 29 2=some 2∧jby env 29 3=some 3∧jby env 29 4=some 4∧jby env 29 5=some 5∧jby env 29 6=some 6∧jby env 29 7=some 7∧jby env 29 8=some 8∧jby env 29 9=some 9∧jby env 29 10=some 10∧jby env 29 11=some 11∧jby env 29 12=some 12∧jby env 29 13=some 13∧jby env 29 14=some 14∧jby env 29 15=some 15∧jby env 29 16=some 16∧jby env 29 17=some 17∧jby env 29 18=some 18∧jby env 29 19=some 19 :=
 ⟨by kernel_rfl,by kernel_rfl,by kernel_rfl,by kernel_rfl,by kernel_rfl,by kernel_rfl,by kernel_rfl,by kernel_rfl,by kernel_rfl,by kernel_rfl,by kernel_rfl,by kernel_rfl,by kernel_rfl,by kernel_rfl,by kernel_rfl,by kernel_rfl,by kernel_rfl,by kernel_rfl,by kernel_rfl,by kernel_rfl⟩
def CY (lv:V)(en:Int)(p:Nat)(L:List AObj)(ts:List Nat)(ev wv rv:V)(r:R Qry)(x:Sum V V)(σ:S):Prop :=
 match r with
 | .ok (Q,j)=>x=.inl (.tup [])∧Fr p L σ.heap∧Pc lv en (qC Q ev wv rv) p σ.heap j 0∧σ.toks=ts
 | .error e=>x=.inr (flt e)∧Fr p L σ.heap
theorem jof (hv:IsK lv l)(hl:l.length≤4000){Q:Qry}{ev wv rv:V}(hP:Pc lv en (qC Q ev wv rv) p L i 0)(k:Int) :
  ∃ x σ',jbH env 90 [.ptr p 0,.int .i64 k] ⟨L,ts⟩=some (x,σ')∧CY lv en p L ts ev wv rv (jcE l en k Q i) x σ':=by
 refine jaW rfl rfl rfl rfl at90 rfl (by simp [Tryz.f90]) (by simp [Tryz.f90]) (jbg ?_)
 simp -implicitDefEqProofs only [Tryz.f90,Kc,jal,jaw,Ka,jaj,Nat.reduceLT,Nat.reduceEqDiff,Kh,Kg,reduceIte,Ys,jak,jaf,argT,resT,setT,Y0,Int.reduceEq,Int.reduceLT,Int.reduceLE,Int.reduceNeg,mb,Nat.reduceBEq,tys,stb,Va,jab,Nat.reduceAdd,Nat.reduceLeDiff,al1,al47,ic,fo55,fo47,jaa,jae,zv47,bd47,YW,YI,jan,jai,jao,jap,jaq,jar,len1,app2,jac,jad,jah,jax,row1,jam]
 unfold jcE
 refine jcX (jiW hv hl hP ts) ?_ ?_
 ·intro e he L' hF
  rw [he]; exact ⟨rfl,hF⟩
 ·intro c j hc L' hF hP'
  rw [hc]
  have hcl:L'[p]? = some (pcL lv en (qC Q ev wv rv) j 0):=hP'
  have hgs:∀ a:AObj,(L'.set p a)[p]? = some a:=fun a=>Kj hP'.lt
  simp -implicitDefEqProofs only [Kc,jal,jaw,Ka,jaj,Nat.reduceLT,Nat.reduceEqDiff,Kh,Kg,reduceIte,Ys,jak,jaf,argT,resT,setT,Y0,Int.reduceEq,Int.reduceLT,Int.reduceLE,Int.reduceNeg,mb,Nat.reduceBEq,tys,stb,Va,jab,Nat.reduceAdd,Nat.reduceLeDiff,al1,al47,ic,fo55,fo47,jaa,jae,zv47,bd47,YW,YI,jan,jai,jao,jap,jaq,jar,len1,app2,jac,jad,jah,jax,row1,jam,fo29,hcl,hgs,jbk,jaX,jbP,jbQ,st_p,st_q,jaG,jaM,jay,jau,jaN,jaY,jaO,jaZ,jaP,jaQ,jaH,ja0,ld_q]
  exact ⟨rfl,hF.tr (Fr.set _ _ _),Kj hP'.lt,rfl⟩
theorem jgP (hv:IsK lv l)(hl:l.length≤4000){Q:Qry}{ev wv rv:V}(hP:Pc lv en (qC Q ev wv rv) p L i 0)(hq:QL base ts Q ev wv rv)(k:Int) :
  ∃ x σ',jbH env 90 [.ptr p 0,.int .i64 k] ⟨L,ts⟩=some (x,σ')∧QX lv en p base L (jcE l en k Q i) x σ':=by
 obtain ⟨x,σ',h1,h2⟩:=jof (en:=en) (ts:=ts) hv hl hP k
 refine ⟨x,σ',h1,?_⟩
 unfold jcE at h2 ⊢
 cases hn:jfN l en i with
 | error e=>rw [hn] at h2; exact h2
 | ok y =>
  obtain ⟨c,j⟩:=y
  rw [hn] at h2
  obtain ⟨g1,g2,g3,g4⟩:=h2
  exact ⟨g1,g2,ev,wv,rv,g3,by rw [g4]; exact ⟨hq.e,hq.w,hq.r,hq.b⟩⟩
theorem jqU {k:Int}{t:Tk}(h:jhN l en k i=.ok (t,j)):j≤l.length:=by
 unfold jhN at h
 split at h
 ·rename_i t' ht
  split at h
  ·simp only [Except.ok.injEq,Ki] at h
   have:=(Kv.1 ht).1
   omega
  ·simp [syn] at h
 ·simp [syn] at h
theorem jcY {s:List UInt8}{u:Unit}(h:must l en s i=.ok (u,j)):j≤l.length:=by
 have h1:=jdm h
 have:=jb7 h1.2
 omega
theorem jgf {s:List UInt8}(h:jfN l en i=.ok (s,j)):j≤l.length:=by
 unfold jfN at h
 split at h
 ·rename_i t j' he
  simp only [Except.ok.injEq,Ki] at h
  rw [← h.2]; exact jqU he
 ·cases h
theorem jhK {n:Int}(h:numP l en i=.ok (n,j)):j≤l.length:=by
 unfold numP at h
 split at h
 ·rename_i t j' he
  simp only [Except.ok.injEq,Ki] at h
  rw [← h.2]; exact jqU he
 ·cases h
theorem jiZ {n:Int}(h:intP l en i=.ok (n,j)):j≤l.length:=by
 unfold intP at h
 split at h
 ·split at h
  ·rename_i n' j' he
   simp only [Except.ok.injEq,Ki] at h
   rw [← h.2]; exact jhK he
  ·cases h
 ·exact jhK h
theorem jog {n:Int}(h:posP l en i=.ok (n,j)):j≤l.length:=by
 unfold posP at h
 split at h
 ·rename_i n' j' he
  split at h
  ·cases h
  ·simp only [Except.ok.injEq,Ki] at h
   rw [← h.2]; exact jhK he
 ·cases h
theorem jqV {sy:Sy}{out:List Nd}(h:jek l en sy i=.ok (out,j)):j≤l.length∧out.length≤4000+l.length:=by
 unfold jek at h
 have hg:=jna l en sy i
 generalize joE l en sy i=r at *
 match r,h with
 | .ok (a,k),h =>
  simp only [PP.andThen] at h
  have h1:=jb3 deep sy 0 _ _ _ hg
  split at h
  ·cases h
  ·simp only [Except.ok.injEq,Ki] at h
   obtain ⟨rfl,rfl⟩:=h
   omega
 | .error e,h=>simp [PP.andThen] at h
theorem andThen_ok {α β:Type}(a:α)(j:Nat)(f:α→Nat→R β):PP.andThen (.ok (a,j)) f=f a j:=rfl
section
variable {fn:FuncId}{rnd:Option Nat}{n:Nat}{Qp:Post}{ks:List Kt}{m:Bool}{ops:Array Oper}{ol:List Oper}{T:Tm}{D:List DE}{f:FuncId}{args:List V}{X:V→List DE→S→Prop}{Y:V→S→Prop}{d:Nat}
theorem ju8 {r:R (List Nd)}(h:∃ x σ',jbH env f args ⟨L,ts⟩=some (x,σ')∧GoX lv en q p L ts o r x σ')(herr:∀ e,r=.error e→∀ L' t',Fr p L L'→Y (flt e) ⟨L',t'⟩)
  (hok:∀ a j,r=.ok (a,j)→∀ L' t' v,Fr p L L'→Pc lv en q p L' j o→GrowV ts.length t' 3 v a.length (jcp a)→Ext ts.length ts t'→HL env fn rnd n X Qp ks Y m ops ol (upd T d v) D ⟨L',t'⟩):HX env fn rnd n X Qp ks Y m ops ol T D d (jbH env f args ⟨L,ts⟩):=by
 refine jaT h ?_ ?_
 ·rintro v ⟨L',t'⟩ hk
  match r,hok,hk with
  | .ok (a,j),hok,⟨u,h1,h2,h3,h4,h5⟩=>cases h1; exact hok a j rfl L' t' v h2 h3 h4 h5
  | .error e,_,⟨h1,_⟩=>cases h1
 ·rintro v ⟨L',t'⟩ hk
  match r,herr,hk with
  | .ok (a,j),_,⟨u,h1,_⟩=>cases h1
  | .error e,herr,⟨h1,h2,h3⟩=>cases h1; exact herr e rfl L' t' h2
theorem jwx {r:R Qry}(h:∃ x σ',jbH env f args ⟨L,ts⟩=some (x,σ')∧QX lv en p base L r x σ')(herr:∀ e,r=.error e→∀ L' t',Fr p L L'→Y (flt e) ⟨L',t'⟩)
  (hok:∀ Q j,r=.ok (Q,j)→∀ L' t' ev wv rv,Fr p L L'→Pc lv en (qC Q ev wv rv) p L' j 0→QL base t' Q ev wv rv→HL env fn rnd n X Qp ks Y m ops ol (upd T d (.tup [])) D ⟨L',t'⟩):HX env fn rnd n X Qp ks Y m ops ol T D d (jbH env f args ⟨L,ts⟩):=by
 refine jaT h ?_ ?_
 ·rintro v ⟨L',t'⟩ hk
  match r,hok,hk with
  | .ok (Q,j),hok,⟨h1,h2,ev,wv,rv,h3,h4⟩=>cases h1; exact hok Q j rfl L' t' ev wv rv h2 h3 h4
  | .error e,_,⟨h1,_⟩=>cases h1
 ·rintro v ⟨L',t'⟩ hk
  match r,herr,hk with
  | .ok (Q,j),_,⟨h1,_⟩=>cases h1
  | .error e,herr,⟨h1,h2⟩=>cases h1; exact herr e rfl L' t' h2
end
end
section
variable {lv:V}{en:Int}{q:List V}{p base:Nat}{l:List Tk}{L:List AObj}{ts:List Nat}{i o j:Nat}
theorem QX.inl {r:R Qry}{v:V}{σ:S}(g:QX lv en p base L r (.inl v) σ):QX lv en p base L r (.inl (.tup [])) σ:=by
 match r,g with
 | .ok (a,j),⟨g1,g2⟩=>exact ⟨rfl,g2⟩
 | .error e,⟨g1,_⟩=>cases g1
theorem at89:env.P.funcs[89]? = some Tryz.f89:=by kernel_rfl
theorem jkD (hv:IsK lv l)(hl:l.length≤4000)(hs:jdQ l){Q:Qry}{ev wv rv:V}(hi:i≤l.length)(hP:Pc lv en (qC Q ev wv rv) p L i 0)(hq:QL base ts Q ev wv rv)(k:Int) :
  ∃ x σ',jbH env 89 [.ptr p 0,.int .i64 k] ⟨L,ts⟩=some (x,σ')∧QX lv en p base L (jeZ l en k Q i) x σ':=by
 refine jaW rfl rfl rfl rfl at89 rfl (by simp [Tryz.f89]) (by simp [Tryz.f89]) (jbg ?_)
 have hc:L[p]? = some (pcL lv en (qC Q ev wv rv) i 0):=hP
 unfold jeZ
 simp -implicitDefEqProofs only [Tryz.f89,Kc,jal,jaw,Ka,jaj,Nat.reduceLT,Nat.reduceEqDiff,Kh,Kg,reduceIte,Ys,jak,jaf,argT,resT,setT,Y0,Int.reduceEq,Int.reduceLT,Int.reduceLE,Int.reduceNeg,mb,Nat.reduceBEq,tys,stb,Va,jab,Nat.reduceAdd,Nat.reduceLeDiff,al1,al47,ic,fo55,fo47,jaa,jae,zv47,bd47,YW,YI,jan,jai,jao,jap,jaq,jar,len1,app2,jac,jad,jah,jax,row1,jam,fo29,YP,jbk,jaX,jbP,jbQ,st_p,st_q,jaG,jaM,jay,jau,jaN,jaY,jaO,jaZ,jaP,jaQ,jaH,ja0,ld_q,hc]
 have hs0:Pc lv en (qC { Q with kind:=k } ev wv rv) p (L.set p (pcL lv en (qC { Q with kind:=k } ev wv rv) i 0)) i 0:=Kj hP.lt
 have hf0:=(Fr.rf p L).tr (Fr.set p L (pcL lv en (qC { Q with kind:=k } ev wv rv) i 0))
 have hq0:QL base ts { Q with kind:=k } ev wv rv:=⟨hq.e,hq.w,hq.r,hq.b⟩
 refine ju8 (jlX (ts:=ts) hv hl (.inl ⟨rfl,rfl⟩) hi hs0) ?_ ?_
 ·intro e he L' t' hF'
  simp only [he]; exact ⟨rfl,hf0.tr hF'⟩
 intro a1 j1 h1 L1 t1 v1 hF1' hP1 hG1 hE1
 simp only [h1,andThen_ok]
 have hi1:j1≤l.length:=(jqV h1).1
 have hF1:=hf0.tr hF1'
 have hv1:=hG1.cells
 have hc1:L1[p]? = some (pcL lv en (qC { Q with kind:=k } ev wv rv) j1 0):=hP1
 have hg1:∀ a:AObj,(L1.set p a)[p]? = some a:=fun a=>Kj hP1.lt
 simp -implicitDefEqProofs only [Kc,jal,jaw,Ka,jaj,Nat.reduceLT,Nat.reduceEqDiff,Kh,Kg,reduceIte,Ys,jak,jaf,argT,resT,setT,Y0,Int.reduceEq,Int.reduceLT,Int.reduceLE,Int.reduceNeg,mb,Nat.reduceBEq,tys,stb,Va,jab,Nat.reduceAdd,Nat.reduceLeDiff,al1,al47,ic,fo55,fo47,jaa,jae,zv47,bd47,YW,YI,jan,jai,jao,jap,jaq,jar,len1,app2,jac,jad,jah,jax,row1,jam,fo29,YP,jbk,jaX,jbP,jbQ,st_p,st_q,jaG,jaM,jay,jau,jaN,jaY,jaO,jaZ,jaP,jaQ,jaH,ja0,ld_q,hc1,hg1,jtE a1 hv1.2,hv1.1,hv1.2]
 have hs1:Pc lv en (qC { { Q with kind:=k } with expr:=a1 } v1 wv rv) p (L1.set p (pcL lv en (qC { { Q with kind:=k } with expr:=a1 } v1 wv rv) j1 0)) j1 0:=Kj hP1.lt
 have hf1:=hF1.tr (Fr.set p L1 (pcL lv en (qC { { Q with kind:=k } with expr:=a1 } v1 wv rv) j1 0))
 have hq1:QL base t1 { { Q with kind:=k } with expr:=a1 } v1 wv rv:=⟨(hG1.weakbase hq0.b),(hq0.w.ext hE1),hq0.r.ext hE1,Qm hq0.b hE1.1⟩
 refine jcX (jdg hv hl hi1 hs1 t1 jkx) ?_ ?_
 ·intro e he L' hF'
  simp only [he]; exact ⟨rfl,hf1.tr hF'⟩
 intro a2 j2 h2 L2 hF2' hP2
 simp only [h2,andThen_ok]
 have hi2:j2≤l.length:=jcY h2
 have hF2:=hf1.tr hF2'
 simp -implicitDefEqProofs only [Kc,jal,jaw,Ka,jaj,Nat.reduceLT,Nat.reduceEqDiff,Kh,Kg,reduceIte,Ys,jak,jaf,argT,resT,setT,Y0,Int.reduceEq,Int.reduceLT,Int.reduceLE,Int.reduceNeg,mb,Nat.reduceBEq,tys,stb,Va,jab,Nat.reduceAdd,Nat.reduceLeDiff,al1,al47,ic,fo55,fo47,jaa,jae,zv47,bd47,YW,YI,jan,jai,jao,jap,jaq,jar,len1,app2,jac,jad,jah,jax,row1,jam,fo29,YP,jbk,jaX,jbP,jbQ,st_p,st_q,jaG,jaM,jay,jau,jaN,jaY,jaO,jaZ,jaP,jaQ,jaH,ja0,ld_q]
 refine jcX (jqP hv hl hs hi2 hP2 t1) ?_ ?_
 ·intro e he L' hF'
  simp only [he]; exact ⟨rfl,hF2.tr hF'⟩
 intro a3 j3 h3 L3 hF3' hP3
 simp only [h3,andThen_ok]
 have hi3:j3≤l.length:=jiZ h3
 have hF3:=hF2.tr hF3'
 have hc3:L3[p]? = some (pcL lv en (qC { { Q with kind:=k } with expr:=a1 } v1 wv rv) j3 0):=hP3
 have hg3:∀ a:AObj,(L3.set p a)[p]? = some a:=fun a=>Kj hP3.lt
 simp -implicitDefEqProofs only [Kc,jal,jaw,Ka,jaj,Nat.reduceLT,Nat.reduceEqDiff,Kh,Kg,reduceIte,Ys,jak,jaf,argT,resT,setT,Y0,Int.reduceEq,Int.reduceLT,Int.reduceLE,Int.reduceNeg,mb,Nat.reduceBEq,tys,stb,Va,jab,Nat.reduceAdd,Nat.reduceLeDiff,al1,al47,ic,fo55,fo47,jaa,jae,zv47,bd47,YW,YI,jan,jai,jao,jap,jaq,jar,len1,app2,jac,jad,jah,jax,row1,jam,fo29,YP,jbk,jaX,jbP,jbQ,st_p,st_q,jaG,jaM,jay,jau,jaN,jaY,jaO,jaZ,jaP,jaQ,jaH,ja0,ld_q,hc3,hg3]
 have hs3:Pc lv en (qC { { { Q with kind:=k } with expr:=a1 } with lo:=a3 } v1 wv rv) p (L3.set p (pcL lv en (qC { { { Q with kind:=k } with expr:=a1 } with lo:=a3 } v1 wv rv) j3 0)) j3 0:=Kj hP3.lt
 have hf3:=hF3.tr (Fr.set p L3 (pcL lv en (qC { { { Q with kind:=k } with expr:=a1 } with lo:=a3 } v1 wv rv) j3 0))
 have hq3:QL base t1 { { { Q with kind:=k } with expr:=a1 } with lo:=a3 } v1 wv rv:=⟨hq1.e,hq1.w,hq1.r,hq1.b⟩
 refine jcX (jdg hv hl hi3 hs3 t1 wAnd) ?_ ?_
 ·intro e he L' hF'
  simp only [he]; exact ⟨rfl,hf3.tr hF'⟩
 intro a4 j4 h4 L4 hF4' hP4
 simp only [h4,andThen_ok]
 have hi4:j4≤l.length:=jcY h4
 have hF4:=hf3.tr hF4'
 simp -implicitDefEqProofs only [Kc,jal,jaw,Ka,jaj,Nat.reduceLT,Nat.reduceEqDiff,Kh,Kg,reduceIte,Ys,jak,jaf,argT,resT,setT,Y0,Int.reduceEq,Int.reduceLT,Int.reduceLE,Int.reduceNeg,mb,Nat.reduceBEq,tys,stb,Va,jab,Nat.reduceAdd,Nat.reduceLeDiff,al1,al47,ic,fo55,fo47,jaa,jae,zv47,bd47,YW,YI,jan,jai,jao,jap,jaq,jar,len1,app2,jac,jad,jah,jax,row1,jam,fo29,YP,jbk,jaX,jbP,jbQ,st_p,st_q,jaG,jaM,jay,jau,jaN,jaY,jaO,jaZ,jaP,jaQ,jaH,ja0,ld_q]
 refine jcX (jqP hv hl hs hi4 hP4 t1) ?_ ?_
 ·intro e he L' hF'
  simp only [he]; exact ⟨rfl,hF4.tr hF'⟩
 intro a5 j5 h5 L5 hF5' hP5
 simp only [h5,andThen_ok]
 have hi5:j5≤l.length:=jiZ h5
 have hF5:=hF4.tr hF5'
 have hc5:L5[p]? = some (pcL lv en (qC { { { Q with kind:=k } with expr:=a1 } with lo:=a3 } v1 wv rv) j5 0):=hP5
 have hg5:∀ a:AObj,(L5.set p a)[p]? = some a:=fun a=>Kj hP5.lt
 simp -implicitDefEqProofs only [Kc,jal,jaw,Ka,jaj,Nat.reduceLT,Nat.reduceEqDiff,Kh,Kg,reduceIte,Ys,jak,jaf,argT,resT,setT,Y0,Int.reduceEq,Int.reduceLT,Int.reduceLE,Int.reduceNeg,mb,Nat.reduceBEq,tys,stb,Va,jab,Nat.reduceAdd,Nat.reduceLeDiff,al1,al47,ic,fo55,fo47,jaa,jae,zv47,bd47,YW,YI,jan,jai,jao,jap,jaq,jar,len1,app2,jac,jad,jah,jax,row1,jam,fo29,YP,jbk,jaX,jbP,jbQ,st_p,st_q,jaG,jaM,jay,jau,jaN,jaY,jaO,jaZ,jaP,jaQ,jaH,ja0,ld_q,hc5,hg5]
 have hs5:Pc lv en (qC { { { { Q with kind:=k } with expr:=a1 } with lo:=a3 } with hi:=a5 } v1 wv rv) p (L5.set p (pcL lv en (qC { { { { Q with kind:=k } with expr:=a1 } with lo:=a3 } with hi:=a5 } v1 wv rv) j5 0)) j5 0:=Kj hP5.lt
 have hf5:=hF5.tr (Fr.set p L5 (pcL lv en (qC { { { { Q with kind:=k } with expr:=a1 } with lo:=a3 } with hi:=a5 } v1 wv rv) j5 0))
 have hq5:QL base t1 { { { { Q with kind:=k } with expr:=a1 } with lo:=a3 } with hi:=a5 } v1 wv rv:=⟨hq3.e,hq3.w,hq3.r,hq3.b⟩
 exact ⟨rfl,hf5,v1,wv,rv,hs5,hq5⟩
theorem jqW {k:Int}{Q Q':Qry}(h:jeZ l en k Q i=.ok (Q',j)):j≤l.length:=by
 unfold jeZ at h
 match h1:jek l en .expr i,h with
 | .ok (e,j1),h =>
  simp only [andThen_ok] at h
  match h2:must l en jkx j1,h with
  | .ok (_,j2),h =>
   simp only [andThen_ok] at h
   match h3:intP l en j2,h with
   | .ok (_,j3),h =>
    simp only [andThen_ok] at h
    match h4:must l en wAnd j3,h with
    | .ok (_,j4),h =>
     simp only [andThen_ok] at h
     match h5:intP l en j4,h with
     | .ok (_,j5),h =>
      simp only [andThen_ok,Except.ok.injEq,Ki] at h
      rw [← h.2]; exact jiZ h5
     | .error e,h=>cases h
    | .error e,h=>cases h
   | .error e,h=>cases h
  | .error e,h=>cases h
 | .error e,h=>cases h
theorem at51:env.P.funcs[51]? = some Tryz.f51:=by kernel_rfl
theorem jtG (hv:IsK lv l)(hl:l.length≤4000)(hs:jdQ l){Q:Qry}{ev wv rv:V}(hi:i≤l.length)(hP:Pc lv en (qC Q ev wv rv) p L i 0)(hq:QL base ts Q ev wv rv) :
  ∃ x σ',jbH env 51 [.ptr p 0] ⟨L,ts⟩=some (x,σ')∧QX lv en p base L (jql l en Q i) x σ':=by
 refine jaW rfl rfl rfl rfl at51 rfl (by simp [Tryz.f51]) (by simp [Tryz.f51]) (jbg ?_)
 unfold jql
 simp -implicitDefEqProofs only [Tryz.f51,Kc,jal,jaw,Ka,jaj,Nat.reduceLT,Nat.reduceEqDiff,Kh,Kg,reduceIte,Ys,jak,jaf,argT,resT,setT,Y0,Int.reduceEq,Int.reduceLT,Int.reduceLE,Int.reduceNeg,mb,Nat.reduceBEq,tys,stb,Va,jab,Nat.reduceAdd,Nat.reduceLeDiff,al1,al47,ic,fo55,fo47,jaa,jae,zv47,bd47,YW,YI,jan,jai,jao,jap,jaq,jar,len1,app2,jac,jad,jah,jax,row1,jam,fo29,YP,jbk,jaX,jbP,jbQ,st_p,st_q,jaG,jaM,jay,jau,jaN,jaY,jaO,jaZ,jaP,jaQ,jaH,ja0,ld_q]
 refine jwx (jkD hv hl hs hi hP hq 4) ?_ ?_
 ·intro e he L' t' hF'
  simp only [he]; exact ⟨rfl,(Fr.rf p L).tr hF'⟩
 intro a1 j1 h1 L1 t1 ev1 wv1 rv1 hF1' hP1 hq1
 simp only [h1,andThen_ok]
 have hi1:j1≤l.length:=jqW h1
 have hF1:=(Fr.rf p L).tr hF1'
 simp -implicitDefEqProofs only [Kc,jal,jaw,Ka,jaj,Nat.reduceLT,Nat.reduceEqDiff,Kh,Kg,reduceIte,Ys,jak,jaf,argT,resT,setT,Y0,Int.reduceEq,Int.reduceLT,Int.reduceLE,Int.reduceNeg,mb,Nat.reduceBEq,tys,stb,Va,jab,Nat.reduceAdd,Nat.reduceLeDiff,al1,al47,ic,fo55,fo47,jaa,jae,zv47,bd47,YW,YI,jan,jai,jao,jap,jaq,jar,len1,app2,jac,jad,jah,jax,row1,jam,fo29,YP,jbk,jaX,jbP,jbQ,st_p,st_q,jaG,jaM,jay,jau,jaN,jaY,jaO,jaZ,jaP,jaQ,jaH,ja0,ld_q]
 refine jcX (jdg hv hl hi1 hP1 t1 wBy) ?_ ?_
 ·intro e he L' hF'
  simp only [he]; exact ⟨rfl,hF1.tr hF'⟩
 intro a2 j2 h2 L2 hF2' hP2
 simp only [h2,andThen_ok]
 have hi2:j2≤l.length:=jcY h2
 have hF2:=hF1.tr hF2'
 simp -implicitDefEqProofs only [Kc,jal,jaw,Ka,jaj,Nat.reduceLT,Nat.reduceEqDiff,Kh,Kg,reduceIte,Ys,jak,jaf,argT,resT,setT,Y0,Int.reduceEq,Int.reduceLT,Int.reduceLE,Int.reduceNeg,mb,Nat.reduceBEq,tys,stb,Va,jab,Nat.reduceAdd,Nat.reduceLeDiff,al1,al47,ic,fo55,fo47,jaa,jae,zv47,bd47,YW,YI,jan,jai,jao,jap,jaq,jar,len1,app2,jac,jad,jah,jax,row1,jam,fo29,YP,jbk,jaX,jbP,jbQ,st_p,st_q,jaG,jaM,jay,jau,jaN,jaY,jaO,jaZ,jaP,jaQ,jaH,ja0,ld_q]
 refine jcX (jiW hv hl hP2 t1) ?_ ?_
 ·intro e he L' hF'
  simp only [he]; exact ⟨rfl,hF2.tr hF'⟩
 intro a3 j3 h3 L3 hF3' hP3
 simp only [h3,andThen_ok]
 have hi3:j3≤l.length:=jgf h3
 have hF3:=hF2.tr hF3'
 have hc3:L3[p]? = some (pcL lv en (qC a1 ev1 wv1 rv1) j3 0):=hP3
 have hg3:∀ a:AObj,(L3.set p a)[p]? = some a:=fun a=>Kj hP3.lt
 simp -implicitDefEqProofs only [Kc,jal,jaw,Ka,jaj,Nat.reduceLT,Nat.reduceEqDiff,Kh,Kg,reduceIte,Ys,jak,jaf,argT,resT,setT,Y0,Int.reduceEq,Int.reduceLT,Int.reduceLE,Int.reduceNeg,mb,Nat.reduceBEq,tys,stb,Va,jab,Nat.reduceAdd,Nat.reduceLeDiff,al1,al47,ic,fo55,fo47,jaa,jae,zv47,bd47,YW,YI,jan,jai,jao,jap,jaq,jar,len1,app2,jac,jad,jah,jax,row1,jam,fo29,YP,jbk,jaX,jbP,jbQ,st_p,st_q,jaG,jaM,jay,jau,jaN,jaY,jaO,jaZ,jaP,jaQ,jaH,ja0,ld_q,hc3,hg3]
 have hs3:Pc lv en (qC { a1 with column:=a3 } ev1 wv1 rv1) p (L3.set p (pcL lv en (qC { a1 with column:=a3 } ev1 wv1 rv1) j3 0)) j3 0:=Kj hP3.lt
 have hf3:=hF3.tr (Fr.set p L3 (pcL lv en (qC { a1 with column:=a3 } ev1 wv1 rv1) j3 0))
 have hq3:QL base t1 { a1 with column:=a3 } ev1 wv1 rv1:=⟨hq1.e,hq1.w,hq1.r,hq1.b⟩
 exact ⟨rfl,hf3,ev1,wv1,rv1,hs3,hq3⟩
theorem at52:env.P.funcs[52]? = some Tryz.f52:=by kernel_rfl
theorem joR (hv:IsK lv l)(hl:l.length≤4000)(hs:jdQ l){Q:Qry}{ev wv rv:V}(hi:i≤l.length)(hP:Pc lv en (qC Q ev wv rv) p L i 0)(hq:QL base ts Q ev wv rv) :
  ∃ x σ',jbH env 52 [.ptr p 0] ⟨L,ts⟩=some (x,σ')∧QX lv en p base L (jiK l en Q i) x σ':=by
 refine jaW rfl rfl rfl rfl at52 rfl (by simp [Tryz.f52]) (by simp [Tryz.f52]) (jbg ?_)
 unfold jiK
 simp -implicitDefEqProofs only [Tryz.f52,Kc,jal,jaw,Ka,jaj,Nat.reduceLT,Nat.reduceEqDiff,Kh,Kg,reduceIte,Ys,jak,jaf,argT,resT,setT,Y0,Int.reduceEq,Int.reduceLT,Int.reduceLE,Int.reduceNeg,mb,Nat.reduceBEq,tys,stb,Va,jab,Nat.reduceAdd,Nat.reduceLeDiff,al1,al47,ic,fo55,fo47,jaa,jae,zv47,bd47,YW,YI,jan,jai,jao,jap,jaq,jar,len1,app2,jac,jad,jah,jax,row1,jam,fo29,YP,jbk,jaX,jbP,jbQ,st_p,st_q,jaG,jaM,jay,jau,jaN,jaY,jaO,jaZ,jaP,jaQ,jaH,ja0,ld_q]
 refine jcX (je1 hv hl hP ts) ?_ ?_
 ·intro e he L' hF'
  simp only [he]; exact ⟨rfl,(Fr.rf p L).tr hF'⟩
 intro a1 j1 h1 L1 hF1' hP1
 simp only [h1,andThen_ok]
 have hi1:j1≤l.length:=jhK h1
 have hF1:=(Fr.rf p L).tr hF1'
 have hc1:L1[p]? = some (pcL lv en (qC Q ev wv rv) j1 0):=hP1
 have hg1:∀ a:AObj,(L1.set p a)[p]? = some a:=fun a=>Kj hP1.lt
 simp -implicitDefEqProofs only [Kc,jal,jaw,Ka,jaj,Nat.reduceLT,Nat.reduceEqDiff,Kh,Kg,reduceIte,Ys,jak,jaf,argT,resT,setT,Y0,Int.reduceEq,Int.reduceLT,Int.reduceLE,Int.reduceNeg,mb,Nat.reduceBEq,tys,stb,Va,jab,Nat.reduceAdd,Nat.reduceLeDiff,al1,al47,ic,fo55,fo47,jaa,jae,zv47,bd47,YW,YI,jan,jai,jao,jap,jaq,jar,len1,app2,jac,jad,jah,jax,row1,jam,fo29,YP,jbk,jaX,jbP,jbQ,st_p,st_q,jaG,jaM,jay,jau,jaN,jaY,jaO,jaZ,jaP,jaQ,jaH,ja0,ld_q,hc1,hg1]
 have hs1:Pc lv en (qC { Q with p:=a1 } ev wv rv) p (L1.set p (pcL lv en (qC { Q with p:=a1 } ev wv rv) j1 0)) j1 0:=Kj hP1.lt
 have hf1:=hF1.tr (Fr.set p L1 (pcL lv en (qC { Q with p:=a1 } ev wv rv) j1 0))
 have hq1:QL base ts { Q with p:=a1 } ev wv rv:=⟨hq.e,hq.w,hq.r,hq.b⟩
 refine jcX (jdg hv hl hi1 hs1 ts [47]) ?_ ?_
 ·intro e he L' hF'
  simp only [he]; exact ⟨rfl,hf1.tr hF'⟩
 intro a2 j2 h2 L2 hF2' hP2
 simp only [h2,andThen_ok]
 have hi2:j2≤l.length:=jcY h2
 have hF2:=hf1.tr hF2'
 simp -implicitDefEqProofs only [Kc,jal,jaw,Ka,jaj,Nat.reduceLT,Nat.reduceEqDiff,Kh,Kg,reduceIte,Ys,jak,jaf,argT,resT,setT,Y0,Int.reduceEq,Int.reduceLT,Int.reduceLE,Int.reduceNeg,mb,Nat.reduceBEq,tys,stb,Va,jab,Nat.reduceAdd,Nat.reduceLeDiff,al1,al47,ic,fo55,fo47,jaa,jae,zv47,bd47,YW,YI,jan,jai,jao,jap,jaq,jar,len1,app2,jac,jad,jah,jax,row1,jam,fo29,YP,jbk,jaX,jbP,jbQ,st_p,st_q,jaG,jaM,jay,jau,jaN,jaY,jaO,jaZ,jaP,jaQ,jaH,ja0,ld_q]
 refine jcX (je1 hv hl hP2 ts) ?_ ?_
 ·intro e he L' hF'
  simp only [he]; exact ⟨rfl,hF2.tr hF'⟩
 intro a3 j3 h3 L3 hF3' hP3
 simp only [h3,andThen_ok]
 have hi3:j3≤l.length:=jhK h3
 have hF3:=hF2.tr hF3'
 have hc3:L3[p]? = some (pcL lv en (qC { Q with p:=a1 } ev wv rv) j3 0):=hP3
 have hg3:∀ a:AObj,(L3.set p a)[p]? = some a:=fun a=>Kj hP3.lt
 simp -implicitDefEqProofs only [Kc,jal,jaw,Ka,jaj,Nat.reduceLT,Nat.reduceEqDiff,Kh,Kg,reduceIte,Ys,jak,jaf,argT,resT,setT,Y0,Int.reduceEq,Int.reduceLT,Int.reduceLE,Int.reduceNeg,mb,Nat.reduceBEq,tys,stb,Va,jab,Nat.reduceAdd,Nat.reduceLeDiff,al1,al47,ic,fo55,fo47,jaa,jae,zv47,bd47,YW,YI,jan,jai,jao,jap,jaq,jar,len1,app2,jac,jad,jah,jax,row1,jam,fo29,YP,jbk,jaX,jbP,jbQ,st_p,st_q,jaG,jaM,jay,jau,jaN,jaY,jaO,jaZ,jaP,jaQ,jaH,ja0,ld_q,hc3,hg3]
 have hs3:Pc lv en (qC { { Q with p:=a1 } with q:=a3 } ev wv rv) p (L3.set p (pcL lv en (qC { { Q with p:=a1 } with q:=a3 } ev wv rv) j3 0)) j3 0:=Kj hP3.lt
 have hf3:=hF3.tr (Fr.set p L3 (pcL lv en (qC { { Q with p:=a1 } with q:=a3 } ev wv rv) j3 0))
 have hq3:QL base ts { { Q with p:=a1 } with q:=a3 } ev wv rv:=⟨hq1.e,hq1.w,hq1.r,hq1.b⟩
 refine jcX (jdg hv hl hi3 hs3 ts wOf) ?_ ?_
 ·intro e he L' hF'
  simp only [he]; exact ⟨rfl,hf3.tr hF'⟩
 intro a4 j4 h4 L4 hF4' hP4
 simp only [h4,andThen_ok]
 have hi4:j4≤l.length:=jcY h4
 have hF4:=hf3.tr hF4'
 simp -implicitDefEqProofs only [Kc,jal,jaw,Ka,jaj,Nat.reduceLT,Nat.reduceEqDiff,Kh,Kg,reduceIte,Ys,jak,jaf,argT,resT,setT,Y0,Int.reduceEq,Int.reduceLT,Int.reduceLE,Int.reduceNeg,mb,Nat.reduceBEq,tys,stb,Va,jab,Nat.reduceAdd,Nat.reduceLeDiff,al1,al47,ic,fo55,fo47,jaa,jae,zv47,bd47,YW,YI,jan,jai,jao,jap,jaq,jar,len1,app2,jac,jad,jah,jax,row1,jam,fo29,YP,jbk,jaX,jbP,jbQ,st_p,st_q,jaG,jaM,jay,jau,jaN,jaY,jaO,jaZ,jaP,jaQ,jaH,ja0,ld_q]
 refine jaT (jkD hv hl hs hi4 hP4 hq3 5) ?_ ?_
 ·rintro v ⟨L',t'⟩ hk
  simp -implicitDefEqProofs only [Kc,jal,jaw,Ka,jaj,Nat.reduceLT,Nat.reduceEqDiff,Kh,Kg,reduceIte,Ys,jak,jaf,argT,resT,setT,Y0,Int.reduceEq,Int.reduceLT,Int.reduceLE,Int.reduceNeg,mb,Nat.reduceBEq,tys,stb,Va,jab,Nat.reduceAdd,Nat.reduceLeDiff,al1,al47,ic,fo55,fo47,jaa,jae,zv47,bd47,YW,YI,jan,jai,jao,jap,jaq,jar,len1,app2,jac,jad,jah,jax,row1,jam,fo29,YP,jbk,jaX,jbP,jbQ,st_p,st_q,jaG,jaM,jay,jau,jaN,jaY,jaO,jaZ,jaP,jaQ,jaH,ja0,ld_q]
  exact (hk.tr hF4).inl
 ·rintro v ⟨L',t'⟩ hk
  exact hk.tr hF4
theorem at54:env.P.funcs[54]? = some Tryz.f54:=by kernel_rfl
theorem jtH (hv:IsK lv l)(hl:l.length≤4000)(hs:jdQ l){Q:Qry}{ev wv rv:V}(hi:i≤l.length)(hP:Pc lv en (qC Q ev wv rv) p L i 0)(hq:QL base ts Q ev wv rv) :
  ∃ x σ',jbH env 54 [.ptr p 0] ⟨L,ts⟩=some (x,σ')∧QX lv en p base L (jqm l en Q i) x σ':=by
 refine jaW rfl rfl rfl rfl at54 rfl (by simp [Tryz.f54]) (by simp [Tryz.f54]) (jbg ?_)
 unfold jqm
 simp -implicitDefEqProofs only [Tryz.f54,Kc,jal,jaw,Ka,jaj,Nat.reduceLT,Nat.reduceEqDiff,Kh,Kg,reduceIte,Ys,jak,jaf,argT,resT,setT,Y0,Int.reduceEq,Int.reduceLT,Int.reduceLE,Int.reduceNeg,mb,Nat.reduceBEq,tys,stb,Va,jab,Nat.reduceAdd,Nat.reduceLeDiff,al1,al47,ic,fo55,fo47,jaa,jae,zv47,bd47,YW,YI,jan,jai,jao,jap,jaq,jar,len1,app2,jac,jad,jah,jax,row1,jam,fo29,YP,jbk,jaX,jbP,jbQ,st_p,st_q,jaG,jaM,jay,jau,jaN,jaY,jaO,jaZ,jaP,jaQ,jaH,ja0,ld_q]
 refine jcX (jqP hv hl hs hi hP ts) ?_ ?_
 ·intro e he L' hF'
  simp only [he]; exact ⟨rfl,(Fr.rf p L).tr hF'⟩
 intro a1 j1 h1 L1 hF1' hP1
 simp only [h1,andThen_ok]
 have hi1:j1≤l.length:=jiZ h1
 have hF1:=(Fr.rf p L).tr hF1'
 have hc1:L1[p]? = some (pcL lv en (qC Q ev wv rv) j1 0):=hP1
 have hg1:∀ a:AObj,(L1.set p a)[p]? = some a:=fun a=>Kj hP1.lt
 simp -implicitDefEqProofs only [Kc,jal,jaw,Ka,jaj,Nat.reduceLT,Nat.reduceEqDiff,Kh,Kg,reduceIte,Ys,jak,jaf,argT,resT,setT,Y0,Int.reduceEq,Int.reduceLT,Int.reduceLE,Int.reduceNeg,mb,Nat.reduceBEq,tys,stb,Va,jab,Nat.reduceAdd,Nat.reduceLeDiff,al1,al47,ic,fo55,fo47,jaa,jae,zv47,bd47,YW,YI,jan,jai,jao,jap,jaq,jar,len1,app2,jac,jad,jah,jax,row1,jam,fo29,YP,jbk,jaX,jbP,jbQ,st_p,st_q,jaG,jaM,jay,jau,jaN,jaY,jaO,jaZ,jaP,jaQ,jaH,ja0,ld_q,hc1,hg1]
 have hs1:Pc lv en (qC { Q with bound:=a1 } ev wv rv) p (L1.set p (pcL lv en (qC { Q with bound:=a1 } ev wv rv) j1 0)) j1 0:=Kj hP1.lt
 have hf1:=hF1.tr (Fr.set p L1 (pcL lv en (qC { Q with bound:=a1 } ev wv rv) j1 0))
 have hq1:QL base ts { Q with bound:=a1 } ev wv rv:=⟨hq.e,hq.w,hq.r,hq.b⟩
 refine jaT (jgP hv hl hs1 hq1 7) ?_ ?_
 ·rintro v ⟨L',t'⟩ hk
  simp -implicitDefEqProofs only [Kc,jal,jaw,Ka,jaj,Nat.reduceLT,Nat.reduceEqDiff,Kh,Kg,reduceIte,Ys,jak,jaf,argT,resT,setT,Y0,Int.reduceEq,Int.reduceLT,Int.reduceLE,Int.reduceNeg,mb,Nat.reduceBEq,tys,stb,Va,jab,Nat.reduceAdd,Nat.reduceLeDiff,al1,al47,ic,fo55,fo47,jaa,jae,zv47,bd47,YW,YI,jan,jai,jao,jap,jaq,jar,len1,app2,jac,jad,jah,jax,row1,jam,fo29,YP,jbk,jaX,jbP,jbQ,st_p,st_q,jaG,jaM,jay,jau,jaN,jaY,jaO,jaZ,jaP,jaQ,jaH,ja0,ld_q]
  exact (hk.tr hf1).inl
 ·rintro v ⟨L',t'⟩ hk
  exact hk.tr hf1
theorem at48:env.P.funcs[48]? = some Tryz.f48:=by kernel_rfl
theorem jtI (hv:IsK lv l)(hl:l.length≤4000)(hs:jdQ l){Q:Qry}{ev wv rv:V}(hi:i≤l.length)(hP:Pc lv en (qC Q ev wv rv) p L i 0)(hq:QL base ts Q ev wv rv) :
  ∃ x σ',jbH env 48 [.ptr p 0] ⟨L,ts⟩=some (x,σ')∧QX lv en p base L (.ok ({ Q with kind:=1 },i)) x σ':=by
 refine jaW rfl rfl rfl rfl at48 rfl (by simp [Tryz.f48]) (by simp [Tryz.f48]) (jbg ?_)
 have hc:L[p]? = some (pcL lv en (qC Q ev wv rv) i 0):=hP
 simp -implicitDefEqProofs only [Tryz.f48,Kc,jal,jaw,Ka,jaj,Nat.reduceLT,Nat.reduceEqDiff,Kh,Kg,reduceIte,Ys,jak,jaf,argT,resT,setT,Y0,Int.reduceEq,Int.reduceLT,Int.reduceLE,Int.reduceNeg,mb,Nat.reduceBEq,tys,stb,Va,jab,Nat.reduceAdd,Nat.reduceLeDiff,al1,al47,ic,fo55,fo47,jaa,jae,zv47,bd47,YW,YI,jan,jai,jao,jap,jaq,jar,len1,app2,jac,jad,jah,jax,row1,jam,fo29,YP,jbk,jaX,jbP,jbQ,st_p,st_q,jaG,jaM,jay,jau,jaN,jaY,jaO,jaZ,jaP,jaQ,jaH,ja0,ld_q,hc]
 have hs0:Pc lv en (qC { Q with kind:=1 } ev wv rv) p (L.set p (pcL lv en (qC { Q with kind:=1 } ev wv rv) i 0)) i 0:=Kj hP.lt
 have hf0:=(Fr.rf p L).tr (Fr.set p L (pcL lv en (qC { Q with kind:=1 } ev wv rv) i 0))
 have hq0:QL base ts { Q with kind:=1 } ev wv rv:=⟨hq.e,hq.w,hq.r,hq.b⟩
 exact ⟨rfl,hf0,ev,wv,rv,hs0,hq0⟩
theorem at49:env.P.funcs[49]? = some Tryz.f49:=by kernel_rfl
theorem jwy (hv:IsK lv l)(hl:l.length≤4000)(hs:jdQ l){Q:Qry}{ev wv rv:V}(hi:i≤l.length)(hP:Pc lv en (qC Q ev wv rv) p L i 0)(hq:QL base ts Q ev wv rv) :
  ∃ x σ',jbH env 49 [.ptr p 0] ⟨L,ts⟩=some (x,σ')∧QX lv en p base L (jeZ l en 2 Q i) x σ':=by
 refine jaW rfl rfl rfl rfl at49 rfl (by simp [Tryz.f49]) (by simp [Tryz.f49]) (jbg ?_)
 simp -implicitDefEqProofs only [Tryz.f49,Kc,jal,jaw,Ka,jaj,Nat.reduceLT,Nat.reduceEqDiff,Kh,Kg,reduceIte,Ys,jak,jaf,argT,resT,setT,Y0,Int.reduceEq,Int.reduceLT,Int.reduceLE,Int.reduceNeg,mb,Nat.reduceBEq,tys,stb,Va,jab,Nat.reduceAdd,Nat.reduceLeDiff,al1,al47,ic,fo55,fo47,jaa,jae,zv47,bd47,YW,YI,jan,jai,jao,jap,jaq,jar,len1,app2,jac,jad,jah,jax,row1,jam,fo29,YP,jbk,jaX,jbP,jbQ,st_p,st_q,jaG,jaM,jay,jau,jaN,jaY,jaO,jaZ,jaP,jaQ,jaH,ja0,ld_q]
 refine jaT (jkD hv hl hs hi hP hq 2) ?_ ?_
 ·rintro v ⟨L',t'⟩ hk
  simp -implicitDefEqProofs only [Kc,jal,jaw,Ka,jaj,Nat.reduceLT,Nat.reduceEqDiff,Kh,Kg,reduceIte,Ys,jak,jaf,argT,resT,setT,Y0,Int.reduceEq,Int.reduceLT,Int.reduceLE,Int.reduceNeg,mb,Nat.reduceBEq,tys,stb,Va,jab,Nat.reduceAdd,Nat.reduceLeDiff,al1,al47,ic,fo55,fo47,jaa,jae,zv47,bd47,YW,YI,jan,jai,jao,jap,jaq,jar,len1,app2,jac,jad,jah,jax,row1,jam,fo29,YP,jbk,jaX,jbP,jbQ,st_p,st_q,jaG,jaM,jay,jau,jaN,jaY,jaO,jaZ,jaP,jaQ,jaH,ja0,ld_q]
  exact (hk.tr (Fr.rf p L)).inl
 ·rintro v ⟨L',t'⟩ hk
  exact hk.tr (Fr.rf p L)
theorem at50:env.P.funcs[50]? = some Tryz.f50:=by kernel_rfl
theorem jnb (hv:IsK lv l)(hl:l.length≤4000)(hs:jdQ l){Q:Qry}{ev wv rv:V}(hi:i≤l.length)(hP:Pc lv en (qC Q ev wv rv) p L i 0)(hq:QL base ts Q ev wv rv) :
  ∃ x σ',jbH env 50 [.ptr p 0] ⟨L,ts⟩=some (x,σ')∧QX lv en p base L (jcE l en 3 Q i) x σ':=by
 refine jaW rfl rfl rfl rfl at50 rfl (by simp [Tryz.f50]) (by simp [Tryz.f50]) (jbg ?_)
 simp -implicitDefEqProofs only [Tryz.f50,Kc,jal,jaw,Ka,jaj,Nat.reduceLT,Nat.reduceEqDiff,Kh,Kg,reduceIte,Ys,jak,jaf,argT,resT,setT,Y0,Int.reduceEq,Int.reduceLT,Int.reduceLE,Int.reduceNeg,mb,Nat.reduceBEq,tys,stb,Va,jab,Nat.reduceAdd,Nat.reduceLeDiff,al1,al47,ic,fo55,fo47,jaa,jae,zv47,bd47,YW,YI,jan,jai,jao,jap,jaq,jar,len1,app2,jac,jad,jah,jax,row1,jam,fo29,YP,jbk,jaX,jbP,jbQ,st_p,st_q,jaG,jaM,jay,jau,jaN,jaY,jaO,jaZ,jaP,jaQ,jaH,ja0,ld_q]
 refine jaT (jgP hv hl hP hq 3) ?_ ?_
 ·rintro v ⟨L',t'⟩ hk
  simp -implicitDefEqProofs only [Kc,jal,jaw,Ka,jaj,Nat.reduceLT,Nat.reduceEqDiff,Kh,Kg,reduceIte,Ys,jak,jaf,argT,resT,setT,Y0,Int.reduceEq,Int.reduceLT,Int.reduceLE,Int.reduceNeg,mb,Nat.reduceBEq,tys,stb,Va,jab,Nat.reduceAdd,Nat.reduceLeDiff,al1,al47,ic,fo55,fo47,jaa,jae,zv47,bd47,YW,YI,jan,jai,jao,jap,jaq,jar,len1,app2,jac,jad,jah,jax,row1,jam,fo29,YP,jbk,jaX,jbP,jbQ,st_p,st_q,jaG,jaM,jay,jau,jaN,jaY,jaO,jaZ,jaP,jaQ,jaH,ja0,ld_q]
  exact (hk.tr (Fr.rf p L)).inl
 ·rintro v ⟨L',t'⟩ hk
  exact hk.tr (Fr.rf p L)
theorem at53:env.P.funcs[53]? = some Tryz.f53:=by kernel_rfl
theorem ju9 (hv:IsK lv l)(hl:l.length≤4000)(hs:jdQ l){Q:Qry}{ev wv rv:V}(hi:i≤l.length)(hP:Pc lv en (qC Q ev wv rv) p L i 0)(hq:QL base ts Q ev wv rv) :
  ∃ x σ',jbH env 53 [.ptr p 0] ⟨L,ts⟩=some (x,σ')∧QX lv en p base L (jcE l en 6 Q i) x σ':=by
 refine jaW rfl rfl rfl rfl at53 rfl (by simp [Tryz.f53]) (by simp [Tryz.f53]) (jbg ?_)
 simp -implicitDefEqProofs only [Tryz.f53,Kc,jal,jaw,Ka,jaj,Nat.reduceLT,Nat.reduceEqDiff,Kh,Kg,reduceIte,Ys,jak,jaf,argT,resT,setT,Y0,Int.reduceEq,Int.reduceLT,Int.reduceLE,Int.reduceNeg,mb,Nat.reduceBEq,tys,stb,Va,jab,Nat.reduceAdd,Nat.reduceLeDiff,al1,al47,ic,fo55,fo47,jaa,jae,zv47,bd47,YW,YI,jan,jai,jao,jap,jaq,jar,len1,app2,jac,jad,jah,jax,row1,jam,fo29,YP,jbk,jaX,jbP,jbQ,st_p,st_q,jaG,jaM,jay,jau,jaN,jaY,jaO,jaZ,jaP,jaQ,jaH,ja0,ld_q]
 refine jaT (jgP hv hl hP hq 6) ?_ ?_
 ·rintro v ⟨L',t'⟩ hk
  simp -implicitDefEqProofs only [Kc,jal,jaw,Ka,jaj,Nat.reduceLT,Nat.reduceEqDiff,Kh,Kg,reduceIte,Ys,jak,jaf,argT,resT,setT,Y0,Int.reduceEq,Int.reduceLT,Int.reduceLE,Int.reduceNeg,mb,Nat.reduceBEq,tys,stb,Va,jab,Nat.reduceAdd,Nat.reduceLeDiff,al1,al47,ic,fo55,fo47,jaa,jae,zv47,bd47,YW,YI,jan,jai,jao,jap,jaq,jar,len1,app2,jac,jad,jah,jax,row1,jam,fo29,YP,jbk,jaX,jbP,jbQ,st_p,st_q,jaG,jaM,jay,jau,jaN,jaY,jaO,jaZ,jaP,jaQ,jaH,ja0,ld_q]
  exact (hk.tr (Fr.rf p L)).inl
 ·rintro v ⟨L',t'⟩ hk
  exact hk.tr (Fr.rf p L)
theorem at55:env.P.funcs[55]? = some Tryz.f55:=by kernel_rfl
theorem jva (hv:IsK lv l)(hl:l.length≤4000)(hs:jdQ l){Q:Qry}{ev wv rv:V}(hi:i≤l.length)(hP:Pc lv en (qC Q ev wv rv) p L i 0)(hq:QL base ts Q ev wv rv) :
  ∃ x σ',jbH env 55 [.ptr p 0] ⟨L,ts⟩=some (x,σ')∧QX lv en p base L (jcE l en 8 Q i) x σ':=by
 refine jaW rfl rfl rfl rfl at55 rfl (by simp [Tryz.f55]) (by simp [Tryz.f55]) (jbg ?_)
 simp -implicitDefEqProofs only [Tryz.f55,Kc,jal,jaw,Ka,jaj,Nat.reduceLT,Nat.reduceEqDiff,Kh,Kg,reduceIte,Ys,jak,jaf,argT,resT,setT,Y0,Int.reduceEq,Int.reduceLT,Int.reduceLE,Int.reduceNeg,mb,Nat.reduceBEq,tys,stb,Va,jab,Nat.reduceAdd,Nat.reduceLeDiff,al1,al47,ic,fo55,fo47,jaa,jae,zv47,bd47,YW,YI,jan,jai,jao,jap,jaq,jar,len1,app2,jac,jad,jah,jax,row1,jam,fo29,YP,jbk,jaX,jbP,jbQ,st_p,st_q,jaG,jaM,jay,jau,jaN,jaY,jaO,jaZ,jaP,jaQ,jaH,ja0,ld_q]
 refine jaT (jgP hv hl hP hq 8) ?_ ?_
 ·rintro v ⟨L',t'⟩ hk
  simp -implicitDefEqProofs only [Kc,jal,jaw,Ka,jaj,Nat.reduceLT,Nat.reduceEqDiff,Kh,Kg,reduceIte,Ys,jak,jaf,argT,resT,setT,Y0,Int.reduceEq,Int.reduceLT,Int.reduceLE,Int.reduceNeg,mb,Nat.reduceBEq,tys,stb,Va,jab,Nat.reduceAdd,Nat.reduceLeDiff,al1,al47,ic,fo55,fo47,jaa,jae,zv47,bd47,YW,YI,jan,jai,jao,jap,jaq,jar,len1,app2,jac,jad,jah,jax,row1,jam,fo29,YP,jbk,jaX,jbP,jbQ,st_p,st_q,jaG,jaM,jay,jau,jaN,jaY,jaO,jaZ,jaP,jaQ,jaH,ja0,ld_q]
  exact (hk.tr (Fr.rf p L)).inl
 ·rintro v ⟨L',t'⟩ hk
  exact hk.tr (Fr.rf p L)
theorem at56:env.P.funcs[56]? = some Tryz.f56:=by kernel_rfl
theorem jqX (hv:IsK lv l)(hl:l.length≤4000)(hs:jdQ l){Q:Qry}{ev wv rv:V}(hi:i≤l.length)(hP:Pc lv en (qC Q ev wv rv) p L i 0)(hq:QL base ts Q ev wv rv) :
  ∃ x σ',jbH env 56 [.ptr p 0] ⟨L,ts⟩=some (x,σ')∧QX lv en p base L (jcE l en 9 Q i) x σ':=by
 refine jaW rfl rfl rfl rfl at56 rfl (by simp [Tryz.f56]) (by simp [Tryz.f56]) (jbg ?_)
 simp -implicitDefEqProofs only [Tryz.f56,Kc,jal,jaw,Ka,jaj,Nat.reduceLT,Nat.reduceEqDiff,Kh,Kg,reduceIte,Ys,jak,jaf,argT,resT,setT,Y0,Int.reduceEq,Int.reduceLT,Int.reduceLE,Int.reduceNeg,mb,Nat.reduceBEq,tys,stb,Va,jab,Nat.reduceAdd,Nat.reduceLeDiff,al1,al47,ic,fo55,fo47,jaa,jae,zv47,bd47,YW,YI,jan,jai,jao,jap,jaq,jar,len1,app2,jac,jad,jah,jax,row1,jam,fo29,YP,jbk,jaX,jbP,jbQ,st_p,st_q,jaG,jaM,jay,jau,jaN,jaY,jaO,jaZ,jaP,jaQ,jaH,ja0,ld_q]
 refine jaT (jgP hv hl hP hq 9) ?_ ?_
 ·rintro v ⟨L',t'⟩ hk
  simp -implicitDefEqProofs only [Kc,jal,jaw,Ka,jaj,Nat.reduceLT,Nat.reduceEqDiff,Kh,Kg,reduceIte,Ys,jak,jaf,argT,resT,setT,Y0,Int.reduceEq,Int.reduceLT,Int.reduceLE,Int.reduceNeg,mb,Nat.reduceBEq,tys,stb,Va,jab,Nat.reduceAdd,Nat.reduceLeDiff,al1,al47,ic,fo55,fo47,jaa,jae,zv47,bd47,YW,YI,jan,jai,jao,jap,jaq,jar,len1,app2,jac,jad,jah,jax,row1,jam,fo29,YP,jbk,jaX,jbP,jbQ,st_p,st_q,jaG,jaM,jay,jau,jaN,jaY,jaO,jaZ,jaP,jaQ,jaH,ja0,ld_q]
  exact (hk.tr (Fr.rf p L)).inl
 ·rintro v ⟨L',t'⟩ hk
  exact hk.tr (Fr.rf p L)
end
def hdC:Code→Code
 | .seq a _=>a
 | c=>c
abbrev QE (K:Sum V V→S→Prop):Post:=⟨wpR env [] fun v σ'=>K (.inl v) σ',fun _ _ _ _=>False,wpR env [] fun v σ'=>K (.inl v) σ'⟩
theorem at27:env.P.funcs[27]? = some Tryz.f27:=by kernel_rfl
section
variable {lv:V}{en:Int}{q:List V}{p base:Nat}{l:List Tk}{L0 L:List AObj}{ts:List Nat}{i o j:Nat}
theorem jvb (hv:IsK lv l)(hl:l.length≤4000){Q:Qry}{ev wv rv:V}(hi:i≤l.length)(hF:Fr p L0 L)(hP:Pc lv en (qC Q ev wv rv) p L i 0)(hq:QL base ts Q ev wv rv){T:Tm}(t0:T 0=.ptr p 0) :
  H env 27 none 60 (fun v D σ'=>D=[]∧QX lv en p base L0 (jiL l en Q i) (.inr v) σ') (QE (QX lv en p base L0 (jiL l en Q i))) [.code (jbi 5 (jaA Tryz.f27))] (regZ 12 (jaA Tryz.f27)) T [] ⟨L,ts⟩:=by
 simp -implicitDefEqProofs only [regZ,regA,jbi,jaA,Tryz.f27,Ku,Nat.reduceBEq,Option.or,Kc,jal,jaw,Ka,jaj,Nat.reduceLT,Nat.reduceEqDiff,Kh,Kg,reduceIte,Ys,jak,jaf,argT,resT,setT,Y0,Int.reduceEq,Int.reduceLT,Int.reduceLE,Int.reduceNeg,mb,Nat.reduceBEq,tys,stb,Va,jab,Nat.reduceAdd,Nat.reduceLeDiff,al1,al47,ic,fo55,fo47,jaa,jae,zv47,bd47,YW,YI,jan,jai,jao,jap,jaq,jar,len1,app2,jac,jad,jah,jax,row1,jam,t0]
 refine jcg (je0 hv hl hi hP ts jqn) ?_
 rintro _ ⟨L1,ts⟩ ⟨rfl,hF1',hP1,rfl⟩
 have hF1:=hF.tr hF1'
 simp only at hF1 hP1
 unfold jiL
 cases hs:sees l jqn i
 ·rw [hs] at hP1
  simp only [Kk,Kg] at hP1
  simp -implicitDefEqProofs only [Kc,jal,jaw,Ka,jaj,Nat.reduceLT,Nat.reduceEqDiff,Kh,Kg,reduceIte,Ys,jak,jaf,argT,resT,setT,Y0,Int.reduceEq,Int.reduceLT,Int.reduceLE,Int.reduceNeg,mb,Nat.reduceBEq,tys,stb,Va,jab,Nat.reduceAdd,Nat.reduceLeDiff,al1,al47,ic,fo55,fo47,jaa,jae,zv47,bd47,YW,YI,jan,jai,jao,jap,jaq,jar,len1,app2,jac,jad,jah,jax,row1,jam]
  exact ⟨rfl,hF1,ev,wv,rv,hP1,hq⟩
 ·rw [hs] at hP1
  simp only [Kh] at hP1
  have hi1:=jb7 hs
  simp -implicitDefEqProofs only [Kc,jal,jaw,Ka,jaj,Nat.reduceLT,Nat.reduceEqDiff,Kh,Kg,reduceIte,Ys,jak,jaf,argT,resT,setT,Y0,Int.reduceEq,Int.reduceLT,Int.reduceLE,Int.reduceNeg,mb,Nat.reduceBEq,tys,stb,Va,jab,Nat.reduceAdd,Nat.reduceLeDiff,al1,al47,ic,fo55,fo47,jaa,jae,zv47,bd47,YW,YI,jan,jai,jao,jap,jaq,jar,len1,app2,jac,jad,jah,jax,row1,jam,t0,YP]
  refine ju8 (jlX (ts:=ts) hv hl (.inr ⟨rfl,rfl⟩) hi1 hP1) ?_ ?_
  ·intro e he L' t' hF'
   simp only [he]; exact ⟨rfl,hF1.tr hF'⟩
  intro a2 j2 h2 L2 t2 v2 hF2' hP2 hG2 hE2
  simp only [h2,andThen_ok]
  have hi2:j2≤l.length:=(jqV h2).1
  have hF2:=hF1.tr hF2'
  have hv2:=hG2.cells
  have hc2:L2[p]? = some (pcL lv en (qC Q ev wv rv) j2 0):=hP2
  have hg2:∀ a:AObj,(L2.set p a)[p]? = some a:=fun a=>Kj hP2.lt
  simp -implicitDefEqProofs only [Kc,jal,jaw,Ka,jaj,Nat.reduceLT,Nat.reduceEqDiff,Kh,Kg,reduceIte,Ys,jak,jaf,argT,resT,setT,Y0,Int.reduceEq,Int.reduceLT,Int.reduceLE,Int.reduceNeg,mb,Nat.reduceBEq,tys,stb,Va,jab,Nat.reduceAdd,Nat.reduceLeDiff,al1,al47,ic,fo55,fo47,jaa,jae,zv47,bd47,YW,YI,jan,jai,jao,jap,jaq,jar,len1,app2,jac,jad,jah,jax,row1,jam,fo29,YP,jbk,jaX,jbP,jbQ,st_p,st_q,jaG,jaM,jay,jau,jaN,jaY,jaO,jaZ,jaP,jaQ,jaH,ja0,ld_q,hc2,hg2,jtF a2 hv2.2,hv2.1,hv2.2]
  have hs2:Pc lv en (qC { Q with wher:=a2 } ev v2 rv) p (L2.set p (pcL lv en (qC { Q with wher:=a2 } ev v2 rv) j2 0)) j2 0:=Kj hP2.lt
  have hf2:=hF2.tr (Fr.set p L2 (pcL lv en (qC { Q with wher:=a2 } ev v2 rv) j2 0))
  have hq2:QL base t2 { Q with wher:=a2 } ev v2 rv:=⟨(hq.e.ext hE2),(hG2.weakbase hq.b),hq.r.ext hE2,Qm hq.b hE2.1⟩
  exact ⟨rfl,hf2,ev,v2,rv,hs2,hq2⟩
theorem src4 (hv:IsK lv l)(hl:l.length≤4000){Q:Qry}{ev wv rv:V}(hi:i≤l.length)(hF:Fr p L0 L)(hP:Pc lv en (qC Q ev wv rv) p L i 0)(hq:QL base ts Q ev wv rv){T:Tm}(t0:T 0=.ptr p 0) :
  H env 27 none 60 (fun v D σ'=>D=[]∧QX lv en p base L0 (andThen (joF l en Q i) fun q j=>jiL l en q j) (.inr v) σ') (QE (QX lv en p base L0 (andThen (joF l en Q i) fun q j=>jiL l en q j))) [.code (jbi 1 (hdC (jbi 3 (jaA Tryz.f27)))),.code (jbi 4 (jaA Tryz.f27))] (regZ 4 (jaA Tryz.f27)) T [] ⟨L,ts⟩:=by
 simp -implicitDefEqProofs only [regZ,regA,jbi,hdC,jaA,Tryz.f27,Ku,Nat.reduceBEq,Option.or,Kc,jb2 12,jaw,Ka,jaj,Nat.reduceLT,Nat.reduceEqDiff,Kh,Kg,reduceIte,Ys,jak,jaf,argT,resT,setT,Y0,Int.reduceEq,Int.reduceLT,Int.reduceLE,Int.reduceNeg,mb,Nat.reduceBEq,tys,stb,Va,jab,Nat.reduceAdd,Nat.reduceLeDiff,al1,al47,ic,fo55,fo47,jaa,jae,zv47,bd47,YW,YI,jan,jai,jao,jap,jaq,jar,len1,app2,jac,jad,jah,jax,row1,jam,t0]
 refine jcg (je0 hv hl hi hP ts jtl) ?_
 rintro _ ⟨L1,ts⟩ ⟨rfl,hF1',hP1,rfl⟩
 have hF1:=hF.tr hF1'
 simp only at hF1 hP1
 unfold joF
 cases hs:sees l jtl i
 ·rw [hs] at hP1
  simp only [Kk,Kg] at hP1
  simp -implicitDefEqProofs only [Kc,jb2 12,jaw,Ka,jaj,Nat.reduceLT,Nat.reduceEqDiff,Kh,Kg,reduceIte,Ys,jak,jaf,argT,resT,setT,Y0,Int.reduceEq,Int.reduceLT,Int.reduceLE,Int.reduceNeg,mb,Nat.reduceBEq,tys,stb,Va,jab,Nat.reduceAdd,Nat.reduceLeDiff,al1,al47,ic,fo55,fo47,jaa,jae,zv47,bd47,YW,YI,jan,jai,jao,jap,jaq,jar,len1,app2,jac,jad,jah,jax,row1,jam,andThen_ok]
  exact jvb hv hl hi hF1 hP1 hq t0
 ·rw [hs] at hP1
  simp only [Kh] at hP1
  have hi1:=jb7 hs
  simp -implicitDefEqProofs only [Kc,jb2 12,jaw,Ka,jaj,Nat.reduceLT,Nat.reduceEqDiff,Kh,Kg,reduceIte,Ys,jak,jaf,argT,resT,setT,Y0,Int.reduceEq,Int.reduceLT,Int.reduceLE,Int.reduceNeg,mb,Nat.reduceBEq,tys,stb,Va,jab,Nat.reduceAdd,Nat.reduceLeDiff,al1,al47,ic,fo55,fo47,jaa,jae,zv47,bd47,YW,YI,jan,jai,jao,jap,jaq,jar,len1,app2,jac,jad,jah,jax,row1,jam,t0]
  refine jcX (jiW hv hl hP1 ts) ?_ ?_
  ·intro e he L' hF'
   simp only [he]; exact ⟨rfl,hF1.tr hF'⟩
  intro a2 j2 h2 L2 hF2' hP2
  simp only [h2,andThen_ok]
  have hi2:j2≤l.length:=jgf h2
  have hF2:=hF1.tr hF2'
  have hc2:L2[p]? = some (pcL lv en (qC Q ev wv rv) j2 0):=hP2
  have hg2:∀ a:AObj,(L2.set p a)[p]? = some a:=fun a=>Kj hP2.lt
  simp -implicitDefEqProofs only [t0,Kc,jb2 12,jaw,Ka,jaj,Nat.reduceLT,Nat.reduceEqDiff,Kh,Kg,reduceIte,Ys,jak,jaf,argT,resT,setT,Y0,Int.reduceEq,Int.reduceLT,Int.reduceLE,Int.reduceNeg,mb,Nat.reduceBEq,tys,stb,Va,jab,Nat.reduceAdd,Nat.reduceLeDiff,al1,al47,ic,fo55,fo47,jaa,jae,zv47,bd47,YW,YI,jan,jai,jao,jap,jaq,jar,len1,app2,jac,jad,jah,jax,row1,jam,fo29,YP,jbk,jaX,jbP,jbQ,st_p,st_q,jaG,jaM,jay,jau,jaN,jaY,jaO,jaZ,jaP,jaQ,jaH,ja0,ld_q,hc2,hg2]
  have hs2:Pc lv en (qC { Q with other:=a2 } ev wv rv) p (L2.set p (pcL lv en (qC { Q with other:=a2 } ev wv rv) j2 0)) j2 0:=Kj hP2.lt
  have hf2:=hF2.tr (Fr.set p L2 (pcL lv en (qC { Q with other:=a2 } ev wv rv) j2 0))
  have hq2:QL base ts { Q with other:=a2 } ev wv rv:=⟨hq.e,hq.w,hq.r,hq.b⟩
  refine jcX (jdg hv hl hi2 hs2 ts wOn) ?_ ?_
  ·intro e he L' hF'
   simp only [he]; exact ⟨rfl,hf2.tr hF'⟩
  intro a3 j3 h3 L3 hF3' hP3
  simp only [h3,andThen_ok]
  have hi3:j3≤l.length:=jcY h3
  have hF3:=hf2.tr hF3'
  simp -implicitDefEqProofs only [t0,Kc,jb2 12,jaw,Ka,jaj,Nat.reduceLT,Nat.reduceEqDiff,Kh,Kg,reduceIte,Ys,jak,jaf,argT,resT,setT,Y0,Int.reduceEq,Int.reduceLT,Int.reduceLE,Int.reduceNeg,mb,Nat.reduceBEq,tys,stb,Va,jab,Nat.reduceAdd,Nat.reduceLeDiff,al1,al47,ic,fo55,fo47,jaa,jae,zv47,bd47,YW,YI,jan,jai,jao,jap,jaq,jar,len1,app2,jac,jad,jah,jax,row1,jam,fo29,YP,jbk,jaX,jbP,jbQ,st_p,st_q,jaG,jaM,jay,jau,jaN,jaY,jaO,jaZ,jaP,jaQ,jaH,ja0,ld_q]
  refine jcX (jiW hv hl hP3 ts) ?_ ?_
  ·intro e he L' hF'
   simp only [he]; exact ⟨rfl,hF3.tr hF'⟩
  intro a4 j4 h4 L4 hF4' hP4
  simp only [h4,andThen_ok]
  have hi4:j4≤l.length:=jgf h4
  have hF4:=hF3.tr hF4'
  have hc4:L4[p]? = some (pcL lv en (qC { Q with other:=a2 } ev wv rv) j4 0):=hP4
  have hg4:∀ a:AObj,(L4.set p a)[p]? = some a:=fun a=>Kj hP4.lt
  simp -implicitDefEqProofs only [t0,Kc,jb2 12,jaw,Ka,jaj,Nat.reduceLT,Nat.reduceEqDiff,Kh,Kg,reduceIte,Ys,jak,jaf,argT,resT,setT,Y0,Int.reduceEq,Int.reduceLT,Int.reduceLE,Int.reduceNeg,mb,Nat.reduceBEq,tys,stb,Va,jab,Nat.reduceAdd,Nat.reduceLeDiff,al1,al47,ic,fo55,fo47,jaa,jae,zv47,bd47,YW,YI,jan,jai,jao,jap,jaq,jar,len1,app2,jac,jad,jah,jax,row1,jam,fo29,YP,jbk,jaX,jbP,jbQ,st_p,st_q,jaG,jaM,jay,jau,jaN,jaY,jaO,jaZ,jaP,jaQ,jaH,ja0,ld_q,hc4,hg4]
  have hs4:Pc lv en (qC { { Q with other:=a2 } with left:=a4 } ev wv rv) p (L4.set p (pcL lv en (qC { { Q with other:=a2 } with left:=a4 } ev wv rv) j4 0)) j4 0:=Kj hP4.lt
  have hf4:=hF4.tr (Fr.set p L4 (pcL lv en (qC { { Q with other:=a2 } with left:=a4 } ev wv rv) j4 0))
  have hq4:QL base ts { { Q with other:=a2 } with left:=a4 } ev wv rv:=⟨hq2.e,hq2.w,hq2.r,hq2.b⟩
  refine jcX (jdg hv hl hi4 hs4 ts [61]) ?_ ?_
  ·intro e he L' hF'
   simp only [he]; exact ⟨rfl,hf4.tr hF'⟩
  intro a5 j5 h5 L5 hF5' hP5
  simp only [h5,andThen_ok]
  have hi5:j5≤l.length:=jcY h5
  have hF5:=hf4.tr hF5'
  simp -implicitDefEqProofs only [t0,Kc,jb2 12,jaw,Ka,jaj,Nat.reduceLT,Nat.reduceEqDiff,Kh,Kg,reduceIte,Ys,jak,jaf,argT,resT,setT,Y0,Int.reduceEq,Int.reduceLT,Int.reduceLE,Int.reduceNeg,mb,Nat.reduceBEq,tys,stb,Va,jab,Nat.reduceAdd,Nat.reduceLeDiff,al1,al47,ic,fo55,fo47,jaa,jae,zv47,bd47,YW,YI,jan,jai,jao,jap,jaq,jar,len1,app2,jac,jad,jah,jax,row1,jam,fo29,YP,jbk,jaX,jbP,jbQ,st_p,st_q,jaG,jaM,jay,jau,jaN,jaY,jaO,jaZ,jaP,jaQ,jaH,ja0,ld_q]
  refine jcX (jiW hv hl hP5 ts) ?_ ?_
  ·intro e he L' hF'
   simp only [he]; exact ⟨rfl,hF5.tr hF'⟩
  intro a6 j6 h6 L6 hF6' hP6
  simp only [h6,andThen_ok]
  have hi6:j6≤l.length:=jgf h6
  have hF6:=hF5.tr hF6'
  have hc6:L6[p]? = some (pcL lv en (qC { { Q with other:=a2 } with left:=a4 } ev wv rv) j6 0):=hP6
  have hg6:∀ a:AObj,(L6.set p a)[p]? = some a:=fun a=>Kj hP6.lt
  simp -implicitDefEqProofs only [t0,Kc,jb2 12,jaw,Ka,jaj,Nat.reduceLT,Nat.reduceEqDiff,Kh,Kg,reduceIte,Ys,jak,jaf,argT,resT,setT,Y0,Int.reduceEq,Int.reduceLT,Int.reduceLE,Int.reduceNeg,mb,Nat.reduceBEq,tys,stb,Va,jab,Nat.reduceAdd,Nat.reduceLeDiff,al1,al47,ic,fo55,fo47,jaa,jae,zv47,bd47,YW,YI,jan,jai,jao,jap,jaq,jar,len1,app2,jac,jad,jah,jax,row1,jam,fo29,YP,jbk,jaX,jbP,jbQ,st_p,st_q,jaG,jaM,jay,jau,jaN,jaY,jaO,jaZ,jaP,jaQ,jaH,ja0,ld_q,hc6,hg6]
  have hs6:Pc lv en (qC { { { Q with other:=a2 } with left:=a4 } with right:=a6 } ev wv rv) p (L6.set p (pcL lv en (qC { { { Q with other:=a2 } with left:=a4 } with right:=a6 } ev wv rv) j6 0)) j6 0:=Kj hP6.lt
  have hf6:=hF6.tr (Fr.set p L6 (pcL lv en (qC { { { Q with other:=a2 } with left:=a4 } with right:=a6 } ev wv rv) j6 0))
  have hq6:QL base ts { { { Q with other:=a2 } with left:=a4 } with right:=a6 } ev wv rv:=⟨hq4.e,hq4.w,hq4.r,hq4.b⟩
  refine jcX (jdg hv hl hi6 hs6 ts jsJ) ?_ ?_
  ·intro e he L' hF'
   simp only [he]; exact ⟨rfl,hf6.tr hF'⟩
  intro a7 j7 h7 L7 hF7' hP7
  simp only [h7,andThen_ok]
  have hi7:j7≤l.length:=jcY h7
  have hF7:=hf6.tr hF7'
  simp -implicitDefEqProofs only [t0,Kc,jb2 12,jaw,Ka,jaj,Nat.reduceLT,Nat.reduceEqDiff,Kh,Kg,reduceIte,Ys,jak,jaf,argT,resT,setT,Y0,Int.reduceEq,Int.reduceLT,Int.reduceLE,Int.reduceNeg,mb,Nat.reduceBEq,tys,stb,Va,jab,Nat.reduceAdd,Nat.reduceLeDiff,al1,al47,ic,fo55,fo47,jaa,jae,zv47,bd47,YW,YI,jan,jai,jao,jap,jaq,jar,len1,app2,jac,jad,jah,jax,row1,jam,fo29,YP,jbk,jaX,jbP,jbQ,st_p,st_q,jaG,jaM,jay,jau,jaN,jaY,jaO,jaZ,jaP,jaQ,jaH,ja0,ld_q]
  refine jcX (jhp hv hl hP7 ts) ?_ ?_
  ·intro e he L' hF'
   simp only [he]; exact ⟨rfl,hF7.tr hF'⟩
  intro a8 j8 h8 L8 hF8' hP8
  simp only [h8,andThen_ok]
  have hi8:j8≤l.length:=jog h8
  have hF8:=hF7.tr hF8'
  have hc8:L8[p]? = some (pcL lv en (qC { { { Q with other:=a2 } with left:=a4 } with right:=a6 } ev wv rv) j8 0):=hP8
  have hg8:∀ a:AObj,(L8.set p a)[p]? = some a:=fun a=>Kj hP8.lt
  simp -implicitDefEqProofs only [t0,Kc,jb2 12,jaw,Ka,jaj,Nat.reduceLT,Nat.reduceEqDiff,Kh,Kg,reduceIte,Ys,jak,jaf,argT,resT,setT,Y0,Int.reduceEq,Int.reduceLT,Int.reduceLE,Int.reduceNeg,mb,Nat.reduceBEq,tys,stb,Va,jab,Nat.reduceAdd,Nat.reduceLeDiff,al1,al47,ic,fo55,fo47,jaa,jae,zv47,bd47,YW,YI,jan,jai,jao,jap,jaq,jar,len1,app2,jac,jad,jah,jax,row1,jam,fo29,YP,jbk,jaX,jbP,jbQ,st_p,st_q,jaG,jaM,jay,jau,jaN,jaY,jaO,jaZ,jaP,jaQ,jaH,ja0,ld_q,hc8,hg8]
  have hs8:Pc lv en (qC { { { { Q with other:=a2 } with left:=a4 } with right:=a6 } with limit:=a8 } ev wv rv) p (L8.set p (pcL lv en (qC { { { { Q with other:=a2 } with left:=a4 } with right:=a6 } with limit:=a8 } ev wv rv) j8 0)) j8 0:=Kj hP8.lt
  have hf8:=hF8.tr (Fr.set p L8 (pcL lv en (qC { { { { Q with other:=a2 } with left:=a4 } with right:=a6 } with limit:=a8 } ev wv rv) j8 0))
  have hq8:QL base ts { { { { Q with other:=a2 } with left:=a4 } with right:=a6 } with limit:=a8 } ev wv rv:=⟨hq6.e,hq6.w,hq6.r,hq6.b⟩
  exact jvb hv hl hi8 hf8 hs8 hq8 t0
theorem jsa (hv:IsK lv l)(hl:l.length≤4000){Q:Qry}{ev wv rv:V}(hi:i≤l.length)(hP:Pc lv en (qC Q ev wv rv) p L i 0)(hq:QL base ts Q ev wv rv) :
  ∃ x σ',jbH env 27 [.ptr p 0] ⟨L,ts⟩=some (x,σ')∧QX lv en p base L (jd5 l en Q i) x σ':=by
 refine jaW rfl rfl rfl rfl at27 rfl (by simp [Tryz.f27]) (by simp [Tryz.f27]) (jbg ?_)
 unfold jd5
 simp -implicitDefEqProofs only [Tryz.f27,Kc,jb2 4,jaw,Ka,jaj,Nat.reduceLT,Nat.reduceEqDiff,Kh,Kg,reduceIte,Ys,jak,jaf,argT,resT,setT,Y0,Int.reduceEq,Int.reduceLT,Int.reduceLE,Int.reduceNeg,mb,Nat.reduceBEq,tys,stb,Va,jab,Nat.reduceAdd,Nat.reduceLeDiff,al1,al47,ic,fo55,fo47,jaa,jae,zv47,bd47,YW,YI,jan,jai,jao,jap,jaq,jar,len1,app2,jac,jad,jah,jax,row1,jam]
 refine jcX (jdg hv hl hi hP ts juq) ?_ ?_
 ·intro e he L' hF'
  simp only [he]; exact ⟨rfl,(Fr.rf p L).tr hF'⟩
 intro a1 j1 h1 L1 hF1' hP1
 simp only [h1,andThen_ok]
 have hi1:j1≤l.length:=jcY h1
 have hF1:=(Fr.rf p L).tr hF1'
 simp -implicitDefEqProofs only [Kc,jb2 4,jaw,Ka,jaj,Nat.reduceLT,Nat.reduceEqDiff,Kh,Kg,reduceIte,Ys,jak,jaf,argT,resT,setT,Y0,Int.reduceEq,Int.reduceLT,Int.reduceLE,Int.reduceNeg,mb,Nat.reduceBEq,tys,stb,Va,jab,Nat.reduceAdd,Nat.reduceLeDiff,al1,al47,ic,fo55,fo47,jaa,jae,zv47,bd47,YW,YI,jan,jai,jao,jap,jaq,jar,len1,app2,jac,jad,jah,jax,row1,jam,fo29,YP,jbk,jaX,jbP,jbQ,st_p,st_q,jaG,jaM,jay,jau,jaN,jaY,jaO,jaZ,jaP,jaQ,jaH,ja0,ld_q]
 refine jcX (jiW hv hl hP1 ts) ?_ ?_
 ·intro e he L' hF'
  simp only [he]; exact ⟨rfl,hF1.tr hF'⟩
 intro a2 j2 h2 L2 hF2' hP2
 simp only [h2,andThen_ok]
 have hi2:j2≤l.length:=jgf h2
 have hF2:=hF1.tr hF2'
 have hc2:L2[p]? = some (pcL lv en (qC Q ev wv rv) j2 0):=hP2
 have hg2:∀ a:AObj,(L2.set p a)[p]? = some a:=fun a=>Kj hP2.lt
 simp -implicitDefEqProofs only [Kc,jb2 4,jaw,Ka,jaj,Nat.reduceLT,Nat.reduceEqDiff,Kh,Kg,reduceIte,Ys,jak,jaf,argT,resT,setT,Y0,Int.reduceEq,Int.reduceLT,Int.reduceLE,Int.reduceNeg,mb,Nat.reduceBEq,tys,stb,Va,jab,Nat.reduceAdd,Nat.reduceLeDiff,al1,al47,ic,fo55,fo47,jaa,jae,zv47,bd47,YW,YI,jan,jai,jao,jap,jaq,jar,len1,app2,jac,jad,jah,jax,row1,jam,fo29,YP,jbk,jaX,jbP,jbQ,st_p,st_q,jaG,jaM,jay,jau,jaN,jaY,jaO,jaZ,jaP,jaQ,jaH,ja0,ld_q,hc2,hg2]
 have hs2:Pc lv en (qC { Q with table:=a2 } ev wv rv) p (L2.set p (pcL lv en (qC { Q with table:=a2 } ev wv rv) j2 0)) j2 0:=Kj hP2.lt
 have hf2:=hF2.tr (Fr.set p L2 (pcL lv en (qC { Q with table:=a2 } ev wv rv) j2 0))
 have hq2:QL base ts { Q with table:=a2 } ev wv rv:=⟨hq.e,hq.w,hq.r,hq.b⟩
 refine jcg (je0 hv hl hi2 hs2 ts jtk) ?_
 rintro _ ⟨L9,ts⟩ ⟨rfl,hF9',hP9,rfl⟩
 have hF9:=hf2.tr hF9'
 simp only at hF9 hP9
 unfold jrx
 cases hs9:sees l jtk j2
 ·rw [hs9] at hP9
  simp only [Kk,Kg] at hP9
  simp -implicitDefEqProofs only [Kc,jb2 4,jaw,Ka,jaj,Nat.reduceLT,Nat.reduceEqDiff,Kh,Kg,reduceIte,Ys,jak,jaf,argT,resT,setT,Y0,Int.reduceEq,Int.reduceLT,Int.reduceLE,Int.reduceNeg,mb,Nat.reduceBEq,tys,stb,Va,jab,Nat.reduceAdd,Nat.reduceLeDiff,al1,al47,ic,fo55,fo47,jaa,jae,zv47,bd47,YW,YI,jan,jai,jao,jap,jaq,jar,len1,app2,jac,jad,jah,jax,row1,jam,andThen_ok]
  exact src4 hv hl hi2 hF9 hP9 hq2 rfl
 ·rw [hs9] at hP9
  simp only [Kh] at hP9
  have hi9:=jb7 hs9
  simp -implicitDefEqProofs only [Kc,jb2 4,jaw,Ka,jaj,Nat.reduceLT,Nat.reduceEqDiff,Kh,Kg,reduceIte,Ys,jak,jaf,argT,resT,setT,Y0,Int.reduceEq,Int.reduceLT,Int.reduceLE,Int.reduceNeg,mb,Nat.reduceBEq,tys,stb,Va,jab,Nat.reduceAdd,Nat.reduceLeDiff,al1,al47,ic,fo55,fo47,jaa,jae,zv47,bd47,YW,YI,jan,jai,jao,jap,jaq,jar,len1,app2,jac,jad,jah,jax,row1,jam]
  refine jcX (jhp hv hl hP9 ts) ?_ ?_
  ·intro e he L' hF'
   simp only [he]; exact ⟨rfl,hF9.tr hF'⟩
  intro a10 j10 h10 L10 hF10' hP10
  simp only [h10,andThen_ok]
  have hi10:j10≤l.length:=jog h10
  have hF10:=hF9.tr hF10'
  have hc10:L10[p]? = some (pcL lv en (qC { Q with table:=a2 } ev wv rv) j10 0):=hP10
  have hg10:∀ a:AObj,(L10.set p a)[p]? = some a:=fun a=>Kj hP10.lt
  simp -implicitDefEqProofs only [Kc,jb2 4,jaw,Ka,jaj,Nat.reduceLT,Nat.reduceEqDiff,Kh,Kg,reduceIte,Ys,jak,jaf,argT,resT,setT,Y0,Int.reduceEq,Int.reduceLT,Int.reduceLE,Int.reduceNeg,mb,Nat.reduceBEq,tys,stb,Va,jab,Nat.reduceAdd,Nat.reduceLeDiff,al1,al47,ic,fo55,fo47,jaa,jae,zv47,bd47,YW,YI,jan,jai,jao,jap,jaq,jar,len1,app2,jac,jad,jah,jax,row1,jam,fo29,YP,jbk,jaX,jbP,jbQ,st_p,st_q,jaG,jaM,jay,jau,jaN,jaY,jaO,jaZ,jaP,jaQ,jaH,ja0,ld_q,hc10,hg10]
  have hs10:Pc lv en (qC { { Q with table:=a2 } with keep:=a10 } ev wv rv) p (L10.set p (pcL lv en (qC { { Q with table:=a2 } with keep:=a10 } ev wv rv) j10 0)) j10 0:=Kj hP10.lt
  have hf10:=hF10.tr (Fr.set p L10 (pcL lv en (qC { { Q with table:=a2 } with keep:=a10 } ev wv rv) j10 0))
  have hq10:QL base ts { { Q with table:=a2 } with keep:=a10 } ev wv rv:=⟨hq2.e,hq2.w,hq2.r,hq2.b⟩
  exact src4 hv hl hi10 hf10 hs10 hq10 rfl
end
theorem at28:env.P.funcs[28]? = some Tryz.f28:=by kernel_rfl
theorem at64:env.P.funcs[64]? = some Tryz.f64:=by kernel_rfl
def ItOK (itoa:Int→List UInt8):Prop:=∀ n:Int,0≤n→n≤1000000000→∀ σ,jaC env (ev env) 65 [.int .i64 n] σ=some (.str (itoa n),σ)
def MkOK (l:List Tk)(en:Int)(itoa:Int→List UInt8)(mk me:Int→Int→List UInt8):Prop:=∀ (j:Nat) (n d:Int) (k:Nat),sees l [47] j=true→numP l en (j+1)=.ok (d,k)→d ≠ 0→0≤n→n≤1000000000→0≤d→d≤1000000000→∃ e:Int,∀ σ,jaC env (ev env) 67 [.str (itoa n),.str (itoa d)] σ=some (.tup [.str (mk n d),.int .i64 e],σ)
theorem jkE {itoa:Int→List UInt8}(hI:ItOK itoa)(n:Int)(h0:0≤n)(h1:n≤1000000000)(L:List AObj)(ts:List Nat):jaC env (ev env) 64 [.int .i64 n] ⟨L,ts⟩=some (.str (itoa n),⟨L,ts⟩):=by
 refine jbE rfl rfl at64 rfl (by simp [Tryz.f64]) (by simp [Tryz.f64]) (jaE ?_)
 simp -implicitDefEqProofs only [Tryz.f64,Kb,jaj,Nat.reduceLT,Nat.reduceEqDiff,Kh,Kg,reduceIte,Ys,jak,jaf,argT,resT,setT,Y0,Int.reduceEq,Int.reduceLT,Int.reduceLE,Int.reduceNeg,mb,Nat.reduceBEq,tys,stb,hI n h0 h1]
 exact ⟨rfl,trivial⟩
theorem u27:env.P.underlying 27=some .string:=by kernel_rfl
theorem s27:sz env 27=some 1:=by kernel_rfl
theorem al27 (h:List AObj)(p:V):jbC env h 27 p=(jas h 1 p).bind (·[0]?):=jbd (by kernel_rfl)
section
variable {lv:V}{en:Int}{q:List V}{p base:Nat}{l:List Tk}{L0 L:List AObj}{ts:List Nat}{i o j:Nat}{itoa:Int→List UInt8}{mk:Int→Int→List UInt8}
def endP (l:List Tk)(en:Int)(Q:Qry)(i:Nat):R Qry :=
 if (if Q.kind=3∧sees l jcV i=true then i+1 else i)<l.length then syn l en (if Q.kind=3∧sees l jcV i=true then i+1 else i)
 else .ok ({ Q with consistent:=if Q.kind=3∧sees l jcV i=true then true else Q.consistent },if Q.kind=3∧sees l jcV i=true then i+1 else i)
theorem jtJ (hv:IsK lv l)(hl:l.length≤4000){Q:Qry}{ev wv rv:V}(hi:i≤l.length)(hF:Fr p L0 L)(hP:Pc lv en (qC Q ev wv rv) p L i 0)(hq:QL base ts Q ev wv rv){T:Tm}(t0:T 0=.ptr p 0){r:R Qry}(hr:r=if i<l.length then syn l en i else .ok (Q,i)) :
  H env 28 none 76 (fun v D σ'=>D=[]∧QX lv en p base L0 r (.inr v) σ') (QE (QX lv en p base L0 r)) [] (jbi 1 (jbi 7 (jaA Tryz.f28))) T [] ⟨L,ts⟩:=by
 subst hr
 have hc:L[p]? = some (pcL lv en (qC Q ev wv rv) i 0):=hP
 have hlen:=jr2 hv 47
 have ha:=jcj (jd7 hv hl hP ts)
 by_cases h:i<l.length
 ·rw [Kp h]
  have h2:=eq_true (show (i:Int)<(l.length:Int) by omega)
  simp -implicitDefEqProofs only [jbi,jaA,Tryz.f28,Ku,Kc,jal,jaw,Ka,jaj,Nat.reduceLT,Nat.reduceEqDiff,Kh,Kg,reduceIte,Ys,jak,jaf,argT,resT,setT,Y0,Int.reduceEq,Int.reduceLT,Int.reduceLE,Int.reduceNeg,mb,Nat.reduceBEq,tys,stb,Va,jab,Nat.reduceAdd,Nat.reduceLeDiff,al1,al47,ic,fo55,fo47,jaa,jae,zv47,bd47,YW,YI,jan,jai,jao,jap,jaq,jar,len1,app2,jac,jad,jah,jax,row1,jam,t0,hc,ld_q,hlen,h2,ha]
  refine ⟨by kernel_rfl,jaT (jfs _ _ _) ?_ ?_⟩
  ·rintro v σ' ⟨h,_⟩; cases h
  ·rintro v σ' ⟨h,rfl⟩; cases h; exact ⟨rfl,hF⟩
 ·rw [Kq h]
  have h2:=eq_false (show ¬ (i:Int)<(l.length:Int) by omega)
  simp -implicitDefEqProofs only [jbi,jaA,Tryz.f28,Ku,Kc,jal,jaw,Ka,jaj,Nat.reduceLT,Nat.reduceEqDiff,Kh,Kg,reduceIte,Ys,jak,jaf,argT,resT,setT,Y0,Int.reduceEq,Int.reduceLT,Int.reduceLE,Int.reduceNeg,mb,Nat.reduceBEq,tys,stb,Va,jab,Nat.reduceAdd,Nat.reduceLeDiff,al1,al47,ic,fo55,fo47,jaa,jae,zv47,bd47,YW,YI,jan,jai,jao,jap,jaq,jar,len1,app2,jac,jad,jah,jax,row1,jam,t0,hc,ld_q,hlen,h2]
  exact ⟨by kernel_rfl,rfl,hF,ev,wv,rv,hP,hq⟩
theorem jwz (hv:IsK lv l)(hl:l.length≤4000){Q:Qry}{ev wv rv:V}(hi:i≤l.length)(hF:Fr p L0 L)(hP:Pc lv en (qC Q ev wv rv) p L i 0)(hq:QL base ts Q ev wv rv){T:Tm}(t0:T 0=.ptr p 0)(hcon:Q.consistent=false) :
  H env 28 none 76 (fun v D σ'=>D=[]∧QX lv en p base L0 (endP l en Q i) (.inr v) σ') (QE (QX lv en p base L0 (endP l en Q i))) [.code (jbi 1 (hdC (jbi 7 (jaA Tryz.f28)))),.code (jbi 1 (jbi 7 (jaA Tryz.f28)))] (regZ 12 (jaA Tryz.f28)) T [] ⟨L,ts⟩:=by
 have hc:L[p]? = some (pcL lv en (qC Q ev wv rv) i 0):=hP
 by_cases hk:Q.kind=3
 ·have hk2:=eq_true hk
  simp -implicitDefEqProofs only [regZ,regA,jbi,hdC,jaA,Tryz.f28,Ku,Nat.reduceBEq,Option.or,Kc,jal,Ka,jaj,Nat.reduceLT,Nat.reduceEqDiff,Kh,Kg,reduceIte,Ys,jak,jaf,argT,resT,setT,Y0,Int.reduceEq,Int.reduceLT,Int.reduceLE,Int.reduceNeg,mb,Nat.reduceBEq,tys,stb,Va,jab,Nat.reduceAdd,Nat.reduceLeDiff,al1,al47,ic,fo55,fo47,jaa,jae,zv47,bd47,YW,YI,jan,jai,jao,jap,jaq,jar,len1,app2,jac,jad,jah,jax,row1,jam,fo29,t0,hc,ld_q,hk2]
  refine jcg (je0 hv hl hi hP ts jcV) ?_
  rintro _ ⟨L1,ts⟩ ⟨rfl,hF1',hP1,rfl⟩
  have hF1:=hF.tr hF1'
  simp only at hF1 hP1
  have hc1:∀ j,L1[p]? = some (pcL lv en (qC Q ev wv rv) j 0)→∀ b:Bool,storeAt ⟨L1,ts⟩ [.bool b] p 14 (some (pcL lv en (qC Q ev wv rv) j 0))=some ⟨L1.set p (pcL lv en (qC { Q with consistent:=b } ev wv rv) j 0),ts⟩:=fun j _ b=>rfl
  cases hs:sees l jcV i
  ·rw [hs] at hP1
   simp only [Kk,Kg] at hP1
   have hc1:L1[p]? = some (pcL lv en (qC Q ev wv rv) i 0):=hP1
   simp -implicitDefEqProofs only [Kc,jal,Ka,jaj,Nat.reduceLT,Nat.reduceEqDiff,Kh,Kg,reduceIte,Ys,jak,jaf,argT,resT,setT,Y0,Int.reduceEq,Int.reduceLT,Int.reduceLE,Int.reduceNeg,mb,Nat.reduceBEq,tys,stb,Va,jab,Nat.reduceAdd,Nat.reduceLeDiff,al1,al47,ic,fo55,fo47,jaa,jae,zv47,bd47,YW,YI,jan,jai,jao,jap,jaq,jar,len1,app2,jac,jad,jah,jax,row1,jam,fo29,t0,hc1,jaX,jbP,jbQ,st_p,st_q,jaG,jaM,jay,jau,jaN,jaY,jaO,jaZ,jaP,jaQ,jaH,ja0,ld_q]
   refine jtJ (Q:={ Q with consistent:=false }) hv hl hi (hF1.tr (Fr.set p L1 _)) (Kj hP1.lt) ⟨hq.e,hq.w,hq.r,hq.b⟩ t0 ?_
   unfold endP
   rw [hs]
   simp only [Kk,and_false,Kg,hcon]
  ·rw [hs] at hP1
   simp only [Kh] at hP1
   have hc1:L1[p]? = some (pcL lv en (qC Q ev wv rv) ((i+1:Nat)) 0):=hP1
   simp -implicitDefEqProofs only [Kc,jal,Ka,jaj,Nat.reduceLT,Nat.reduceEqDiff,Kh,Kg,reduceIte,Ys,jak,jaf,argT,resT,setT,Y0,Int.reduceEq,Int.reduceLT,Int.reduceLE,Int.reduceNeg,mb,Nat.reduceBEq,tys,stb,Va,jab,Nat.reduceAdd,Nat.reduceLeDiff,al1,al47,ic,fo55,fo47,jaa,jae,zv47,bd47,YW,YI,jan,jai,jao,jap,jaq,jar,len1,app2,jac,jad,jah,jax,row1,jam,fo29,t0,hc1,jaX,jbP,jbQ,st_p,st_q,jaG,jaM,jay,jau,jaN,jaY,jaO,jaZ,jaP,jaQ,jaH,ja0,ld_q]
   refine jtJ (Q:={ Q with consistent:=true }) hv hl (jb7 hs) (hF1.tr (Fr.set p L1 _)) (Kj hP1.lt) ⟨hq.e,hq.w,hq.r,hq.b⟩ t0 ?_
   unfold endP
   rw [hs]
   simp only [hk,and_self,Kh]
 ·have hk2:=eq_false hk
  simp -implicitDefEqProofs only [regZ,regA,jbi,hdC,jaA,Tryz.f28,Ku,Nat.reduceBEq,Option.or,Kc,jal,Ka,jaj,Nat.reduceLT,Nat.reduceEqDiff,Kh,Kg,reduceIte,Ys,jak,jaf,argT,resT,setT,Y0,Int.reduceEq,Int.reduceLT,Int.reduceLE,Int.reduceNeg,mb,Nat.reduceBEq,tys,stb,Va,jab,Nat.reduceAdd,Nat.reduceLeDiff,al1,al47,ic,fo55,fo47,jaa,jae,zv47,bd47,YW,YI,jan,jai,jao,jap,jaq,jar,len1,app2,jac,jad,jah,jax,row1,jam,fo29,t0,hc,ld_q,hk2]
  refine jtJ (Q:=Q) hv hl hi hF hP hq t0 ?_
  unfold endP
  simp only [hk,false_and,Kg]
theorem jvc (hv:IsK lv l)(hl:l.length≤4000){Q:Qry}{ev wv rv:V}(hi:i≤l.length)(hF:Fr p L0 L)(hP:Pc lv en (qC Q ev wv rv) p L i 0)(hq:QL base ts Q ev wv rv){T:Tm}(t0:T 0=.ptr p 0)(hcon:Q.consistent=false){r:R Qry}
  (hr:r=andThen (must l en jry i) fun _ j=>andThen (posP l en j) fun b j=>endP l en { Q with bits:=b } j) :
  H env 28 none 76 (fun v D σ'=>D=[]∧QX lv en p base L0 r (.inr v) σ') (QE (QX lv en p base L0 r)) [.code (jbi 6 (jaA Tryz.f28))] (regZ 10 (jaA Tryz.f28)) T [] ⟨L,ts⟩:=by
 subst hr
 simp -implicitDefEqProofs only [regZ,regA,jbi,hdC,jaA,Tryz.f28,Ku,Nat.reduceBEq,Option.or,Kc,jb2 12,jaw,Ka,jaj,Nat.reduceLT,Nat.reduceEqDiff,Kh,Kg,reduceIte,Ys,jak,jaf,argT,resT,setT,Y0,Int.reduceEq,Int.reduceLT,Int.reduceLE,Int.reduceNeg,mb,Nat.reduceBEq,tys,stb,Va,jab,Nat.reduceAdd,Nat.reduceLeDiff,al1,al47,ic,fo55,fo47,jaa,jae,zv47,bd47,YW,YI,jan,jai,jao,jap,jaq,jar,len1,app2,jac,jad,jah,jax,row1,jam,t0]
 refine jcX (jdg hv hl hi hP ts jry) ?_ ?_
 ·intro e he L' hF'
  simp only [he]; exact ⟨rfl,hF.tr hF'⟩
 intro a1 j1 h1 L1 hF1' hP1
 simp only [h1,andThen_ok]
 have hi1:j1≤l.length:=jcY h1
 have hF1:=hF.tr hF1'
 simp -implicitDefEqProofs only [t0,Kc,jb2 12,jaw,Ka,jaj,Nat.reduceLT,Nat.reduceEqDiff,Kh,Kg,reduceIte,Ys,jak,jaf,argT,resT,setT,Y0,Int.reduceEq,Int.reduceLT,Int.reduceLE,Int.reduceNeg,mb,Nat.reduceBEq,tys,stb,Va,jab,Nat.reduceAdd,Nat.reduceLeDiff,al1,al47,ic,fo55,fo47,jaa,jae,zv47,bd47,YW,YI,jan,jai,jao,jap,jaq,jar,len1,app2,jac,jad,jah,jax,row1,jam,fo29,YP,jbk,jaX,jbP,jbQ,st_p,st_q,jaG,jaM,jay,jau,jaN,jaY,jaO,jaZ,jaP,jaQ,jaH,ja0,ld_q]
 refine jcX (jhp hv hl hP1 ts) ?_ ?_
 ·intro e he L' hF'
  simp only [he]; exact ⟨rfl,hF1.tr hF'⟩
 intro a2 j2 h2 L2 hF2' hP2
 simp only [h2,andThen_ok]
 have hi2:j2≤l.length:=jog h2
 have hF2:=hF1.tr hF2'
 have hc2:L2[p]? = some (pcL lv en (qC Q ev wv rv) j2 0):=hP2
 have hg2:∀ a:AObj,(L2.set p a)[p]? = some a:=fun a=>Kj hP2.lt
 simp -implicitDefEqProofs only [t0,Kc,jb2 12,jaw,Ka,jaj,Nat.reduceLT,Nat.reduceEqDiff,Kh,Kg,reduceIte,Ys,jak,jaf,argT,resT,setT,Y0,Int.reduceEq,Int.reduceLT,Int.reduceLE,Int.reduceNeg,mb,Nat.reduceBEq,tys,stb,Va,jab,Nat.reduceAdd,Nat.reduceLeDiff,al1,al47,ic,fo55,fo47,jaa,jae,zv47,bd47,YW,YI,jan,jai,jao,jap,jaq,jar,len1,app2,jac,jad,jah,jax,row1,jam,fo29,YP,jbk,jaX,jbP,jbQ,st_p,st_q,jaG,jaM,jay,jau,jaN,jaY,jaO,jaZ,jaP,jaQ,jaH,ja0,ld_q,hc2,hg2]
 have hs2:Pc lv en (qC { Q with bits:=a2 } ev wv rv) p (L2.set p (pcL lv en (qC { Q with bits:=a2 } ev wv rv) j2 0)) j2 0:=Kj hP2.lt
 have hf2:=hF2.tr (Fr.set p L2 (pcL lv en (qC { Q with bits:=a2 } ev wv rv) j2 0))
 have hq2:QL base ts { Q with bits:=a2 } ev wv rv:=⟨hq.e,hq.w,hq.r,hq.b⟩
 exact jwz hv hl hi2 hf2 hs2 hq2 t0 hcon
theorem sc67 (a:Array Operand)(b:Array TypeId):scOp env (.call ⟨.value (.func 67),a,b⟩)=false:=rfl
def jvd (l:List Tk)(en:Int)(Q:Qry)(f:List UInt8)(i:Nat):R Qry:=andThen (must l en jry i) fun _ j=>andThen (posP l en j) fun b j=>endP l en { Q with factor:=f,bits:=b } j
theorem wth9 {X:V→List DE→S→Prop}{Qp:Post}{ks:List Kt}{D:List DE}(hI:ItOK itoa){Q:Qry}{ev wv rv:V}{n d e:Int}{f:List UInt8}(hd0:0≤d)(hd1:d≤1000000000)(hmk:∀ σ,jaC env (Go.Ab.ev env) 67 [.str (itoa n),.str (itoa d)] σ=some (.tup [.str f,.int .i64 e],σ)){T:Tm}{k:Nat}(t0:T 0=.ptr p 0)(t2:T 2=.func 64 [] [])(t4:T 4=.int .i64 d)
  (hc2:L[p]? = some (pcL lv en (qC { Q with factor:=itoa n } ev wv rv) k 0))
  (h:∀ T',T' 0=T 0→H env 28 none 76 X Qp ks .skip T' D ⟨L.set p (pcL lv en (qC { Q with factor:=f } ev wv rv) k 0),ts⟩):H env 28 none 76 X Qp ks (regB 9 (jaA Tryz.f28)) T D ⟨L,ts⟩:=by
 have hit:=jkE hI d hd0 hd1 L ts
 refine jiH rfl (joC ?_)
 refine jpW rfl [(false,[]),(false,[]),(false,[]),(false,[]),(false,[]),(false,[1]),(false,[]),(false,[]),(true,[]),(false,[]),(false,[]),(false,[]),(false,[]),(false,[]),(false,[]),(false,[]),(true,[])] (fun m s0=>m≤1→s0.heap[p]? = some (pcL lv en (qC { Q with factor:=itoa n } ev wv rv) k 0)) (fun _=>hc2) (by kernel_rfl) (by kernel_rfl) ?_
 simp -implicitDefEqProofs only [regB,regO,jaA,Tryz.f28,Ku,Kb,jaj,Nat.reduceLT,Nat.reduceEqDiff,Kh,Kg,reduceIte,Ys,jak,jaf,argT,resT,setT,Y0,Int.reduceEq,Int.reduceLT,Int.reduceLE,Int.reduceNeg,mb,Nat.reduceBEq,tys,stb,Va,jab,Nat.reduceAdd,Nat.reduceLeDiff,al1,al47,ic,fo55,fo47,jaa,jae,zv47,bd47,YW,YI,jan,jai,jao,jap,jaq,jar,len1,app2,jac,jad,jah,jax,row1,jam,hhWa,hhWb,hhWc,hhWd,jgy,jkr,jks,jgz,jkt,jgA,jku,jeY,jdO,jde,jdf,fo29,t0,t2,t4,hc2,hit,hmk,sc67,u27,s27,al27,jaX,jbP,jbQ,st_p,st_q,jaG,jaM,jay,jau,jaN,jaY,jaO,jaZ,jaP,jaQ,jaH,ja0,ld_q]
 refine ⟨⟨fun s h=>by rw [h]; rfl,trivial⟩,?_⟩
 exact h _ rfl
theorem wth4 {me:Int→Int→List UInt8}(hv:IsK lv l)(hl:l.length≤4000)(hs:jdQ l)(hI:ItOK itoa)(hM:MkOK l en itoa mk me){Q:Qry}{ev wv rv:V}(hi:i≤l.length)(hF:Fr p L0 L){n:Int}(hn0:0≤n)(hn1:n≤1000000000)(hP:Pc lv en (qC { Q with factor:=itoa n } ev wv rv) p L i 0)(hq:QL base ts Q ev wv rv){T:Tm}(t0:T 0=.ptr p 0)(t2:T 2=.func 64 [] [])(hcon:Q.consistent=false){r:R Qry}
  (hr:r=if sees l [47] i=true then andThen (numP l en (i+1)) fun d k=>if d=0 then .error (6,atP l en (i+1)) else jvd l en Q (mk n d) k else jvd l en Q (itoa n) i) :
  H env 28 none 76 (fun v D σ'=>D=[]∧QX lv en p base L0 r (.inr v) σ') (QE (QX lv en p base L0 r)) [.code (jbi 1 (hdC (jbi 4 (jaA Tryz.f28)))),.code (jbi 5 (jaA Tryz.f28))] (regZ 4 (jaA Tryz.f28)) T [] ⟨L,ts⟩:=by
 subst hr
 have hsteps:=hI n hn0 hn1
 simp -implicitDefEqProofs only [regZ,regA,jbi,hdC,jaA,Tryz.f28,Ku,Nat.reduceBEq,Option.or,Kc,jb2 10,jaw,Ka,jaj,Nat.reduceLT,Nat.reduceEqDiff,Kh,Kg,reduceIte,Ys,jak,jaf,argT,resT,setT,Y0,Int.reduceEq,Int.reduceLT,Int.reduceLE,Int.reduceNeg,mb,Nat.reduceBEq,tys,stb,Va,jab,Nat.reduceAdd,Nat.reduceLeDiff,al1,al47,ic,fo55,fo47,jaa,jae,zv47,bd47,YW,YI,jan,jai,jao,jap,jaq,jar,len1,app2,jac,jad,jah,jax,row1,jam,t0]
 refine jcg (je0 hv hl hi hP ts [47]) ?_
 rintro _ ⟨L1,ts⟩ ⟨rfl,hF1',hP1,rfl⟩
 have hF1:=hF.tr hF1'
 simp only at hF1 hP1
 cases hs2:sees l [47] i
 ·rw [hs2] at hP1
  simp only [Kk,Kg] at hP1
  simp -implicitDefEqProofs only [Kc,jb2 10,jaw,Ka,jaj,Nat.reduceLT,Nat.reduceEqDiff,Kh,Kg,reduceIte,Ys,jak,jaf,argT,resT,setT,Y0,Int.reduceEq,Int.reduceLT,Int.reduceLE,Int.reduceNeg,mb,Nat.reduceBEq,tys,stb,Va,jab,Nat.reduceAdd,Nat.reduceLeDiff,al1,al47,ic,fo55,fo47,jaa,jae,zv47,bd47,YW,YI,jan,jai,jao,jap,jaq,jar,len1,app2,jac,jad,jah,jax,row1,jam]
  refine jvc (Q:={ Q with factor:=itoa n }) hv hl hi hF1 hP1 ⟨hq.e,hq.w,hq.r,hq.b⟩ ?_ hcon ?_
  ·exact t0
  ·rfl
 ·rw [hs2] at hP1
  simp only [Kh] at hP1
  have hi1:=jb7 hs2
  have ha:=jcj (jd7 hv hl hP1 ts)
  simp -implicitDefEqProofs only [Kc,jb2 10,jaw,Ka,jaj,Nat.reduceLT,Nat.reduceEqDiff,Kh,Kg,reduceIte,Ys,jak,jaf,argT,resT,setT,Y0,Int.reduceEq,Int.reduceLT,Int.reduceLE,Int.reduceNeg,mb,Nat.reduceBEq,tys,stb,Va,jab,Nat.reduceAdd,Nat.reduceLeDiff,al1,al47,ic,fo55,fo47,jaa,jae,zv47,bd47,YW,YI,jan,jai,jao,jap,jaq,jar,len1,app2,jac,jad,jah,jax,row1,jam,t0,ha]
  refine jcX (je1 hv hl hP1 ts) ?_ ?_
  ·intro e he L' hF'
   simp only [he]; exact ⟨rfl,hF1.tr hF'⟩
  intro d k hd L2 hF2' hP2
  have hdn:=jiX hs hd
  have hi2:=jhK hd
  have hF2:=hF1.tr hF2'
  simp only [hd,andThen_ok]
  by_cases hd0:d=0
  ·have hd2:=eq_true hd0
   rw [Kp hd0]
   simp -implicitDefEqProofs only [Kc,jb2 10,jaw,Ka,jaj,Nat.reduceLT,Nat.reduceEqDiff,Kh,Kg,reduceIte,Ys,jak,jaf,argT,resT,setT,Y0,Int.reduceEq,Int.reduceLT,Int.reduceLE,Int.reduceNeg,mb,Nat.reduceBEq,tys,stb,Va,jab,Nat.reduceAdd,Nat.reduceLeDiff,al1,al47,ic,fo55,fo47,jaa,jae,zv47,bd47,YW,YI,jan,jai,jao,jap,jaq,jar,len1,app2,jac,jad,jah,jax,row1,jam,hd2]
   refine jaT (jfs _ _ _) ?_ ?_
   ·rintro v σ' ⟨h,_⟩; cases h
   ·rintro v σ' ⟨h,rfl⟩; cases h; exact ⟨rfl,hF2⟩
  ·have hd2:=eq_false hd0
   rw [Kq hd0]
   obtain ⟨e,hmk⟩:=hM i n d k hs2 hd hd0 hn0 hn1 hdn.1 hdn.2
   have hit:=jkE hI d hdn.1 hdn.2 L2 ts
   have hc2:L2[p]? = some (pcL lv en (qC { Q with factor:=itoa n } ev wv rv) k 0):=hP2
   simp -implicitDefEqProofs only [Kc,jal,Ka,jaj,Nat.reduceLT,Nat.reduceEqDiff,Kh,Kg,reduceIte,Ys,jak,jaf,argT,resT,setT,Y0,Int.reduceEq,Int.reduceLT,Int.reduceLE,Int.reduceNeg,mb,Nat.reduceBEq,tys,stb,Va,jab,Nat.reduceAdd,Nat.reduceLeDiff,al1,al47,ic,fo55,fo47,jaa,jae,zv47,bd47,YW,YI,jan,jai,jao,jap,jaq,jar,len1,app2,jac,jad,jah,jax,row1,jam,hd2]
   refine wth9 (Q:=Q) hI hdn.1 hdn.2 hmk ?_ ?_ ?_ hc2 ?_
   ·exact t0
   ·exact t2
   ·rfl
   intro T' t0'
   have t0'':T' 0=.ptr p 0:=by rw [t0']; exact t0
   simp -implicitDefEqProofs only [Kc,jb2 10,jaw,Ka,jaj,Nat.reduceLT,Nat.reduceEqDiff,Kh,Kg,reduceIte,Ys,jak,jaf,argT,resT,setT,Y0,Int.reduceEq,Int.reduceLT,Int.reduceLE,Int.reduceNeg,mb,Nat.reduceBEq,tys,stb,Va,jab,Nat.reduceAdd,Nat.reduceLeDiff,al1,al47,ic,fo55,fo47,jaa,jae,zv47,bd47,YW,YI,jan,jai,jao,jap,jaq,jar,len1,app2,jac,jad,jah,jax,row1,jam]
   refine jvc (Q:={ Q with factor:=mk n d }) hv hl hi2 (hF2.tr (Fr.set p L2 _)) (Kj hP2.lt) ⟨hq.e,hq.w,hq.r,hq.b⟩ ?_ hcon ?_
   ·exact t0''
   ·rfl
theorem jve {me:Int→Int→List UInt8}(hv:IsK lv l)(hl:l.length≤4000)(hs:jdQ l)(hI:ItOK itoa)(hM:MkOK l en itoa mk me){Q:Qry}{ev wv rv:V}(hi:i≤l.length)(hP:Pc lv en (qC Q ev wv rv) p L i 0)(hq:QL base ts Q ev wv rv)(hcon:Q.consistent=false) :
  ∃ x σ',jbH env 28 [.ptr p 0] ⟨L,ts⟩=some (x,σ')∧QX lv en p base L (jja l en itoa mk Q i) x σ':=by
 refine jaW rfl rfl rfl rfl at28 rfl (by simp [Tryz.f28]) (by simp [Tryz.f28]) (jbg ?_)
 unfold jja
 simp -implicitDefEqProofs only [Tryz.f28,Kc,jb2 4,jaw,Ka,jaj,Nat.reduceLT,Nat.reduceEqDiff,Kh,Kg,reduceIte,Ys,jak,jaf,argT,resT,setT,Y0,Int.reduceEq,Int.reduceLT,Int.reduceLE,Int.reduceNeg,mb,Nat.reduceBEq,tys,stb,Va,jab,Nat.reduceAdd,Nat.reduceLeDiff,al1,al47,ic,fo55,fo47,jaa,jae,zv47,bd47,YW,YI,jan,jai,jao,jap,jaq,jar,len1,app2,jac,jad,jah,jax,row1,jam]
 refine jcX (jdg hv hl hi hP ts jur) ?_ ?_
 ·intro e he L' hF'
  simp only [he]; exact ⟨rfl,(Fr.rf p L).tr hF'⟩
 intro a1 j1 h1 L1 hF1' hP1
 simp only [h1,andThen_ok]
 have hi1:j1≤l.length:=jcY h1
 have hF1:=(Fr.rf p L).tr hF1'
 simp -implicitDefEqProofs only [Kc,jb2 4,jaw,Ka,jaj,Nat.reduceLT,Nat.reduceEqDiff,Kh,Kg,reduceIte,Ys,jak,jaf,argT,resT,setT,Y0,Int.reduceEq,Int.reduceLT,Int.reduceLE,Int.reduceNeg,mb,Nat.reduceBEq,tys,stb,Va,jab,Nat.reduceAdd,Nat.reduceLeDiff,al1,al47,ic,fo55,fo47,jaa,jae,zv47,bd47,YW,YI,jan,jai,jao,jap,jaq,jar,len1,app2,jac,jad,jah,jax,row1,jam,fo29,YP,jbk,jaX,jbP,jbQ,st_p,st_q,jaG,jaM,jay,jau,jaN,jaY,jaO,jaZ,jaP,jaQ,jaH,ja0,ld_q]
 refine jcX (jdg hv hl hi1 hP1 ts jqo) ?_ ?_
 ·intro e he L' hF'
  simp only [he]; exact ⟨rfl,hF1.tr hF'⟩
 intro a2 j2 h2 L2 hF2' hP2
 simp only [h2,andThen_ok]
 have hi2:j2≤l.length:=jcY h2
 have hF2:=hF1.tr hF2'
 simp -implicitDefEqProofs only [Kc,jb2 4,jaw,Ka,jaj,Nat.reduceLT,Nat.reduceEqDiff,Kh,Kg,reduceIte,Ys,jak,jaf,argT,resT,setT,Y0,Int.reduceEq,Int.reduceLT,Int.reduceLE,Int.reduceNeg,mb,Nat.reduceBEq,tys,stb,Va,jab,Nat.reduceAdd,Nat.reduceLeDiff,al1,al47,ic,fo55,fo47,jaa,jae,zv47,bd47,YW,YI,jan,jai,jao,jap,jaq,jar,len1,app2,jac,jad,jah,jax,row1,jam,fo29,YP,jbk,jaX,jbP,jbQ,st_p,st_q,jaG,jaM,jay,jau,jaN,jaY,jaO,jaZ,jaP,jaQ,jaH,ja0,ld_q]
 unfold jqp
 refine jcX (je1 hv hl hP2 ts) ?_ ?_
 ·intro e he L' hF'
  simp only [he]; exact ⟨rfl,hF2.tr hF'⟩
 intro n j3 h3 L3 hF3' hP3
 have hn:=jiX hs h3
 have hi3:=jhK h3
 have hF3:=hF2.tr hF3'
 simp only [h3,andThen_ok]
 have hit:=jcj (jkE hI n hn.1 hn.2 L3 ts)
 have hc3:L3[p]? = some (pcL lv en (qC Q ev wv rv) j3 0):=hP3
 simp -implicitDefEqProofs only [Kc,jb2 4,jaw,Ka,jaj,Nat.reduceLT,Nat.reduceEqDiff,Kh,Kg,reduceIte,Ys,jak,jaf,argT,resT,setT,Y0,Int.reduceEq,Int.reduceLT,Int.reduceLE,Int.reduceNeg,mb,Nat.reduceBEq,tys,stb,Va,jab,Nat.reduceAdd,Nat.reduceLeDiff,al1,al47,ic,fo55,fo47,jaa,jae,zv47,bd47,YW,YI,jan,jai,jao,jap,jaq,jar,len1,app2,jac,jad,jah,jax,row1,jam,fo29,hit,hc3,s27,jaX,jbP,jbQ,st_p,st_q,jaG,jaM,jay,jau,jaN,jaY,jaO,jaZ,jaP,jaQ,jaH,ja0,ld_q]
 refine wth4 (Q:=Q) hv hl hs hI hM hi3 (hF3.tr (Fr.set p L3 _)) hn.1 hn.2 (Kj hP3.lt) hq ?_ ?_ hcon ?_
 ·rfl
 ·rfl
 cases sees l [47] j3 with
 | false=>rfl
 | true =>
  simp only [Kh]
  cases numP l en (j3+1) with
  | error e=>rfl
  | ok x =>
   obtain ⟨d,k⟩:=x
   simp only [andThen_ok]
   by_cases hd:d=0
   ·rw [Kp hd,Kp hd]; rfl
   ·rw [Kq hd,Kq hd]; rfl
end
theorem at57:env.P.funcs[57]? = some Tryz.f57:=by kernel_rfl
theorem u26:env.P.underlying 26=some (.slice 73):=by kernel_rfl
theorem s26:sz env 26=some 1:=by kernel_rfl
theorem al26 (h:List AObj)(p:V):jbC env h 26 p=(jas h 1 p).bind (·[0]?):=jbd (by kernel_rfl)
theorem jwA:Elt env 26 73 2 16:=⟨by kernel_rfl,by kernel_rfl,by kernel_rfl,by kernel_rfl,by kernel_rfl⟩
theorem bd73 (a b:Int):jcC env 73 [(0,.int .i64 a),(1,.int .i64 b)]=some (.agg [.int .i64 a,.int .i64 b]):=by kernel_rfl
theorem jwB (a b:Int):rowO env 26 1 [(0,.agg [.int .i64 a,.int .i64 b])]=some (.row [.int .i64 a,.int .i64 b] 1 .full):=by kernel_rfl
theorem jqY (a b:List (Int × Int)):jhR (a++b)=jhR a++jhR b:=by simp [jhR]
section
variable {lv:V}{en:Int}{q:List V}{p base:Nat}{l:List Tk}{L0 L:List AObj}{ts:List Nat}{i o j:Nat}
theorem d57 {X:V→List DE→S→Prop}{Qp:Post}{ks:List Kt}{D:List DE}{T:Tm}{Q:Qry}{ev wv rv:V}{lo:Int}{r:R Int}(t0:T 0=.ptr p 0)(t2:T 2=.int .i64 lo)(hc:L[p]? = some (pcL lv en (qC Q ev wv rv) i 0))(hq:GrowV base ts 2 rv Q.ranges.length (jhR Q.ranges))(hb:base≤ts.length)(hlen:Q.ranges.length≤100)
  (hk:∃ x σ',jbH env 91 [.ptr p 0] ⟨L,ts⟩=some (x,σ')∧RX lv en (qC Q ev wv rv) p L ts 0 (V.int .i64) r x σ')
  (hok:∀ n j,r=.ok (n,j)→∀ T' L2 t2 rv',T' 0=T 0→Fr p L L2→Pc lv en (qC { Q with ranges:=Q.ranges++[(lo,n)] } ev wv rv') p L2 j 0→GrowV base t2 2 rv' (Q.ranges++[(lo,n)]).length (jhR (Q.ranges++[(lo,n)]))→base≤t2.length→H env 57 none 60 X Qp ks .skip T' D ⟨L2,t2⟩)
  (hbad:∀ e,r=.error e→∀ L',Fr p L L'→X (flt e) D ⟨L',ts⟩):H env 57 none 60 X Qp ks (regB 5 (jaA Tryz.f57)) T D ⟨L,ts⟩:=by
 obtain ⟨x,⟨L1,t1'⟩,hcx,hK⟩:=hk
 match r,hK with
 | .ok (n,j),⟨k1,k2,k3,k4⟩ =>
  subst k1
  simp only at k4
  subst k4
  have hcf:=jfo hcx
  have hlim:lim=2 ^ 40:=rfl
  obtain ⟨rv',t3,h1,h2,h3⟩:=hq.push jwA ⟨73,u26⟩ (hp:=L1) (new:=[.int .i64 lo,.int .i64 n]) (q:=.full) hb rfl rfl (by rw [hlim]; omega)
  have hwc:=h2.cells
  have hc1:L1[p]? = some (pcL lv en (qC Q ev wv rv) j 0):=k3
  refine jiH rfl (joC ?_)
  refine jpW rfl [(false,[]),(false,[]),(false,[]),(false,[]),(false,[]),(false,[1,2]),(false,[]),(false,[]),(true,[]),(false,[]),(true,[]),(true,[]),(false,[]),(false,[]),(false,[]),(true,[])] (fun m s0=>m≤2→jgx s0.heap[p]? 12=some rv) (fun _=>by rw [hc]; rfl) (by kernel_rfl) (by kernel_rfl) ?_
  simp -implicitDefEqProofs only [regB,regO,jaA,Tryz.f57,Ku,Kb,jaj,Nat.reduceLT,Nat.reduceEqDiff,Kh,Kg,reduceIte,Ys,jak,jaf,argT,resT,setT,Y0,Int.reduceEq,Int.reduceLT,Int.reduceLE,Int.reduceNeg,mb,Nat.reduceBEq,tys,stb,Va,jab,Nat.reduceAdd,Nat.reduceLeDiff,al1,al47,ic,fo55,fo47,jaa,jae,zv47,bd47,YW,YI,jan,jai,jao,jap,jaq,jar,len1,app2,jac,jad,jah,jax,row1,jam,hhWa,hhWb,hhWc,hhWd,jgy,jkr,jks,jgz,jkt,jgA,jku,jeY,jdO,jde,jdf,fo29,t0,t2,hc,hc1,hcf,u26,s26,al26,ld_q,bd73,jwB,h1,jqT (Q.ranges++[(lo,n)]) hwc.2,hwc.1,hwc.2]
  refine ⟨⟨fun s h=>h,fun s h=>h,trivial⟩,hok n j rfl _ _ _ rv' rfl (k2.tr (Fr.set _ _ _)) (Kj k3.lt) ?_ (Qm hb h3.1)⟩
  rw [Ks,jqY]
  exact h2
 | .error e,⟨k1,k2,k3⟩ =>
  subst k1
  simp only at k3
  subst k3
  obtain ⟨p1,p2,p3,p4,p5⟩:=jeC hcx
  refine jiH rfl ?_
  simp -implicitDefEqProofs only [regB,regO,jaA,Tryz.f57,Ku]
  refine jkv 8 _ _ [(false,[]),(false,[]),(false,[]),(false,[]),(false,[]),(false,[]),(false,[]),(false,[])] (fun m s0=>True) rfl rfl rfl trivial (by kernel_rfl) (by kernel_rfl) (by kernel_rfl) (by kernel_rfl) rfl ?_
  simp -implicitDefEqProofs only [Qv,Ji,Kb,jaj,Nat.reduceLT,Nat.reduceEqDiff,Kh,Kg,reduceIte,Ys,jak,jaf,argT,resT,setT,Y0,Int.reduceEq,Int.reduceLT,Int.reduceLE,Int.reduceNeg,mb,Nat.reduceBEq,tys,stb,Va,jab,Nat.reduceAdd,Nat.reduceLeDiff,al1,al47,ic,fo55,fo47,jaa,jae,zv47,bd47,YW,YI,jan,jai,jao,jap,jaq,jar,len1,app2,jac,jad,jah,jax,row1,jam,hhWa,hhWb,hhWc,hhWd,jgy,jkr,jks,jgz,jkt,jgA,jku,jeY,jdO,jde,jdf,fo29,t0,t2,hc,u26,s26,al26,ld_q]
  exact ⟨_,[],[],[.ptr p 0],_,_,rfl,rfl,p1,p2,p3,p4,p5,fun vals _=>hbad e rfl L1 k2⟩
def je4:List (List UInt8):=[jeF,jiJ,jrw]
theorem jvf:rowO env 107 3 [(0,.str [105,100,101,110,116,105,116,121]),(1,.str [112,114,101,102,105,120]),(2,.str [116,114,101,101])]=some (.row (je4.map V.str) 3 .full):=by kernel_rfl
theorem u107:env.P.underlying 107=some (.slice 9):=by kernel_rfl
theorem jsb {k:Nat}(hk:k<3)(hno:∀ x,x<k→sees l (je4.getD x []) j=false)(h:sees l (je4.getD k []) j=true):jdE l en j=.ok ((k:Int),j+1):=by
 unfold jdE
 have c:k=0∨k=1∨k=2:=by omega
 rcases c with rfl | rfl | rfl
 ·have h0:sees l jeF j=true:=h
  rw [Kp h0]; rfl
 ·have h0:sees l jeF j=false:=hno 0 (by omega)
  have h1:sees l jiJ j=true:=h
  rw [Kq (by simp [h0]),Kp h1]; rfl
 ·have h0:sees l jeF j=false:=hno 0 (by omega)
  have h1:sees l jiJ j=false:=hno 1 (by omega)
  have h2:sees l jrw j=true:=h
  rw [Kq (by simp [h0]),Kq (by simp [h1]),Kp h2]; rfl
theorem jsc (hno:∀ x,x<3→sees l (je4.getD x []) j=false):jdE l en j=syn l en j:=by
 unfold jdE
 have h0:sees l jeF j=false:=hno 0 (by omega)
 have h1:sees l jiJ j=false:=hno 1 (by omega)
 have h2:sees l jrw j=false:=hno 2 (by omega)
 rw [Kq (by simp [h0]),Kq (by simp [h1]),Kq (by simp [h2])]
theorem jvg {k:Nat}(hk:k<3):jaS 1 (.row (je4.map V.str) 3 .full) (.int .i64 k)=some (.rptr ((je4.map V.str).drop k)):=by
 have c:k=0∨k=1∨k=2:=by omega
 rcases c with rfl | rfl | rfl <;> rfl
theorem jvh {k:Nat}(hk:k<3):(je4.map V.str)[k]? = some (.str (je4.getD k [])):=by
 have c:k=0∨k=1∨k=2:=by omega
 rcases c with rfl | rfl | rfl <;> rfl
theorem bat7 (hv:IsK lv l)(hl:l.length≤4000){Q:Qry}{ev wv rv:V}(hi:i≤l.length)(hF:Fr p L0 L)(hP:Pc lv en (qC Q ev wv rv) p L i 0)(hq:QL base ts Q ev wv rv){T:Tm}(t0:T 0=.ptr p 0){r:R Qry}
  (hr:r=andThen (must l en jqj i) fun _ j=>andThen (jdE l en j) fun s j=>.ok ({ Q with strategy:=s },j)) :
  H env 57 none 60 (fun v D σ'=>D=[]∧QX lv en p base L0 r (.inr v) σ') (QE (QX lv en p base L0 r)) [.code (jbi 3 (jaA Tryz.f57))] (regZ 7 (jaA Tryz.f57)) T [] ⟨L,ts⟩:=by
 subst hr
 simp -implicitDefEqProofs only [regZ,regA,jbi,hdC,jaA,Tryz.f57,Ku,Nat.reduceBEq,Option.or,Kc,jal,jaw,Ka,jaj,Nat.reduceLT,Nat.reduceEqDiff,Kh,Kg,reduceIte,Ys,jak,jaf,argT,resT,setT,Y0,Int.reduceEq,Int.reduceLT,Int.reduceLE,Int.reduceNeg,mb,Nat.reduceBEq,tys,stb,Va,jab,Nat.reduceAdd,Nat.reduceLeDiff,al1,al47,ic,fo55,fo47,jaa,jae,zv47,bd47,YW,YI,jan,jai,jao,jap,jaq,jar,len1,app2,jac,jad,jah,jax,row1,jam,t0]
 refine jcX (jdg hv hl hi hP ts jqj) ?_ ?_
 ·intro e he L' hF'
  simp only [he]; exact ⟨rfl,hF.tr hF'⟩
 intro a j h1 L1 hF1' hP1
 simp only [h1,andThen_ok]
 have hi1:j≤l.length:=jcY h1
 have hF1:=hF.tr hF1'
 simp -implicitDefEqProofs only [Kc,jal,jaw,Ka,jaj,Nat.reduceLT,Nat.reduceEqDiff,Kh,Kg,reduceIte,Ys,jak,jaf,argT,resT,setT,Y0,Int.reduceEq,Int.reduceLT,Int.reduceLE,Int.reduceNeg,mb,Nat.reduceBEq,tys,stb,Va,jab,Nat.reduceAdd,Nat.reduceLeDiff,al1,al47,ic,fo55,fo47,jaa,jae,zv47,bd47,YW,YI,jan,jai,jao,jap,jaq,jar,len1,app2,jac,jad,jah,jax,row1,jam,jvf,u107]
 refine jhj (fun m T D σ=>D=[]∧T 0=.ptr p 0∧T 41=.row (je4.map V.str) 3 .full∧T 42=.int .i64 3∧∃ (k:Nat) (L':List AObj),σ=⟨L',ts⟩∧T 43=.int .i64 k∧k≤3∧m=3 - k∧Fr p L0 L'∧Pc lv en (qC Q ev wv rv) p L' j 0∧∀ x,x<k→sees l (je4.getD x []) j=false) ?_ (3 - 0) _ _ _ ⟨rfl,t0,rfl,rfl,0,L1,rfl,rfl,by omega,rfl,hF1,hP1,fun x h=>absurd h (Nat.not_lt_zero x)⟩
 rintro m T' D σ ⟨rfl,t0',t41,t42,k,L',rfl,t43,hk3,rfl,hF',hP',hno⟩
 by_cases hlt:k<3
 ·have c1:=eq_true (show (k:Int)<3 by omega)
  have e1:IntKind.i64.wrap ((k:Int)+1)=((k+1:Nat):Int):=by rw [wrap_i64 (by omega) (by omega)]; omega
  have hx:=jvg hlt
  have hg:=jvh hlt
  simp -implicitDefEqProofs only [Kc,jal,jaw,Ka,jaj,Nat.reduceLT,Nat.reduceEqDiff,Kh,Kg,reduceIte,Ys,jak,jaf,argT,resT,setT,Y0,Int.reduceEq,Int.reduceLT,Int.reduceLE,Int.reduceNeg,mb,Nat.reduceBEq,tys,stb,Va,jab,Nat.reduceAdd,Nat.reduceLeDiff,al1,al47,ic,fo55,fo47,jaa,jae,zv47,bd47,YW,YI,jan,jai,jao,jap,jaq,jar,len1,app2,jac,jad,jah,jax,row1,jam,t0',t41,t42,t43,c1,e1,u107,s9,hx,hg]
  refine ⟨⟨by omega,trivial⟩,?_⟩
  refine jcg (je0 hv hl hi1 hP' ts (je4.getD k [])) ?_
  rintro _ ⟨L2,ts⟩ ⟨rfl,hF2',hP2,rfl⟩
  have hF2:=hF'.tr hF2'
  simp only at hF2 hP2
  cases hs:sees l (je4.getD k []) j
  ·rw [hs] at hP2
   simp only [Kk,Kg] at hP2
   simp -implicitDefEqProofs only [Kc,jal,jaw,Ka,jaj,Nat.reduceLT,Nat.reduceEqDiff,Kh,Kg,reduceIte,Ys,jak,jaf,argT,resT,setT,Y0,Int.reduceEq,Int.reduceLT,Int.reduceLE,Int.reduceNeg,mb,Nat.reduceBEq,tys,stb,Va,jab,Nat.reduceAdd,Nat.reduceLeDiff,al1,al47,ic,fo55,fo47,jaa,jae,zv47,bd47,YW,YI,jan,jai,jao,jap,jaq,jar,len1,app2,jac,jad,jah,jax,row1,jam,t0',t41,t42,t43,e1]
   refine ⟨3 - (k+1),by omega,k+1,L2,rfl,rfl,by omega,rfl,hF2,hP2,fun x hx => ?_⟩
   rcases K7 x k with h | h
   ·exact hno x h
   ·rw [show x=k by omega]; exact hs
  ·rw [hs] at hP2
   simp only [Kh] at hP2
   have hc2:L2[p]? = some (pcL lv en (qC Q ev wv rv) ((j+1:Nat)) 0):=hP2
   rw [jsb hlt hno hs]
   simp -implicitDefEqProofs only [Kc,jal,jaw,Ka,jaj,Nat.reduceLT,Nat.reduceEqDiff,Kh,Kg,reduceIte,Ys,jak,jaf,argT,resT,setT,Y0,Int.reduceEq,Int.reduceLT,Int.reduceLE,Int.reduceNeg,mb,Nat.reduceBEq,tys,stb,Va,jab,Nat.reduceAdd,Nat.reduceLeDiff,al1,al47,ic,fo55,fo47,jaa,jae,zv47,bd47,YW,YI,jan,jai,jao,jap,jaq,jar,len1,app2,jac,jad,jah,jax,row1,jam,fo29,t0',t41,t42,t43,hc2,jaX,jbP,jbQ,st_p,st_q,jaG,jaM,jay,jau,jaN,jaY,jaO,jaZ,jaP,jaQ,jaH,ja0,ld_q,andThen_ok]
   exact ⟨rfl,hF2.tr (Fr.set _ _ _),ev,wv,rv,Kj hP2.lt,⟨hq.e,hq.w,hq.r,hq.b⟩⟩
 ·have c1:=eq_false (show ¬ (k:Int)<3 by omega)
  have hk:k=3:=by omega
  subst hk
  have ha:=jcj (jd7 hv hl hP' ts)
  simp -implicitDefEqProofs only [Kc,jal,jaw,Ka,jaj,Nat.reduceLT,Nat.reduceEqDiff,Kh,Kg,reduceIte,Ys,jak,jaf,argT,resT,setT,Y0,Int.reduceEq,Int.reduceLT,Int.reduceLE,Int.reduceNeg,mb,Nat.reduceBEq,tys,stb,Va,jab,Nat.reduceAdd,Nat.reduceLeDiff,al1,al47,ic,fo55,fo47,jaa,jae,zv47,bd47,YW,YI,jan,jai,jao,jap,jaq,jar,len1,app2,jac,jad,jah,jax,row1,jam,t0',t41,t42,t43,c1,ha]
  rw [jsc hno]
  refine jaT (jfs _ _ _) ?_ ?_
  ·rintro v σ' ⟨h,_⟩; cases h
  ·rintro v σ' ⟨h,rfl⟩; cases h; exact ⟨rfl,hF'⟩
theorem ji0 (m:Nat)(out:List (Int × Int))(i:Nat):jgc l en (m+1) out i=if 64≤out.length then .error (4,atP l en i) else
  andThen (intP l en i) fun lo j=>andThen (must l en [46,46] j) fun _ j=>andThen (intP l en j) fun hi j =>
   if sees l [44] j then jgc l en m (out++[(lo,hi)]) (j+1) else .ok (out++[(lo,hi)],j):=rfl
theorem jtK (hv:IsK lv l)(hl:l.length≤4000)(hs:jdQ l){Q:Qry}{rv:V}(hi:i≤l.length)(hP:Pc lv en (qC Q .nilsl .nilsl rv) p L i 0)(hq:QL base ts Q .nilsl .nilsl rv)(he:Q.expr=[])(hw:Q.wher=[])(hr0:Q.ranges=[]) :
  ∃ x σ',jbH env 57 [.ptr p 0] ⟨L,ts⟩=some (x,σ')∧QX lv en p base L (jqk l en Q i) x σ':=by
 refine jaW rfl rfl rfl rfl at57 rfl (by simp [Tryz.f57]) (by simp [Tryz.f57]) (jbg ?_)
 unfold jqk jcE
 simp -implicitDefEqProofs only [Tryz.f57,Kc,jal,Ka,jaj,Nat.reduceLT,Nat.reduceEqDiff,Kh,Kg,reduceIte,Ys,jak,jaf,argT,resT,setT,Y0,Int.reduceEq,Int.reduceLT,Int.reduceLE,Int.reduceNeg,mb,Nat.reduceBEq,tys,stb,Va,jab,Nat.reduceAdd,Nat.reduceLeDiff,al1,al47,ic,fo55,fo47,jaa,jae,zv47,bd47,YW,YI,jan,jai,jao,jap,jaq,jar,len1,app2,jac,jad,jah,jax,row1,jam]
 have hcx:=jof (en:=en) (ts:=ts) hv hl hP 10
 unfold jcE at hcx
 cases hn:jfN l en i with
 | error e =>
  rw [hn] at hcx
  refine jaT hcx ?_ ?_
  ·rintro v σ' ⟨h,_⟩; cases h
  ·rintro v σ' ⟨h,h2⟩; exact ⟨h,h2⟩
 | ok x =>
 obtain ⟨c,j⟩:=x
 rw [hn] at hcx
 simp only [andThen_ok] at hcx ⊢
 have hj:=jgf hn
 refine jaT hcx ?_ ?_
 rotate_left
 ·rintro v σ' ⟨h,_⟩; cases h
 rintro v ⟨L1,ts⟩ ⟨h1,hF1,hP1,rfl⟩
 cases h1
 simp only at hF1 hP1
 simp -implicitDefEqProofs only [Kc,jal,Ka,jaj,Nat.reduceLT,Nat.reduceEqDiff,Kh,Kg,reduceIte,Ys,jak,jaf,argT,resT,setT,Y0,Int.reduceEq,Int.reduceLT,Int.reduceLE,Int.reduceNeg,mb,Nat.reduceBEq,tys,stb,Va,jab,Nat.reduceAdd,Nat.reduceLeDiff,al1,al47,ic,fo55,fo47,jaa,jae,zv47,bd47,YW,YI,jan,jai,jao,jap,jaq,jar,len1,app2,jac,jad,jah,jax,row1,jam]
 have hP1':Pc lv en (qC { Q with kind:=10,column:=c,ranges:=[] } .nilsl .nilsl rv) p L1 j 0:=hP1
 have hg0:GrowV base ts 2 rv ([]:List (Int × Int)).length (jhR []):=by have:=hq.r; rw [hr0] at this; exact this
 refine jhj (fun m T D σ=>D=[]∧T 0=.ptr p 0∧∃ (out:List (Int × Int)) (i':Nat) (L':List AObj) (ts':List Nat) (rv':V),σ=⟨L',ts'⟩∧Fr p L L'∧Pc lv en (qC { Q with kind:=10,column:=c,ranges:=out } .nilsl .nilsl rv') p L' i' 0∧GrowV base ts' 2 rv' out.length (jhR out)∧base≤ts'.length∧i'≤l.length∧m+out.length=65∧out.length≤64 ∧
  jgc l en 65 [] j=jgc l en m out i') ?_ 65 _ _ _ ⟨rfl,rfl,[],j,L1,_,rv,rfl,hF1,hP1',hg0,hq.b,hj,rfl,by simp,rfl⟩
 rintro m T D σ ⟨rfl,t0,out,i',L',ts',rv',rfl,hF',hP',hG',hb',hi',hmo,ho64,hR⟩
 rw [hR]
 cases m with
 | zero=>omega
 | succ m =>
 rw [ji0]
 have hc:L'[p]? = some (pcL lv en (qC { Q with kind:=10,column:=c,ranges:=out } .nilsl .nilsl rv') i' 0):=hP'
 have hlen:=hG'.len 73
 by_cases h64:64≤out.length
 ·have h2:=eq_true (show (64:Int)≤(out.length:Int) by omega)
  have ha:=jcj (jd7 hv hl hP' ts')
  simp -implicitDefEqProofs only [Kc,jal,Ka,jaj,Nat.reduceLT,Nat.reduceEqDiff,Kh,Kg,reduceIte,Ys,jak,jaf,argT,resT,setT,Y0,Int.reduceEq,Int.reduceLT,Int.reduceLE,Int.reduceNeg,mb,Nat.reduceBEq,tys,stb,Va,jab,Nat.reduceAdd,Nat.reduceLeDiff,al1,al47,ic,fo55,fo47,jaa,jae,zv47,bd47,YW,YI,jan,jai,jao,jap,jaq,jar,len1,app2,jac,jad,jah,jax,row1,jam,fo29,t0,hc,ld_q,hlen,u26,s26,al26,h2,ha]
  rw [Kp h64]
  refine jaT (jfs _ _ _) ?_ ?_
  ·rintro v σ' ⟨h,_⟩; cases h
  ·rintro v σ' ⟨h,rfl⟩; cases h; exact ⟨rfl,hF'⟩
 ·have h2:=eq_false (show ¬ (64:Int)≤(out.length:Int) by omega)
  simp only [Kq h64]
  simp -implicitDefEqProofs only [Kc,jal,Ka,jaj,Nat.reduceLT,Nat.reduceEqDiff,Kh,Kg,reduceIte,Ys,jak,jaf,argT,resT,setT,Y0,Int.reduceEq,Int.reduceLT,Int.reduceLE,Int.reduceNeg,mb,Nat.reduceBEq,tys,stb,Va,jab,Nat.reduceAdd,Nat.reduceLeDiff,al1,al47,ic,fo55,fo47,jaa,jae,zv47,bd47,YW,YI,jan,jai,jao,jap,jaq,jar,len1,app2,jac,jad,jah,jax,row1,jam,fo29,t0,hc,ld_q,hlen,u26,s26,al26,h2]
  refine jcX (jqP hv hl hs hi' hP' ts') ?_ ?_
  ·intro e he L2 hF2
   simp only [he]; exact ⟨rfl,hF'.tr hF2⟩
  intro lo j1 h1 L2 hF2' hP2
  have hF2:=hF'.tr hF2'
  have hi2:=jiZ h1
  simp only [h1,andThen_ok]
  simp -implicitDefEqProofs only [Kc,jal,Ka,jaj,Nat.reduceLT,Nat.reduceEqDiff,Kh,Kg,reduceIte,Ys,jak,jaf,argT,resT,setT,Y0,Int.reduceEq,Int.reduceLT,Int.reduceLE,Int.reduceNeg,mb,Nat.reduceBEq,tys,stb,Va,jab,Nat.reduceAdd,Nat.reduceLeDiff,al1,al47,ic,fo55,fo47,jaa,jae,zv47,bd47,YW,YI,jan,jai,jao,jap,jaq,jar,len1,app2,jac,jad,jah,jax,row1,jam,t0]
  refine jcX (jdg hv hl hi2 hP2 ts' [46,46]) ?_ ?_
  ·intro e he L3 hF3
   simp only [he]; exact ⟨rfl,hF2.tr hF3⟩
  intro _ j2 h3 L3 hF3' hP3
  have hF3:=hF2.tr hF3'
  have hi3:=jcY h3
  simp only [h3,andThen_ok]
  simp -implicitDefEqProofs only [Kc,jal,Ka,jaj,Nat.reduceLT,Nat.reduceEqDiff,Kh,Kg,reduceIte,Ys,jak,jaf,argT,resT,setT,Y0,Int.reduceEq,Int.reduceLT,Int.reduceLE,Int.reduceNeg,mb,Nat.reduceBEq,tys,stb,Va,jab,Nat.reduceAdd,Nat.reduceLeDiff,al1,al47,ic,fo55,fo47,jaa,jae,zv47,bd47,YW,YI,jan,jai,jao,jap,jaq,jar,len1,app2,jac,jad,jah,jax,row1,jam,t0]
  refine d57 (Q:={ Q with kind:=10,column:=c,ranges:=out }) (ev:=.nilsl) (wv:=.nilsl) (rv:=rv') (lo:=lo) (r:=intP l en j2) ?_ ?_ hP3 hG' hb' (by show out.length≤100; omega) (jqP hv hl hs hi3 hP3 ts') ?_ ?_
  ·exact t0
  ·rfl
  ·intro n j3 h4 T' L4 t4 rv4 T0 hF4' hP4 hG4 hb4
   have hF4:=hF3.tr hF4'
   have hi4:=jiZ h4
   have t0':T' 0=.ptr p 0:=by rw [T0]; exact t0
   simp only [h4,andThen_ok]
   simp -implicitDefEqProofs only [Kc,jb2 7,jaw,Ka,jaj,Nat.reduceLT,Nat.reduceEqDiff,Kh,Kg,reduceIte,Ys,jak,jaf,argT,resT,setT,Y0,Int.reduceEq,Int.reduceLT,Int.reduceLE,Int.reduceNeg,mb,Nat.reduceBEq,tys,stb,Va,jab,Nat.reduceAdd,Nat.reduceLeDiff,al1,al47,ic,fo55,fo47,jaa,jae,zv47,bd47,YW,YI,jan,jai,jao,jap,jaq,jar,len1,app2,jac,jad,jah,jax,row1,jam,t0']
   refine jcg (je0 hv hl hi4 hP4 t4 [44]) ?_
   rintro _ ⟨L5,t4⟩ ⟨rfl,hF5',hP5,rfl⟩
   have hF5:=hF4.tr hF5'
   simp only at hF5 hP5
   cases hs5:sees l [44] j3
   ·rw [hs5] at hP5
    simp only [Kk,Kg] at hP5
    simp -implicitDefEqProofs only [Kc,jb2 7,jaw,Ka,jaj,Nat.reduceLT,Nat.reduceEqDiff,Kh,Kg,reduceIte,Ys,jak,jaf,argT,resT,setT,Y0,Int.reduceEq,Int.reduceLT,Int.reduceLE,Int.reduceNeg,mb,Nat.reduceBEq,tys,stb,Va,jab,Nat.reduceAdd,Nat.reduceLeDiff,al1,al47,ic,fo55,fo47,jaa,jae,zv47,bd47,YW,YI,jan,jai,jao,jap,jaq,jar,len1,app2,jac,jad,jah,jax,row1,jam,t0',andThen_ok]
    refine bat7 (Q:={ Q with kind:=10,column:=c,ranges:=out++[(lo,n)] }) hv hl hi4 hF5 hP5 ⟨?_,?_,hG4,hb4⟩ ?_ ?_
    ·show GrowV base _ 3 .nilsl Q.expr.length (jcp Q.expr); rw [he]; exact .nil
    ·show GrowV base _ 3 .nilsl Q.wher.length (jcp Q.wher); rw [hw]; exact .nil
    ·exact t0'
    ·rfl
   ·rw [hs5] at hP5
    simp only [Kh] at hP5
    simp -implicitDefEqProofs only [Kc,jb2 7,jaw,Ka,jaj,Nat.reduceLT,Nat.reduceEqDiff,Kh,Kg,reduceIte,Ys,jak,jaf,argT,resT,setT,Y0,Int.reduceEq,Int.reduceLT,Int.reduceLE,Int.reduceNeg,mb,Nat.reduceBEq,tys,stb,Va,jab,Nat.reduceAdd,Nat.reduceLeDiff,al1,al47,ic,fo55,fo47,jaa,jae,zv47,bd47,YW,YI,jan,jai,jao,jap,jaq,jar,len1,app2,jac,jad,jah,jax,row1,jam,t0']
    refine ⟨m,by omega,out++[(lo,n)],j3+1,L5,t4,rv4,rfl,hF5,hP5,hG4,hb4,jb7 hs5,?_,?_,?_⟩
    ·simp only [Ks,K0,K6]; omega
    ·simp only [Ks,K0,K6]; omega
    ·rfl
  ·intro e he L4 hF4
   simp only [he]; exact ⟨trivial,rfl,hF3.tr hF4⟩
end
def AP {α:Type}(P:α→Nat→Prop)(r:R α):Prop:=match r with
 | .ok (a,j)=>P a j
 | .error _=>True
theorem AP.andThen {α β:Type}{P:α→Nat→Prop}{Q:β→Nat→Prop}{x:R α}{f:α→Nat→R β}(h:AP P x)(hf:∀ a j,P a j→AP Q (f a j)):AP Q (PP.andThen x f):=by
 match x,h with
 | .ok (a,j),h=>exact hf a j h
 | .error e,h=>trivial
theorem AP.of {α:Type}{P:α→Nat→Prop}{x:R α}(h:∀ a j,x=.ok (a,j)→P a j):AP P x:=by
 match x,h with
 | .ok (a,j),h=>exact h a j rfl
 | .error e,h=>trivial
section
variable {l:List Tk}{en:Int}{i:Nat}
def joS (l:List Tk)(Q:Qry)(j:Nat):Prop:=j≤l.length∧Q.consistent=false
theorem jd9 (s:List UInt8)(i:Nat):AP (fun _ j=>j≤l.length) (must l en s i):=AP.of fun _ _ h=>jcY h
theorem jhr (i:Nat):AP (fun _ j=>j≤l.length) (jfN l en i):=AP.of fun _ _ h=>jgf h
theorem jsS (i:Nat):AP (fun _ j=>j≤l.length) (numP l en i):=AP.of fun _ _ h=>jhK h
theorem jlY (i:Nat):AP (fun _ j=>j≤l.length) (intP l en i):=AP.of fun _ _ h=>jiZ h
theorem jsT (i:Nat):AP (fun _ j=>j≤l.length) (posP l en i):=AP.of fun _ _ h=>jog h
theorem jsU (sy:Sy)(i:Nat):AP (fun _ j=>j≤l.length) (jek l en sy i):=AP.of fun _ _ h=>(jqV h).1
theorem ji1 {k:Int}{Q:Qry}(hc:Q.consistent=false)(i:Nat):AP (joS l) (jeZ l en k Q i) :=
 (jsU _ _).andThen fun _ _ _=>(jd9 _ _).andThen fun _ _ _=>(jlY _).andThen fun _ _ _=>(jd9 _ _).andThen fun _ _ _=>(jlY _).andThen fun _ _ h=>⟨h,hc⟩
theorem jeH {k:Int}{Q:Qry}(hc:Q.consistent=false)(i:Nat):AP (joS l) (jcE l en k Q i):=(jhr _).andThen fun _ _ h=>⟨h,hc⟩
theorem jlZ:∀ (m:Nat) (out:List (Int × Int)) (i:Nat),AP (fun _ j=>j≤l.length) (jgc l en m out i)
 | 0,out,i=>trivial
 | m+1,out,i=>by
  rw [ji0]
  split
  ·trivial
  ·refine (jlY _).andThen fun _ _ _=>(jd9 _ _).andThen fun _ _ _=>(jlY _).andThen fun _ j h => ?_
   split
   ·exact jlZ m _ _
   ·exact h
theorem jsd (i:Nat):AP (fun _ j=>j≤l.length) (jdE l en i):=by
 unfold jdE
 split
 ·rename_i h; exact jb7 h
 ·split
  ·rename_i h; exact jb7 h
  ·split
   ·rename_i h; exact jb7 h
   ·trivial
theorem jse (k:Int){Q:Qry}(hc:Q.consistent=false)(hi:i≤l.length):AP (joS l) (jky l en k Q i):=by
 unfold jky
 repeat' split
 ·exact ⟨hi,hc⟩
 ·exact ji1 hc i
 ·exact jeH hc i
 ·exact (ji1 hc i).andThen fun Q' _ h=>(jd9 _ _).andThen fun _ _ _=>(jhr _).andThen fun _ _ h2=>⟨h2,h.2⟩
 ·exact (jsS _).andThen fun _ _ _=>(jd9 _ _).andThen fun _ _ _=>(jsS _).andThen fun _ _ _=>(jd9 _ _).andThen fun _ j _=>ji1 (by exact hc) j
 ·exact jeH hc i
 ·exact (jlY _).andThen fun _ j _=>jeH (by exact hc) j
 ·exact jeH hc i
 ·exact jeH hc i
 ·exact (jeH hc i).andThen fun Q' _ h=>(jlZ _ _ _).andThen fun _ _ _=>(jd9 _ _).andThen fun _ _ _=>(jsd _).andThen fun _ _ h2=>⟨h2,h.2⟩
theorem jqZ {Q:Qry}(hc:Q.consistent=false)(i:Nat):AP (joS l) (jd5 l en Q i):=by
 unfold jd5
 refine (jd9 _ _).andThen fun _ _ _=>(jhr _).andThen fun t j hj => ?_
 have hk:AP (joS l) (jrx l en { Q with table:=t } j):=by
  unfold jrx
  split
  ·exact (jsT _).andThen fun _ _ h=>⟨h,hc⟩
  ·exact ⟨hj,hc⟩
 refine hk.andThen fun Q1 j1 h1 => ?_
 have hjn:AP (joS l) (joF l en Q1 j1):=by
  unfold joF
  split
  ·exact (jhr _).andThen fun _ _ _=>(jd9 _ _).andThen fun _ _ _=>(jhr _).andThen fun _ _ _=>(jd9 _ _).andThen fun _ _ _=>(jhr _).andThen fun _ _ _=>(jd9 _ _).andThen fun _ _ _=>(jsT _).andThen fun _ _ h=>⟨h,h1.2⟩
  ·exact h1
 refine hjn.andThen fun Q2 j2 h2 => ?_
 unfold jiL
 split
 ·exact (jsU _ _).andThen fun _ _ h=>⟨h,h2.2⟩
 ·exact h2
end
theorem at24:env.P.funcs[24]? = some Tryz.f24:=by kernel_rfl
theorem u60:env.P.underlying 60=some (.map 9 58):=by kernel_rfl
theorem z58:jbV env 58=some .nilfn:=by kernel_rfl
theorem jwC (L:List AObj)(ts:List Nat):newO env 60 ⟨L,ts⟩=some (.map L.length,⟨L++[.map [] 0],ts⟩):=by unfold newO; rw [u60]; rfl
theorem insK {L:List AObj}{ts:List Nat}{k:List UInt8}{v:V}{es:List (V × V × Nat)}{c:Nat}(hf:jcx env 9 (.str k) es 0=some none) :
  insO env 60 (.map L.length) (.str k) v ⟨L++[.map es c],ts⟩=some (.tup [],⟨L++[.map (es++[(.str k,v,c)]) (c+1)],ts⟩):=by
 unfold insO
 simp only [u60,jan,jgB u9,Kh,hf,S.set,jai]
def jnc:List (List UInt8 × V):=jel.map fun p=>(p.1,.func (47+p.2.toNat) [] [])
def kE (n:Nat):List (V × V × Nat):=mapS (jnc.take n) 0
theorem jje {L:List AObj}{ts:List Nat}(k:List UInt8)(v:V)(n:Nat)(h:jnc[n]? = some (k,v))(hf:jcx env 9 (.str k) (kE n) 0=some none)(hl:n≤jnc.length) :
  insO env 60 (.map L.length) (.str k) v ⟨L++[.map (kE n) n],ts⟩=some (.tup [],⟨L++[.map (kE (n+1)) (n+1)],ts⟩):=by
 rw [insK hf]
 have e:jnc.take (n+1)=jnc.take n++[(k,v)]:=by
  obtain ⟨h1,h2⟩:=Kv.1 h
  rw [← h2,List.take_append_getElem h1]
 unfold kE
 rw [e,jnA,K4,Qh,Jx hl]
theorem joT (L:List AObj)(ts:List Nat):jaC env (ev env) 24 [] ⟨L,ts⟩=some (.map L.length,⟨L++[.map (kE 10) 10],ts⟩):=by
 refine jbE rfl rfl at24 rfl (by simp [Tryz.f24]) (by simp [Tryz.f24]) (jaE ?_)
 have h0:([]:List (V × V × Nat))=kE 0:=rfl
 have i0:=jje (L:=L) (ts:=ts) [99,111,117,110,116] (.func 48 [] []) 0 rfl (by kernel_rfl) (by decide)
 have i1:=jje (L:=L) (ts:=ts) [115,117,109] (.func 49 [] []) 1 rfl (by kernel_rfl) (by decide)
 have i2:=jje (L:=L) (ts:=ts) [104,105,115,116,111,103,114,97,109] (.func 50 [] []) 2 rfl (by kernel_rfl) (by decide)
 have i3:=jje (L:=L) (ts:=ts) [116,111,116,97,108] (.func 51 [] []) 3 rfl (by kernel_rfl) (by decide)
 have i4:=jje (L:=L) (ts:=ts) [113,117,97,110,116,105,108,101] (.func 52 [] []) 4 rfl (by kernel_rfl) (by decide)
 have i5:=jje (L:=L) (ts:=ts) [109,111,100,101] (.func 53 [] []) 5 rfl (by kernel_rfl) (by decide)
 have i6:=jje (L:=L) (ts:=ts) [97,98,111,118,101] (.func 54 [] []) 6 rfl (by kernel_rfl) (by decide)
 have i7:=jje (L:=L) (ts:=ts) [112,101,97,107] (.func 55 [] []) 7 rfl (by kernel_rfl) (by decide)
 have i8:=jje (L:=L) (ts:=ts) [114,117,110,110,105,110,103] (.func 56 [] []) 8 rfl (by kernel_rfl) (by decide)
 have i9:=jje (L:=L) (ts:=ts) [98,97,116,99,104] (.func 57 [] []) 9 rfl (by kernel_rfl) (by decide)
 simp -implicitDefEqProofs only [Tryz.f24,Kb,jaj,Nat.reduceLT,Nat.reduceEqDiff,Kh,Kg,reduceIte,Ys,jak,jaf,argT,resT,setT,Y0,Int.reduceEq,Int.reduceLT,Int.reduceLE,Int.reduceNeg,mb,Nat.reduceBEq,tys,stb,Va,jab,Nat.reduceAdd,Nat.reduceLeDiff,jfF,jfG,jwC,h0,i0,i1,i2,i3,i4,i5,i6,i7,i8,i9,Nat.reduceAdd]
 exact ⟨rfl,trivial⟩
theorem jtL {L:List AObj}{ts:List Nat}{b:Nat}(h:L[b]? = some (.map (kE 10) 10))(s:List UInt8) :
  jln env 60 true (.map b) (.str s) ⟨L,ts⟩=some (match PP.look jel s with | some k=>.tup [.func (47+k.toNat) [] [],.bool true] | none=>.tup [.nilfn,.bool false]):=by
 have h':L[b]? = some (.map (mapS jnc 0) 10):=h
 rw [jkw u9 u60 z58 h' s]
 have hk:∀ ks:Lvl,((ks.map fun p=>(p.1,V.func (47+p.2.toNat) [] [])).find? fun p=>p.1 == s)=(ks.find? fun p=>p.1=s).map fun p=>(p.1,V.func (47+p.2.toNat) [] []):=by
  intro ks
  induction ks with
  | nil=>rfl
  | cons a r ih =>
   simp only [Je,List.find?_cons]
   by_cases h:a.1=s
   ·simp [h]
   ·have:(a.1 == s)=false:=by simpa using h
    simp [h,this,ih]
 unfold jnc PP.look
 rw [hk]
 cases jel.find? fun p=>p.1=s <;> rfl
theorem jvi {lv:V}{en:Int}{p base:Nat}{l:List Tk}{L:List AObj}{ts:List Nat}{i:Nat}(hv:IsK lv l)(hl:l.length≤4000)(hs:jdQ l)(hi:i≤l.length)(hP:Pc lv en (qC Qry.zero .nilsl .nilsl .nilsl) p L i 0)(hb:base≤ts.length){k:Int}(hk:1≤k∧k≤10) :
  ∃ x σ',jbH env (47+k.toNat) [.ptr p 0] ⟨L,ts⟩=some (x,σ')∧QX lv en p base L (jky l en k Qry.zero i) x σ':=by
 have hq:QL base ts Qry.zero .nilsl .nilsl .nilsl:=⟨.nil,.nil,.nil,hb⟩
 have c:k=1∨k=2∨k=3∨k=4∨k=5∨k=6∨k=7∨k=8∨k=9∨k=10:=by omega
 rcases c with rfl | rfl | rfl | rfl | rfl | rfl | rfl | rfl | rfl | rfl
 ·exact jtI hv hl hs hi hP hq
 ·exact jwy hv hl hs hi hP hq
 ·exact jnb hv hl hs hi hP hq
 ·exact jtG hv hl hs hi hP hq
 ·exact joR hv hl hs hi hP hq
 ·exact ju9 hv hl hs hi hP hq
 ·exact jtH hv hl hs hi hP hq
 ·exact jva hv hl hs hi hP hq
 ·exact jqX hv hl hs hi hP hq
 ·exact jtK hv hl hs hi hP hq rfl rfl rfl
theorem at22:env.P.funcs[22]? = some Tryz.f22:=by kernel_rfl
theorem n22:Tryz.f22.ntmps=17:=rfl
theorem u20:env.P.underlying 20=some (.interface #[]):=by kernel_rfl
theorem jvj (a b v:V):Rep 17 (argT [a,b,v,.tup [],.tup [],v]) (([a,b,v,.tup [],.tup [],v]:List V)++List.replicate 11 (V.tup [])):=Rep.args [a,b,v,.tup [],.tup [],v] 17 (by simp)
theorem z51:jbV env 51=some (.agg [.int .i64 0,.int .i64 0]):=by kernel_rfl
theorem s51:sz env 51=some 2:=by kernel_rfl
theorem s29:sz env 29=some 20:=by kernel_rfl
theorem s32:sz env 32=some 2:=by kernel_rfl
theorem bd29:jcC env 29 []=some (.agg (qC Qry.zero .nilsl .nilsl .nilsl)):=by kernel_rfl
theorem jvk:jgW env 51 true .nilif=some (.tup [.agg [.int .i64 0,.int .i64 0],.bool false]):=by kernel_rfl
theorem jvl (e:Fl):jgW env 51 true (flt e)=some (.tup [.agg [.int .i64 e.1,.int .i64 e.2],.bool true]):=by kernel_rfl
theorem al51 (h:List AObj)(p:V):jbC env h 51 p=(jas h 2 p).map .agg:=by
 have g:Go.Ab.aggT env 51=some true:=by kernel_rfl
 unfold jbC
 simp only [g,s51,Ko]
theorem jl0 (a b:V)(L:List AObj)(ts:List Nat):ev env (.dcall 22 [a,b] none ⟨L,ts⟩)=some ⟨.ret,[.bool false],[],⟨L++[.cells [.int .i64 0,.int .i64 0] 51],ts⟩⟩:=by
 exact jnz (E:=env) (pv:=none) (σ:=⟨L,ts⟩) (σ1:=⟨L,ts⟩) (args:=[a,b]) (rc:=some none) (tmps1:=([a,b,.nilif,.tup [],.tup [],.nilif]:List V)++List.replicate 11 (V.tup [])) at22 rfl (by simp [Tryz.f22]) (by
  simp [n22,jc5,Region.wanted,opV,jbh,jbm,jbt,opP,opD,jfM,ja5,jbn,putT,List.range,List.range.loop]) (jvj a b .nilif) rfl (by
  simp -implicitDefEqProofs only [n22,Kb,jaj,Nat.reduceLT,Nat.reduceEqDiff,Kh,Kg,reduceIte,Ys,jak,jaf,argT,resT,setT,Y0,Int.reduceEq,Int.reduceLT,Int.reduceLE,Int.reduceNeg,mb,Nat.reduceBEq,tys,stb,Va,jab,Nat.reduceAdd,Nat.reduceLeDiff,al1,al47,ic,fo55,fo47,jaa,jae,zv47,bd47,YW,YI,jan,jai,jao,jap,jaq,jar,len1,app2,jac,jad,jah,jax,row1,jam,jfU,jvk,z51,s51,jbB,jcD u20,Xc])
theorem jl1 {L:List AObj}{ts:List Nat}{a b:Nat}{c0 c1:List V}(e:Fl)(ha:L[a]? = some (.cells c0 29))(hl0:c0.length=20)(hb:L[b]? = some (.cells c1 32))(hl1:c1.length=2)(hab:a ≠ b) :
  ev env (.dcall 22 [.ptr a 0,.ptr b 0] (some (flt e)) ⟨L,ts⟩)=some ⟨.ret,[.bool true],[],⟨((L++[AObj.cells [.int .i64 e.1,.int .i64 e.2] 51]).set a (.cells (qC Qry.zero .nilsl .nilsl .nilsl) 29)).set b (.cells [.int .i64 e.1,.int .i64 e.2] 32),ts⟩⟩:=by
 have hla:=ja3 ha
 have hlb:=ja3 hb
 have g0:(L++[AObj.cells [.int .i64 e.1,.int .i64 e.2] 51])[L.length]? = some (.cells [.int .i64 e.1,.int .i64 e.2] 51):=by simp
 have g1:(L++[AObj.cells [.int .i64 e.1,.int .i64 e.2] 51])[a]? = some (.cells c0 29):=jbU ha _
 have g2:((L++[AObj.cells [.int .i64 e.1,.int .i64 e.2] 51]).set a (.cells (qC Qry.zero .nilsl .nilsl .nilsl) 29))[b]? = some (.cells c1 32):=by rw [Kl hab]; exact jbU hb _
 have g3:((L++[AObj.cells [.int .i64 e.1,.int .i64 e.2] 51]).set a (.cells (qC Qry.zero .nilsl .nilsl .nilsl) 29))[L.length]? = some (.cells [.int .i64 e.1,.int .i64 e.2] 51):=by rw [Kl (by omega)]; exact g0
 have g4:(((L++[AObj.cells [.int .i64 e.1,.int .i64 e.2] 51]).set a (.cells (qC Qry.zero .nilsl .nilsl .nilsl) 29)).set b (.cells [.int .i64 e.1,.int .i64 e.2] 32))[L.length]? = some (.cells [.int .i64 e.1,.int .i64 e.2] 51):=by rw [Kl (by omega)]; exact g3
 have ld:∀ H:List AObj,H[L.length]? = some (.cells [.int .i64 e.1,.int .i64 e.2] 51)→jas H 2 (.ptr L.length 0)=some [.int .i64 e.1,.int .i64 e.2]:=fun H h=>by simp [jas,h]
 have st1:∀ H:List AObj,storeAt ⟨H,ts⟩ (qC Qry.zero .nilsl .nilsl .nilsl) a 0 (some (.cells c0 29))=some ⟨H.set a (.cells (qC Qry.zero .nilsl .nilsl .nilsl) 29),ts⟩:=fun H=>by
  unfold storeAt
  simp only
  rw [Kp ⟨by rw [hl0]; exact Qi rfl,rfl⟩]
  have:jab c0 0 (qC Qry.zero .nilsl .nilsl .nilsl)=qC Qry.zero .nilsl .nilsl .nilsl:=by
   unfold jab
   rw [Jq (by rw [hl0]; exact Qi rfl)]
   simp
  rw [this]; rfl
 have st2:∀ H:List AObj,storeAt ⟨H,ts⟩ [.int .i64 e.1,.int .i64 e.2] b 0 (some (.cells c1 32))=some ⟨H.set b (.cells [.int .i64 e.1,.int .i64 e.2] 32),ts⟩:=fun H=>by
  unfold storeAt
  simp only
  rw [Kp ⟨by rw [hl1]; exact Qi rfl,rfl⟩]
  have:jab c1 0 [.int .i64 e.1,.int .i64 e.2]=[.int .i64 e.1,.int .i64 e.2]:=by
   unfold jab
   rw [Jq (by rw [hl1]; exact Qi rfl)]
   simp
  rw [this]; rfl
 have hq20:(qC Qry.zero .nilsl .nilsl .nilsl).length=20:=rfl
 exact jnz (E:=env) (pv:=some (flt e)) (σ:=⟨L,ts⟩) (σ1:=⟨L,ts⟩) (args:=[.ptr a 0,.ptr b 0]) (rc:=some none) (tmps1:=([.ptr a 0,.ptr b 0,flt e,.tup [],.tup [],flt e]:List V)++List.replicate 11 (V.tup [])) at22 rfl (by simp [Tryz.f22]) (by
  simp [n22,jc5,Region.wanted,opV,jbh,jbm,jbt,opP,opD,jfM,ja5,jbn,putT,List.range,List.range.loop]) (jvj _ _ (flt e)) rfl (by
  simp -implicitDefEqProofs only [n22,Kd,jaj,Nat.reduceLT,Nat.reduceEqDiff,Kh,Kg,reduceIte,Ys,jak,jaf,argT,resT,setT,Y0,Int.reduceEq,Int.reduceLT,Int.reduceLE,Int.reduceNeg,mb,Nat.reduceBEq,tys,stb,Va,jab,Nat.reduceAdd,Nat.reduceLeDiff,al1,al47,ic,fo55,fo47,jaa,jae,zv47,bd47,YW,YI,jan,jai,jao,jap,jaq,jar,len1,app2,jac,jad,jah,jax,row1,jam,jfU,jvl,z51,s51,jbB]
  refine jpu rfl (fun s=>s.heap[L.length]? = some (.cells [.int .i64 e.1,.int .i64 e.2] 51)) g0 (by kernel_rfl) ?_
  simp -implicitDefEqProofs only [n22,Kb,jaj,Nat.reduceLT,Nat.reduceEqDiff,Kh,Kg,reduceIte,Ys,jak,jaf,argT,resT,setT,Y0,Int.reduceEq,Int.reduceLT,Int.reduceLE,Int.reduceNeg,mb,Nat.reduceBEq,tys,stb,Va,jab,Nat.reduceAdd,Nat.reduceLeDiff,al1,al47,ic,fo55,fo47,jaa,jae,zv47,bd47,YW,YI,jan,jai,jao,jap,jaq,jar,len1,app2,jac,jad,jah,jax,row1,jam,hhWa,hhWb,hhWc,hhWd,bd29,s29,s32,s51,al51,ld _ g0,g1,g2,g3,st1,st2,hq20]
  exact ⟨fun s h=>by rw [ld _ h]; rfl,g4,trivial⟩)
theorem jjf {E:Env}{f:FuncId}{args:List V}{v v':V}{σ':S}(hp:E.pure f=true)(hk:E.hook f=none)(hc:args.all V.closed=true)(h:Go.Ab.ev E (.call f args S.empty)=some ⟨.ret,[v],[],σ'⟩)(hs:jbu σ'.heap jaB v=some v')(σ:S):jaC E (Go.Ab.ev E) f args σ=some (v',σ):=by
 unfold jaC
 simp only [hk,hp,jfl hc,hc,h,hs,Kh,Kz]
theorem jcR {E:Env}{fn:FuncId}{rnd:Option Nat}{n:Nat}{X:V→List V→List DE→S→Prop}{T:Tm}{D:List DE}{σ:S}{Q:Post}{a b:Code}(h:G E fn rnd n ⟨fun T D σ=>wpP E fn rnd n X b T D σ Q,Q.exit,Q.ret⟩ [] a T D σ):wpP E fn rnd n X (.seq a b) T D σ Q:=jga (joC h)
theorem joU {E:Env}{fn:FuncId}{n:Nat}{X:V→List V→List DE→S→Prop}{id:Nat}{g:FuncId}{d:Nat}{cs:Array Operand}{caps:List V}{ty ty2:TypeId}{ps ps2:String}{af af2:Array Edge}{T:Tm}{D:List DE}{σ:S}{Q:Post}(hc:jbn (jaj E T) cs.toList=some caps)(hd:d<n)
  (h:Q.norm (upd T d (.func g [] caps)) (.call g caps::D) σ):wpP E fn none n X (.region id #[⟨some d,.makeFunc (.func g) #[] cs,ty,ps,af,none⟩,⟨none,.defer ⟨.value (.tmp d),#[],#[]⟩,ty2,ps2,af2,none⟩] false) T D σ Q:=fun tmps hr=>by
 refine ⟨⟨.normal,tmps.set d (.func g [] caps),.call g caps::D,σ⟩,?_,_,hr.upd hd _,h⟩
 have h1:opV E (Go.Ab.ev E) (E.mutb fn id) tmps σ (.makeFunc (.func g) #[] cs)=some (.func g [] caps,σ):=by
  rw [← jiv E hr,YP,hc]; rfl
 have hl:d<tmps.length:=by rw [hr.1]; exact hd
 have h2:ja5 E (tmps.set d (.func g [] caps)) (.tmp d)=some (.func g [] caps):=by simp [ja5,hl]
 have h3:∀ t:List V,opV E (Go.Ab.ev E) (E.mutb fn id) t σ (.defer ⟨.value (.tmp d),#[],#[]⟩)=none:=fun t=>by simp [opV,jbh,jbm,jbt]
 simp [jbb,XR.res,jc5,Region.wanted,h1,h2,h3,opP,opD,jbn,putT,List.range,List.range.loop]
def RowU (v:V)(n:Nat)(cs:List V):Prop:=(v=.nilsl∧n=0∧cs=[])∨v=.row cs n .unk
def PV (r:Except Fl Qry)(v:V):Prop :=
 match r with
 | .ok Q=>∃ ev wv rv,v=.tup [.agg (qC Q ev wv rv),.agg [.int .i64 0,.int .i64 0]]∧RowU ev Q.expr.length (jcp Q.expr)∧RowU wv Q.wher.length (jcp Q.wher)∧RowU rv Q.ranges.length (jhR Q.ranges)
 | .error e=>v=.tup [.agg (qC Qry.zero .nilsl .nilsl .nilsl),.agg [.int .i64 e.1,.int .i64 e.2]]
def KP (r:Except Fl Qry)(v:V)(σ:S):Prop:=∃ v',jbu σ.heap jaB v=some v'∧PV r v'
theorem jjZ {h:List AObj}{d:Nat}{cs:List V}(hc:∀ v∈cs,(∃ k n,v=.int k n)∨∃ s,v=.str s):cs.mapM (jbu h (d+1))=some cs :=
 jfT h (d+1) cs fun v hv=>by
  rcases hc v hv with ⟨k,n,rfl⟩ | ⟨s,rfl⟩ <;> rfl
theorem ji2 {h:List AObj}{d base w n:Nat}{ts:List Nat}{v:V}{cs:List V}(g:GrowV base ts w v n cs)(hc:∀ v∈cs,(∃ k n,v=.int k n)∨∃ s,v=.str s):∃ v',jbu h (d+2) v=some v'∧RowU v' n cs:=by
 cases g with
 | nil=>exact ⟨_,rfl,.inl ⟨rfl,rfl,rfl⟩⟩
 | full _ _ hl=>exact ⟨.row cs n .unk,by rw [jiw,jjZ hc]; rfl,.inr rfl⟩
 | tok _ _ k e hl hb ht=>exact ⟨.row cs n .unk,by rw [jiw,jjZ hc]; rfl,.inr rfl⟩
theorem ji3 (l:List Nd):∀ v∈jcp l,(∃ k n,v=.int k n)∨∃ s,v=.str s:=by
 intro v hv
 simp only [jcp,Vy,Xm] at hv
 obtain ⟨_,⟨x,_,rfl⟩,h⟩:=hv
 simp only [jco,Jb,Xi,or_false] at h
 rcases h with rfl | rfl | rfl
 ·exact .inl ⟨_,_,rfl⟩
 ·exact .inl ⟨_,_,rfl⟩
 ·exact .inr ⟨_,rfl⟩
theorem jnd (l:List (Int × Int)):∀ v∈jhR l,(∃ k n,v=.int k n)∨∃ s,v=.str s:=by
 intro v hv
 simp only [jhR,Vy,Xm] at hv
 obtain ⟨_,⟨x,_,rfl⟩,h⟩:=hv
 simp only [Jb,Xi,or_false] at h
 rcases h with rfl | rfl
 ·exact .inl ⟨_,_,rfl⟩
 ·exact .inl ⟨_,_,rfl⟩
theorem jwD {Q:Qry}{ev wv rv:V}{base:Nat}{ts:List Nat}{h:List AObj}{t2:List Nat}(hq:QL base ts Q ev wv rv):KP (.ok Q) (.tup [.agg (qC Q ev wv rv),.agg [.int .i64 0,.int .i64 0]]) ⟨h,t2⟩:=by
 obtain ⟨e',he,re⟩:=ji2 (h:=h) (d:=8) hq.e (ji3 _)
 obtain ⟨w',hw,rw'⟩:=ji2 (h:=h) (d:=8) hq.w (ji3 _)
 obtain ⟨r',hr,rr⟩:=ji2 (h:=h) (d:=8) hq.r (jnd _)
 refine ⟨.tup [.agg (qC Q e' w' r'),.agg [.int .i64 0,.int .i64 0]],?_,e',w',r',rfl,re,rw',rr⟩
 simp only [jaB,jbf,jcN,jaD,jaR,ja1,jcm,jbl,qC,he,hw,hr,Ko,Kz]
theorem jvm {e:Fl}{h:List AObj}{t2:List Nat}:KP (.error e) (.tup [.agg (qC Qry.zero .nilsl .nilsl .nilsl),.agg [.int .i64 e.1,.int .i64 e.2]]) ⟨h,t2⟩ :=
 ⟨_,by simp only [jaB,jbf,jcN,jaD,jaR,ja1,jcm,jbl,jmI,qC,Ko,Kz],rfl⟩
theorem at10:env.P.funcs[10]? = some Tryz.f10:=by kernel_rfl
noncomputable def p10 (i:Nat):Code:=hdC (jbi i (jaA Tryz.f10))
theorem jvn:Tryz.f10.body=some (.seq (p10 0) (.seq (p10 1) (.seq (p10 2) (.seq (p10 3) (.seq (p10 4) (.seq (p10 5) (.seq (p10 6) (.seq (p10 7) (.seq (p10 8) (.seq (p10 9) (.seq (p10 10) (.seq (p10 11) (jbi 12 (jaA Tryz.f10)))))))))))))):=by kernel_rfl
noncomputable def rs10:List ResultVar:=Tryz.f10.results.toList
theorem jq0:rs10=[.cell 2 29,.cell 3 32]:=rfl
def jl2:List V:=[.ptr 0 0,.ptr 1 0]
def D10:List DE:=[.call 22 jl2]
abbrev X10 (r:Except Fl Qry):V→List V→List DE→S→Prop:=juk env 22 jl2 rs10 (KP r)
abbrev E10 (r:Except Fl Qry):Tm→List DE→S→Prop:=EndD env 22 jl2 rs10 (KP r)
abbrev Q10 (r:Except Fl Qry):Post:=⟨E10 r,fun _ _ _ _=>False,E10 r⟩
abbrev W10 (r:Except Fl Qry) (c:Code) (T:Tm) (σ:S):Prop:=wpP env 10 none 63 (X10 r) c T D10 σ (Q10 r)
theorem al29 (h:List AObj)(p:V):jbC env h 29 p=(jas h 20 p).map .agg:=by
 have g:Go.Ab.aggT env 29=some true:=by kernel_rfl
 unfold jbC
 simp only [g,s29,Ko]
theorem al32 (h:List AObj)(p:V):jbC env h 32 p=(jas h 2 p).map .agg:=by
 have g:Go.Ab.aggT env 32=some true:=by kernel_rfl
 unfold jbC
 simp only [g,s32,Ko]
structure RC (L:List AObj):Prop where
 a:∃ c,L[0]? = some (.cells c 29)∧c.length=20
 b:∃ c,L[1]? = some (.cells c 32)∧c.length=2
theorem RC.mv {p:Nat}{L L':List AObj}(h:RC L)(f:Fr p L L')(hp:2≤p):RC L':=by
 obtain ⟨⟨c,a1,a2⟩,⟨d,b1,b2⟩⟩:=h
 exact ⟨⟨c,f.has a1 (by omega),a2⟩,⟨d,f.has b1 (by omega),b2⟩⟩
theorem jsf {r:Except Fl Qry}{e:Fl}(hr:r=.error e){L:List AObj}{ts:List Nat}(hc:RC L){vals:List V}(h2:vals.getD 2 (.tup [])=.ptr 0 0)(h3:vals.getD 3 (.tup [])=.ptr 1 0):X10 r (flt e) vals D10 ⟨L,ts⟩:=by
 obtain ⟨⟨c,a1,a2⟩,⟨d,b1,b2⟩⟩:=hc
 have hla:=ja3 a1
 have hlb:=ja3 b1
 refine ⟨rfl,_,jl1 e a1 a2 b1 b2 (by omega),?_⟩
 subst hr
 have g1:(((L++[AObj.cells [.int .i64 e.1,.int .i64 e.2] 51]).set 0 (.cells (qC Qry.zero .nilsl .nilsl .nilsl) 29)).set 1 (.cells [.int .i64 e.1,.int .i64 e.2] 32))[0]? = some (.cells (qC Qry.zero .nilsl .nilsl .nilsl) 29):=by
  rw [Kl (by omega),Kj (by simp)]
 have g2:(((L++[AObj.cells [.int .i64 e.1,.int .i64 e.2] 51]).set 0 (.cells (qC Qry.zero .nilsl .nilsl .nilsl) 29)).set 1 (.cells [.int .i64 e.1,.int .i64 e.2] 32))[1]? = some (.cells [.int .i64 e.1,.int .i64 e.2] 32):=by
  rw [Kj (by simp; omega)]
 have l1:∀ H:List AObj,H[0]? = some (.cells (qC Qry.zero .nilsl .nilsl .nilsl) 29)→jas H 20 (.ptr 0 0)=some (qC Qry.zero .nilsl .nilsl .nilsl):=fun H h=>by simp only [jas,h]; rfl
 have l2:∀ H:List AObj,H[1]? = some (.cells [.int .i64 e.1,.int .i64 e.2] 32)→jas H 2 (.ptr 1 0)=some [.int .i64 e.1,.int .i64 e.2]:=fun H h=>by simp [jas,h]
 refine ⟨[.agg (qC Qry.zero .nilsl .nilsl .nilsl),.agg [.int .i64 e.1,.int .i64 e.2]],?_,jvm⟩
 rw [jq0]
 simp only [resV,h2,h3,al29,al32,l1 _ g1,l2 _ g2,Kz,Ko]
theorem jwE {Q:Qry}{ev wv rv:V}{base:Nat}{ts:List Nat}(hq:QL base ts Q ev wv rv){L:List AObj}{T:Tm}(t2:T 2=.ptr 0 0)(t3:T 3=.ptr 1 0)(h0:L[0]? = some (.cells (qC Q ev wv rv) 29))(h1:L[1]? = some (.cells [.int .i64 0,.int .i64 0] 32)):E10 (.ok Q) T D10 ⟨L,ts⟩:=by
 refine ⟨rfl,_,jl0 _ _ _ _,[.agg (qC Q ev wv rv),.agg [.int .i64 0,.int .i64 0]],?_,jwD hq⟩
 rw [jq0]
 have l1:jas (L++[AObj.cells [.int .i64 0,.int .i64 0] 51]) 20 (.ptr 0 0)=some (qC Q ev wv rv):=by simp only [jas,jbU h0]; rfl
 have l2:jas (L++[AObj.cells [.int .i64 0,.int .i64 0] 51]) 2 (.ptr 1 0)=some [.int .i64 0,.int .i64 0]:=by simp only [jas,jbU h1]; rfl
 simp only [resT,t2,t3,al29,al32,l1,l2,Kz,Ko]
section
variable {lv:V}{en:Int}{l:List Tk}{L:List AObj}{ts:List Nat}{itoa:Int→List UInt8}{mk:Int→Int→List UInt8}{me:Int→Int→List UInt8}
theorem qs12 {Q:Qry}{ev wv rv:V}{base j:Nat}(hq:QL base ts Q ev wv rv)(hc:RC L)(hP:Pc lv en (qC Q ev wv rv) 2 L j 0){T:Tm}(t2:T 2=.ptr 0 0)(t3:T 3=.ptr 1 0)(t5:T 5=.ptr 2 0):W10 (.ok Q) (jbi 12 (jaA Tryz.f10)) T ⟨L,ts⟩:=by
 obtain ⟨⟨c,a1,a2⟩,⟨d,b1,b2⟩⟩:=hc
 have hla:=ja3 a1
 have hlb:=ja3 b1
 have l1:jas L 20 (.ptr 2 4)=some (qC Q ev wv rv):=by
  have h:L[2]? = some (pcL lv en (qC Q ev wv rv) j 0):=hP
  simp only [jas,h,pcL]; rfl
 have bd32:jcC env 32 []=some (.agg [.int .i64 0,.int .i64 0]):=by kernel_rfl
 have st1:storeAt ⟨L,ts⟩ (qC Q ev wv rv) 0 0 (some (.cells c 29))=some ⟨L.set 0 (.cells (qC Q ev wv rv) 29),ts⟩:=by
  unfold storeAt
  simp only
  rw [Kp ⟨by rw [a2]; exact Qi rfl,by simp [qC,ic,hq.e.cells.2,hq.w.cells.2,hq.r.cells.2]⟩]
  have:jab c 0 (qC Q ev wv rv)=qC Q ev wv rv:=by
   unfold jab
   rw [Jq (by rw [a2]; exact Qi rfl)]
   simp
  rw [this]; rfl
 have g1:(L.set 0 (.cells (qC Q ev wv rv) 29))[1]? = some (.cells d 32):=by rw [Kl (by omega)]; exact b1
 have st2:storeAt ⟨L.set 0 (.cells (qC Q ev wv rv) 29),ts⟩ [.int .i64 0,.int .i64 0] 1 0 (some (.cells d 32))=some ⟨(L.set 0 (.cells (qC Q ev wv rv) 29)).set 1 (.cells [.int .i64 0,.int .i64 0] 32),ts⟩:=by
  unfold storeAt
  simp only
  rw [Kp ⟨by rw [b2]; exact Qi rfl,rfl⟩]
  have:jab d 0 [.int .i64 0,.int .i64 0]=[.int .i64 0,.int .i64 0]:=by
   unfold jab
   rw [Jq (by rw [b2]; exact Qi rfl)]
   simp
  rw [this]; rfl
 have hq20:(qC Q ev wv rv).length=20:=rfl
 refine joC ?_
 simp -implicitDefEqProofs only [jbi,jaA,Tryz.f10,Ku,Kb,jaj,Nat.reduceLT,Nat.reduceEqDiff,Kh,Kg,reduceIte,Ys,jak,jaf,argT,resT,setT,Y0,Int.reduceEq,Int.reduceLT,Int.reduceLE,Int.reduceNeg,mb,Nat.reduceBEq,tys,stb,Va,jab,Nat.reduceAdd,Nat.reduceLeDiff,al1,al47,ic,fo55,fo47,jaa,jae,zv47,bd47,YW,YI,jan,jai,jao,jap,jaq,jar,len1,app2,jac,jad,jah,jax,row1,jam,t2,t3,t5,al29,l1,bd32,a1,st1,g1,st2,s29,s32,hq20]
 exact jwE hq t2 t3 (by rw [Kl (by omega),Kj hla]) (Kj (by simpa using hlb))
def fin (x:R Qry):Except Fl Qry:=match x with
 | .ok (q,_)=>.ok q
 | .error e=>.error e
theorem qs11 (hv:IsK lv l)(hl:l.length≤4000)(hs:jdQ l)(hI:ItOK itoa)(hM:MkOK l en itoa mk me){Q:Qry}{ev wv rv:V}{base j:Nat}(hq:QL base ts Q ev wv rv)(hcon:Q.consistent=false)(hj:j≤l.length)(hc:RC L)(hP:Pc lv en (qC Q ev wv rv) 2 L j 0){T:Tm}(t2:T 2=.ptr 0 0)(t3:T 3=.ptr 1 0)(t5:T 5=.ptr 2 0):W10 (fin (jja l en itoa mk Q j)) (.seq (p10 11) (jbi 12 (jaA Tryz.f10))) T ⟨L,ts⟩:=by
 obtain ⟨x,⟨L',t'⟩,hcx,hX⟩:=jve (ts:=ts) hv hl hs hI hM hj hP hq hcon
 generalize jja l en itoa mk Q j=r at *
 match r,hX with
 | .ok (Q',j'),⟨k1,k2,ev',wv',rv',k3,k4⟩ =>
  subst k1
  refine jcR ?_
  simp -implicitDefEqProofs only [show p10 11=hdC (jbi 11 (jaA Tryz.f10)) from rfl,hdC,jbi,jaA,Tryz.f10,Ku,Kb,jaj,Nat.reduceLT,Nat.reduceEqDiff,Kh,Kg,reduceIte,Ys,jak,jaf,argT,resT,setT,Y0,Int.reduceEq,Int.reduceLT,Int.reduceLE,Int.reduceNeg,mb,Nat.reduceBEq,tys,stb,t5,jfo hcx]
  refine qs12 k4 (hc.mv k2 (Kx _)) k3 ?_ ?_ ?_
  ·exact t2
  ·exact t3
  ·exact t5
 | .error e,⟨k1,k2⟩ =>
  subst k1
  obtain ⟨p1,p2,p3,p4,p5⟩:=jeC hcx
  refine jga ?_
  simp -implicitDefEqProofs only [show p10 11=hdC (jbi 11 (jaA Tryz.f10)) from rfl,hdC,jbi,jaA,Tryz.f10,Ku]
  refine jh4 1 _ _ rfl rfl rfl ?_
  simp -implicitDefEqProofs only [Qv,Ji,Kb,jaj,Nat.reduceLT,Nat.reduceEqDiff,Kh,Kg,reduceIte,Ys,jak,jaf,argT,resT,setT,Y0,Int.reduceEq,Int.reduceLT,Int.reduceLE,Int.reduceNeg,mb,Nat.reduceBEq,tys,stb,t5]
  exact ⟨_,[],[],[.ptr 2 0],_,_,rfl,rfl,p1,p2,p3,p4,p5,fun vals hr=>jsf rfl (hc.mv k2 (Kx _)) ((hr.2 2).trans t2) ((hr.2 3).trans t3)⟩
theorem qs10 (hv:IsK lv l)(hl:l.length≤4000)(hs:jdQ l)(hI:ItOK itoa)(hM:MkOK l en itoa mk me){Q:Qry}{ev wv rv:V}{base j:Nat}(hq:QL base ts Q ev wv rv)(hcon:Q.consistent=false)(hj:j≤l.length)(hc:RC L)(hP:Pc lv en (qC Q ev wv rv) 2 L j 0){T:Tm}(t2:T 2=.ptr 0 0)(t3:T 3=.ptr 1 0)(t5:T 5=.ptr 2 0):W10 (fin (andThen (jd5 l en Q j) fun q j=>jja l en itoa mk q j)) (.seq (p10 10) (.seq (p10 11) (jbi 12 (jaA Tryz.f10)))) T ⟨L,ts⟩:=by
 obtain ⟨x,⟨L',t'⟩,hcx,hX⟩:=jsa (ts:=ts) hv hl hj hP hq
 have hap:=jqZ (l:=l) (en:=en) hcon j
 generalize jd5 l en Q j=r at *
 match r,hap,hX with
 | .ok (Q',j'),hap,⟨k1,k2,ev',wv',rv',k3,k4⟩ =>
  subst k1
  refine jcR ?_
  simp -implicitDefEqProofs only [show p10 10=hdC (jbi 10 (jaA Tryz.f10)) from rfl,hdC,jbi,jaA,Tryz.f10,Ku,Kb,jaj,Nat.reduceLT,Nat.reduceEqDiff,Kh,Kg,reduceIte,Ys,jak,jaf,argT,resT,setT,Y0,Int.reduceEq,Int.reduceLT,Int.reduceLE,Int.reduceNeg,mb,Nat.reduceBEq,tys,stb,t5,jfo hcx]
  refine qs11 (Q:=Q') hv hl hs hI hM k4 hap.2 hap.1 (hc.mv k2 (Kx _)) k3 ?_ ?_ ?_
  ·exact t2
  ·exact t3
  ·exact t5
 | .error e,_,⟨k1,k2⟩ =>
  subst k1
  obtain ⟨p1,p2,p3,p4,p5⟩:=jeC hcx
  refine jga ?_
  simp -implicitDefEqProofs only [show p10 10=hdC (jbi 10 (jaA Tryz.f10)) from rfl,hdC,jbi,jaA,Tryz.f10,Ku]
  refine jh4 1 _ _ rfl rfl rfl ?_
  simp -implicitDefEqProofs only [Qv,Ji,Kb,jaj,Nat.reduceLT,Nat.reduceEqDiff,Kh,Kg,reduceIte,Ys,jak,jaf,argT,resT,setT,Y0,Int.reduceEq,Int.reduceLT,Int.reduceLE,Int.reduceNeg,mb,Nat.reduceBEq,tys,stb,t5]
  exact ⟨_,[],[],[.ptr 2 0],_,_,rfl,rfl,p1,p2,p3,p4,p5,fun vals hr=>jsf rfl (hc.mv k2 (Kx _)) ((hr.2 2).trans t2) ((hr.2 3).trans t3)⟩
theorem qs9 (hv:IsK lv l)(hl:l.length≤4000)(hs:jdQ l)(hI:ItOK itoa)(hM:MkOK l en itoa mk me){base j:Nat}{k:Int}(hk:1≤k∧k≤10)(hb:base≤ts.length)(hj:j≤l.length)(hc:RC L)(hP:Pc lv en (qC Qry.zero .nilsl .nilsl .nilsl) 2 L j 0){T:Tm}(t2:T 2=.ptr 0 0)(t3:T 3=.ptr 1 0)(t5:T 5=.ptr 2 0)(t8:T 8=.func (47+k.toNat) [] []):W10 (fin (andThen (jky l en k Qry.zero j) fun q j=>andThen (jd5 l en q j) fun q j=>jja l en itoa mk q j)) (.seq (p10 9) (.seq (p10 10) (.seq (p10 11) (jbi 12 (jaA Tryz.f10))))) T ⟨L,ts⟩:=by
 obtain ⟨x,⟨L',t'⟩,hcx,hX⟩:=jvi (ts:=ts) hv hl hs hj hP hb hk
 have hap:=jse (l:=l) (en:=en) k (Q:=Qry.zero) rfl hj
 generalize jky l en k Qry.zero j=r at *
 match r,hap,hX with
 | .ok (Q',j'),hap,⟨k1,k2,ev',wv',rv',k3,k4⟩ =>
  subst k1
  refine jcR ?_
  simp -implicitDefEqProofs only [show p10 9=hdC (jbi 9 (jaA Tryz.f10)) from rfl,hdC,jbi,jaA,Tryz.f10,Ku,Kb,jaj,Nat.reduceLT,Nat.reduceEqDiff,Kh,Kg,reduceIte,Ys,jak,jaf,argT,resT,setT,Y0,Int.reduceEq,Int.reduceLT,Int.reduceLE,Int.reduceNeg,mb,Nat.reduceBEq,tys,stb,t5,t8,jfo hcx]
  refine qs10 (Q:=Q') hv hl hs hI hM k4 hap.2 hap.1 (hc.mv k2 (Kx _)) k3 ?_ ?_ ?_
  ·exact t2
  ·exact t3
  ·exact t5
 | .error e,_,⟨k1,k2⟩ =>
  subst k1
  obtain ⟨p1,p2,p3,p4,p5⟩:=jeC hcx
  refine jga ?_
  simp -implicitDefEqProofs only [show p10 9=hdC (jbi 9 (jaA Tryz.f10)) from rfl,hdC,jbi,jaA,Tryz.f10,Ku]
  refine jh4 2 _ _ rfl rfl rfl ?_
  simp -implicitDefEqProofs only [Qv,Ji,Kb,jaj,Nat.reduceLT,Nat.reduceEqDiff,Kh,Kg,reduceIte,Ys,jak,jaf,argT,resT,setT,Y0,Int.reduceEq,Int.reduceLT,Int.reduceLE,Int.reduceNeg,mb,Nat.reduceBEq,tys,stb,t5,t8]
  exact ⟨_,[],[],[.ptr 2 0],_,_,rfl,rfl,p1,p2,p3,p4,p5,fun vals hr=>jsf rfl (hc.mv k2 (Kx _)) ((hr.2 2).trans t2) ((hr.2 3).trans t3)⟩
theorem qs8 (hv:IsK lv l)(hl:l.length≤4000)(hs:jdQ l)(hI:ItOK itoa)(hM:MkOK l en itoa mk me){base j:Nat}{k:Int}(hk:1≤k∧k≤10)(hb:base≤ts.length)(hj:j<l.length)(hc:RC L)(hP:Pc lv en (qC Qry.zero .nilsl .nilsl .nilsl) 2 L j 0){T:Tm}(t2:T 2=.ptr 0 0)(t3:T 3=.ptr 1 0)(t5:T 5=.ptr 2 0)(t8:T 8=.func (47+k.toNat) [] []):W10 (fin (andThen (jky l en k Qry.zero (j+1)) fun q j=>andThen (jd5 l en q j) fun q j=>jja l en itoa mk q j)) (.seq (p10 8) (.seq (p10 9) (.seq (p10 10) (.seq (p10 11) (jbi 12 (jaA Tryz.f10)))))) T ⟨L,ts⟩:=by
 have e1:IntKind.i64.wrap ((j:Int)+1)=((j+1:Nat):Int):=by rw [wrap_i64 (by omega) (by omega)]; omega
 have hcl:=Pc.has hP
 refine jcR ?_
 simp -implicitDefEqProofs only [show p10 8=hdC (jbi 8 (jaA Tryz.f10)) from rfl,hdC,jbi,jaA,Tryz.f10,Ku,Kb,jaj,Nat.reduceLT,Nat.reduceEqDiff,Kh,Kg,reduceIte,Ys,jak,jaf,argT,resT,setT,Y0,Int.reduceEq,Int.reduceLT,Int.reduceLE,Int.reduceNeg,mb,Nat.reduceBEq,tys,stb,Va,jab,Nat.reduceAdd,Nat.reduceLeDiff,al1,al47,ic,fo55,fo47,jaa,jae,zv47,bd47,YW,YI,jan,jai,jao,jap,jaq,jar,len1,app2,jac,jad,jah,jax,row1,jam,t5,hcl,e1]
 refine qs9 hv hl hs hI hM hk hb hj (hc.mv (Fr.set 2 L _) (Kx _)) (hP.set (j+1) 0) ?_ ?_ ?_ ?_
 ·exact t2
 ·exact t3
 ·exact t5
 ·exact t8
theorem jvo (l:List Tk)(i:Nat):keyT l i=(pkT l [2] i).1.text:=by
 unfold keyT pkT
 cases l[i]? with
 | none=>rfl
 | some t =>
  simp only [X3]
  by_cases h:t.kind=2
  ·simp [h]
  ·simp [h,tk0]
theorem jsg {l:List Tk}{i:Nat}{k:Int}(h:PP.look jel (keyT l i)=some k):i<l.length:=by
 unfold keyT at h
 split at h
 ·rename_i t ht; exact jgb ht
 ·have:PP.look jel []=none:=by decide
  rw [this] at h; cases h
def jvp (l:List Tk)(en:Int)(itoa:Int→List UInt8)(mk:Int→Int→List UInt8)(o:Option Int):Except Fl Qry :=
 match o with
 | none=>.error (11,atP l en 0)
 | some k=>fin (andThen (jky l en k Qry.zero 1) fun q j=>andThen (jd5 l en q j) fun q j=>jja l en itoa mk q j)
theorem joV:parseP l en itoa mk=jvp l en itoa mk (PP.look jel (keyT l 0)):=by
 unfold parseP jvp
 cases PP.look jel (keyT l 0) with
 | none=>rfl
 | some k =>
  simp only
  generalize (andThen (jky l en k Qry.zero 1) fun q j=>andThen (jd5 l en q j) fun q j=>jja l en itoa mk q j)=r
  match r with
  | .ok (q,j)=>rfl
  | .error e=>rfl
theorem qs7 (hv:IsK lv l)(hl:l.length≤4000)(hs:jdQ l)(hI:ItOK itoa)(hM:MkOK l en itoa mk me){base:Nat}(hb:base≤ts.length)(hc:RC L)(hP:Pc lv en (qC Qry.zero .nilsl .nilsl .nilsl) 2 L 0 0){T:Tm}(t2:T 2=.ptr 0 0)(t3:T 3=.ptr 1 0)(t5:T 5=.ptr 2 0)
  (t9:T 9=.bool (PP.look jel (keyT l 0)).isSome) (t8:∀ k,PP.look jel (keyT l 0)=some k→T 8=.func (47+k.toNat) [] []):W10 (parseP l en itoa mk) (.seq (p10 7) (.seq (p10 8) (.seq (p10 9) (.seq (p10 10) (.seq (p10 11) (jbi 12 (jaA Tryz.f10))))))) T ⟨L,ts⟩:=by
 rw [joV]
 cases hk:PP.look jel (keyT l 0) with
 | some k =>
  rw [hk] at t9
  have t8:=t8 k hk
  have t9':T 9=.bool true:=t9
  refine jcR ?_
  simp -implicitDefEqProofs only [show p10 7=hdC (jbi 7 (jaA Tryz.f10)) from rfl,hdC,jbi,jaA,Tryz.f10,Ku,Kb,jaj,Nat.reduceLT,Nat.reduceEqDiff,Kh,Kg,reduceIte,Ys,jak,jaf,argT,resT,setT,Y0,Int.reduceEq,Int.reduceLT,Int.reduceLE,Int.reduceNeg,mb,Nat.reduceBEq,tys,stb,t9']
  refine qs8 hv hl hs hI hM (jqq hk) hb (jsg hk) hc hP ?_ ?_ ?_ ?_
  ·exact t2
  ·exact t3
  ·exact t5
  ·exact t8
 | none =>
  rw [hk] at t9
  have t9':T 9=.bool false:=t9
  have ha:=jd7 hv hl hP ts
  obtain ⟨r,σ',hcx,rfl,rfl⟩:=jfs 11 (atP l en 0) ⟨L,ts⟩
  obtain ⟨p1,p2,p3,p4,p5⟩:=jeC hcx
  refine jga ?_
  simp -implicitDefEqProofs only [show p10 7=hdC (jbi 7 (jaA Tryz.f10)) from rfl,hdC,jbi,jaA,Tryz.f10,Ku]
  refine jcR ?_
  simp -implicitDefEqProofs only [Kb,jaj,Nat.reduceLT,Nat.reduceEqDiff,Kh,Kg,reduceIte,Ys,jak,jaf,argT,resT,setT,Y0,Int.reduceEq,Int.reduceLT,Int.reduceLE,Int.reduceNeg,mb,Nat.reduceBEq,tys,stb,t9']
  refine jnx (b:=true) rfl ?_
  simp only [Kh]
  refine jh4 2 _ _ rfl rfl rfl ?_
  simp -implicitDefEqProofs only [Qv,Ji,Kb,jaj,Nat.reduceLT,Nat.reduceEqDiff,Kh,Kg,reduceIte,Ys,jak,jaf,argT,resT,setT,Y0,Int.reduceEq,Int.reduceLT,Int.reduceLE,Int.reduceNeg,mb,Nat.reduceBEq,tys,stb,t5,ha]
  exact ⟨_,[],[],[.int .i64 11,.int .i64 (atP l en 0)],_,_,rfl,rfl,p1,p2,p3,p4,p5,fun vals hr=>jsf rfl hc ((hr.2 2).trans t2) ((hr.2 3).trans t3)⟩
theorem qs6 (hv:IsK lv l)(hl:l.length≤4000)(hs:jdQ l)(hI:ItOK itoa)(hM:MkOK l en itoa mk me){base:Nat}(hb:base≤ts.length)(hc:RC L)(hP:Pc lv en (qC Qry.zero .nilsl .nilsl .nilsl) 2 L 0 0){T:Tm}(t2:T 2=.ptr 0 0)(t3:T 3=.ptr 1 0)(t5:T 5=.ptr 2 0)
  {b:Nat} {t:Tk} (ht:t.text=keyT l 0) (t6:T 6=.ptr b 0) (h6:L[b]? = some (.cells (jam t) 47)):W10 (parseP l en itoa mk) (.seq (p10 6) (.seq (p10 7) (.seq (p10 8) (.seq (p10 9) (.seq (p10 10) (.seq (p10 11) (jbi 12 (jaA Tryz.f10)))))))) T ⟨L,ts⟩:=by
 have hkc:=joT L ts
 have hlk:=jtL (ts:=ts) (L:=L++[.map (kE 10) 10]) (b:=L.length) (by simp) t.text
 have h6':(L++[AObj.map (kE 10) 10])[b]? = some (.cells [.int .i64 t.kind,.str t.text,.int .i64 t.n,.int .i64 t.pos] 47):=jbU h6 _
 have hF:Fr 2 L (L++[AObj.map (kE 10) 10]):=Fr.app _ _ _
 refine jcR ?_
 rw [ht] at hlk
 simp -implicitDefEqProofs only [show p10 6=hdC (jbi 6 (jaA Tryz.f10)) from rfl,hdC,jbi,jaA,Tryz.f10,Ku]
 refine jpW rfl [(true,[]),(false,[]),(false,[0]),(false,[]),(false,[]),(false,[]),(false,[]),(false,[]),(false,[])] (fun m s0=>m=0→s0.heap[b]? = some (.cells (jam t) 47)) (fun _=>h6) (by kernel_rfl) (by kernel_rfl) ?_
 cases hk:PP.look jel (keyT l 0) with
 | some k =>
  rw [hk] at hlk
  simp -implicitDefEqProofs only [Kb,jaj,Nat.reduceLT,Nat.reduceEqDiff,Kh,Kg,reduceIte,Ys,jak,jaf,argT,resT,setT,Y0,Int.reduceEq,Int.reduceLT,Int.reduceLE,Int.reduceNeg,mb,Nat.reduceBEq,tys,stb,Va,jab,Nat.reduceAdd,Nat.reduceLeDiff,al1,al47,ic,fo55,fo47,jaa,jae,zv47,bd47,YW,YI,jan,jai,jao,jap,jaq,jar,len1,app2,jac,jad,jah,jax,row1,jam,hhWa,hhWb,hhWc,hhWd,jgy,jkr,jks,jgz,jkt,jgA,jku,jeY,jdO,jde,jdf,t6,hkc,h6',jdS,ht,hlk]
  refine ⟨⟨fun s h=>by rw [h]; rfl,trivial⟩,?_⟩
  refine qs7 hv hl hs hI hM hb (hc.mv hF (Kx _)) (hP.app _) ?_ ?_ ?_ ?_ ?_
  ·exact t2
  ·exact t3
  ·exact t5
  ·rw [hk]; rfl
  ·intro k' hk'
   rw [hk] at hk'
   cases hk'; rfl
 | none =>
  rw [hk] at hlk
  simp -implicitDefEqProofs only [Kb,jaj,Nat.reduceLT,Nat.reduceEqDiff,Kh,Kg,reduceIte,Ys,jak,jaf,argT,resT,setT,Y0,Int.reduceEq,Int.reduceLT,Int.reduceLE,Int.reduceNeg,mb,Nat.reduceBEq,tys,stb,Va,jab,Nat.reduceAdd,Nat.reduceLeDiff,al1,al47,ic,fo55,fo47,jaa,jae,zv47,bd47,YW,YI,jan,jai,jao,jap,jaq,jar,len1,app2,jac,jad,jah,jax,row1,jam,hhWa,hhWb,hhWc,hhWd,jgy,jkr,jks,jgz,jkt,jgA,jku,jeY,jdO,jde,jdf,t6,hkc,h6',jdS,ht,hlk]
  refine ⟨⟨fun s h=>by rw [h]; rfl,trivial⟩,?_⟩
  refine qs7 hv hl hs hI hM hb (hc.mv hF (Kx _)) (hP.app _) ?_ ?_ ?_ ?_ ?_
  ·exact t2
  ·exact t3
  ·exact t5
  ·rw [hk]; rfl
  ·intro k' hk'
   rw [hk] at hk'
   cases hk'
theorem fo32:jby env 32 0=some 0∧jby env 32 1=some 1:=⟨by kernel_rfl,by kernel_rfl⟩
theorem bd55 (hv:IsK lv l)(n:Int):jcC env 55 [(0,lv),(2,.int .i64 n)]=some (.agg (lv::.int .i64 0::.int .i64 n::.int .i64 0::qC Qry.zero .nilsl .nilsl .nilsl)):=by
 rcases hv with ⟨rfl,rfl⟩ | ⟨q,rfl⟩ <;> kernel_rfl
theorem jsh (hv:IsK lv l)(hl:l.length≤4000)(hs:jdQ l)(hI:ItOK itoa)(s:List UInt8)(hM:MkOK l (s.length:Nat) itoa mk me)(hsp:∀ σ,jaC env (ev env) 19 [.str s] σ=some (.tup [lv,.agg [.int .i64 0,.int .i64 0]],σ)) :
  ∃ v,PV (parseP l (s.length:Nat) itoa mk) v∧∀ σ,jaC env (ev env) 10 [.str s] σ=some (v,σ):=by
 have key:∃ v σ',ev env (.call 10 [.str s] S.empty)=some ⟨.ret,[v],[],σ'⟩∧KP (parseP l (s.length:Nat) itoa mk) v σ':=by
  refine jul (g:=22) (caps:=jl2) at10 jvn (by simp [Tryz.f10]) (by simp [Tryz.f10]) ?_
  show wpP env 10 none 63 (X10 (parseP l (s.length:Nat) itoa mk)) _ (argT [.str s]) [] ⟨[],[]⟩ (Q10 (parseP l (s.length:Nat) itoa mk))
  have z29:jbV env 29=some (.agg (qC Qry.zero .nilsl .nilsl .nilsl)):=by kernel_rfl
  have z32:jbV env 32=some (.agg [.int .i64 0,.int .i64 0]):=by kernel_rfl
  refine jcR ?_
  simp -implicitDefEqProofs only [show p10 0=hdC (jbi 0 (jaA Tryz.f10)) from rfl,hdC,jbi,jaA,Tryz.f10,Ku,Kb,jaj,Nat.reduceLT,Nat.reduceEqDiff,Kh,Kg,reduceIte,Ys,jak,jaf,argT,resT,setT,Y0,Int.reduceEq,Int.reduceLT,Int.reduceLE,Int.reduceNeg,mb,Nat.reduceBEq,tys,stb,Va,jab,Nat.reduceAdd,Nat.reduceLeDiff,al1,al47,ic,fo55,fo47,jaa,jae,zv47,bd47,YW,YI,jan,jai,jao,jap,jaq,jar,len1,app2,jac,jad,jah,jax,row1,jam,z29,z32]
  refine jcR ?_
  simp -implicitDefEqProofs only [show p10 1=hdC (jbi 1 (jaA Tryz.f10)) from rfl,hdC,jbi,jaA,Tryz.f10,Ku,Kb,jaj,Nat.reduceLT,Nat.reduceEqDiff,Kh,Kg,reduceIte,Ys,jak,jaf,argT,resT,setT,Y0,Int.reduceEq,Int.reduceLT,Int.reduceLE,Int.reduceNeg,mb,Nat.reduceBEq,tys,stb,Va,jab,Nat.reduceAdd,Nat.reduceLeDiff,al1,al47,ic,fo55,fo47,jaa,jae,zv47,bd47,YW,YI,jan,jai,jao,jap,jaq,jar,len1,app2,jac,jad,jah,jax,row1,jam,hsp,s32]
  refine jcR ?_
  simp -implicitDefEqProofs only [show p10 2=hdC (jbi 2 (jaA Tryz.f10)) from rfl,hdC,jbi,jaA,Tryz.f10,Ku,Kb,jaj,Nat.reduceLT,Nat.reduceEqDiff,Kh,Kg,reduceIte,Ys,jak,jaf,argT,resT,setT,Y0,Int.reduceEq,Int.reduceLT,Int.reduceLE,Int.reduceNeg,mb,Nat.reduceBEq,tys,stb,Va,jab,Nat.reduceAdd,Nat.reduceLeDiff,al1,al47,ic,fo55,fo47,jaa,jae,zv47,bd47,YW,YI,jan,jai,jao,jap,jaq,jar,len1,app2,jac,jad,jah,jax,row1,jam,fo32,tys]
  refine jga ?_
  simp -implicitDefEqProofs only [show p10 3=hdC (jbi 3 (jaA Tryz.f10)) from rfl,hdC,jbi,jaA,Tryz.f10,Ku]
  refine joU (caps:=jl2) rfl (by omega) ?_
  refine jcR ?_
  have hlen:=bd55 hv (s.length:Nat)
  have hpc:=hv
  simp -implicitDefEqProofs only [show p10 4=hdC (jbi 4 (jaA Tryz.f10)) from rfl,hdC,jbi,jaA,Tryz.f10,Ku,Kb,jaj,Nat.reduceLT,Nat.reduceEqDiff,Kh,Kg,reduceIte,Ys,jak,jaf,argT,resT,setT,Y0,Int.reduceEq,Int.reduceLT,Int.reduceLE,Int.reduceNeg,mb,Nat.reduceBEq,tys,stb,Va,jab,Nat.reduceAdd,Nat.reduceLeDiff,al1,al47,ic,fo55,fo47,jaa,jae,zv47,bd47,YW,YI,jan,jai,jao,jap,jaq,jar,len1,app2,jac,jad,jah,jax,row1,jam,ja6,hlen]
  refine jcR ?_
  simp -implicitDefEqProofs only [show p10 5=hdC (jbi 5 (jaA Tryz.f10)) from rfl,hdC,jbi,jaA,Tryz.f10,Ku,Kb,jaj,Nat.reduceLT,Nat.reduceEqDiff,Kh,Kg,reduceIte,Ys,jak,jaf,argT,resT,setT,Y0,Int.reduceEq,Int.reduceLT,Int.reduceLE,Int.reduceNeg,mb,Nat.reduceBEq,tys,stb,Va,jab,Nat.reduceAdd,Nat.reduceLeDiff,al1,al47,ic,fo55,fo47,jaa,jae,zv47,bd47,YW,YI,jan,jai,jao,jap,jaq,jar,len1,app2,jac,jad,jah,jax,row1,jam]
  have hP0:Pc lv (s.length:Nat) (qC Qry.zero .nilsl .nilsl .nilsl) 2 [AObj.cells (qC Qry.zero .nilsl .nilsl .nilsl) 29,AObj.cells [V.int IntKind.i64 0,V.int IntKind.i64 0] 32,AObj.cells (lv::V.int IntKind.i64 0::V.int IntKind.i64 ↑s.length::V.int IntKind.i64 0::qC Qry.zero .nilsl .nilsl .nilsl) 55] 0 0:=rfl
  have hc0:RC [AObj.cells (qC Qry.zero .nilsl .nilsl .nilsl) 29,AObj.cells [V.int IntKind.i64 0,V.int IntKind.i64 0] 32,AObj.cells (lv::V.int IntKind.i64 0::V.int IntKind.i64 ↑s.length::V.int IntKind.i64 0::qC Qry.zero .nilsl .nilsl .nilsl) 55]:=⟨⟨_,rfl,rfl⟩,⟨_,rfl,rfl⟩⟩
  generalize [AObj.cells (qC Qry.zero .nilsl .nilsl .nilsl) 29,AObj.cells [V.int IntKind.i64 0,V.int IntKind.i64 0] 32,AObj.cells (lv::V.int IntKind.i64 0::V.int IntKind.i64 ↑s.length::V.int IntKind.i64 0::qC Qry.zero .nilsl .nilsl .nilsl) 55]=L0 at hP0 hc0
  refine jqh (jiV hv hl hP0 [] [2] .full (by decide)) ?_
  rintro _ _ ⟨rfl,X,rfl⟩
  have hP1:=hP0.app X
  have hc1:=hc0.mv (Fr.app 2 L0 X) (Kx _)
  have hkp:=jvo l 0
  generalize pkT l [2] 0=pk at *
  obtain ⟨tk,pb⟩:=pk
  simp only at hkp
  generalize L0++X=L1 at *
  have hz:∀ o:AObj,(L1++[o])[L1.length]? = some o:=fun o=>by simp
  simp -implicitDefEqProofs only [Kb,jaj,Nat.reduceLT,Nat.reduceEqDiff,Kh,Kg,reduceIte,Ys,jak,jaf,argT,resT,setT,Y0,Int.reduceEq,Int.reduceLT,Int.reduceLE,Int.reduceNeg,mb,Nat.reduceBEq,tys,stb,Va,jab,Nat.reduceAdd,Nat.reduceLeDiff,al1,al47,ic,fo55,fo47,jaa,jae,zv47,bd47,YW,YI,jan,jai,jao,jap,jaq,jar,len1,app2,jac,jad,jah,jax,row1,jam,hz]
  refine qs6 (base:=0) (t:=tk) (b:=L1.length) hv hl hs hI hM (Q0 _) (hc1.mv (Fr.app 2 L1 _) (Kx _)) (hP1.app _) ?_ ?_ ?_ hkp.symm ?_ ?_
  ·rfl
  ·rfl
  ·rfl
  ·rfl
  ·exact hz _
 obtain ⟨v,σ',h1,v',h2,h3⟩:=key
 exact ⟨v',h3,jjf rfl rfl rfl h1 h2⟩
end
end Go.Proofs.YtpclebdkhpapjaaGreatDoor
