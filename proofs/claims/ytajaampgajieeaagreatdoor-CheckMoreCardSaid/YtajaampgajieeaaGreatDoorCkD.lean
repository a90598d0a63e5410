/- Proved here: what Check answers. Conditions: those of each theorem; no statement of the seat is proved in this text. -/
import Derived.Test.YtajaampgajieeaaGreatDoorCkB
import Derived.Test.YtajaampgajieeaaGreatDoorCkC
set_option linter.unusedSimpArgs false
namespace Go.Proofs.YtajaampgajieeaaGreatDoor.K
open Go.Ab
set_option maxHeartbeats 4000000
set_option maxRecDepth 100000
set_option linter.unusedSimpArgs false
set_option linter.unusedVariables false
set_option linter.unusedSectionVars false
theorem at83:env.P.funcs[83]? = some Tryz.f83:=by kernel_rfl
theorem jk8 {l:List Col}(h:jaL l=[]):l=[]:=by
 cases l with
 | nil=>rfl
 | cons x l=>rw [jbF] at h; simp at h
theorem RC.grow {base:Nat}{ts:List Nat}{v:V}{l:List Col}(ok:OkC l)(g:GC base ts v l):RC v l:=by
 have hw:=jd3 ok
 unfold GC at g
 generalize hc:jaL l=cs at g
 generalize hn:l.length=n at g
 cases g with
 | nil=>exact ⟨fun _=>.inl ⟨rfl,jk8 hc⟩,.inl ⟨rfl,jk8 hc⟩⟩
 | full _ _ hl=>subst hc hn; exact RC.row ok _
 | tok _ _ k e hl hb ht=>subst hc hn; exact RC.row ok _
theorem RC.of {v:V}{cs:List Col}(h:IsC v cs)(ok:OkC cs):RC v cs:=by
 rcases h with ⟨rfl,rfl⟩ | ⟨q,_,rfl⟩
 ·exact ⟨fun _=>.inl ⟨rfl,rfl⟩,.inl ⟨rfl,rfl⟩⟩
 ·exact RC.row ok q
theorem CV.of {v:V}{cs:List Col}(h:IsC v cs)(ok:OkC cs)(hl:cs.length≤400)(sh:∀ i,i<cs.length→jfW (cs.getD i Col.none)):CV v cs :=
 ⟨.of h ok,ok,by rcases h with ⟨rfl,_⟩ | ⟨q,_,rfl⟩ <;> exact ⟨rfl,rfl⟩,hl,sh⟩
theorem jn1 {cs:List Col}(ok:OkC cs):(jaL cs).all V.isCell=true:=by
 rw [Kz]
 intro v hv
 simp only [jaL,List.mem_flatten,Xr] at hv
 obtain ⟨_,⟨c,hc,rfl⟩,h⟩:=hv
 have hw:=jbC (ok c hc)
 simp only [Col.cells,Jf,X2,or_false] at h
 rcases h with rfl | rfl | rfl | rfl
 ·rfl
 ·rfl
 ·rfl
 ·exact hw
theorem jsU {base:Nat}{hp:List AObj}{ts:List Nat}{v w:V}{la bs:List Col}(g:GC base ts v la)(hb:base≤ts.length)(h:IsC w bs)(ok:OkC bs)(ha:la.length≤1000)(hl:bs.length≤1000):∃ v' ts',appO env false ⟨hp,ts⟩ 36 36 v w=some (v',⟨hp,ts'⟩)∧GC base ts' v' (la++bs)∧Ext base ts ts':=by
 have hlim:lim=2 ^ 40:=rfl
 have hy:vLen w=some bs.length:=by rcases h with ⟨rfl,rfl⟩ | ⟨q,_,rfl⟩ <;> rfl
 have hc:ja5 hp 4 bs.length w=some (jaL bs):=by
  rcases h with ⟨rfl,rfl⟩ | ⟨q,_,rfl⟩
  ·rfl
  ·simp only [ja5]; rw [Kh (by rw [jds]; omega),Ql (by rw [jds]; omega)]
 obtain ⟨v',ts',h1,h2,h3⟩:=GrowV.append (E:=env) (hp:=hp) eC ⟨41,eC.slice⟩ g hb hy hc (jds bs) (jn1 ok) ⟨by rw [hlim]; omega,by rw [hlim]; omega⟩
 exact ⟨v',ts',h1,by unfold GC; rw [jd0,Kk]; exact h2,h3⟩
theorem jiq (f:Nat→Bool):∀ m i,jcn f m i<((i+m:Nat):Int)∨jcn f m i = -1
 | 0,i=>.inr rfl
 | m+1,i=>by
  simp only [jcn]
  split
  ·left; omega
  ·rcases jiq f m (i+1) with h | h
   ·left; omega
   ·right; exact h
def oth (Q:Qy)(ss:List Sch):Sch:=if Q.other=[] then Sch.none else schN ss Q.other
theorem jsV (a0 a1 a2 a3 a4 a5 a6 a7 a8 a9 a10 a11 a12 a13 a14 a15 a16 a17 a18 a19:V){lv:V}{ss:List Sch}(h:IsS lv ss):jcd env 117 [(0,.agg [a0,a1,a2,a3,a4,a5,a6,a7,a8,a9,a10,a11,a12,a13,a14,a15,a16,a17,a18,a19]),(1,lv)]=some (.agg [a0,a1,a2,a3,a4,a5,a6,a7,a8,a9,a10,a11,a12,a13,a14,a15,a16,a17,a18,a19,lv,.str [],.bool false,.int .i64 0,.nilsl,.str [],.bool false,.int .i64 0,.nilsl,.nilsl]):=by
 rcases h with ⟨rfl,_⟩ | ⟨q,_,rfl⟩
 ·kernel_rfl
 ·kernel_rfl
structure SB (lv:V) (ss:List Sch):Prop extends SS lv ss where
 cl:∀ i,i<ss.length→(ss.getD i Sch.none).cs.length≤200
theorem SS.at {lv:V}{ss:List Sch}(h:SS lv ss){i:Nat}(hi:i<ss.length):IsC (ss.getD i Sch.none).cv (ss.getD i Sch.none).cs∧OkC (ss.getD i Sch.none).cs:=h.ok.at hi
theorem SB.cv {lv:V}{ss:List Sch}(h:SB lv ss){i:Nat}(hi:i<ss.length):CV (ss.getD i Sch.none).cv (ss.getD i Sch.none).cs :=
 .of (h.at hi).1 (h.at hi).2 (by have:=h.cl i hi; omega) (h.sh i hi).2.2
theorem jpy:CV Sch.none.cv Sch.none.cs:=.of (.inl ⟨rfl,rfl⟩) (fun c hc=>by simp [Sch.none] at hc) (by simp [Sch.none]) (fun i hi=>by simp [Sch.none] at hi)
theorem jj4 {lv:V}{ss:List Sch}(h:SB lv ss)(nm:List UInt8):CV (schN ss nm).cv (schN ss nm).cs:=by
 unfold schN
 split
 ·rename_i h0
  have hp:=(jc7 (fun i=>decide ((ss.getD i Sch.none).name=nm)) ss.length 0).1 h0
  obtain ⟨n,hn⟩:∃ n:Nat,jca ss nm ss.length 0=n:=⟨(jca ss nm ss.length 0).toNat,by omega⟩
  have hl:n<ss.length:=by
   have:=jiq (fun i=>decide ((ss.getD i Sch.none).name=nm)) ss.length 0
   unfold jca at hn
   omega
  rw [hn,Qf]
  exact h.cv hl
 ·exact jpy
section
variable {Q:Qy}{ev wv rv lv:V}{ss:List Sch}{L:List AObj}{ts:List Nat}
abbrev qc30 (Q:Qy) (ev wv rv:V):AObj:=.cells [.int .i64 Q.kind,ev,.int .i64 Q.lo,.int .i64 Q.hi,.int .i64 Q.p,.int .i64 Q.q,.str Q.column,.int .i64 Q.bound,rv,.int .i64 Q.strat,.bool Q.cons,.str Q.table,.int .i64 Q.keep,.str Q.other,.str Q.left,.str Q.right,.int .i64 Q.limit,wv,.str Q.factor,.int .i64 Q.bits] 30
theorem ld30 {L:List AObj}{b:Nat}(h:L[b]? = some (qc30 Q ev wv rv)):jag L 20 (.ptr b 0)=some [.int .i64 Q.kind,ev,.int .i64 Q.lo,.int .i64 Q.hi,.int .i64 Q.p,.int .i64 Q.q,.str Q.column,.int .i64 Q.bound,rv,.int .i64 Q.strat,.bool Q.cons,.str Q.table,.int .i64 Q.keep,.str Q.other,.str Q.left,.str Q.right,.int .i64 Q.limit,wv,.str Q.factor,.int .i64 Q.bits]:=by simp [jag,h]
structure Opened (Q:Qy) (ev wv rv lv:V) (ss:List Sch) (L:List AObj) (v:V) (σ:S):Prop where
 go:∃ p cv,v=.tup [.ptr p 0,.bool (decide (Q.other=[]∨0≤jca ss Q.other ss.length 0))]∧QO Q ev wv rv lv (schN ss Q.table) (oth Q ss) cv σ.heap p∧CV cv (jgo Q ss)
theorem jrN (hS:SB lv ss)(hx:ev.isCell=true∧wv.isCell=true∧rv.isCell=true)(h0:¬ 0≤jca ss Q.table ss.length 0):∃ v σ',jah env (Go.Ab.ev env) 83 [.agg (Q.cells ev wv rv),lv] ⟨L,ts⟩=some (v,σ')∧∃ p,v=.tup [.ptr p 0,.bool false]∧QO Q ev wv rv lv Sch.none Sch.none .nilsl σ'.heap p:=by
 refine jaE rfl rfl at83 rfl (by simp [Tryz.f83]) (by simp [Tryz.f83]) (jaj ?_)
 have hF:=find_call hS.toSS Q.table
 unfold jc1 at hF
 have d0:=eq_false h0
 have hl:=ld30 (Q:=Q) (ev:=ev) (wv:=wv) (rv:=rv) (jaf L _)
 obtain ⟨x1,x2,x3⟩:=hx
 have hb:=fun a0 a1 a2 a3 a4 a5 a6 a7 a8 a9 a10 a11 a12 a13 a14 a15 a16 a17 a18 a19=>jsV a0 a1 a2 a3 a4 a5 a6 a7 a8 a9 a10 a11 a12 a13 a14 a15 a16 a17 a18 a19 hS.v
 have hc:∀ a,(L++[qc30 Q ev wv rv]++[a])[L.length]? = some (qc30 Q ev wv rv):=fun a=>ja7 (jaf _ _) _
 have he:∀ a,(L++[qc30 Q ev wv rv]++[a])[(L++[qc30 Q ev wv rv]).length]? = some a:=fun a=>jaf _ _
 simp -implicitDefEqProofs only [Tryz.f83,Ka,Nat.reduceLT,Nat.reduceEqDiff,Ke,Kc,reduceIte,Ys,Y0,Int.reduceEq,Int.reduceLT,Int.reduceLE,Int.reduceNeg,mb,Nat.reduceBEq,tys,stb,Vq,Va,jaa,Nat.reduceAdd,Nat.reduceLeDiff,Qy.cells,jac,jal,fo30,jaD,al1,uq,hl,hb,hc,jaf,YW,jad,jae,jam,x1,x2,x3,Qj,K6,hF,d0,Kc,decide_false]
 exact ⟨_,rfl,he _⟩
theorem jmm (nm:List UInt8)(h0:0≤jca ss nm ss.length 0):∃ n:Nat,jca ss nm ss.length 0=n∧n<ss.length∧schN ss nm=ss.getD n Sch.none:=by
 obtain ⟨n,hn⟩:∃ n:Nat,jca ss nm ss.length 0=n:=⟨(jca ss nm ss.length 0).toNat,by omega⟩
 refine ⟨n,hn,?_,?_⟩
 ·have:=jiq (fun i=>decide ((ss.getD i Sch.none).name=nm)) ss.length 0
  unfold jca at hn
  omega
 ·unfold schN; rw [Kh h0,hn,Qf]
theorem jqs (hS:SB lv ss)(hx:ev.isCell=true∧wv.isCell=true∧rv.isCell=true)(h0:0≤jca ss Q.table ss.length 0):∃ v σ',jah env (Go.Ab.ev env) 83 [.agg (Q.cells ev wv rv),lv] ⟨L,ts⟩=some (v,σ')∧Opened Q ev wv rv lv ss L v σ':=by
 refine jaE rfl rfl at83 rfl (by simp [Tryz.f83]) (by simp [Tryz.f83]) (jaj ?_)
 have hF:=find_call hS.toSS Q.table
 have hF2:=find_call hS.toSS Q.other
 obtain ⟨n,hn,hnl,hsn⟩:=jmm Q.table h0
 unfold jc1 at hF hF2
 rw [hn] at hF
 have d0:((0:Int)≤(n:Int))=True:=eq_true (by omega)
 have hl:=ld30 (Q:=Q) (ev:=ev) (wv:=wv) (rv:=rv) (jaf L _)
 obtain ⟨x1,x2,x3⟩:=hx
 have hb:=fun a0 a1 a2 a3 a4 a5 a6 a7 a8 a9 a10 a11 a12 a13 a14 a15 a16 a17 a18 a19=>jsV a0 a1 a2 a3 a4 a5 a6 a7 a8 a9 a10 a11 a12 a13 a14 a15 a16 a17 a18 a19 hS.v
 have hc:∀ a,(L++[qc30 Q ev wv rv]++[a])[L.length]? = some (qc30 Q ev wv rv):=fun a=>ja7 (jaf _ _) _
 have hi:=jpe hS.v hnl
 rw [← hsn] at hi
 have hT:=jj4 hS Q.table
 have hIC:=(hS.at hnl)
 rw [← hsn] at hIC
 have hTl:=hS.cl n hnl
 rw [← hsn] at hTl
 have ld4:=jaN
 obtain ⟨y1,y2⟩:=hT.cell
 have hcolq:jgo Q ss=(schN ss Q.table).cs++if Q.other=[] then [] else (schN ss Q.other).cs:=rfl
 generalize htt:schN ss Q.table=t at *
 obtain ⟨cv,ts1,hA,gA,xA⟩:=jsU (hp:=L++[qc30 Q ev wv rv]++[qobj Q ev wv rv lv t Sch.none .nilsl]) (base:=ts.length) (ts:=ts) (la:=[]) (show GC ts.length ts .nilsl [] from GrowV.nil) (Ku _) hIC.1 hIC.2 (Jc _) (by omega)
 rw [Q8] at gA
 have cvc:=gA.cells
 simp only [Sch.none] at hA
 have hh1:∀ a:AObj,(L++[qc30 Q ev wv rv]++[a])[(L++[qc30 Q ev wv rv]).length]? = some a:=fun a=>jaf _ _
 by_cases ho:Q.other=[]
 ·have c0:=eq_true ho
  simp -implicitDefEqProofs only [Tryz.f83,Ka,Nat.reduceLT,Nat.reduceEqDiff,Ke,Kc,reduceIte,Ys,Y0,Int.reduceEq,Int.reduceLT,Int.reduceLE,Int.reduceNeg,mb,Nat.reduceBEq,tys,stb,Vq,Va,jaa,Nat.reduceAdd,Nat.reduceLeDiff,Qy.cells,jac,jal,fo30,jaD,al1,uq,hl,hb,hc,jaf,jap,YW,jad,jae,jam,x1,x2,x3,y1,y2,cvc,Qj,K6,hF,d0,Ke,decide_true,hi,ld4,jaw,hA,c0,jas]
  refine ⟨by kernel_rfl,⟨_,cv,by rw [decide_eq_true (.inl ho)]; rfl,?_,?_⟩⟩
  ·unfold oth; rw [Kh ho,htt]; exact hh1 _
  ·rw [hcolq,Kh ho,Jk]
   exact ⟨.grow hIC.2 gA,hIC.2,cvc,by omega,hT.sh⟩
 ·have c0:=eq_false ho
  by_cases hs2:0≤jca ss Q.other ss.length 0
  ·obtain ⟨k,hk,hkl,hsk⟩:=jmm Q.other hs2
   rw [hk] at hF2
   have d1:((0:Int)≤(k:Int))=True:=eq_true (by omega)
   have hi2:=jpe hS.v hkl
   rw [← hsk] at hi2
   have hO:=jj4 hS Q.other
   have hIC2:=(hS.at hkl)
   rw [← hsk] at hIC2
   have hOl:=hS.cl k hkl
   rw [← hsk] at hOl
   obtain ⟨z1,z2⟩:=hO.cell
   have hoth:oth Q ss=schN ss Q.other:=Kg ho
   have hcol:jgo Q ss=t.cs++(schN ss Q.other).cs:=by rw [hcolq,Kg ho]
   generalize hoo:schN ss Q.other=o at *
   obtain ⟨cv2,ts2,hA2,gA2,xA2⟩:=jsU (hp:=L++[qc30 Q ev wv rv]++[qobj Q ev wv rv lv t o cv]) gA xA.1 hIC2.1 hIC2.2 (by omega) (by omega)
   have cvc2:=gA2.cells
   simp -implicitDefEqProofs only [Tryz.f83,Ka,Nat.reduceLT,Nat.reduceEqDiff,Ke,Kc,reduceIte,Ys,Y0,Int.reduceEq,Int.reduceLT,Int.reduceLE,Int.reduceNeg,mb,Nat.reduceBEq,tys,stb,Vq,Va,jaa,Nat.reduceAdd,Nat.reduceLeDiff,Qy.cells,jac,jal,fo30,jaD,al1,uq,hl,hb,hc,jaf,jap,YW,jad,jae,jam,x1,x2,x3,y1,y2,z1,z2,cvc,cvc2,Qj,K6,hF,hF2,d0,d1,Ke,decide_true,hi,hi2,ld4,jaw,hA,hA2,c0,jas]
   refine ⟨by kernel_rfl,by kernel_rfl,⟨_,cv2,by rw [decide_eq_true (.inr hs2)]; rfl,?_,?_⟩⟩
   ·rw [htt,hoth]; exact hh1 _
   ·rw [hcol]
    have hok:OkC (t.cs++o.cs):=fun c hc=>(Jv.1 hc).elim (hIC.2 c) (hIC2.2 c)
    refine ⟨.grow hok gA2,hok,cvc2,by rw [Kk]; omega,fun i hi => ?_⟩
    rcases K1 i t.cs.length with h | h
    ·rw [show (t.cs++o.cs).getD i Col.none=t.cs.getD i Col.none by simp [List.getD,Kn h]]
     exact hT.sh i h
    ·rw [show (t.cs++o.cs).getD i Col.none=o.cs.getD (i - t.cs.length) Col.none by simp [List.getD,Jp h]]
     exact hO.sh _ (by rw [Kk] at hi; omega)
  ·have d1:=eq_false hs2
   simp -implicitDefEqProofs only [Tryz.f83,Ka,Nat.reduceLT,Nat.reduceEqDiff,Ke,Kc,reduceIte,Ys,Y0,Int.reduceEq,Int.reduceLT,Int.reduceLE,Int.reduceNeg,mb,Nat.reduceBEq,tys,stb,Vq,Va,jaa,Nat.reduceAdd,Nat.reduceLeDiff,Qy.cells,jac,jal,fo30,jaD,al1,uq,hl,hb,hc,jaf,jap,YW,jad,jae,jam,x1,x2,x3,y1,y2,cvc,Qj,K6,hF,hF2,d0,d1,Ke,Kc,decide_true,decide_false,hi,ld4,jaw,hA,c0,jas]
   refine ⟨by kernel_rfl,⟨_,cv,by rw [decide_eq_false (fun q=>q.elim ho hs2)]; rfl,?_,?_⟩⟩
   ·rw [htt]; unfold oth schN; rw [Kg ho,Kg hs2]; exact hh1 _
   ·rw [hcolq,Kg ho]
    unfold schN
    rw [Kg hs2]
    rw [show t.cs++Sch.none.cs=t.cs by simp [Sch.none]]
    exact ⟨.grow hIC.2 gA,hIC.2,cvc,by omega,hT.sh⟩
end
theorem jir {E:Env}{fn:FuncId}{rnd:Option Nat}{n:Nat}{P:Post}{T:Tm}{D:List DE}{σ:S}:∀ ks:List Kt,G E fn rnd n P ks .ret T D σ=P.ret T D σ
 | []=>Zk
 | .code c::ks=>by rw [Zi]; exact jir ks
 | .blk l::ks=>by rw [Zj]; exact jir ks
theorem at17:env.P.funcs[17]? = some Tryz.f17:=by kernel_rfl
def ents:List (List UInt8 × FuncId):=[([115,99,104,101,109,97,115],84),([107,105,110,100],85),([116,97,98,108,101],86),([107,101,101,112],87),([106,111,105,110],88),([119,104,101,114,101],89),([101,120,112,114,101,115,115,105,111,110],90),([114,97,110,103,101],91),([99,111,108,117,109,110],92),([114,97,110,103,101,115],93),([102,97,99,116,111,114],94),([98,105,116,115],95)]
def jiO (p:Nat)(l:List (List UInt8 × FuncId)):List V:=(l.map fun e=>[V.str e.1,V.func e.2 [.ptr p 0] []]).flatten
theorem juR (p:Nat):rowO env 105 12 [(0,.agg [.str [115,99,104,101,109,97,115],.func 84 [.ptr p 0] []]),(1,.agg [.str [107,105,110,100],.func 85 [.ptr p 0] []]),(2,.agg [.str [116,97,98,108,101],.func 86 [.ptr p 0] []]),(3,.agg [.str [107,101,101,112],.func 87 [.ptr p 0] []]),(4,.agg [.str [106,111,105,110],.func 88 [.ptr p 0] []]),(5,.agg [.str [119,104,101,114,101],.func 89 [.ptr p 0] []]),(6,.agg [.str [101,120,112,114,101,115,115,105,111,110],.func 90 [.ptr p 0] []]),(7,.agg [.str [114,97,110,103,101],.func 91 [.ptr p 0] []]),(8,.agg [.str [99,111,108,117,109,110],.func 92 [.ptr p 0] []]),(9,.agg [.str [114,97,110,103,101,115],.func 93 [.ptr p 0] []]),(10,.agg [.str [102,97,99,116,111,114],.func 94 [.ptr p 0] []]),(11,.agg [.str [98,105,116,115],.func 95 [.ptr p 0] []])]=some (.row (jiO p ents) 12 .full):=by kernel_rfl
theorem jjp (p:Nat):∀ (l:List (List UInt8 × FuncId)) (i:Nat),(jiO p l).drop (i * 2)=jiO p (l.drop i)
 | l,0=>by simp
 | [],i+1=>by simp [jiO]
 | c::cs,i+1=>by
  have e:jiO p (c::cs)=.str c.1::.func c.2 [.ptr p 0] []::jiO p cs:=rfl
  rw [e,show (i+1) * 2=i * 2+1+1 by omega,K2,K2,K2]
  exact jjp p cs i
theorem juS {p i:Nat}(hi:i<12):jaC 2 (.row (jiO p ents) 12 .full) (.int .i64 (i:Int))=some (.rptr (.str (ents.getD i ([],0)).1::.func (ents.getD i ([],0)).2 [.ptr p 0] []::jiO p (ents.drop (i+1)))):=by
 have hi2:i<ents.length:=hi
 rw [Ys,Kh (by omega),Qf,jjp,Qu hi2]
 simp only [List.getD,Kw hi2,Kv]
 rfl
theorem juT (s:List UInt8)(f:FuncId)(p:Nat):jcd env 104 [(0,.str s),(1,.func f [.ptr p 0] [])]=some (.agg [.str s,.func f [.ptr p 0] []]):=by kernel_rfl
theorem juU:jbr env 104=some (.agg [.str [],.nilfn]):=by kernel_rfl
section
variable {Q:Qy}{ev wv rv lv cv:V}{t o:Sch}
def Meth (f:FuncId)(e:Int)(Q:Qy)(ev wv rv lv:V)(t o:Sch)(cv:V):Prop:=∀ (L:List AObj) (ts:List Nat) (p:Nat),QO Q ev wv rv lv t o cv L p→∃ v σ',jah env (Go.Ab.ev env) f [.ptr p 0] ⟨L,ts⟩=some (v,σ')∧v=.int .i64 e∧∃ X,σ'=⟨L++X,ts⟩
theorem Meth.of {f:FuncId}{e:Int}(h:∀ (L:List AObj) (ts:List Nat) (p:Nat),QO Q ev wv rv lv t o cv L p→jah env (Go.Ab.ev env) f [.ptr p 0] ⟨L,ts⟩=some (.int .i64 e,⟨L,ts⟩)):Meth f e Q ev wv rv lv t o cv:=fun L ts p hp=>⟨_,_,h L ts p hp,rfl,[],by simp⟩
theorem jqt {l:List (List UInt8 × Int)}{i:Nat}(hi:i<l.length)(h:∀ j,j<i→(l.getD j ([],0)).2=0)(he:(l.getD i ([],0)).2 ≠ 0):jb7 l=((l.getD i ([],0)).2,(l.getD i ([],0)).1):=by
 induction l generalizing i with
 | nil=>simp at hi
 | cons a r ih =>
  obtain ⟨n,e⟩:=a
  cases i with
  | zero=>simp only [List.getD_cons_zero] at he ⊢; unfold jb7; rw [Kg he]
  | succ i =>
   have h0:e=0:=h 0 (by omega)
   unfold jb7
   rw [Kh h0]
   exact ih (by simpa using hi) (fun j hj=>h (j+1) (by omega)) he
theorem jpz {l:List (List UInt8 × Int)}(h:∀ j,j<l.length→(l.getD j ([],0)).2=0):jb7 l=(0,[]):=by
 induction l with
 | nil=>rfl
 | cons a r ih =>
  obtain ⟨n,e⟩:=a
  have h0:e=0:=h 0 (by simp)
  unfold jb7
  rw [Kh h0]
  exact ih fun j hj=>h (j+1) (by simpa using hj)
theorem jgQ (l:List (List UInt8 × Int))(hl:l.length=12)(hnm:∀ i,i<12→(l.getD i ([],0)).1=(ents.getD i ([],0)).1)(hM:∀ i,i<12→(∀ j,j<i→(l.getD j ([],0)).2=0)→Meth (ents.getD i ([],0)).2 (l.getD i ([],0)).2 Q ev wv rv lv t o cv)
  {T:Tm} {L:List AObj} {ts:List Nat} {p:Nat} {ks:List Kt} (hp:QO Q ev wv rv lv t o cv L p) (t53:T 53=.row (jiO p ents) 12 .full) (t54:T 54=.int .i64 12) (t55:T 55=.int .i64 0)
  (h:∀ (T':Tm) (σ':S),jb7 l=(0,[])→G env 17 none 68 ⟨wpR env [.tmp 4,.tmp 5] fun v σ'=>ja2 σ'.heap jak v=some (.tup [.int .i64 (jb7 l).1,.str (jb7 l).2]),fun _ _ _ _=>False,wpR env [.tmp 4,.tmp 5] fun v σ'=>ja2 σ'.heap jak v=some (.tup [.int .i64 (jb7 l).1,.str (jb7 l).2])⟩ ks .skip T' [] σ') :
  jia env 17 none 68 (jkT 0 (jaK Tryz.f17)) T [] ⟨L,ts⟩ (Kt.post env 17 none 68 ⟨wpR env [.tmp 4,.tmp 5] fun v σ'=>ja2 σ'.heap jak v=some (.tup [.int .i64 (jb7 l).1,.str (jb7 l).2]),fun _ _ _ _=>False,wpR env [.tmp 4,.tmp 5] fun v σ'=>ja2 σ'.heap jak v=some (.tup [.int .i64 (jb7 l).1,.str (jb7 l).2])⟩ (.blk 0::ks)):=by
 simp only [jaK,Tryz.f17,Kv,jkT,blkC,Option.or,Nat.reduceEqDiff,Kc,Ke,reduceIte]
 refine jaI (fun m T D σ=>D=[]∧T 53=.row (jiO p ents) 12 .full∧T 54=.int .i64 12∧∃ (i:Nat) (L':List AObj),σ=⟨L',ts⟩∧T 55=.int .i64 i∧i≤12∧m=12 - i∧QO Q ev wv rv lv t o cv L' p∧∀ j,j<i→(l.getD j ([],0)).2=0) ?_ (12 - 0) _ _ _ ⟨rfl,t53,t54,0,L,rfl,t55,by omega,rfl,hp,fun j hj=>by omega⟩
 clear t53 t54 t55 hp
 rintro m T D σ ⟨rfl,t53,t54,i,L',rfl,t55,hi,rfl,hp,hno⟩
 refine jaj ?_
 by_cases hlt:i<12
 ·have k1:(i:Int)<12:=by omega
  have e1:IntKind.i64.wrap ((i:Int)+1)=((i+1:Nat):Int):=by rw [wrap_i64 (by omega) (by omega)]; omega
  have hx:=juS (p:=p) hlt
  have hm:=hM i hlt hno
  have hnm:=hnm i hlt
  have hstep:(l.getD i ([],0)).2=0→∀ j,j<i+1→(l.getD j ([],0)).2=0:=fun h0 j hj=>by
   rcases K1 j i with q | q
   ·exact hno j q
   ·obtain rfl:j=i:=by omega
    exact h0
  have hret:(l.getD i ([],0)).2 ≠ 0→jb7 l=((l.getD i ([],0)).2,(l.getD i ([],0)).1):=fun h=>jqt (by omega) hno h
  rw [hnm] at hret
  generalize ents.getD i ([],0)=en at *
  obtain ⟨nm,fn⟩:=en
  generalize (l.getD i ([],0)).2=e at *
  have hp2:=hp.app [.cells [.str nm,.func fn [.ptr p 0] []] 104]
  have hz:∀ X:List AObj,(L'++[AObj.cells [.str nm,.func fn [.ptr p 0] []] 104]++X)[L'.length]? = some (.cells [.str nm,.func fn [.ptr p 0] []] 104):=fun X=>ja7 (jaf _ _) X
  simp -implicitDefEqProofs only [Ka,Nat.reduceLT,Nat.reduceEqDiff,Ke,Kc,reduceIte,Ys,Y0,Int.reduceEq,Int.reduceLT,Int.reduceLE,Int.reduceNeg,mb,Nat.reduceBEq,tys,stb,Vq,Va,jaa,Nat.reduceAdd,Nat.reduceLeDiff,t53,t54,t55,k1,e1,-Ys,hx,jgq,al1,uq,juU,jaf,jap,YW,jae,V.isCell,jaD]
  refine jie (hm _ _ _ hp2) ?_
  rintro _ _ ⟨rfl,X,rfl⟩
  by_cases he:e=0
  ·have he1:=eq_true he
   simp -implicitDefEqProofs only [Ka,Nat.reduceLT,Nat.reduceEqDiff,Ke,Kc,reduceIte,Ys,Y0,Int.reduceEq,Int.reduceLT,Int.reduceLE,Int.reduceNeg,mb,Nat.reduceBEq,tys,stb,Vq,Va,jaa,Nat.reduceAdd,Nat.reduceLeDiff,t53,t54,t55,k1,e1,uq,he1]
   exact ⟨12 - (i+1),by omega,i+1,_,rfl,rfl,by omega,rfl,hp2.app X,hstep he⟩
  ·have he1:=eq_false he
   simp -implicitDefEqProofs only [Ka,Nat.reduceLT,Nat.reduceEqDiff,Ke,Kc,reduceIte,Ys,Y0,Int.reduceEq,Int.reduceLT,Int.reduceLE,Int.reduceNeg,mb,Nat.reduceBEq,tys,stb,Vq,Va,jaa,Nat.reduceAdd,Nat.reduceLeDiff,t53,t54,t55,k1,e1,al1,uq,he1,hz,jaD]
   refine ⟨by kernel_rfl,?_⟩
   rw [hret he,jir]
   simp -implicitDefEqProofs only [Ka,Nat.reduceLT,Nat.reduceEqDiff,Ke,Kc,reduceIte,Ys,Y0,Int.reduceEq,Int.reduceLT,Int.reduceLE,Int.reduceNeg,mb,Nat.reduceBEq,tys,stb,Vq,jau,jak,jbP,jaz,jaW,jat,jdr,Ko,Qh]
 ·have hi2:i=12:=by omega
  subst hi2
  have:=jpz (l:=l) (by rw [hl]; exact hno)
  simp -implicitDefEqProofs only [Ka,Nat.reduceLT,Nat.reduceEqDiff,Ke,Kc,reduceIte,Ys,Y0,Int.reduceEq,Int.reduceLT,Int.reduceLE,Int.reduceNeg,mb,Nat.reduceBEq,tys,stb,Vq,Va,jaa,Nat.reduceAdd,Nat.reduceLeDiff,t53,t54,t55,show ¬ ((12:Nat):Int)<12 by decide]
  exact h _ _ this
end
structure QV (Q:Qy) (ev wv rv:V):Prop where
 e:NV ev Q.ex
 w:NV wv Q.wh
 r:RgV rv Q.rg
 cl:ev.closed=true∧wv.closed=true∧rv.closed=true
 fl:Q.factor.length<2 ^ 40
section
variable {Q:Qy}{ev wv rv lv:V}{ss:List Sch}{fe:Int}
theorem QV.x (h:QV Q ev wv rv):ev.isCell=true∧wv.isCell=true∧rv.isCell=true:=⟨h.e.cell.2,h.w.cell.2,h.r.cell.2⟩
theorem QV.closed (h:QV Q ev wv rv):(V.agg (Q.cells ev wv rv)).closed=true:=by
 obtain ⟨a,b,c⟩:=h.cl
 simp [Qy.cells,V.closed,V.closed.closedL,a,b,c]
theorem jk9:(jfk Q ss fe).length=12:=rfl
theorem jnb:∀ i,i<12→((jfk Q ss fe).getD i ([],0)).1=(ents.getD i ([],0)).1:=by
 intro i hi
 have:i=0∨i=1∨i=2∨i=3∨i=4∨i=5∨i=6∨i=7∨i=8∨i=9∨i=10∨i=11:=by omega
 rcases this with rfl | rfl | rfl | rfl | rfl | rfl | rfl | rfl | rfl | rfl | rfl | rfl <;> rfl
theorem jpA {cv:V}(hS:SB lv ss)(hq:QV Q ev wv rv)(hf:Fac Q.factor fe)(hc:CV cv (jgo Q ss)):∀ i,i<12→(∀ j,j<i→((jfk Q ss fe).getD j ([],0)).2=0)→Meth (ents.getD i ([],0)).2 ((jfk Q ss fe).getD i ([],0)).2 Q ev wv rv lv (schN ss Q.table) (oth Q ss) cv:=by
 intro i hi hz
 have hT:=jj4 hS Q.table
 have hO:CV (oth Q ss).cv (oth Q ss).cs:=by
  unfold oth
  split
  ·exact jpy
  ·exact jj4 hS Q.other
 have hj:jj2 Q ss (schN ss Q.table) (oth Q ss)=jj2 Q ss (schN ss Q.table) (schN ss Q.other):=by
  unfold oth
  by_cases h:Q.other=[]
  ·unfold jj2; rw [Kh h,Kh h]
  ·rw [Kg h]
 have:i=0∨i=1∨i=2∨i=3∨i=4∨i=5∨i=6∨i=7∨i=8∨i=9∨i=10∨i=11:=by omega
 rcases this with rfl | rfl | rfl | rfl | rfl | rfl | rfl | rfl | rfl | rfl | rfl | rfl
 ·exact .of fun L ts p hp=>jg8 hp hS.toSS ts
 ·exact fun L ts p hp=>jk7 hp hq.e hq.w hq.r ts
 ·exact .of fun L ts p hp=>jip hp hS.toSS ts
 ·exact .of fun L ts p hp=>jpu hp ts
 ·intro L ts p hp
  have:=jpx hp hS.toSS hT hO hq.x ts
  rw [hj] at this
  exact this
 ·exact .of fun L ts p hp=>jn0 hp hq.w hc ts
 ·exact .of fun L ts p hp=>jqq hp hq.e hc ts
 ·exact fun L ts p hp=>jmj hp hq.x ts
 ·exact fun L ts p hp=>jd1 hp hc ts
 ·exact fun L ts p hp=>jmk hp hc hq.r ts
 ·exact .of fun L ts p hp=>jmi hp hf hq.fl ts
 ·exact .of fun L ts p hp=>jpv hp ts
theorem jqu (hS:SB lv ss)(hq:QV Q ev wv rv)(h0:¬ 0≤jca ss Q.table ss.length 0):∀ i,i<12→(∀ j,j<i→((jfk Q ss fe).getD j ([],0)).2=0)→Meth (ents.getD i ([],0)).2 ((jfk Q ss fe).getD i ([],0)).2 Q ev wv rv lv Sch.none Sch.none .nilsl:=by
 intro i hi hz
 have:i=0∨i=1∨i=2∨2<i:=by omega
 rcases this with rfl | rfl | rfl | h
 ·exact .of fun L ts p hp=>jg8 hp hS.toSS ts
 ·exact fun L ts p hp=>jk7 hp hq.e hq.w hq.r ts
 ·exact .of fun L ts p hp=>jip hp hS.toSS ts
 ·exfalso
  have h2:tabE Q ss=0:=hz 2 h
  unfold tabE at h2
  rw [Kg h0] at h2
  cases h2
theorem check_call (hS:SB lv ss)(hq:QV Q ev wv rv)(hf:Fac Q.factor fe)(σ:S):jah env (Go.Ab.ev env) 17 [.agg (Q.cells ev wv rv),lv] σ=some (.tup [.int .i64 (jgp Q ss fe).1,.str (jgp Q ss fe).2],σ):=by
 refine jar rfl rfl (by rw [K3,hq.closed,K3,jfy hS.v hS.ok]; rfl) at17 rfl (by simp [Tryz.f17]) (by simp [Tryz.f17]) (jaj ?_) σ
 have hl:jag [qc30 Q ev wv rv] 20 (.ptr 0 0)=_:=ld30 (Q:=Q) (ev:=ev) (wv:=wv) (rv:=rv) rfl
 have hb:=juT
 have r12:=juR
 have hend:∀ (l:List (List UInt8 × Int)),jb7 l=(0,[])→ja2 S.empty.heap jak (.tup [.int .i64 (jb7 l).1,.str (jb7 l).2])=some (.tup [.int .i64 (jb7 l).1,.str (jb7 l).2]):=fun l h=>by rw [h]; rfl
 simp -implicitDefEqProofs only [Tryz.f17,Ka,Nat.reduceLT,Nat.reduceEqDiff,Ke,Kc,reduceIte,Ys,Y0,Int.reduceEq,Int.reduceLT,Int.reduceLE,Int.reduceNeg,mb,Nat.reduceBEq,tys,stb,Vq,Va,jaa,Nat.reduceAdd,Nat.reduceLeDiff,jay,Qy.cells,YW,al1,uq,hl,jaf]
 by_cases h0:0≤jca ss Q.table ss.length 0
 ·have hO:=jqs (L:=[qc30 Q ev wv rv]) (ts:=[]) hS hq.x h0
  unfold Qy.cells at hO
  refine jie hO ?_
  rintro _ ⟨L',ts'⟩ ⟨p,cv,rfl,hp,hcv⟩
  simp -implicitDefEqProofs only [Ka,Nat.reduceLT,Nat.reduceEqDiff,Ke,Kc,reduceIte,Ys,Y0,Int.reduceEq,Int.reduceLT,Int.reduceLE,Int.reduceNeg,mb,Nat.reduceBEq,tys,stb,Vq,Va,jaa,Nat.reduceAdd,Nat.reduceLeDiff,YP,uq,hb,jan,r12]
  refine jgQ (jfk Q ss fe) jk9 jnb (jpA hS hq hf hcv) hp ?_ ?_ ?_ fun T' σ' h1 => ?_
  ·rfl
  ·rfl
  ·rfl
  simp -implicitDefEqProofs only [Ka,Nat.reduceLT,Nat.reduceEqDiff,Ke,Kc,reduceIte,Ys,Y0,Int.reduceEq,Int.reduceLT,Int.reduceLE,Int.reduceNeg,mb,Nat.reduceBEq,tys,stb,Vq,Va,jaa,Nat.reduceAdd,Nat.reduceLeDiff,h1,jau,jak,jbP,jaz,jaW,jat,jdr,Ko,Qh]
 ·have hO:=jrN (L:=[qc30 Q ev wv rv]) (ts:=[]) hS hq.x h0
  unfold Qy.cells at hO
  refine jie hO ?_
  rintro _ ⟨L',ts'⟩ ⟨p,rfl,hp⟩
  simp -implicitDefEqProofs only [Ka,Nat.reduceLT,Nat.reduceEqDiff,Ke,Kc,reduceIte,Ys,Y0,Int.reduceEq,Int.reduceLT,Int.reduceLE,Int.reduceNeg,mb,Nat.reduceBEq,tys,stb,Vq,Va,jaa,Nat.reduceAdd,Nat.reduceLeDiff,YP,uq,hb,jan,r12]
  refine jgQ (jfk Q ss fe) jk9 jnb (jqu hS hq h0) hp ?_ ?_ ?_ fun T' σ' h1 => ?_
  ·rfl
  ·rfl
  ·rfl
  simp -implicitDefEqProofs only [Ka,Nat.reduceLT,Nat.reduceEqDiff,Ke,Kc,reduceIte,Ys,Y0,Int.reduceEq,Int.reduceLT,Int.reduceLE,Int.reduceNeg,mb,Nat.reduceBEq,tys,stb,Vq,Va,jaa,Nat.reduceAdd,Nat.reduceLeDiff,h1,jau,jak,jbP,jaz,jaW,jat,jdr,Ko,Qh]
end
theorem at19:env.P.funcs[19]? = some Tryz.f19:=by kernel_rfl
noncomputable def privX (Q:Qy)(ss:List Sch):Bool:=decide ((allE ss).1=0∧0≤jca ss Q.table ss.length 0∧(schN ss Q.table).pub=false)
section
variable {Q:Qy}{ev wv rv lv:V}{ss:List Sch}
theorem private_call (hS:SB lv ss)(hq:QV Q ev wv rv)(σ:S):jah env (Go.Ab.ev env) 19 [.agg (Q.cells ev wv rv),lv] σ=some (.bool (privX Q ss),σ):=by
 refine jar rfl rfl (by rw [K3,hq.closed,K3,jfy hS.v hS.ok]; rfl) at19 rfl (by simp [Tryz.f19]) (by simp [Tryz.f19]) (jaj ?_) σ
 have hl:jag [qc30 Q ev wv rv] 20 (.ptr 0 0)=_:=ld30 (Q:=Q) (ev:=ev) (wv:=wv) (rv:=rv) rfl
 have hA:=jna hS.toSS
 have hF:=find_call hS.toSS Q.table
 unfold tri at hA
 unfold jc1 at hF
 have fin:∀ b b',b=b'→ja2 S.empty.heap jak (.bool b)=some (.bool b'):=fun b b' h=>by rw [h]; rfl
 by_cases h1:(allE ss).1=0
 case neg =>
  have d1:=eq_false h1
  simp -implicitDefEqProofs only [Tryz.f19,Ka,Nat.reduceLT,Nat.reduceEqDiff,Ke,Kc,reduceIte,Ys,Y0,Int.reduceEq,Int.reduceLT,Int.reduceLE,Int.reduceNeg,mb,Nat.reduceBEq,tys,stb,Vq,Va,jaa,Nat.reduceAdd,Nat.reduceLeDiff,jay,Qy.cells,YW,al1,uq,hl,jaf,hA,d1]
  exact fin _ _ (by unfold privX; simp [h1])
 have d1:=eq_true h1
 by_cases h0:0≤jca ss Q.table ss.length 0
 case neg =>
  have d0:=eq_false h0
  simp -implicitDefEqProofs only [d0,Kc,decide_false] at hF
  simp -implicitDefEqProofs only [Tryz.f19,Ka,Nat.reduceLT,Nat.reduceEqDiff,Ke,Kc,reduceIte,Ys,Y0,Int.reduceEq,Int.reduceLT,Int.reduceLE,Int.reduceNeg,mb,Nat.reduceBEq,tys,stb,Vq,Va,jaa,Nat.reduceAdd,Nat.reduceLeDiff,jay,Qy.cells,YW,fo30,al1,uq,hl,jaf,hA,d1,hF]
  exact fin _ _ (by unfold privX; simp [h0])
 obtain ⟨n,hn,hnl,hsn⟩:=jmm Q.table h0
 have hi:=jpe hS.v hnl
 rw [hn] at hF
 have d0:((0:Int)≤(n:Int))=True:=eq_true (by omega)
 simp -implicitDefEqProofs only [d0,Ke,decide_true] at hF
 rw [← hsn] at hi
 cases hp:(schN ss Q.table).pub
 ·simp -implicitDefEqProofs only [Tryz.f19,Ka,Nat.reduceLT,Nat.reduceEqDiff,Ke,Kc,reduceIte,Ys,Y0,Int.reduceEq,Int.reduceLT,Int.reduceLE,Int.reduceNeg,mb,Nat.reduceBEq,tys,stb,Vq,Va,jaa,Nat.reduceAdd,Nat.reduceLeDiff,jay,Qy.cells,YW,fo30,jaD,al1,uq,hl,jaf,hA,d1,hF,hi,YV,jaw,hp]
  exact fin _ _ (by unfold privX; simp [h0,h1,hp])
 ·simp -implicitDefEqProofs only [Tryz.f19,Ka,Nat.reduceLT,Nat.reduceEqDiff,Ke,Kc,reduceIte,Ys,Y0,Int.reduceEq,Int.reduceLT,Int.reduceLE,Int.reduceNeg,mb,Nat.reduceBEq,tys,stb,Vq,Va,jaa,Nat.reduceAdd,Nat.reduceLeDiff,jay,Qy.cells,YW,fo30,jaD,al1,uq,hl,jaf,hA,d1,hF,hi,YV,jaw,hp]
  exact fin _ _ (by unfold privX; simp [h0,h1,hp])
end
end Go.Proofs.YtajaampgajieeaaGreatDoor.K
