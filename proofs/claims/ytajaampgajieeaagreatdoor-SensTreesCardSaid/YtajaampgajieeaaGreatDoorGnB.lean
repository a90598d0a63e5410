/- Proved here: a query is drawn. Conditions: each theorem's own. -/
import Derived.Test.YtajaampgajieeaaGreatDoorGnA
set_option linter.unusedSimpArgs false
set_option maxHeartbeats 16000000
set_option maxRecDepth 1000000
set_option linter.unusedVariables false
set_option linter.unusedSectionVars false
namespace Go.Proofs.YtajaampgajieeaaGreatDoor.N
open Go.Ab
theorem at16:env.P.funcs[16]? = some Tryz.f16:=ac
def facs:List (List UInt8):=[[50],[51,47,50],[49,49,47,49,48],[51],[49,48,49,47,49,48,48]]
theorem jzq:rowO env 94 5 [(0,.str [50]),(1,.str [51,47,50]),(2,.str [49,49,47,49,48]),(3,.str [51]),(4,.str [49,48,49,47,49,48,48])]=some (.row (facs.map V.str) 5 .full):=ac
theorem u94:env.P.underlying 94=some (.slice 28):=ac
theorem jvF {k:Int}(h0:0<=k)(h:k<5):∃(f:List UInt8) (r:List V),f∈facs/\jaw 1 (.row (facs.map V.str) 5 .full) (.int .i64 k)=some (.rptr (.str f::r)):=by
 have:k=0\/k=1\/k=2\/k=3\/k=4:=aa
 rcases this with rfl|rfl|rfl|rfl|rfl
 ·exact⟨_,_,by simp[facs],rfl⟩
 ·exact⟨_,_,by simp[facs],rfl⟩
 ·exact⟨_,_,by simp[facs],rfl⟩
 ·exact⟨_,_,by simp[facs],rfl⟩
 ·exact⟨_,_,by simp[facs],rfl⟩
def Qy.zero:Qy:=⟨0,[],0,0,0,0,[],0,[],0,false,[],0,[],[],[],0,[],[],0⟩
theorem zq:jba env 30=some (.agg [.int .i64 0,.nilsl,.int .i64 0,.int .i64 0,.int .i64 0,.int .i64 0,.str [],.int .i64 0,.nilsl,.int .i64 0,.bool false,.str [],.int .i64 0,.str [],.str [],.str [],.int .i64 0,.nilsl,.str [],.int .i64 0]):=ac
def Qy.first(k:Int)(t f:List UInt8)(bt:Int):Qy:=⟨k,[],0,0,0,0,[],0,[],0,false,t,0,[],[],[],0,[],f,bt⟩
theorem jzr(k bt:Int)(t f:List UInt8):jbD env 30 [(0,.int .i64 k),(11,.str t),(18,.str f),(19,.int .i64 bt)]=some (.agg [.int .i64 k,.nilsl,.int .i64 0,.int .i64 0,.int .i64 0,.int .i64 0,.str [],.int .i64 0,.nilsl,.int .i64 0,.bool false,.str t,.int .i64 0,.str [],.str [],.str [],.int .i64 0,.nilsl,.str f,.int .i64 bt]):=ac
section
variable {xv:V}{xs:List Int}(K:Tk xv xs)
include K
theorem jvG {Q:Post}{ks:List Kt}{T:Tm}{M:List AObj}{ts:List Nat}{b c6:Nat}{s:Sch}(h6b:c6 ≠ b)(t5:T 5=.ptr b 0)(t6:T 6=.ptr c6 0)(hM:Has M b xv xs)(h6:M[c6]? = some (.cells [.str s.name,.bool s.pub,.int .i64 s.many,s.cv] 38))
  (h:∀(T':Tm) (M3:List AObj) (k bt:Int) (f:List UInt8),T' 0=T 0->T' 1=T 1->T' 4=T 4->T' 5=T 5->T' 6=T 6->T' 7=.ptr M.length 0->Has M3 b xv xs->Kp M M3 b->M3.length=M.length->1<=k->k<=10->1<=bt->bt<=12->f∈facs->G env 16 none 86 Q ks .skip T' [] ⟨M3++[qm (Qy.first k s.name f bt) .nilsl .nilsl .nilsl],ts⟩) :
  G env 16 none 86 Q ks (regB 3 (jaz Tryz.f16)) T [] ⟨M,ts⟩:=by
 simp only[jaz,Tryz.f16,Kr,regB,regO,Option.or,Nat.reduceEqDiff,Kn,Kl,reduceIte];obtain⟨r1,M1,hT1,hH1,hK1,hl1,a0,a1,_⟩:=jhZ K hM 10 (by simp[In64]);have a2:=a1 af;obtain⟨r2,M2,hT2,hH2,hK2,hl2,b0,b1,_⟩:=jhZ K hH1 5 (by simp[In64]);have b2:=b1 af;obtain⟨r3,M3,hT3,hH3,hK3,hl3,c0,c1,_⟩:=jhZ K hH2 12 (by simp[In64]);have c2:=c1 af;obtain⟨f,rf,hf,hfx⟩:=jvF b0 b2;have w1:IntKind.i64.wrap (1+r1)=1+r1:=wrap_i64 aa aa;have w3:IntKind.i64.wrap (1+r3)=1+r3:=wrap_i64 aa aa;have g1:=(hK1.2 _ (jao h6) h6b).trans h6;have g2:=(hK2.2 _ (jao g1) h6b).trans g1;have g3:=(hK3.2 _ (jao g2) h6b).trans g2;obtain⟨fo,hfo⟩:∃fo,qm (Qy.first (1+r1) s.name f (1+r3)) .nilsl .nilsl .nilsl=fo:=⟨_,rfl⟩;obtain⟨zo,hzo⟩:∃zo,AObj.cells [.int .i64 0,.nilsl,.int .i64 0,.int .i64 0,.int .i64 0,.int .i64 0,.str [],.int .i64 0,.nilsl,.int .i64 0,.bool false,.str [],.int .i64 0,.str [],.str [],.str [],.int .i64 0,.nilsl,.str [],.int .i64 0] 30=zo:=⟨_,rfl⟩;obtain⟨St,hSt⟩:∃St:Nat->S,∀c,St c=⟨(if c.testBit 11=true then M3 else if c.testBit 7=true then M2 else if c.testBit 1=true then M1 else M)++[if c.testBit 15=true then fo else if c.testBit 14=true then zo else .resv],ts⟩:=⟨_,λc=>rfl⟩
 have hI:∀j,j ≠ 1->j ≠ 7->j ≠ 11->j ≠ 14->j ≠ 15->∀c,St (c |||2^j)=St c:=λj h1 h2 h3 h4 h5 c=>by
  rw[hSt,hSt];simp only[jjj,h1,h2,h3,h4,h5,decide_false,Xr]
 refine jwC rfl St (L:=[zo]) (masks:=[0,1,3,0,8,0,0,67,227,483,0,1219,3267,8191,0,32767]) ac ac (by rw[<- hzo];kernel_rfl) ac (by rw[hSt];simp) ?_;have i0:=hI 0 af af af af af;have i2:=hI 2 af af af af af;have i3:=hI 3 af af af af af;have i4:=hI 4 af af af af af;have i5:=hI 5 af af af af af;have i6:=hI 6 af af af af af;have i8:=hI 8 af af af af af;have i9:=hI 9 af af af af af;have i10:=hI 10 af af af af af;have i12:=hI 12 af af af af af;have i13:=hI 13 af af af af af;have hl3':M3.length=M.length:=aa;have hEz:(M3++[zo])[M.length]? = some (AObj.cells [.int .i64 0,.nilsl,.int .i64 0,.int .i64 0,.int .i64 0,.int .i64 0,.str [],.int .i64 0,.nilsl,.int .i64 0,.bool false,.str [],.int .i64 0,.str [],.str [],.str [],.int .i64 0,.nilsl,.str [],.int .i64 0] 30):=by rw[hzo,<- hl3'];exact jad _ _
 have hE2:∀o o':AObj,(M3++[o]).set M.length o'=M3++[o']:=λo o'=>by rw[<- hl3'];exact jan _ _ _
 have hb:=jzr (1+r1) (1+r3) s.name f;have hg1:∀X,(M1++X)[c6]? = _:=λX=>jaE g1 X
 simp -implicitDefEqProofs only[Nat.reduceGcd,Ka,Nat.reduceLT,Nat.reduceEqDiff,Kl,Kn,reduceIte,Ys,Y0,Int.reduceEq,Int.reduceLT,Int.reduceLE,Int.reduceNeg,mb,Nat.reduceBEq,tys,stb,K0,jaa,Nat.reduceAdd,Nat.reduceLeDiff,Kf,uq,al1,jaJ,u94,juF,joy,jwD,joz,joA,jrp,joB,Qv,show ∀(t:TypeId) (n:Nat) (ps:Array (Nat × Operand)),jbl (.buildSlice t n ps)=false from λ_ _ _=>rfl,joY,joX,Qp,Qs,QH,QP,QT,t5,t6,-Ys,hT1,hT2,hT3,hfx,jaq,w1,w3,hb,jar,jzq,hg1,hEz,hE2,YW,Qf,show V.nilsl.isCell=true from rfl,i0,i2,i3,i4,i5,i6,i8,i9,i10,i12,i13]
 have ld:∀c,jce (St c).heap[c6]? 0=some (.str s.name):=λc=>by
  rw[hSt];simp only[];split
  ·rw[jaE g3];rfl
  ·split
   ·rw[jaE g2];rfl
   ·split
    ·rw[jaE g1];rfl
    ·rw[jaE h6];rfl
 refine⟨λ_ _ _=>trivial,?_,λ_ _ _=>trivial,λ_ _ _=>trivial,λc _ _=>by rw[ld];rfl,λ_ _ _=>trivial,λ_ _ _=>trivial,?_,λ_ _ _=>trivial,λ_ _ _=>trivial,λ_ _ _=>trivial,?_,λ_ _ _=>trivial,λ_ _ _=>trivial,?_,?_⟩
 ·rintro c _ ⟨a1,a2,a3⟩;have b7:c.testBit 7=false:=a3 7 af;have b11:c.testBit 11=false:=a3 11 af;have b15:c.testBit 15=false:=a3 15 af;rw[hSt,hSt];simp only[jjj,a1,b7,b11,b15,decide_true,Xj,Ku,Kn,Kl,Nat.reduceEqDiff,decide_false,Xr];exact hT1 _ _
 ·rintro c _ ⟨a1,a2,a3⟩;have b1:=a2 1 af af;have b11:c.testBit 11=false:=a3 11 af;have b15:c.testBit 15=false:=a3 15 af;rw[hSt,hSt];simp only[jjj,a1,b1,b11,b15,decide_true,Xj,Ku,Kn,Kl,Nat.reduceEqDiff,decide_false,Xr];exact hT2 _ _
 ·rintro c _ ⟨a1,a2,a3⟩;have b7:=a2 7 af af;have b15:c.testBit 15=false:=a3 15 af;rw[hSt,hSt];simp only[jjj,a1,b7,b15,decide_true,Xj,Ku,Kn,Kl,Nat.reduceEqDiff,decide_false,Xr];exact hT3 _ _
 ·rintro c _ ⟨a1,a2,a3⟩;have b15:c.testBit 15=false:=a3 15 af;have hsz:∀N:List AObj,N.length=M.length->(N++[AObj.resv])[M.length]? = some .resv/\∀o',(N++[AObj.resv]).set M.length o'=N++[o']:=λN hN=>⟨by rw[<- hN];exact jad _ _,λo'=>by rw[<- hN];exact jan _ _ _⟩
  refine⟨30,_,rfl,zq,?_,?_⟩
  ·rw[hSt];simp only[a1,b15,Ku,Kn];split
   ·exact(hsz _ hl3').1
   ·split
    ·exact(hsz _ aa).1
    ·split
     ·exact(hsz _ aa).1
     ·exact(hsz _ rfl).1
  ·rw[hSt,hSt];simp only[jjj,a1,b15,decide_true,Xj,Ku,Kn,Kl,Nat.reduceEqDiff,decide_false,Xr,S.set];split
   ·rw[(hsz _ hl3').2,<- hzo];rfl
   ·split
    ·rw[(hsz _ aa).2,<- hzo];rfl
    ·split
     ·rw[(hsz _ aa).2,<- hzo];rfl
     ·rw[(hsz _ rfl).2,<- hzo];rfl
 ·refine⟨?_,?_,?_⟩
  ·rintro c _ ⟨a1,a2,a3⟩;have b11:=a2 11 af af;have b14:=a2 14 af af
   have e1:(St c)=⟨M3++[zo],ts⟩:=by
    rw[hSt];simp only[a1,b11,b14,Ku,Kn,Kl]
   have e2:St (c |||2^15)=⟨M3++[fo],ts⟩:=by
    rw[hSt];simp only[jjj,a1,b11,b14,decide_true,Xj,Ui,Ku,Kn,Kl,Nat.reduceEqDiff,decide_false,Xr]
   rw[e1,e2,hEz];simp -implicitDefEqProofs only[Nat.reduceGcd,Ka,Nat.reduceLT,Nat.reduceEqDiff,Kl,Kn,reduceIte,Ys,Y0,Int.reduceEq,Int.reduceLT,Int.reduceLE,Int.reduceNeg,mb,Nat.reduceBEq,tys,stb,K0,jaa,Nat.reduceAdd,Nat.reduceLeDiff,Qf,show V.nilsl.isCell=true from rfl,K8,hE2];rw[<- hfo];rfl
  ·intro c hc;rw[hSt];simp only[hc 11 af,hc 15 af,Kl];rw[<- hfo];rfl
  ·exact h _ M3 (1+r1) (1+r3) f rfl rfl rfl rfl rfl rfl hH3 ((hK1.trans hK2).trans hK3) hl3' aa aa aa aa hf
end
structure KB (ss:List Sch):Prop where
 ks:KS ss
 n:1<=ss.length
 kit:∀i,i<ss.length->Kits (ss.getD i Sch.none).cs/\1<=(ss.getD i Sch.none).cs.length/\(ss.getD i Sch.none).name ≠ []
theorem jd1 {ss:List Sch}(h:KB ss)(nm:List UInt8):Kits (jcb ss nm):=λc hc=>by
 unfold jcb at hc;split at hc
 ·cases hc
 ·obtain⟨s,hs,hc⟩:=U7.1 hc;obtain⟨hs,_⟩:=Vg.1 hs;obtain⟨i,hi,e⟩:=Jr hs;have e2:ss.getD i Sch.none=s:=by simp[List.getD,hi,e]
  exact(h.kit i hi).1 c (by rw[e2];exact hc)
theorem jmc {ss:List Sch}(h:KB ss){i:Nat}(hi:i<ss.length):1<=(jcb ss (ss.getD i Sch.none).name).length:=by
 unfold jcb;rw[Ke (h.kit i hi).2.2];have e2:ss.getD i Sch.none=ss[i]:=by simp[List.getD,hi]
 have hl:=(h.kit i hi).2.1;rw[e2]at hl ⊢;cases hc:ss[i].cs with
 |nil=>rw[hc]at hl;simp at hl
 |cons c r =>
  have:c∈(ss.filter λs=>decide (s.name=ss[i].name)).flatMap Sch.cs:=U7.2 ⟨ss[i],Vg.2 ⟨J7 hi,ae⟩,by rw[hc];simp⟩;exact List.length_pos_of_mem this
theorem Kits.bound {cs:List Col}(h:Kits cs){i:Nat}(hi:i<cs.length):OkC cs/\(cs.getD i Col.none).ws.length<=1000 /\ -1000<=(cs.getD i Col.none).lo/\(cs.getD i Col.none).lo<=(cs.getD i Col.none).hi/\(cs.getD i Col.none).hi<=1000:=by
 have hk:Kit (cs.getD i Col.none):=h _ (by simp[List.getD,hi]);obtain⟨_,hw,hk⟩:=hk;refine⟨λc hc=>(h c hc).2.1,?_⟩
 rcases hk with⟨h1,h2,h3,h4⟩|⟨k,k1,k5,h1,h2,h3⟩
 ·rw[h1];exact⟨ae,aa,aa,aa⟩
 ·rw[h1];exact⟨by simp;omega,aa,aa,aa⟩
def ja5(ss:List Sch)(Q:Qy):List Col:=jcb ss Q.table++jcb ss Q.other
def jiQ(ss:List Sch)(Q:Qy):Prop:=∃(i:Nat) (k bt:Int) (f:List UInt8) (Q2 Q3 Q4:Qy),i<ss.length/\1<=k/\k<=10/\1<=bt/\bt<=12/\f∈facs /\
 (Q2=Qy.first k (ss.getD i Sch.none).name f bt\/(ss.getD i Sch.none).pub=false/\∃kp,1<=kp/\kp<=4/\Q2={ Qy.first k (ss.getD i Sch.none).name f bt with keep:=kp }) /\
 (Q3=Q2\/∃j,j<ss.length/\((ss.getD i Sch.none).pub=false\/(ss.getD j Sch.none).pub=true)/\JQ Q2 Q3 (ss.getD i Sch.none) (ss.getD j Sch.none)) /\
 (Q4=Q3\/∃e,WF (ja5 ss Q3) e/\e.kind=1/\e.post.length<=bnd 3/\Q4={ Q3 with wh:=e.post })/\je2 (ja5 ss Q3) Q4 Q
def QR(ss:List Sch)(L:List AObj)(ts:List Nat)(v:V)(U:S):Prop:=∃(Q:Qy) (ev wv rv:V) (M:List AObj) (ts':List Nat),v=.agg (Q.cells ev wv rv)/\U=⟨M,ts'⟩/\jiQ ss Q/\GN ts.length ts' ev Q.ex/\GN ts.length ts' wv Q.wh/\GrowV ts.length ts' 2 rv Q.rg.length (jeC Q.rg)/\Ext ts.length ts ts'/\L.length<=M.length/\∀j,j<L.length->M[j]? = L[j]?
abbrev P16(R:V->S->Prop):Post:=⟨wpR env Tryz.f16.results.toList R,λ_ _ _ _=>False,wpR env Tryz.f16.results.toList R⟩
theorem ldqm {L:List AObj}{b:Nat}{Q:Qy}{ev wv rv:V}(h:L[b]? = some (qm Q ev wv rv)):jab L 20 (.ptr b 0)=some (Q.cells ev wv rv):=by simp[jab,h,Qy.cells]
structure QI (ss:List Sch) (q:RCap) (xv:V) (xs:List Int) (L:List AObj) (b P c6 c4 i:Nat) (Q:Qy) (wv:V) (M:List AObj) (T:Tm):Prop where
 t1:T 1=.row (jaY ss) ss.length q
 t4:T 4=.ptr c4 0
 t5:T 5=.ptr b 0
 t6:T 6=.ptr c6 0
 t7:T 7=.ptr P 0
 hH:Has M b xv xs
 hP:M[P]? = some (qm Q .nilsl wv .nilsl)
 h4:M[c4]? = some (qm Qy.zero .nilsl .nilsl .nilsl)
 h6:M[c6]? = some (.cells [.str (ss.getD i Sch.none).name,.bool (ss.getD i Sch.none).pub,.int .i64 (ss.getD i Sch.none).many,(ss.getD i Sch.none).cv] 38)
 ne:P ≠ b/\P ≠ c4/\P ≠ c6/\c4 ≠ b/\c6 ≠ b
 ge:L.length<=b/\L.length<=P/\L.length<=c4
 kp:L.length<=M.length/\∀j,j<L.length->M[j]? = L[j]?
section
variable {xv:V}{xs:List Int}(K:Tk xv xs){ss:List Sch}{q:RCap}{L M:List AObj}{b P c6 c4 i:Nat}{ts ts1:List Nat}{T:Tm}{Q3 Q4:Qy}{wv:V}
include K
theorem q12(hB:KB ss)(hi:i<ss.length)(I:QI ss q xv xs L b P c6 c4 i Q4 wv M T){qc:RCap}(t9:T 9=.row (jaO (ja5 ss Q3)) (ja5 ss Q3).length qc)(h3:Q3.table=(ss.getD i Sch.none).name)(hex:Q4.ex=[]/\Q4.rg=[])(hk:1<=Q4.kind/\Q4.kind<=10)(hwv:GN ts.length ts1 wv Q4.wh)(hE:Ext ts.length ts ts1)
  (hG:∀Q,je2 (ja5 ss Q3) Q4 Q->jiQ ss Q) (hwh:∀Q,je2 (ja5 ss Q3) Q4 Q->Q.wh=Q4.wh):G env 16 none 86 (P16 (QR ss L ts)) [.code (jbQ 9 (jaz Tryz.f16))] (regZ 12 (jaz Tryz.f16)) T [] ⟨M,ts1⟩:=by
 have hw:=hwv.cells;have hkits:Kits (ja5 ss Q3):=λc hc=>(Jl.1 hc).elim (jd1 hB _ c) (jd1 hB _ c)
 have hpos:1<=(ja5 ss Q3).length:=by
  have:=jmc hB hi;unfold ja5;rw[Kk,h3];omega
 have hle:(ja5 ss Q3).length<=30:=by
  have h1:=jeb hB.ks Q3.table ss.length (Kw _);have h2:=jeb hB.ks Q3.other ss.length (Kw _);rw[Jh]at h1 h2;have:=hB.ks.l;unfold ja5;rw[Kk];omega
 have hb:=λi hi=>Kits.bound hkits (i:=i) hi
 have hK:=jp3 (q:=qc) (ts:=ts1) K (hb 0 aa).1 hpos aa (λi hi=>(hb i hi).2.1) (λi hi=>(hb i hi).2.2) hk hex.1 hex.2 hw.2 I.ne.1 I.hH I.hP;simp only[regZ,regA,jbQ,jaz,Tryz.f16,Kr,simprocAttr,Option.or,Ka,Ys,Y0,Kc,K0,jaa,I.t5,I.t7,t9];refine jgb hK ?_;rintro v _ ⟨M',ts',Q,ev,rv,rfl,hH',hP',hq,ge,gr,xE,k2⟩;have h4:=(k2.2 c4 (jao I.h4) I.ne.2.2.2.1 (Ne.symm I.ne.2.1)).trans I.h4;have hl:=ldqm hP';have ec:=ge.cells;have rc:=gr.cells;unfold Qy.cells at hl;have sP:∀o,(M'.set c4 o)[c4]? = some o:=λo=>Km (jao h4)
 have h4':M'[c4]? = some (.cells [.int .i64 0,.nilsl,.int .i64 0,.int .i64 0,.int .i64 0,.int .i64 0,.str [],.int .i64 0,.nilsl,.int .i64 0,.bool false,.str [],.int .i64 0,.str [],.str [],.str [],.int .i64 0,.nilsl,.str [],.int .i64 0] 30):=h4;have hl2:=λev wv rv=>ldqm (L:=M'.set c4 (qm Q ev wv rv)) (b:=c4) (Q:=Q) (sP (qm Q ev wv rv))
 unfold Qy.cells at hl2;simp only[Tryz.f16,simprocAttr,zK,K0,jaa,I.t4,I.t7,uq,al1,hl,h4',YW,Qf,ec.2,rc.2,hw.2,K8,Q5,sP,hl2]
 exact⟨Q,ev,wv,rv,_,ts',rfl,rfl,hG Q hq,(ge.weakbase hE.1),by rw[hwh Q hq];exact(hwv.ext xE),gr.weakbase hE.1,hE.trans (xE.mono hE.1),by have:=k2.1;have:=I.kp.1;simp;omega,λj hj=>by
  have h1:=I.ge;rw[Kh aa,k2.2 j (by have:=I.kp.1;omega) aa aa];exact I.kp.2 j hj⟩
end
section
variable {xv:V}{xs:List Int}(K:Tk xv xs){ss:List Sch}{q:RCap}{L M:List AObj}{b P c6 c4 i:Nat}{ts ts1:List Nat}{T:Tm}{Q3:Qy}
theorem QI.mv {wv wv':V}{Q Q':Qy}{M':List AObj}{T':Tm}(I:QI ss q xv xs L b P c6 c4 i Q wv M T)(u1:T' 1=T 1)(u4:T' 4=T 4)(u5:T' 5=T 5)(u6:T' 6=T 6)(u7:T' 7=T 7)(hH:Has M' b xv xs)(hP:M'[P]? = some (qm Q' .nilsl wv' .nilsl))(hk:∀j,j<M.length->j ≠ b->j ≠ P->M'[j]? = M[j]?)(hl:M.length<=M'.length):QI ss q xv xs L b P c6 c4 i Q' wv' M' T' :=
 ⟨u1.trans I.t1,u4.trans I.t4,u5.trans I.t5,u6.trans I.t6,u7.trans I.t7,hH,hP,(hk _ (jao I.h4) I.ne.2.2.2.1 (Ne.symm I.ne.2.1)).trans I.h4,(hk _ (jao I.h6) I.ne.2.2.2.2 (Ne.symm I.ne.2.2.1)).trans I.h6,I.ne,I.ge,
  by have:=I.kp.1;omega,λj hj=>by
   have h1:=I.ge;rw[hk j (by have:=I.kp.1;omega) aa aa];exact I.kp.2 j hj⟩
include K
theorem q9(hB:KB ss)(hi:i<ss.length)(I:QI ss q xv xs L b P c6 c4 i Q3 .nilsl M T)(h3:Q3.table=(ss.getD i Sch.none).name)(hex:Q3.ex=[]/\Q3.rg=[]/\Q3.wh=[])(hk:1<=Q3.kind/\Q3.kind<=10)(hE:Ext ts.length ts ts1)
  (hG:∀Q4 Q,(Q4=Q3\/∃e,WF (ja5 ss Q3) e/\e.kind=1/\e.post.length<=bnd 3/\Q4={ Q3 with wh:=e.post })->je2 (ja5 ss Q3) Q4 Q->jiQ ss Q/\Q.wh=Q4.wh):G env 16 none 86 (P16 (QR ss L ts)) [.code (jbQ 7 (jaz Tryz.f16))] (regZ 9 (jaz Tryz.f16)) T [] ⟨M,ts1⟩:=by
 have hP:=I.hP;have hC:=jju (q:=q) (L:=M) (ts:=ts1) (t:=Q3.table) (o:=Q3.other) hB.ks;have hkits:Kits (ja5 ss Q3):=λc hc=>(Jl.1 hc).elim (jd1 hB _ c) (jd1 hB _ c)
 have hpos:1<=(ja5 ss Q3).length:=by
  have:=jmc hB hi;unfold ja5;rw[Kk,h3];omega
 have hle:(ja5 ss Q3).length<=30:=by
  have h1:=jeb hB.ks Q3.table ss.length (Kw _);have h2:=jeb hB.ks Q3.other ss.length (Kw _);rw[Jh]at h1 h2;have:=hB.ks.l;unfold ja5;rw[Kk];omega
 have hb:=λi hi=>Kits.bound hkits (i:=i) hi
 simp only[regZ,regA,jbQ,jaz,Tryz.f16,Kr,simprocAttr,Option.or,Kb,jd5 12,Zp,Ys,Y0,Kc,K0,jaa,al1,uq,fo30,I.t1,I.t5,I.t7,hP];refine jgb hC ?_;rintro v _ ⟨ts2,rfl,gC,xE⟩;obtain⟨qc,rfl⟩:∃qc,v=.row (jaO (ja5 ss Q3)) (ja5 ss Q3).length qc:=GrowV.isrow gC hpos;obtain⟨r,M2,hT,hH2,hK2,hl2,r0,r1,_⟩:=jaS K I.hH 2 (by simp[In64]);have hT:=hT ts2;have fP:=(hK2.2 _ (jao hP) I.ne.1).trans hP;by_cases hr:r=1
 ·have g:=eq_true hr;obtain⟨wv,_,hD,e,M3,ts3,rfl,hH3,hK3,gv,xE3,wf,ek,el⟩:=(jtR K qc (hb 0 aa).1 hpos aa (λi hi=>(hb i hi).2.1) 3 (Kw _)).2 M2 b ts2 hH2;have hD:jah env (Go.Ab.ev env) 81 [.ptr b 0,.row (jaO (ja5 ss Q3)) (ja5 ss Q3).length qc,.int .i64 3] ⟨M2,ts2⟩=some (wv,⟨M3,ts3⟩):=hD;have fP3:=(hK3.2 _ (jao fP) I.ne.1).trans fP;have wc:=gv.cells;have sP:∀o,(M3.set P o)[P]? = some o:=λo=>Km (jao fP3)
  simp only[Kb,jd5 12,Zp,simprocAttr,Ys,Y0,Kc,K0,jaa,al1,uq,fo30,I.t1,I.t5,I.t7,hT,g,hD,fP3,wc.1,wc.2];refine q12 (Q3:=Q3) (Q4:={ Q3 with wh:=e.post }) (wv:=wv) K hB hi (I.mv rfl rfl rfl rfl rfl (hH3.setP _ I.ne.1) (sP _) (λj hj h1 h2=>by rw[Kh (Ne.symm h2),hK3.2 j aa h1,hK2.2 j hj h1]) (by have:=hK3.1;simp;omega)) (qc:=qc) ?_ h3 ⟨hex.1,hex.2.1⟩ hk (gv.weakbase (Jp hE.1 xE.1)) ((hE.trans (xE.mono hE.1)).trans (xE3.mono (Jp hE.1 xE.1))) (λQ hq=>(hG _ Q (.inr ⟨e,wf,ek,el,rfl⟩) hq).1) (λQ hq=>(hG _ Q (.inr ⟨e,wf,ek,el,rfl⟩) hq).2);rfl
 ·have g:=eq_false hr;simp only[Kb,jd5 12,Zp,simprocAttr,Ys,Y0,Kc,K0,jaa,al1,uq,fo30,I.t1,I.t5,I.t7,hT,g];refine q12 (Q3:=Q3) (Q4:=Q3) (wv:=.nilsl) K hB hi (I.mv rfl rfl rfl rfl rfl hH2 fP (λj hj h1 h2=>hK2.2 j hj h1) aa) (qc:=qc) ?_ h3 ⟨hex.1,hex.2.1⟩ hk (by rw[hex.2.2];exact .nil) (hE.trans (xE.mono hE.1)) (λQ hq=>(hG _ Q (.inl rfl) hq).1) (λQ hq=>(hG _ Q (.inl rfl) hq).2);rfl
end
noncomputable def midC:Code:=match jbQ 5 (jaz Tryz.f16)with| .seq (.seq _ c) _=>c|_=>.skip
section
variable {xv:V}{xs:List Int}(K:Tk xv xs){ss:List Sch}{q:RCap}{L M:List AObj}{b P c6 c4 i:Nat}{ts:List Nat}{T:Tm}{Q2:Qy}
include K
theorem q6(hB:KB ss)(hi:i<ss.length)(I:QI ss q xv xs L b P c6 c4 i Q2 .nilsl M T)(h3:Q2.table=(ss.getD i Sch.none).name)(hex:Q2.ex=[]/\Q2.rg=[]/\Q2.wh=[])(hk:1<=Q2.kind/\Q2.kind<=10)
  (hG:∀Q3 Q4 Q,(Q3=Q2\/∃j,j<ss.length/\((ss.getD i Sch.none).pub=false\/(ss.getD j Sch.none).pub=true)/\JQ Q2 Q3 (ss.getD i Sch.none) (ss.getD j Sch.none))->(Q4=Q3\/∃e,WF (ja5 ss Q3) e/\e.kind=1/\e.post.length<=bnd 3/\Q4={ Q3 with wh:=e.post })->je2 (ja5 ss Q3) Q4 Q->jiQ ss Q/\Q.wh=Q4.wh) :
  G env 16 none 86 (P16 (QR ss L ts)) [.code midC,.code (jbQ 6 (jaz Tryz.f16))] (regZ 6 (jaz Tryz.f16)) T [] ⟨M,ts⟩:=by
 have hP:=I.hP;have hn:=hB.n;obtain⟨r,M1,hT,hH1,hK1,hl1,r0,r1,_⟩:=jaS K I.hH ss.length (by simp[In64];have:=hB.ks.l;omega);have r2:=r1 aa;have hT:=hT ts;obtain⟨j,rfl⟩:∃j:Nat,r=j:=⟨r.toNat,aa⟩;have hj:j<ss.length:=aa;obtain⟨rr,hx⟩:=jiP ss q hj;have ld4:=jaM;have z38:jba env 38=some (.agg [.str [],.bool false,.int .i64 0,.nilsl]):=ac;obtain⟨oka,hal,qa,hca⟩:=hB.ks.at' i hi;obtain⟨okc,hcl,qc,hcc⟩:=hB.ks.at' j hj;have icv:(ss.getD j Sch.none).cv.isCell=true:=by rw[hcc];rfl
 have fP:=(hK1.2 _ (jao hP) I.ne.1).trans hP;have f6:=(hK1.2 _ (jao I.h6) I.ne.2.2.2.2).trans I.h6;obtain⟨co,hco⟩:∃co,AObj.cells [.str (ss.getD j Sch.none).name,.bool (ss.getD j Sch.none).pub,.int .i64 (ss.getD j Sch.none).many,(ss.getD j Sch.none).cv] 38=co:=⟨_,rfl⟩;obtain⟨s,M2,hT2,hH2,hK2,hl2,s0,s1,_⟩:=jaS K (hH1.app [co]) 2 (by simp[In64]);have s2:=s1 af;have hT2:=hT2 ts;have gP:=(hK2.2 _ (by have:=jao fP;simp;omega) I.ne.1).trans (jaE fP [co]);have g6:=(hK2.2 _ (by have:=jao f6;simp;omega) I.ne.2.2.2.2).trans (jaE f6 [co])
 have g8:M2[M1.length]? = some (.cells [.str (ss.getD j Sch.none).name,.bool (ss.getD j Sch.none).pub,.int .i64 (ss.getD j Sch.none).many,(ss.getD j Sch.none).cv] 38):=by
  rw[hK2.2 _ ae (by have:=hH1.lt;omega),hco];exact jad _ _
 have hkk:∀y,y<M.length->y ≠ b->y ≠ P->M2[y]? = M[y]? := λy hy h1 h2=>by
  rw[hK2.2 y (by simp;omega) h1,Kj aa,hK1.2 y hy h1]
 have hll:M.length<=M2.length:=by rw[hl2];simp;omega
 have la:jab M2 4 (.ptr c6 0)=some _:=jb7 g6;have lc:jab M2 4 (.ptr M1.length 0)=some _:=jb7 g8;have hJ:=jnH K (a:=ss.getD i Sch.none) (c:=ss.getD j Sch.none) hca hcc aa aa I.ne.1 hH2 gP ⟨rfl,rfl,rfl⟩ ts;unfold Sch.cells at hJ;subst hco;by_cases hs:s=1
 case neg =>
  have d:=eq_false hs;simp only[regZ,regA,midC,jbQ,jaz,Tryz.f16,Kr,simprocAttr,Option.or,Kb,jd5 9,Zp,Ys,Y0,Kc,K0,jaa,al1,uq,fo30,jaJ,Yt,I.t1,I.t5,I.t6,I.t7,hT,hx,-Ys,ld4,z38,K2,jae,jam,jac,icv,hT2,d];exact q9 K hB hi (I.mv rfl rfl rfl rfl rfl hH2 gP hkk hll) h3 hex hk (.rfl' _ _) (λQ4 Q h4 hq=>hG _ Q4 Q (.inl rfl) h4 hq)
 have d:=eq_true hs
 have go:((ss.getD i Sch.none).pub=false\/(ss.getD j Sch.none).pub=true)->∀(M':List AObj) (Q3:Qy) (T':Tm),T' 1=T 1->T' 4=T 4->T' 5=T 5->T' 6=T 6->T' 7=T 7->Has M' b xv xs->M'[P]? = some (qm Q3 .nilsl .nilsl .nilsl)->JQ Q2 Q3 (ss.getD i Sch.none) (ss.getD j Sch.none)->Kp2 M2 M' b P ->
   G env 16 none 86 (P16 (QR ss L ts)) [.code (jbQ 7 (jaz Tryz.f16))] (regZ 9 (jaz Tryz.f16)) T' [] ⟨M',ts⟩:=λhp M' Q3 T' u1 u4 u5 u6 u7 hH hP3 hJ hK3=>by
  have e1:Q3.table=Q2.table/\Q3.ex=Q2.ex/\Q3.rg=Q2.rg/\Q3.wh=Q2.wh/\Q3.kind=Q2.kind:=by
   rcases hJ with rfl|⟨_,_,_,_,_,_,_,_,rfl⟩<;>exact⟨rfl,rfl,rfl,rfl,rfl⟩
  exact q9 K hB hi (I.mv u1 u4 u5 u6 u7 hH hP3 (λy hy h1 h2=>by rw[hK3.2 y aa h1 h2,hkk y hy h1 h2]) (by have:=hK3.1;omega)) (e1.1.trans h3) ⟨e1.2.1.trans hex.1,e1.2.2.1.trans hex.2.1,e1.2.2.2.1.trans hex.2.2⟩ (by rw[e1.2.2.2.2];exact hk) (.rfl' _ _) (λQ4 Q h4 hq=>hG _ Q4 Q (.inr ⟨j,hj,hp,hJ⟩) h4 hq)
 cases pa:(ss.getD i Sch.none).pub
 ·simp only[regZ,regA,midC,jbQ,jaz,Tryz.f16,Kr,simprocAttr,Option.or,Kb,jd5 9,Zp,Ys,Y0,Kc,K0,jaa,al1,uq,fo30,jaJ,Yt,I.t1,I.t5,I.t6,I.t7,hT,hx,-Ys,ld4,z38,K2,jae,jam,jac,icv,hT2,d,g6,g8,pa,la,lc];rw[pa]at hJ;refine jgb hJ ?_;rintro v _ ⟨M',Q3,rfl,hH',hP',hJQ,hK'⟩;simp only[Kb,jd5 9,Zp,simprocAttr,Ys,Y0,Kc,Vq,al1];exact go (.inl pa) M' Q3 _ rfl rfl rfl rfl rfl hH' hP' hJQ hK'
 ·cases pc:(ss.getD j Sch.none).pub<;>simp only[pc]at hT2 g8 lc
  ·simp only[regZ,regA,midC,jbQ,jaz,Tryz.f16,Kr,simprocAttr,Option.or,Kb,jd5 9,Zp,Ys,Y0,Kc,K0,jaa,al1,uq,fo30,jaJ,Yt,I.t1,I.t5,I.t6,I.t7,hT,hx,-Ys,ld4,z38,K2,jae,jam,jac,icv,hT2,d,g6,g8,pa,pc];exact q9 K hB hi (I.mv rfl rfl rfl rfl rfl hH2 gP hkk hll) h3 hex hk (.rfl' _ _) (λQ4 Q h4 hq=>hG _ Q4 Q (.inl rfl) h4 hq)
  ·simp only[regZ,regA,midC,jbQ,jaz,Tryz.f16,Kr,simprocAttr,Option.or,Kb,jd5 9,Zp,Ys,Y0,Kc,K0,jaa,al1,uq,fo30,jaJ,Yt,I.t1,I.t5,I.t6,I.t7,hT,hx,-Ys,ld4,z38,K2,jae,jam,jac,icv,hT2,d,g6,g8,pa,pc,la,lc];rw[pa,pc]at hJ;refine jgb hJ ?_;rintro v _ ⟨M',Q3,rfl,hH',hP',hJQ,hK'⟩;simp only[Kb,jd5 9,Zp,simprocAttr,Ys,Y0,Kc,Vq,al1];exact go (.inr pc) M' Q3 _ rfl rfl rfl rfl rfl hH' hP' hJQ hK'
end
theorem je2.wh {cs:List Col}{Q0 Q:Qy}(h:je2 cs Q0 Q):Q.wh=Q0.wh:=by
 obtain⟨i,_,_,h⟩:=h
 rcases h with⟨_,rfl⟩|⟨_,_,_,_,_,_,_,_,_,_,_,_,_,_,rfl⟩|⟨_,_,rfl⟩|⟨_,_,_,_,rfl⟩|⟨_,_,_,_,_,_,_,_,rfl⟩|⟨_,rfl⟩<;>rfl
section
variable {xv:V}{xs:List Int}(K:Tk xv xs){ss:List Sch}{q:RCap}{L M:List AObj}{b P c6 c4 i:Nat}{ts:List Nat}{T:Tm}{k bt:Int}{f:List UInt8}
include K
theorem q4(hB:KB ss)(hi:i<ss.length)(hk:1<=k/\k<=10)(hbt:1<=bt/\bt<=12)(hf:f∈facs)(I:QI ss q xv xs L b P c6 c4 i (Qy.first k (ss.getD i Sch.none).name f bt) .nilsl M T) :
  G env 16 none 86 (P16 (QR ss L ts)) [.code (jbQ 4 (jaz Tryz.f16))] .skip T [] ⟨M,ts⟩:=by
 have hP:=I.hP;have h6:=I.h6
 have good:∀Q2:Qy,(Q2=Qy.first k (ss.getD i Sch.none).name f bt\/(ss.getD i Sch.none).pub=false/\∃kp,1<=kp/\kp<=4/\Q2={ Qy.first k (ss.getD i Sch.none).name f bt with keep:=kp }) ->
   ∀Q3 Q4 Q,(Q3=Q2\/∃j,j<ss.length/\((ss.getD i Sch.none).pub=false\/(ss.getD j Sch.none).pub=true)/\JQ Q2 Q3 (ss.getD i Sch.none) (ss.getD j Sch.none))->(Q4=Q3\/∃e,WF (ja5 ss Q3) e/\e.kind=1/\e.post.length<=bnd 3/\Q4={ Q3 with wh:=e.post })->je2 (ja5 ss Q3) Q4 Q->jiQ ss Q/\Q.wh=Q4.wh :=
  λQ2 h2 Q3 Q4 Q h3 h4 h5=>⟨⟨i,k,bt,f,Q2,Q3,Q4,hi,hk.1,hk.2,hbt.1,hbt.2,hf,h2,h3,h4,h5⟩,je2.wh h5⟩
 cases pa:(ss.getD i Sch.none).pub
 ·obtain⟨r,M1,hT,hH1,hK1,hl1,r0,r1,_⟩:=jaS K I.hH 3 (by simp[In64]);have r2:=r1 af;have hT:=hT ts;have gP:=(hK1.2 _ (jao hP) I.ne.1).trans hP;by_cases hr:r=1
  case neg =>
   have d:=eq_false hr;simp only[jbQ,jaz,Tryz.f16,Kr,Kb,jd5 6,Zp,simprocAttr,Ys,Y0,Kc,Vq,al1,uq,fo30,jaJ,I.t1,I.t5,I.t6,I.t7,h6,pa,hT,d];exact q6 K hB hi (I.mv rfl rfl rfl rfl rfl hH1 gP (λy _ h1 _=>hK1.2 y aa h1) aa) rfl ⟨rfl,rfl,rfl⟩ hk (good _ (.inl rfl))
  have d:=eq_true hr;obtain⟨r',M2,hT2,hH2,hK2,hl2,s0,s1,_⟩:=jaS K hH1 4 (by simp[In64]);have s2:=s1 af;have hT2:=hT2 ts;have w1:IntKind.i64.wrap (1+r')=1+r':=wrap_i64 aa aa;have gP2:=(hK2.2 _ (jao gP) I.ne.1).trans gP;have sP:∀o,(M2.set P o)[P]? = some o:=λo=>Km (jao gP2)
  have gP3:M2[P]? = some (.cells [.int .i64 k,.nilsl,.int .i64 0,.int .i64 0,.int .i64 0,.int .i64 0,.str [],.int .i64 0,.nilsl,.int .i64 0,.bool false,.str (ss.getD i Sch.none).name,.int .i64 0,.str [],.str [],.str [],.int .i64 0,.nilsl,.str f,.int .i64 bt] 30):=gP2;simp only[jbQ,jaz,Tryz.f16,Kr,Kb,jd5 6,Zp,simprocAttr,Ys,Y0,Kc,K0,jaa,al1,uq,fo30,jaJ,I.t1,I.t5,I.t6,I.t7,h6,pa,hT,d,hT2,w1,gP3,jac];exact q6 K hB hi (Q2:={ Qy.first k (ss.getD i Sch.none).name f bt with keep:=1+r' }) (I.mv rfl rfl rfl rfl rfl (by obtain⟨a,h1,h2⟩:=hH2;exact⟨a,h1,by rw[Kh I.ne.1];exact h2⟩) (sP _) (λy _ h1 h2=>by rw[Kh (Ne.symm h2),hK2.2 y aa h1,hK1.2 y aa h1]) (by simp;omega)) rfl ⟨rfl,rfl,rfl⟩ hk (good _ (.inr ⟨pa,1+r',aa,aa,rfl⟩))
 ·simp only[jbQ,jaz,Tryz.f16,Kr,Kb,jd5 6,Zp,simprocAttr,Ys,Y0,Kc,Vq,al1,uq,fo30,jaJ,I.t1,I.t5,I.t6,I.t7,h6,pa];exact q6 K hB hi (I.mv rfl rfl rfl rfl rfl I.hH hP (λ_ _ _ _=>rfl) (Kw _)) rfl ⟨rfl,rfl,rfl⟩ hk (good _ (.inl rfl))
end
theorem jp4 {xv:V}{xs:List Int}(K:Tk xv xs){ss:List Sch}{q:RCap}(hB:KB ss)(L:List AObj)(ts:List Nat) :
  ∃v U',jah env (ev env) 16 [xv,.row (jaY ss) ss.length q] ⟨L,ts⟩=some (v,U')/\QR ss L ts v U':=by
 have hn:=hB.n;have b39:=jny K.hx;have cx:=jcv K.hx;obtain⟨zo,hzo⟩:∃zo,AObj.cells [.int .i64 0,.nilsl,.int .i64 0,.int .i64 0,.int .i64 0,.int .i64 0,.str [],.int .i64 0,.nilsl,.int .i64 0,.bool false,.str [],.int .i64 0,.str [],.str [],.str [],.int .i64 0,.nilsl,.str [],.int .i64 0] 30=zo:=⟨_,rfl⟩;have hH0:Has (L++[zo]++[tk xv 0]) (L++[zo]).length xv xs:=⟨0,Qm _,jad _ _⟩;obtain⟨r,M1,hT,hH1,hK1,hl1,r0,r1,_⟩:=jaS K hH0 ss.length (by simp[In64];have:=hB.ks.l;omega);have r2:=r1 aa;have hT:jah env (ev env) 78 [.ptr (L++[zo]).length 0,.int .i64 ss.length] ⟨L++[zo]++[.cells [xv,.int .i64 0] 93],ts⟩=some (.int .i64 r,⟨M1,ts⟩):=hT ts;obtain⟨i,rfl⟩:∃i:Nat,r=i:=⟨r.toNat,aa⟩;have hi:i<ss.length:=aa;obtain⟨rr,hx⟩:=jiP ss q hi;have ld4:=jaM;have z38:jba env 38=some (.agg [.str [],.bool false,.int .i64 0,.nilsl]):=ac;have z30:=zq;obtain⟨oka,hal,qa,hca⟩:=hB.ks.at' i hi;have icv:(ss.getD i Sch.none).cv.isCell=true:=by rw[hca];rfl
 have hl0:M1.length=L.length+2:=by rw[hl1];simp
 have h40:M1[L.length]? = some zo:=by
  rw[hK1.2 _ ae ae,K7];simp
 refine jaD at16 rfl ?_;simp only[Tryz.f16,Kb,Zo,simprocAttr,Ys,Y0,Kc,K0,jaa,al1,uq,fo30,jaJ,z30,hzo,b39,cx,Yt,hT,hx,-Ys,ld4,z38,K2,jae,jam,jac,icv];refine jvG K (b:=(L++[zo]).length) (c6:=M1.length) (s:=ss.getD i Sch.none) (by rw[hl0];simp) rfl rfl (hH1.app _) (jad _ _) ?_;intro T' M3 k bt f u0 u1 u4 u5 u6 u7 hH3 hK3 hl3 k1 k2 b1 b2 hf;refine q4 K (q:=q) (b:=(L++[zo]).length) (P:=(M1++[AObj.cells [.str (ss.getD i Sch.none).name,.bool (ss.getD i Sch.none).pub,.int .i64 (ss.getD i Sch.none).many,(ss.getD i Sch.none).cv] 38]).length) (c6:=M1.length) (c4:=L.length) hB hi ⟨k1,k2⟩ ⟨b1,b2⟩ hf ⟨?_,?_,?_,?_,u7,hH3.app _,?_,?_,?_,?_,?_,?_⟩
 ·rw[u1];rfl
 ·rw[u4];rfl
 ·rw[u5];rfl
 ·rw[u6];rfl
 ·rw[<- hl3];exact jad _ _
 ·rw[Kj (by rw[hl3];simp;omega),hK3.2 _ (by simp;omega) ae,Kj aa,h40,<- hzo];rfl
 ·rw[Kj (by rw[hl3];simp),hK3.2 _ ae (by simp;omega)];exact jad _ _
 ·simp;omega
 ·simp;omega
 ·refine⟨by rw[Kk,hl3,Kk,hl0];omega,λj hj => ?_⟩;rw[Kj (by rw[hl3];simp;omega),hK3.2 _ (by simp;omega) (by simp;omega),Kj aa,hK1.2 _ (by simp;omega) (by simp;omega),K7,Kj aa]
structure KitL (cs:List Col) (ss:List Sch):Prop where
 all:AllC cs
 five:cs.length=5
 n:1<=ss.length
 l:ss.length<=3
 at':∀i,i<ss.length->KitS cs i (ss.getD i Sch.none)
theorem jvH {i:Nat}(h:i<3):tabs.getD i [] ≠ []:=by
 match i,h with
 |0,_=>decide
 |1,_=>decide
 |2,_=>decide
theorem KitL.kb {cs:List Col}{ss:List Sch}(h:KitL cs ss):KB ss:=by
 have hl:=h.l;refine⟨⟨h.l,λi hi => ?_⟩,h.n,λi hi => ?_⟩
 ·have k:=h.at' i hi;exact⟨(k.sub.kits h.all h.five).ok,k.le,k.row⟩
 ·have k:=h.at' i hi;exact⟨k.sub.kits h.all h.five,k.ne,by rw[k.nm];exact jvH aa⟩
theorem jkU {j:Nat}(h:j<5):jaZ (ages.getD j []):=by
 match j,h with
 |0,_=>exact of_decide_eq_true ac
 |1,_=>exact of_decide_eq_true ac
 |2,_=>exact of_decide_eq_true ac
 |3,_=>exact of_decide_eq_true ac
 |4,_=>exact of_decide_eq_true ac
theorem jsd {j:Nat}(h:j<5):jaZ (reds.getD j []):=by
 match j,h with
 |0,_=>exact of_decide_eq_true ac
 |1,_=>exact of_decide_eq_true ac
 |2,_=>exact of_decide_eq_true ac
 |3,_=>exact of_decide_eq_true ac
 |4,_=>exact of_decide_eq_true ac
theorem jnI {j:Nat}(h:j<3):jaZ (tabs.getD j []):=by
 match j,h with
 |0,_=>exact of_decide_eq_true ac
 |1,_=>exact of_decide_eq_true ac
 |2,_=>exact of_decide_eq_true ac
theorem jnJ:∀j,j<5->∀k,k<j->ages.getD k [] ≠ ages.getD j []:=af
theorem jvI:∀j,j<5->∀k,k<j->reds.getD k [] ≠ reds.getD j []:=af
theorem jh0:∀j,j<3->∀k,k<j->tabs.getD k [] ≠ tabs.getD j []:=af
theorem jkV {c:Col}(h:Kit c):colE c=0:=by
 obtain⟨_,_,h⟩:=h;unfold colE
 rcases h with⟨h1,h2,h3,h4⟩|⟨k,k1,k5,h1,h2,h3⟩
 ·rw[Kg (by rw[h1];rfl),Ke aa]
 ·have hr:reds.length=5:=rfl;have hl:c.ws.length=k:=by rw[h1,Qx,hr];omega
  have hg:∀i,i<k->c.ws.getD i []=reds.getD i []:=λi hi=>by rw[h1];simp[List.getD,Jw,hi]
  rw[hl,Ke aa,Ke aa,Ke,Ke,Ke aa]
  ·rintro⟨a,i,h6,h7,h8⟩;rw[hl]at h7;rw[hg a aa,hg i h7]at h8;exact jvI i aa a h6 h8
  ·rintro⟨i,hi,h7⟩;rw[hg i hi]at h7;exact h7 (jsd aa)
theorem jxj {cs ds:List Col}(h:SubC cs ds 5)(hA:AllC cs)(hl:cs.length=5):∃js:List Nat,js.length=ds.length/\js.Pairwise (· < ·)/\∀i,i<ds.length->js.getD i 0<5/\(ds.getD i Col.none).name=ages.getD (js.getD i 0) []:=by
 obtain⟨js,rfl,h2,h3⟩:=h;refine⟨js,ae,h2,λi hi => ?_⟩;rw[Qw]at hi;have e1:js.getD i 0=js[i]:=by simp[List.getD,hi]
 have hj:=h3 js[i] (J7 hi);have e2:(js.map λj=>cpK (cs.getD j Col.none)).getD i Col.none=cpK (cs.getD js[i] Col.none):=by simp only[List.getD,J9,Kz hi,K9,Kr]
 rw[e1,e2];exact⟨hj,(hA js[i] aa).1⟩
theorem juY {cs ds:List Col}(h:SubC cs ds 5)(hA:AllC cs)(hl:cs.length=5){i k:Nat}(hi:i<ds.length)(hk:k<i):(ds.getD k Col.none).name ≠ (ds.getD i Col.none).name:=by
 obtain⟨js,h1,h2,h3⟩:=jxj h hA hl;obtain⟨a1,a2⟩:=h3 i hi;obtain⟨b1,b2⟩:=h3 k aa;have e1:js.getD i 0=js[i]:=by simp[List.getD,h1 ▸ hi]
 have e2:js.getD k 0=js[k]:=by simp[List.getD,show k<js.length by omega]
 have:=List.pairwise_iff_getElem.1 h2 k i aa aa hk;rw[a2,b2];exact jnJ _ a1 _ aa
theorem joZ {cs ds:List Col}(h:SubC cs ds 5)(hA:AllC cs)(hl:cs.length=5){i:Nat}(hi:i<ds.length):colX ds i=0:=by
 unfold colX;have hk:Kit (ds.getD i Col.none):=h.kits hA hl _ (by simp[List.getD,hi]);obtain⟨j,hj,hn⟩:=hk.1;rw[Ke (λq=>q (by rw[hn];exact jkU hj)),Ke,jkV hk];rintro⟨k,hk,e⟩;exact juY h hA hl hi hk e
theorem jd8 {cs:List Col}(h:∀i,i<cs.length->colX cs i=0):∀m i,i+m<=cs.length->(jcm cs m i).1=0
 |0,_,_=>rfl
 |m+1,i,hi=>by
  unfold jcm;rw[Kg (h i aa)];exact jd8 h m (i+1) aa
theorem jgp {nm:List UInt8}{pb:Bool}{many:Int}{cs:List Col}(h1:jaZ nm)(h2:(pb=true/\many=0)\/(pb=false/\1<=many/\many<=50))(h3:1<=cs.length/\cs.length<=16)(h:∀i,i<cs.length->colX cs i=0):(jdh nm pb many cs).1=0:=by
 unfold jdh;rw[Ke (λq=>q h1),Ke,Ke aa,Ke aa]
 ·exact jd8 h _ _ aa
 ·rintro(⟨a,b⟩|⟨a,b⟩)<;>rcases h2 with⟨c,d⟩|⟨c,d⟩
  ·exact b d
  ·rw[a]at c;cases c
  ·rw[a]at c;cases c
  ·omega
theorem jiR {l:List Sch}(h:∀i,i<l.length->(je5 l i).1=0/\∀k,k<i->(l.getD k Sch.none).name ≠ (l.getD i Sch.none).name):∀m i,i+m<=l.length->(jhz l m i).1=0
 |0,_,_=>rfl
 |m+1,i,hi=>by
  have:=h i aa;unfold jhz;rw[Kg this.1,Ke (λ⟨k,hk,e⟩=>this.2 k hk e)];exact jiR h m (i+1) aa
theorem jse {l:List Sch}(hl:l.length<=16)(h:∀i,i<l.length->(je5 l i).1=0/\∀k,k<i->(l.getD k Sch.none).name ≠ (l.getD i Sch.none).name):(allE l).1=0:=by
 unfold allE;rw[Ke aa];exact jiR h _ _ aa
structure Fits (ss ss':List Sch):Prop where
 le:ss.length<=ss'.length
 eq:∀i,i<ss.length->(ss'.getD i Sch.none).name=(ss.getD i Sch.none).name/\(ss'.getD i Sch.none).pub=(ss.getD i Sch.none).pub/\(ss'.getD i Sch.none).many=(ss.getD i Sch.none).many/\(ss'.getD i Sch.none).cs=(ss.getD i Sch.none).cs
def zooN:List UInt8:=[122,111,111]
structure Zoo (s:Sch):Prop where
 nm:s.name=zooN
 pb:s.pub=true
 mn:s.many=0
 cs:∃w,IsW w []/\s.cs=[⟨[120],0,0,w,[]⟩]
theorem jxk:∀i,i<3->tabs.getD i [] ≠ zooN:=af
theorem jsf {s:Sch}(h:Zoo s):(jdh s.name s.pub s.many s.cs).1=0:=by
 obtain⟨h1,h2,h3,w,_,h4⟩:=h;have n1:jaZ zooN:=of_decide_eq_true ac;have n2:jaZ [120]:=of_decide_eq_true ac;rw[h1,h2,h3,h4];refine jgp n1 (.inl ⟨rfl,rfl⟩) ⟨ae,ae⟩ λi hi => ?_
 obtain rfl:i=0:=by simp at hi;omega
 unfold colX;rw[Ke (λq=>q n2),Ke (by rintro⟨k,hk,_⟩;omega)];unfold colE;simp
theorem jvJ {cs:List Col}{ss ss':List Sch}(h:KitL cs ss)(f:Fits ss ss')(he:ss'.length=ss.length\/ss'.length=ss.length+1/\Zoo (ss'.getD ss.length Sch.none)):(allE ss').1=0:=by
 have hl:=h.l;refine jse aa λi hi => ?_
 have nm:∀k,k<ss.length->(ss'.getD k Sch.none).name=tabs.getD k []:=λk hk=>(f.eq k hk).1.trans (h.at' k hk).nm
 by_cases hlt:i<ss.length
 ·obtain⟨e1,e2,e3,e4⟩:=f.eq i hlt;have k:=h.at' i hlt;refine⟨?_,λj hj => ?_⟩
  ·unfold je5;rw[e1,e2,e3,e4];refine jgp (by rw[k.nm];exact jnI aa) ?_ ⟨k.ne,by have:=k.le;omega⟩ λj hj=>joZ k.sub h.all h.five hj
   rcases k.pb with⟨a,b,_⟩|⟨a,b,c⟩
   ·exact .inl ⟨a,b⟩
   ·exact .inr ⟨a,b,aa⟩
  ·rw[nm i hlt,nm j aa];exact jh0 i aa j hj
 ·obtain⟨he,z⟩:ss'.length=ss.length+1/\Zoo (ss'.getD ss.length Sch.none):=by
   rcases he with he|he
   ·omega
   ·exact he
  obtain rfl:i=ss.length:=aa;refine⟨jsf z,λj hj => ?_⟩;rw[z.nm,nm j hj];exact jxk j aa
end Go.Proofs.YtajaampgajieeaaGreatDoor.N
