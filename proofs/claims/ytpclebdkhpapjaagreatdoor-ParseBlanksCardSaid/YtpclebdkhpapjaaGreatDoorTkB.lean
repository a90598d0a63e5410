/- Proved here: the scanner. Conditions: those of each theorem; no statement of the seat is proved in this text. -/
import Derived.Test.YtpclebdkhpapjaaGreatDoorTkA
set_option linter.unusedSimpArgs false
set_option linter.unusedVariables false
set_option linter.unusedSectionVars false
namespace Go.Proofs.YtpclebdkhpapjaaGreatDoor.T
open Go.Ab
set_option maxHeartbeats 8000000
set_option maxRecDepth 100000
theorem at85:env.P.funcs[85]? = some Tryz.f85:=by kernel_rfl
theorem u88:env.P.underlying 81=some (.array 256 80):=by kernel_rfl
theorem juL:clsL.length=256:=by kernel_rfl
theorem juM(c:UInt8):clsL.getD c.toNat 0=clsN c.toNat:=by
 have:=c.toNat_lt
 simp[clsL,List.getD,this]
def scnL(s:List UInt8):List V:=.str s::.int .i64 0::clsL.map (V.int .i64)
theorem jdM(h:List AObj)(p:Nat)(s:List UInt8)(hp:h[p]? = some (.cells (scnL s) 84))(c:UInt8):(jai h 1 (.ptr p (2+c.toNat))).bind (·[0]?)=some (.int .i64 (clsN c.toNat)):=by
 have hc:=c.toNat_lt
 have hl:=juL
 rw[YA,hp]
 simp only[YB,Kj]
 have e:(scnL s)[2+c.toNat]? = (clsL.map (V.int .i64))[c.toNat]? := by
  unfold scnL
  rw[show 2+c.toNat=c.toNat+1+1 by omega]
  simp
 rw[e,Y0,Kk (by omega),juM]
theorem jb9(h:List AObj)(p:Nat)(s:List UInt8)(hp:h[p]? = some (.cells (scnL s) 84)):(jai h 1 (.ptr p 0)).bind (·[0]?)=some (.str s):=by
 rw[YA,hp];rfl
theorem jcS(h:List AObj)(p:V):jbi env h 9 p=(jai h 1 p).bind (·[0]?):=ja0 (by kernel_rfl)
theorem jdN(p:Nat)(c:UInt8):idxO (some (.array 256 80)) (sz env) (some (.ptr p 2)) (some (.int .u8 c.toNat))=some (.ptr p (2+c.toNat)):=by
 have hc:=c.toNat_lt
 simp[idxO,s87,jdr]
 omega
def runW(s:List UInt8)(cs:List Int):Nat->Nat->Nat
 |0,i=>i
 |m+1,i=>if clsN (s.getD i 0).toNat∈cs then runW s cs m (i+1)else i
def endW(s:List UInt8)(cs:List Int)(i:Nat):Nat:=runW s cs (s.length-i) i
theorem fo0:ja7 env 84 0=some 0:=by kernel_rfl
theorem fo2:ja7 env 84 2=some 2:=by kernel_rfl
theorem juN(s:List UInt8)(hl:s.length<=2^30)(L:List AObj)(ts:List Nat)(p:Nat)(hp:L[p]? = some (.cells (scnL s) 84))(cs:List Int)(c:RCap)(hc:∀k e s,c ≠ .tok k e s)(hcl:cs.length<=1000)(Q:Post)(c2:Code)(e:Nat)
  (h2:∀T,T 1=.int .i64 (e:Nat)->G env 85 none 32 Q [] c2 T [] ⟨L,ts⟩) (T:Tm) (i0:Nat) (h0:i0<=s.length) (he:runW s cs (s.length-i0) i0=e)
  (a0:T 0=.ptr p 0) (a1:T 1=.int .i64 (i0:Nat)) (a2:T 2=.row (cs.map (V.int .i64)) cs.length c) :
  jiJ env 85 none 32 (jfT 0 (jay Tryz.f85)) T [] ⟨L,ts⟩ (Kt.post env 85 none 32 Q [.blk 0,.code c2]):=by
 simp only[jay,Tryz.f85,Kv,jfT,blkC,Option.or,Nat.reduceEqDiff,Kr,Ku,reduceIte]
 refine jbs (λm T D O=>D=[]/\O=⟨L,ts⟩/\T 0=.ptr p 0/\T 2=.row (cs.map (V.int .i64)) cs.length c/\∃i:Nat,T 1=.int .i64 i/\i<=s.length/\m=s.length-i/\runW s cs (s.length-i) i=e) ?_ _ _ _ _ ⟨rfl,rfl,a0,a2,i0,a1,h0,rfl,he⟩
 clear a0 a1 a2 he h0 i0 T
 rintro m T D O ⟨rfl,rfl,t0,t2,i,t1,hi,rfl,he⟩
 refine jaq ?_
 by_cases hlt:i<s.length
 ·have c1:(i:Int)<(s.length:Int):=by omega
  have c2':(0:Int)<=(i:Int)/\(i:Int)<(s.length:Int):=by omega
  have e1:IntKind.i64.wrap ((i:Int)+1)=((i+1:Nat):Int):=by rw[wrap_i64 (by omega) (by omega)];omega
  obtain⟨q,hq⟩:∃q,s.length-i=q+1:=⟨s.length-i-1,by omega⟩
  have hq2:q=s.length-(i+1):=by omega
  have hstep:runW s cs (s.length-i) i=if clsN (s.getD i 0).toNat∈cs then runW s cs q (i+1)else i:=by rw[hq];rfl
  rw[hstep]at he
  by_cases hn:clsN (s.getD i 0).toNat∈cs
  ·rw[Kk hn,hq2]at he
   simp only[Ka,simprocAttr,Uq,Ke,Vq,t0,t1,t2,c1,c2',e1,jaa,jae,fo0,fo2,jcS,jde,jb9 L p s hp,jdM L p s hp,u88,jdN,jaN,jaG,jaE u9,jgW cs c hc hcl,hn,K3,K7]
   exact⟨by kernel_rfl,s.length-(i+1),by omega,i+1,rfl,by omega,rfl,he⟩
  ·rw[Km hn]at he
   subst he
   simp only[Ka,simprocAttr,Uq,Ke,Vq,t0,t1,t2,c1,c2',e1,jaa,jae,fo0,fo2,jcS,jde,jb9 L p s hp,jdM L p s hp,u88,jdN,jaN,jaG,jaE u9,jgW cs c hc hcl,hn,K3,K7]
   exact⟨by kernel_rfl,h2 _ t1⟩
 ·have hi2:i=s.length:=by omega
  subst hi2
  have c1:¬(s.length:Int)<(s.length:Int):=by omega
  rw[X7]at he
  simp only[runW]at he
  subst he
  simp only[Ka,simprocAttr,Uq,Ke,Vq,t0,t1,t2,c1,jaa,jae,fo0,fo2,jcS,jb9 L p s hp,jaN]
  exact⟨by kernel_rfl,h2 _ t1⟩
theorem jc6(s:List UInt8)(hl:s.length<=2^30)(L:List AObj)(ts:List Nat)(p:Nat)(hp:L[p]? = some (.cells (scnL s) 84))(cs:List Int)(n:Nat)(hn:n=cs.length)(c:RCap)(hc:∀k e s,c ≠ .tok k e s)(hcl:cs.length<=1000)(i:Nat)(hi:i<=s.length) :
  jar env (ev env) 85 [.ptr p 0,.int .i64 (i:Nat),.row (cs.map (V.int .i64)) n c] ⟨L,ts⟩=some (.int .i64 (endW s cs i:Nat),⟨L,ts⟩):=by
 subst hn
 refine jbk rfl rfl at85 rfl (by simp[Tryz.f85]) (by simp[Tryz.f85]) (jaq ?_)
 simp only[Tryz.f85,Ka,simprocAttr,Uq,Ke,Vq]
 refine juN s hl L ts p hp cs c hc hcl _ _ (endW s cs i) (λT t1 => ?_) _ i hi rfl rfl rfl rfl
 simp only[Ka,simprocAttr,Uq,Ke,Vq,t1,jaX]
def subS(s:List UInt8)(i j:Nat):List UInt8:=(s.drop i).take (j-i)
theorem jey(s:List UInt8)(i j:Nat)(hij:i<=j)(hj:j<=s.length):jbA env 9 (.str s) (some (.int .i64 (i:Nat))) (some (.int .i64 (j:Nat))) none=some (.str (subS s i j)):=by
 simp[jbA,u9,jci,jbd,subS,hij,hj]
theorem jz8:env.P.funcs[125]? = some Tryz.f125:=by kernel_rfl
theorem jw1:jbS.length=16:=by kernel_rfl
theorem juO {ws:List (List UInt8)}{j:Nat}(hj:j<ws.length)(x:List UInt8):x∈ws.drop j↔(ws.getD j []=x\/x∈ws.drop (j+1)):=by
 rw[Qs hj,Qy]
 simp[List.getD,hj,eq_comm]
theorem jw2(s:List UInt8)(hl:s.length<=2^30)(L:List AObj)(ts:List Nat)(p:Nat)(hp:L[p]? = some (.cells (scnL s) 84))(i w:Nat)(hw:w<=2)(hi:i+w<=s.length)(Q:Post)(ks:List Kt)
  (hf:subS s i (i+w)∈jbS->∀T,T 4=.str (subS s i (i+w))->T 5=.bool true->G env 125 none 41 Q ks .ret T [] ⟨L,ts⟩)
  (h2:subS s i (i+w) ∉ jbS->∀T,T 0=.ptr p 0->T 1=.int .i64 (i:Nat)->T 6=.int .i64 (w:Nat)->G env 125 none 41 Q ks .skip T [] ⟨L,ts⟩) (T:Tm)
  (a0:T 0=.ptr p 0) (a1:T 1=.int .i64 (i:Nat)) (a6:T 6=.int .i64 (w:Nat)) (a22:T 22=.row (jbS.map V.str) 16 .unk) (a23:T 23=.int .i64 16) (a24:T 24=.int .i64 (0:Nat)) :
  jiJ env 125 none 41 (jfT 2 (jay Tryz.f125)) T [] ⟨L,ts⟩ (Kt.post env 125 none 41 Q (.blk 2::ks)):=by
 simp only[jay,Tryz.f125,Kv,jfT,blkC,Option.or,Nat.reduceEqDiff,Kr,Ku,reduceIte]
 refine jbs (λm T D O=>D=[]/\O=⟨L,ts⟩/\T 0=.ptr p 0/\T 1=.int .i64 (i:Nat)/\T 6=.int .i64 (w:Nat)/\T 22=.row (jbS.map V.str) 16 .unk/\T 23=.int .i64 16/\∃j:Nat,T 24=.int .i64 j/\j<=16/\m=16-j/\(subS s i (i+w)∈jbS↔subS s i (i+w)∈jbS.drop j)) ?_ _ _ _ _ ⟨rfl,rfl,a0,a1,a6,a22,a23,0,a24,Qm _,rfl,by rw[Qq]⟩
 clear a0 a1 a6 a22 a23 a24 T
 rintro m T D O ⟨rfl,rfl,t0,t1,t6,t22,t23,j,t24,hj,rfl,hm⟩
 refine jaq ?_
 have h16:=jw1
 have e2:IntKind.i64.wrap ((i:Int)+(w:Int))=((i+w:Nat):Int):=by rw[wrap_i64 (by omega) (by omega)];omega
 by_cases hlt:j<16
 ·have c1:(j:Int)<16:=by omega
  have c3:(0:Int)<=(j:Int)/\(j:Int)<(16:Nat):=by omega
  have c4:j<jbS.length:=by omega
  have e1:IntKind.i64.wrap ((j:Int)+1)=((j+1:Nat):Int):=by rw[wrap_i64 (by omega) (by omega)];omega
  have hd:=juO c4 (subS s i (i+w))
  by_cases hn:jbS.getD j []=subS s i (i+w)
  ·have hin:subS s i (i+w)∈jbS:=hm.2 (hd.2 (.inl hn))
   simp only[Ka,simprocAttr,Uq,Ke,Vq,t0,t1,t6,t22,t23,t24,c1,c3,c4,e1,e2,jaa,jae,fo0,jcS,jb9 L p s hp,ja9,jba,jbg,jey s i (i+w) (Nat.le_add_right _ _) hi,jei,jac,hn]
   refine hf hin _ ?_ ?_<;>rfl
  ·have hm2:subS s i (i+w)∈jbS↔subS s i (i+w)∈jbS.drop (j+1):=hm.trans (hd.trans ⟨λh=>h.resolve_left hn,.inr⟩)
   simp only[Ka,simprocAttr,Uq,Ke,Vq,t0,t1,t6,t22,t23,t24,c1,c3,c4,e1,e2,jaa,jae,fo0,jcS,jb9 L p s hp,ja9,jba,jbg,jey s i (i+w) (Nat.le_add_right _ _) hi,jei,jac,hn]
   exact⟨16-(j+1),by omega,j+1,rfl,by omega,rfl,hm2⟩
 ·have hj2:j=16:=by omega
  subst hj2
  have hni:subS s i (i+w) ∉ jbS:=by
   rw[hm,Xg (by omega)];exact Jz
  have c1:¬((16:Nat):Int)<16:=by omega
  simp only[Ka,simprocAttr,Uq,Ke,Vq,t0,t1,t6,t22,t23,t24,c1]
  exact h2 hni _ t0 t1 t6
def sgW(s:List UInt8)(i:Nat):Nat->List UInt8 × Bool
 |0=>([],false)
 |w+1=>if i+(w+1)<=s.length/\subS s i (i+(w+1))∈jbS then(subS s i (i+(w+1)),true)else sgW s i w
def sgV(r:List UInt8 × Bool):V:=.tup [.str r.1,.bool r.2]
theorem jkk(s:List UInt8)(hl:s.length<=2^30)(L:List AObj)(ts:List Nat)(p:Nat)(hp:L[p]? = some (.cells (scnL s) 84))(i:Nat)(hi:i<=s.length) :
  jar env (ev env) 125 [.ptr p 0,.int .i64 (i:Nat)] ⟨L,ts⟩=some (sgV (sgW s i 2),⟨L,ts⟩):=by
 refine jbk rfl rfl jz8 rfl (by simp[Tryz.f125]) (by simp[Tryz.f125]) (jaq ?_)
 simp only[Tryz.f125,Ka,simprocAttr,Uq,Ke,Vq]
 refine jbs (λm T D O=>D=[]/\O=⟨L,ts⟩/\T 0=.ptr p 0/\T 1=.int .i64 (i:Nat)/\∃w:Nat,T 6=.int .i64 w/\w<=2/\m=w/\sgW s i w=sgW s i 2) ?_ _ _ _ _ ⟨rfl,rfl,rfl,rfl,2,rfl,Kx _,rfl,rfl⟩
 rintro m T D O ⟨rfl,rfl,t0,t1,w,t6,hw,rfl,hs⟩
 refine jaq ?_
 cases m with
 |zero =>
  have c1:¬(0:Int)<((0:Nat):Int):=by omega
  simp only[Ka,simprocAttr,Uq,Ke,Vq,t0,t1,t6,c1,jaX]
  rw[<- hs];first|exact⟨rfl,rfl⟩|exact⟨rfl,trivial⟩
 | succ w =>
  have c1:(0:Int)<((w+1:Nat):Int):=by omega
  have e1:IntKind.i64.wrap (((w+1:Nat):Int)-1)=(w:Int):=by rw[wrap_i64 (by omega) (by omega)];omega
  have e2:IntKind.i64.wrap ((i:Int)+((w+1:Nat):Int))=((i+(w+1):Nat):Int):=by rw[wrap_i64 (by omega) (by omega)];omega
  by_cases h1:i+(w+1)<=s.length
  ·have c2:¬(s.length:Int)<((i+(w+1):Nat):Int):=by omega
   simp only[Ka,simprocAttr,Uq,Ke,Vq,t0,t1,t6,c1,c2,e1,e2,jaa,jae,fo0,jcS,jb9 L p s hp,jaN,jrc]
   refine jw2 s hl L ts p hp i (w+1) hw h1 _ _ (λhin T t4 t5 => ?_) (λhni T t0 t1 t6 => ?_) _ ?_ ?_ ?_ ?_ ?_ ?_
   ·have:sgW s i (w+1)=(subS s i (i+(w+1)),true):=Kk ⟨h1,hin⟩
    simp only[Ka,simprocAttr,Uq,Ke,Vq,t4,t5,jaX]
    rw[<- hs,this];first|exact⟨rfl,rfl⟩|exact⟨rfl,trivial⟩
   ·have:sgW s i (w+1)=sgW s i w:=Km λh=>hni h.2
    simp only[Ka,simprocAttr,Uq,Ke,Vq,t0,t1,t6,e1]
    exact⟨w,by omega,w,rfl,by omega,rfl,this ▸ hs⟩
   all_goals first|exact t0|exact t1|exact t6|rfl
  ·have c2:(s.length:Int)<((i+(w+1):Nat):Int):=by omega
   have:sgW s i (w+1)=sgW s i w:=Km λh=>h1 h.1
   simp only[Ka,simprocAttr,Uq,Ke,Vq,t0,t1,t6,c1,c2,e1,e2,jaa,jae,fo0,jcS,jb9 L p s hp,jaN]
   exact⟨w,by omega,w,rfl,by omega,rfl,this ▸ hs⟩
theorem jo8(s:List UInt8)(cs:List Int):∀m i,i<=runW s cs m i/\runW s cs m i<=i+m
 |0,i=>⟨Kx _,Kx _⟩
 |m+1,i=>by
  simp only[runW]
  split
  ·have:=jo8 s cs m (i+1);omega
  ·omega
theorem jbI(s:List UInt8)(cs:List Int)(i:Nat)(hi:i<=s.length):i<=endW s cs i/\endW s cs i<=s.length:=by
 have:=jo8 s cs (s.length-i) i
 unfold endW;omega
theorem jo9(s:List UInt8)(cs:List Int):∀m i j,i<=j->j<runW s cs m i->clsN (s.getD j 0).toNat∈cs
 |0,i,j,h1,h2=>by simp only[runW]at h2;omega
 | m+1,i,j,h1,h2=>by
  simp only[runW]at h2
  split at h2
  ·rcases K9 i j with h3|h3
   ·exact jo9 s cs m (i+1) j h3 h2
   ·have:j=i:=by omega
    subst this;assumption
  ·omega
theorem jpa(s:List UInt8)(cs:List Int)(i:Nat)(hi:i<s.length)(h:clsN (s.getD i 0).toNat∈cs):i<endW s cs i:=by
 obtain⟨q,hq⟩:∃q,s.length-i=q+1:=⟨s.length-i-1,by omega⟩
 unfold endW
 rw[hq]
 simp only[runW,Kk h]
 have:=jo8 s cs q (i+1)
 omega
theorem subS_len(s:List UInt8)(i j:Nat)(h:j<=s.length):(subS s i j).length=j-i:=by
 unfold subS;rw[K8,Qn];omega
theorem jfG(s:List UInt8)(i j k:Nat)(h:j<=s.length)(hk:k<j-i):(subS s i j).getD k 0=s.getD (i+k) 0:=by
 unfold subS
 simp only[List.getD]
 rw[Q9,Kk hk,Jo]
theorem jyo(c:UInt8)(h:clsN c.toNat=3):IsDg c:=by
 unfold clsN at h
 unfold IsDg
 split at h
 ·omega
 ·split at h
  ·assumption
  ·split at h
   ·omega
   ·split at h
    ·omega
    ·split at h<;>omega
theorem jtl(s:List UInt8)(i:Nat)(hi:i<=s.length):∀k,k<(subS s i (endW s [3] i)).length->IsDg ((subS s i (endW s [3] i)).getD k 0):=by
 intro k hk
 have he:=jbI s [3] i hi
 rw[subS_len _ _ _ he.2]at hk
 rw[jfG _ _ _ _ he.2 hk]
 have:=jo9 s [3] (s.length-i) i (i+k) (by omega) (by unfold endW at hk;omega)
 exact jyo _ (by simpa using this)
theorem jpb(s:List UInt8)(i:Nat):∀w,(sgW s i w).1.length<=w
 |0=>Kx _
 |w+1=>by
  simp only[sgW]
  split
  ·rename_i h;simp only[subS_len _ _ _ h.1];omega
  ·have:=jpb s i w;omega
theorem at86:env.P.funcs[86]? = some Tryz.f86:=by kernel_rfl
theorem jrh:joZ=N.wordsW.map V.str:=N.resV_words
theorem row2:rowO env 139 3 [(0,.int .i64 2),(1,.int .i64 3),(2,.int .i64 4)]=some (.row (([2,3,4]:List Int).map (V.int .i64)) 3 .full):=by kernel_rfl
theorem row1:rowO env 139 1 [(0,.int .i64 3)]=some (.row (([3]:List Int).map (V.int .i64)) 1 .full):=by kernel_rfl
theorem juP(O:S):jar env (ev env) 122 [] O=some (.row joZ 35 .unk,O):=jeo rfl rfl rfl (k:=200) (by rw[<- jga];kernel_rfl) O
theorem jh0(O:S):jar env (ev env) 122 [] O=some (.row (N.wordsW.map V.str) N.wordsW.length .unk,O):=by rw[juP,jrh,N.words_len]
theorem mb99(r:Nat):env.mutb 86 r=false:=rfl
theorem jd8:∀k e s,RCap.full ≠ .tok k e s:=λ_ _ _ h=>by cases h
theorem jqp:∀k e s,RCap.unk ≠ .tok k e s:=λ_ _ _ h=>by cases h
theorem jgG(k:Int)(s:List UInt8)(p:Int):jcd env 47 [(0,.int .i64 k),(1,.str s),(3,.int .i64 p)]=some (.agg [.int .i64 k,.str s,.int .i64 0,.int .i64 p]):=by kernel_rfl
theorem jhf:ja7 env 47 0=some 0:=by kernel_rfl
theorem jhg(L:List AObj)(a b c d:V):jbi env (L++[.cells [a,b,c,d] 47]) 47 (.ptr L.length 0)=some (.agg [a,b,c,d]):=by
 have h:jai (L++[.cells [a,b,c,d] 47]) 4 (.ptr L.length 0)=some [a,b,c,d]:=jc4 (ja2 L _)
 have e:sz env 47=some 4:=by kernel_rfl
 have g:Go.Ab.aggT env 47=some true:=by kernel_rfl
 unfold jbi
 simp only[e,g,h,Kj,Kw]
theorem Us:type_of% (And.intro @K3 (And.intro @K7 (And.intro @mb99 (And.intro @jaf (And.intro @ja9 (And.intro @jba (And.intro @jbg (And.intro @jaT (And.intro @jaY (And.intro @ja2 (And.intro @jbZ (@jhg)))))))))))):=And.intro @K3 (And.intro @K7 (And.intro @mb99 (And.intro @jaf (And.intro @ja9 (And.intro @jba (And.intro @jbg (And.intro @jaT (And.intro @jaY (And.intro @ja2 (And.intro @jbZ (@jhg)))))))))))
def X99(s:List UInt8)(L:List AObj)(ts:List Nat)(p i:Nat)(v:V):Prop:=∃o,jar env (ev env) 86 [.ptr p 0,.int .i64 (i:Nat)] ⟨L,ts⟩=some (v,⟨L++o,ts⟩)
theorem jyp(s:List UInt8)(hl:s.length<=2^30)(L:List AObj)(ts:List Nat)(p:Nat)(hp:L[p]? = some (.cells (scnL s) 84))(i:Nat)(hi:i<s.length)(hc:clsN (s.getD i 0).toNat=2)(x:List UInt8)(e:Nat)(hx:x=subS s i e)(he:e=endW s [2,3,4] i)(h1:¬x∈N.wordsW)(h2:¬20<e-i) :
  X99 s L ts p i (.tup [.agg [.int .i64 1,.str x,.int .i64 0,.int .i64 i],.int .i64 e,.int .i64 0]):=by
 have c2:(0:Int)<=(i:Int)/\(i:Int)<(s.length:Int):=by omega
 have hp2:∀o,(L++o)[p]? = some (.cells (scnL s) 84):=λo=>jbH hp o
 have hb:=jbI s [2,3,4] i (by omega)
 rw[<- he]at hb
 have hsl:=jey s i e hb.1 hb.2
 have hlen:=subS_len s i e hb.2
 rw[<- hx]at hsl hlen
 have hrun:=λ(o:List AObj)=>jc6 s hl (L++o) ts p (hp2 o) [2,3,4] 3 rfl .full jd8 (by decide) i (by omega)
 rw[<- he]at hrun
 have h3:¬(20:Int)<(x.length:Int):=by omega
 refine⟨[.cells [.int .i64 1,.str x,.int .i64 0,.int .i64 i] 47],?_⟩
 refine jbk rfl rfl at86 rfl (by simp[Tryz.f86]) (by simp[Tryz.f86]) (jaq ?_)
 simp only[Tryz.f86,Ka,simprocAttr,Uq,Ke,Ur,jab,hp,hp2,zv52,c2,jaa,jae,fo0,fo2,jhf,jcS,jde,jb9 _ p s (hp2 _),jdM _ p s (hp2 _),u88,jdN,jaN,jaG,jaE u9,Us,jaX,hc,row2,hrun,hsl,jgG,jh0,jcW N.wordsW .unk jqp (by decide),h1,h2,h3]
 first|exact⟨by kernel_rfl,trivial⟩|exact⟨by kernel_rfl,rfl,rfl⟩|exact⟨by kernel_rfl,rfl⟩
theorem jyq(s:List UInt8)(hl:s.length<=2^30)(L:List AObj)(ts:List Nat)(p:Nat)(hp:L[p]? = some (.cells (scnL s) 84))(i:Nat)(hi:i<s.length)(hc:clsN (s.getD i 0).toNat=2)(x:List UInt8)(e:Nat)(hx:x=subS s i e)(he:e=endW s [2,3,4] i)(h1:¬x∈N.wordsW)(h2:20<e-i) :
  X99 s L ts p i (.tup [.agg [.int .i64 1,.str x,.int .i64 0,.int .i64 i],.int .i64 e,.int .i64 19]):=by
 have c2:(0:Int)<=(i:Int)/\(i:Int)<(s.length:Int):=by omega
 have hp2:∀o,(L++o)[p]? = some (.cells (scnL s) 84):=λo=>jbH hp o
 have hb:=jbI s [2,3,4] i (by omega)
 rw[<- he]at hb
 have hsl:=jey s i e hb.1 hb.2
 have hlen:=subS_len s i e hb.2
 rw[<- hx]at hsl hlen
 have hrun:=λ(o:List AObj)=>jc6 s hl (L++o) ts p (hp2 o) [2,3,4] 3 rfl .full jd8 (by decide) i (by omega)
 rw[<- he]at hrun
 have h3:(20:Int)<(x.length:Int):=by omega
 refine⟨[.cells [.int .i64 1,.str x,.int .i64 0,.int .i64 i] 47],?_⟩
 refine jbk rfl rfl at86 rfl (by simp[Tryz.f86]) (by simp[Tryz.f86]) (jaq ?_)
 simp only[Tryz.f86,Ka,simprocAttr,Uq,Ke,Ur,jab,hp,hp2,zv52,c2,jaa,jae,fo0,fo2,jhf,jcS,jde,jb9 _ p s (hp2 _),jdM _ p s (hp2 _),u88,jdN,jaN,jaG,jaE u9,Us,jaX,hc,row2,hrun,hsl,jgG,jh0,jcW N.wordsW .unk jqp (by decide),h1,h2,h3]
 first|exact⟨by kernel_rfl,trivial⟩|exact⟨by kernel_rfl,rfl,rfl⟩|exact⟨by kernel_rfl,rfl⟩
theorem jyr(s:List UInt8)(hl:s.length<=2^30)(L:List AObj)(ts:List Nat)(p:Nat)(hp:L[p]? = some (.cells (scnL s) 84))(i:Nat)(hi:i<s.length)(hc:clsN (s.getD i 0).toNat=2)(x:List UInt8)(e:Nat)(hx:x=subS s i e)(he:e=endW s [2,3,4] i)(h1:x∈N.wordsW)(h2:¬20<e-i) :
  X99 s L ts p i (.tup [.agg [.int .i64 2,.str x,.int .i64 0,.int .i64 i],.int .i64 e,.int .i64 0]):=by
 have c2:(0:Int)<=(i:Int)/\(i:Int)<(s.length:Int):=by omega
 have hp2:∀o,(L++o)[p]? = some (.cells (scnL s) 84):=λo=>jbH hp o
 have hb:=jbI s [2,3,4] i (by omega)
 rw[<- he]at hb
 have hsl:=jey s i e hb.1 hb.2
 have hlen:=subS_len s i e hb.2
 rw[<- hx]at hsl hlen
 have hrun:=λ(o:List AObj)=>jc6 s hl (L++o) ts p (hp2 o) [2,3,4] 3 rfl .full jd8 (by decide) i (by omega)
 rw[<- he]at hrun
 have h3:¬(20:Int)<(x.length:Int):=by omega
 refine⟨[.cells [.int .i64 2,.str x,.int .i64 0,.int .i64 i] 47],?_⟩
 refine jbk rfl rfl at86 rfl (by simp[Tryz.f86]) (by simp[Tryz.f86]) (jaq ?_)
 simp only[Tryz.f86,Ka,simprocAttr,Uq,Ke,Ur,jab,hp,hp2,zv52,c2,jaa,jae,fo0,fo2,jhf,jcS,jde,jb9 _ p s (hp2 _),jdM _ p s (hp2 _),u88,jdN,jaN,jaG,jaE u9,Us,jaX,hc,row2,hrun,hsl,jgG,jh0,jcW N.wordsW .unk jqp (by decide),h1,h2,h3]
 first|exact⟨by kernel_rfl,trivial⟩|exact⟨by kernel_rfl,rfl,rfl⟩|exact⟨by kernel_rfl,rfl⟩
theorem jys(s:List UInt8)(hl:s.length<=2^30)(L:List AObj)(ts:List Nat)(p:Nat)(hp:L[p]? = some (.cells (scnL s) 84))(i:Nat)(hi:i<s.length)(hc:clsN (s.getD i 0).toNat=2)(x:List UInt8)(e:Nat)(hx:x=subS s i e)(he:e=endW s [2,3,4] i)(h1:x∈N.wordsW)(h2:20<e-i) :
  X99 s L ts p i (.tup [.agg [.int .i64 2,.str x,.int .i64 0,.int .i64 i],.int .i64 e,.int .i64 19]):=by
 have c2:(0:Int)<=(i:Int)/\(i:Int)<(s.length:Int):=by omega
 have hp2:∀o,(L++o)[p]? = some (.cells (scnL s) 84):=λo=>jbH hp o
 have hb:=jbI s [2,3,4] i (by omega)
 rw[<- he]at hb
 have hsl:=jey s i e hb.1 hb.2
 have hlen:=subS_len s i e hb.2
 rw[<- hx]at hsl hlen
 have hrun:=λ(o:List AObj)=>jc6 s hl (L++o) ts p (hp2 o) [2,3,4] 3 rfl .full jd8 (by decide) i (by omega)
 rw[<- he]at hrun
 have h3:(20:Int)<(x.length:Int):=by omega
 refine⟨[.cells [.int .i64 2,.str x,.int .i64 0,.int .i64 i] 47],?_⟩
 refine jbk rfl rfl at86 rfl (by simp[Tryz.f86]) (by simp[Tryz.f86]) (jaq ?_)
 simp only[Tryz.f86,Ka,simprocAttr,Uq,Ke,Ur,jab,hp,hp2,zv52,c2,jaa,jae,fo0,fo2,jhf,jcS,jde,jb9 _ p s (hp2 _),jdM _ p s (hp2 _),u88,jdN,jaN,jaG,jaE u9,Us,jaX,hc,row2,hrun,hsl,jgG,jh0,jcW N.wordsW .unk jqp (by decide),h1,h2,h3]
 first|exact⟨by kernel_rfl,trivial⟩|exact⟨by kernel_rfl,rfl,rfl⟩|exact⟨by kernel_rfl,rfl⟩
theorem nx_d(s:List UInt8)(hl:s.length<=2^30)(L:List AObj)(ts:List Nat)(p:Nat)(hp:L[p]? = some (.cells (scnL s) 84))(i:Nat)(hi:i<s.length)(hc:clsN (s.getD i 0).toNat=3)(e:Nat)(he:e=endW s [3] i)(t:Tok)(x:Int)(hv:numV (subS s i e) i=tokE t x) :
  X99 s L ts p i (.tup [.agg [.int .i64 t.kind,.str t.text,.int .i64 t.n,.int .i64 t.pos],.int .i64 e,.int .i64 x]):=by
 have c2:(0:Int)<=(i:Int)/\(i:Int)<(s.length:Int):=by omega
 have hp2:∀o,(L++o)[p]? = some (.cells (scnL s) 84):=λo=>jbH hp o
 have hb:=jbI s [3] i (by omega)
 have hb2:=jpa s [3] i hi (by rw[hc];decide)
 have hdg:=jtl s i (by omega)
 rw[<- he]at hb hb2 hdg
 have hsl:=jey s i e hb.1 hb.2
 have hlen:=subS_len s i e hb.2
 have hrun:=λ(o:List AObj)=>jc6 s hl (L++o) ts p (hp2 o) [3] 1 rfl .full jd8 (by decide) i (by omega)
 rw[<- he]at hrun
 have hnum:=jo7 (subS s i e) i hdg (λh=>by rw[h]at hlen;simp at hlen;omega) (by omega)
 rw[hv]at hnum
 unfold tokE YtpclebdkhpapjaaGreatDoor.T.aggT at hnum
 have hc2:((3:Int)=2)=False:=eq_false (by omega)
 refine⟨[.cells [.int .i64 t.kind,.str t.text,.int .i64 t.n,.int .i64 t.pos] 47],?_⟩
 refine jbk rfl rfl at86 rfl (by simp[Tryz.f86]) (by simp[Tryz.f86]) (jaq ?_)
 simp only[Tryz.f86,Ka,simprocAttr,Uq,Ke,Ur,jab,hp,hp2,zv52,c2,jaa,jae,fo0,fo2,jhf,jcS,jde,jb9 _ p s (hp2 _),jdM _ p s (hp2 _),u88,jdN,jaN,jaG,jaE u9,Us,jaX,hc,hc2,row1,hrun,hsl,hnum,YW]
 first|exact⟨by kernel_rfl,trivial⟩|exact⟨by kernel_rfl,rfl,rfl⟩|exact⟨by kernel_rfl,rfl⟩
theorem jz9(s:List UInt8)(hl:s.length<=2^30)(L:List AObj)(ts:List Nat)(p:Nat)(hp:L[p]? = some (.cells (scnL s) 84))(i:Nat)(hi:i<s.length)(hc:clsN (s.getD i 0).toNat=5)(e:Nat)(he:e=endW s [2,3,4] (i+1))(h1:¬e<s.length) :
  X99 s L ts p i (.tup [.agg [.int .i64 0,.str [],.int .i64 0,.int .i64 0],.int .i64 e,.int .i64 11]):=by
 have c2:(0:Int)<=(i:Int)/\(i:Int)<(s.length:Int):=by omega
 have hp2:∀o,(L++o)[p]? = some (.cells (scnL s) 84):=λo=>jbH hp o
 have hb:=jbI s [2,3,4] (i+1) (by omega)
 rw[<- he]at hb
 have hsl:=jey s (i+1) e hb.1 hb.2
 have hrun:=λ(o:List AObj)=>jc6 s hl (L++o) ts p (hp2 o) [2,3,4] 3 rfl .full jd8 (by decide) (i+1) (by omega)
 rw[<- he]at hrun
 have hc2:((5:Int)=2)=False:=eq_false (by omega)
 have hc3:((5:Int)=3)=False:=eq_false (by omega)
 have e1:IntKind.i64.wrap ((i:Int)+1)=((i+1:Nat):Int):=by rw[wrap_i64 (by omega) (by omega)];omega
 have g1:(s.length:Int)<=(e:Int):=by omega
 refine⟨[.cells [.int .i64 0,.str [],.int .i64 0,.int .i64 0] 47],?_⟩
 refine jbk rfl rfl at86 rfl (by simp[Tryz.f86]) (by simp[Tryz.f86]) (jaq ?_)
 simp only[Tryz.f86,Ka,simprocAttr,Uq,Ke,Ur,jab,hp,hp2,zv52,c2,jaa,jae,fo0,fo2,jhf,jcS,jde,jb9 _ p s (hp2 _),jdM _ p s (hp2 _),u88,jdN,jaN,jaG,jaE u9,Us,jaX,hc,hc2,hc3,e1,row2,hrun,hsl,g1]
 first|exact⟨by kernel_rfl,trivial⟩|exact⟨by kernel_rfl,rfl,rfl⟩|exact⟨by kernel_rfl,rfl⟩
theorem jAa(s:List UInt8)(hl:s.length<=2^30)(L:List AObj)(ts:List Nat)(p:Nat)(hp:L[p]? = some (.cells (scnL s) 84))(i:Nat)(hi:i<s.length)(hc:clsN (s.getD i 0).toNat=5)(e:Nat)(he:e=endW s [2,3,4] (i+1))(h1:e<s.length)(h2:¬(s.getD e 0).toNat=39) :
  X99 s L ts p i (.tup [.agg [.int .i64 0,.str [],.int .i64 0,.int .i64 0],.int .i64 e,.int .i64 11]):=by
 have c2:(0:Int)<=(i:Int)/\(i:Int)<(s.length:Int):=by omega
 have hp2:∀o,(L++o)[p]? = some (.cells (scnL s) 84):=λo=>jbH hp o
 have hb:=jbI s [2,3,4] (i+1) (by omega)
 rw[<- he]at hb
 have hsl:=jey s (i+1) e hb.1 hb.2
 have hrun:=λ(o:List AObj)=>jc6 s hl (L++o) ts p (hp2 o) [2,3,4] 3 rfl .full jd8 (by decide) (i+1) (by omega)
 rw[<- he]at hrun
 have hc2:((5:Int)=2)=False:=eq_false (by omega)
 have hc3:((5:Int)=3)=False:=eq_false (by omega)
 have e1:IntKind.i64.wrap ((i:Int)+1)=((i+1:Nat):Int):=by rw[wrap_i64 (by omega) (by omega)];omega
 have g1:¬(s.length:Int)<=(e:Int):=by omega
 have c3:(0:Int)<=(e:Int)/\(e:Int)<(s.length:Int):=by omega
 have g2:(((s.getD e 0).toNat:Int)=39)=False:=eq_false (by omega)
 refine⟨[.cells [.int .i64 0,.str [],.int .i64 0,.int .i64 0] 47],?_⟩
 refine jbk rfl rfl at86 rfl (by simp[Tryz.f86]) (by simp[Tryz.f86]) (jaq ?_)
 simp only[Tryz.f86,Ka,simprocAttr,Uq,Ke,Ur,jab,hp,hp2,zv52,c2,jaa,jae,fo0,fo2,jhf,jcS,jde,jb9 _ p s (hp2 _),jdM _ p s (hp2 _),u88,jdN,jaN,jaG,jaE u9,Us,jaX,hc,hc2,hc3,e1,row2,hrun,hsl,g1,c3,g2]
 first|exact⟨by kernel_rfl,trivial⟩|exact⟨by kernel_rfl,rfl,rfl⟩|exact⟨by kernel_rfl,rfl⟩
theorem jAb(s:List UInt8)(hl:s.length<=2^30)(L:List AObj)(ts:List Nat)(p:Nat)(hp:L[p]? = some (.cells (scnL s) 84))(i:Nat)(hi:i<s.length)(hc:clsN (s.getD i 0).toNat=5)(e:Nat)(he:e=endW s [2,3,4] (i+1))(h1:e<s.length)(h2:(s.getD e 0).toNat=39)(h3:¬N.IsName (subS s (i+1) e)) :
  X99 s L ts p i (.tup [.agg [.int .i64 0,.str [],.int .i64 0,.int .i64 0],.int .i64 e,.int .i64 11]):=by
 have c2:(0:Int)<=(i:Int)/\(i:Int)<(s.length:Int):=by omega
 have hp2:∀o,(L++o)[p]? = some (.cells (scnL s) 84):=λo=>jbH hp o
 have hb:=jbI s [2,3,4] (i+1) (by omega)
 rw[<- he]at hb
 have hsl:=jey s (i+1) e hb.1 hb.2
 have hrun:=λ(o:List AObj)=>jc6 s hl (L++o) ts p (hp2 o) [2,3,4] 3 rfl .full jd8 (by decide) (i+1) (by omega)
 rw[<- he]at hrun
 have hc2:((5:Int)=2)=False:=eq_false (by omega)
 have hc3:((5:Int)=3)=False:=eq_false (by omega)
 have e1:IntKind.i64.wrap ((i:Int)+1)=((i+1:Nat):Int):=by rw[wrap_i64 (by omega) (by omega)];omega
 have g1:¬(s.length:Int)<=(e:Int):=by omega
 have c3:(0:Int)<=(e:Int)/\(e:Int)<(s.length:Int):=by omega
 have g2:(((s.getD e 0).toNat:Int)=39)=True:=eq_true (by omega)
 have hnm:=N.name_call (subS s (i+1) e) (by rw[subS_len _ _ _ hb.2];omega)
 refine⟨[.cells [.int .i64 0,.str [],.int .i64 0,.int .i64 0] 47],?_⟩
 refine jbk rfl rfl at86 rfl (by simp[Tryz.f86]) (by simp[Tryz.f86]) (jaq ?_)
 simp only[Tryz.f86,Ka,simprocAttr,Uq,Ke,Ur,jab,hp,hp2,zv52,c2,jaa,jae,fo0,fo2,jhf,jcS,jde,jb9 _ p s (hp2 _),jdM _ p s (hp2 _),u88,jdN,jaN,jaG,jaE u9,Us,jaX,hc,hc2,hc3,e1,row2,hrun,hsl,g1,c3,g2,hnm,h3]
 first|exact⟨by kernel_rfl,trivial⟩|exact⟨by kernel_rfl,rfl,rfl⟩|exact⟨by kernel_rfl,rfl⟩
theorem jAc(s:List UInt8)(hl:s.length<=2^30)(L:List AObj)(ts:List Nat)(p:Nat)(hp:L[p]? = some (.cells (scnL s) 84))(i:Nat)(hi:i<s.length)(hc:clsN (s.getD i 0).toNat=5)(e:Nat)(he:e=endW s [2,3,4] (i+1))(h1:e<s.length)(h2:(s.getD e 0).toNat=39)(h3:N.IsName (subS s (i+1) e)) :
  X99 s L ts p i (.tup [.agg [.int .i64 4,.str (subS s (i+1) e),.int .i64 0,.int .i64 i],.int .i64 (e+1:Nat),.int .i64 0]):=by
 have c2:(0:Int)<=(i:Int)/\(i:Int)<(s.length:Int):=by omega
 have hp2:∀o,(L++o)[p]? = some (.cells (scnL s) 84):=λo=>jbH hp o
 have hb:=jbI s [2,3,4] (i+1) (by omega)
 rw[<- he]at hb
 have hsl:=jey s (i+1) e hb.1 hb.2
 have hrun:=λ(o:List AObj)=>jc6 s hl (L++o) ts p (hp2 o) [2,3,4] 3 rfl .full jd8 (by decide) (i+1) (by omega)
 rw[<- he]at hrun
 have hc2:((5:Int)=2)=False:=eq_false (by omega)
 have hc3:((5:Int)=3)=False:=eq_false (by omega)
 have e1:IntKind.i64.wrap ((i:Int)+1)=((i+1:Nat):Int):=by rw[wrap_i64 (by omega) (by omega)];omega
 have g1:¬(s.length:Int)<=(e:Int):=by omega
 have c3:(0:Int)<=(e:Int)/\(e:Int)<(s.length:Int):=by omega
 have g2:(((s.getD e 0).toNat:Int)=39)=True:=eq_true (by omega)
 have hnm:=N.name_call (subS s (i+1) e) (by rw[subS_len _ _ _ hb.2];omega)
 have e3:IntKind.i64.wrap ((e:Int)+1)=((e+1:Nat):Int):=by rw[wrap_i64 (by omega) (by omega)];omega
 refine⟨[.cells [.int .i64 4,.str (subS s (i+1) e),.int .i64 0,.int .i64 i] 47],?_⟩
 refine jbk rfl rfl at86 rfl (by simp[Tryz.f86]) (by simp[Tryz.f86]) (jaq ?_)
 simp only[Tryz.f86,Ka,simprocAttr,Uq,Ke,Ur,jab,hp,hp2,zv52,c2,jaa,jae,fo0,fo2,jhf,jcS,jde,jb9 _ p s (hp2 _),jdM _ p s (hp2 _),u88,jdN,jaN,jaG,jaE u9,Us,jaX,hc,hc2,hc3,e1,row2,hrun,hsl,g1,c3,g2,hnm,h3,e3,jgG]
 first|exact⟨by kernel_rfl,trivial⟩|exact⟨by kernel_rfl,rfl,rfl⟩|exact⟨by kernel_rfl,rfl⟩
theorem jAd(s:List UInt8)(hl:s.length<=2^30)(L:List AObj)(ts:List Nat)(p:Nat)(hp:L[p]? = some (.cells (scnL s) 84))(i:Nat)(hi:i<s.length)(k2:¬clsN (s.getD i 0).toNat=2)(k3:¬clsN (s.getD i 0).toNat=3)(k5:¬clsN (s.getD i 0).toNat=5)(x:List UInt8)(hx:sgW s i 2=(x,false)) :
  X99 s L ts p i (.tup [.agg [.int .i64 0,.str [],.int .i64 0,.int .i64 0],.int .i64 i,.int .i64 11]):=by
 have c2:(0:Int)<=(i:Int)/\(i:Int)<(s.length:Int):=by omega
 have hp2:∀o,(L++o)[p]? = some (.cells (scnL s) 84):=λo=>jbH hp o
 have hsg:=λ(o:List AObj)=>jkk s hl (L++o) ts p (hp2 o) i (by omega)
 have hlen:=jpb s i 2
 rw[hx]at hsg hlen
 simp only[sgV]at hsg hlen
 refine⟨[.cells [.int .i64 0,.str [],.int .i64 0,.int .i64 0] 47],?_⟩
 refine jbk rfl rfl at86 rfl (by simp[Tryz.f86]) (by simp[Tryz.f86]) (jaq ?_)
 simp only[Tryz.f86,Ka,simprocAttr,Uq,Ke,Ur,jab,hp,hp2,zv52,c2,jaa,jae,fo0,fo2,jhf,jcS,jde,jb9 _ p s (hp2 _),jdM _ p s (hp2 _),u88,jdN,jaN,jaG,jaE u9,Us,jaX,k2,k3,k5,hsg]
 first|exact⟨by kernel_rfl,trivial⟩|exact⟨by kernel_rfl,rfl,rfl⟩|exact⟨by kernel_rfl,rfl⟩
theorem jAe(s:List UInt8)(hl:s.length<=2^30)(L:List AObj)(ts:List Nat)(p:Nat)(hp:L[p]? = some (.cells (scnL s) 84))(i:Nat)(hi:i<s.length)(k2:¬clsN (s.getD i 0).toNat=2)(k3:¬clsN (s.getD i 0).toNat=3)(k5:¬clsN (s.getD i 0).toNat=5)(x:List UInt8)(hx:sgW s i 2=(x,true)) :
  X99 s L ts p i (.tup [.agg [.int .i64 5,.str x,.int .i64 0,.int .i64 i],.int .i64 (i+x.length:Nat),.int .i64 0]):=by
 have c2:(0:Int)<=(i:Int)/\(i:Int)<(s.length:Int):=by omega
 have hp2:∀o,(L++o)[p]? = some (.cells (scnL s) 84):=λo=>jbH hp o
 have hsg:=λ(o:List AObj)=>jkk s hl (L++o) ts p (hp2 o) i (by omega)
 have hlen:=jpb s i 2
 rw[hx]at hsg hlen
 simp only[sgV]at hsg hlen
 have e1:IntKind.i64.wrap ((i:Int)+(x.length:Int))=((i+x.length:Nat):Int):=by rw[wrap_i64 (by omega) (by omega)];omega
 refine⟨[.cells [.int .i64 5,.str x,.int .i64 0,.int .i64 i] 47],?_⟩
 refine jbk rfl rfl at86 rfl (by simp[Tryz.f86]) (by simp[Tryz.f86]) (jaq ?_)
 simp only[Tryz.f86,Ka,simprocAttr,Uq,Ke,Ur,jab,hp,hp2,zv52,c2,jaa,jae,fo0,fo2,jhf,jcS,jde,jb9 _ p s (hp2 _),jdM _ p s (hp2 _),u88,jdN,jaN,jaG,jaE u9,Us,jaX,k2,k3,k5,hsg,e1,jgG]
 first|exact⟨by kernel_rfl,trivial⟩|exact⟨by kernel_rfl,rfl,rfl⟩|exact⟨by kernel_rfl,rfl⟩
def Tok.zero:Tok:=⟨0,[],0,0⟩
def jcz(s:List UInt8)(i:Nat):Tok × Nat × Int :=
 if clsN (s.getD i 0).toNat=2 then
  (⟨if subS s i (endW s [2,3,4] i)∈N.wordsW then 2 else 1,subS s i (endW s [2,3,4] i),0,i⟩,endW s [2,3,4] i,if 20<endW s [2,3,4] i-i then 19 else 0)
 else if clsN (s.getD i 0).toNat=3 then
  if 1<(subS s i (endW s [3] i)).length/\((subS s i (endW s [3] i)).getD 0 0).toNat=48 then(.zero,endW s [3] i,11)
  else if 1000000000<decV 0 (subS s i (endW s [3] i))then(.zero,endW s [3] i,2)
  else(⟨3,subS s i (endW s [3] i),decV 0 (subS s i (endW s [3] i)),i⟩,endW s [3] i,0)
 else if clsN (s.getD i 0).toNat=5 then
  if endW s [2,3,4] (i+1)<s.length/\(s.getD (endW s [2,3,4] (i+1)) 0).toNat=39/\N.IsName (subS s (i+1) (endW s [2,3,4] (i+1)))then(⟨4,subS s (i+1) (endW s [2,3,4] (i+1)),0,i⟩,endW s [2,3,4] (i+1)+1,0)
  else(.zero,endW s [2,3,4] (i+1),11)
 else if(sgW s i 2).2=true then(⟨5,(sgW s i 2).1,0,i⟩,i+(sgW s i 2).1.length,0)
 else(.zero,i,11)
def jtm(r:Tok × Nat × Int):V:=.tup [.agg [.int .i64 r.1.kind,.str r.1.text,.int .i64 r.1.n,.int .i64 r.1.pos],.int .i64 r.2.1,.int .i64 r.2.2]
theorem jh1(s:List UInt8)(hl:s.length<=2^30)(L:List AObj)(ts:List Nat)(p:Nat)(hp:L[p]? = some (.cells (scnL s) 84))(i:Nat)(hi:i<s.length) :
  X99 s L ts p i (jtm (jcz s i)):=by
 unfold jcz
 by_cases k2:clsN (s.getD i 0).toNat=2
 ·rw[Kk k2]
  by_cases h1:subS s i (endW s [2,3,4] i)∈N.wordsW
  ·rw[Kk h1]
   by_cases h2:20<endW s [2,3,4] i-i
   ·rw[Kk h2];exact jys s hl L ts p hp i hi k2 _ _ rfl rfl h1 h2
   ·rw[Km h2];exact jyr s hl L ts p hp i hi k2 _ _ rfl rfl h1 h2
  ·rw[Km h1]
   by_cases h2:20<endW s [2,3,4] i-i
   ·rw[Kk h2];exact jyq s hl L ts p hp i hi k2 _ _ rfl rfl h1 h2
   ·rw[Km h2];exact jyp s hl L ts p hp i hi k2 _ _ rfl rfl h1 h2
 rw[Km k2]
 by_cases k3:clsN (s.getD i 0).toNat=3
 ·rw[Kk k3]
  have hd:=λt x=>nx_d s hl L ts p hp i hi k3 _ rfl t x
  unfold numV at hd
  by_cases h1:1<(subS s i (endW s [3] i)).length/\((subS s i (endW s [3] i)).getD 0 0).toNat=48
  ·rw[Kk h1]at hd ⊢;exact hd _ _ rfl
  ·rw[Km h1]at hd ⊢
   by_cases h2:1000000000<decV 0 (subS s i (endW s [3] i))
   ·rw[Kk h2]at hd ⊢;exact hd _ _ rfl
   ·rw[Km h2]at hd ⊢;exact hd _ _ rfl
 rw[Km k3]
 by_cases k5:clsN (s.getD i 0).toNat=5
 ·rw[Kk k5]
  by_cases h:endW s [2,3,4] (i+1)<s.length/\(s.getD (endW s [2,3,4] (i+1)) 0).toNat=39/\N.IsName (subS s (i+1) (endW s [2,3,4] (i+1)))
  ·rw[Kk h];exact jAc s hl L ts p hp i hi k5 _ rfl h.1 h.2.1 h.2.2
  ·rw[Km h]
   by_cases h1:endW s [2,3,4] (i+1)<s.length
   ·by_cases h2:(s.getD (endW s [2,3,4] (i+1)) 0).toNat=39
    ·exact jAb s hl L ts p hp i hi k5 _ rfl h1 h2 λh3=>h ⟨h1,h2,h3⟩
    ·exact jAa s hl L ts p hp i hi k5 _ rfl h1 h2
   ·exact jz9 s hl L ts p hp i hi k5 _ rfl h1
 rw[Km k5]
 cases hb:(sgW s i 2).2
 ·rw[Km (by simp)]
  exact jAd s hl L ts p hp i hi k2 k3 k5 (sgW s i 2).1 (by rw[<- hb])
 ·rw[Kk rfl]
  exact jAe s hl L ts p hp i hi k2 k3 k5 (sgW s i 2).1 (by rw[<- hb])
theorem jkl(s:List UInt8)(i:Nat)(hi:i<s.length):i<=(jcz s i).2.1/\(jcz s i).2.1<=s.length/\((jcz s i).2.2=0->i<(jcz s i).2.1):=by
 have b1:=jbI s [2,3,4] i (by omega)
 have b2:=jbI s [3] i (by omega)
 have b3:=jbI s [2,3,4] (i+1) (by omega)
 unfold jcz
 by_cases k2:clsN (s.getD i 0).toNat=2
 ·rw[Kk k2]
  have:=jpa s [2,3,4] i hi (by rw[k2];decide)
  exact⟨b1.1,b1.2,λ_=>this⟩
 rw[Km k2]
 by_cases k3:clsN (s.getD i 0).toNat=3
 ·rw[Kk k3]
  have:=jpa s [3] i hi (by rw[k3];decide)
  split
  ·exact⟨b2.1,b2.2,λ_=>this⟩
  ·split<;>exact⟨b2.1,b2.2,λ_=>this⟩
 rw[Km k3]
 by_cases k5:clsN (s.getD i 0).toNat=5
 ·rw[Kk k5]
  split
  ·rename_i h;exact⟨by simp only;omega,by simp only;omega,λ_=>by simp only;omega⟩
  ·exact⟨by simp only;omega,by simp only;omega,λ_=>by simp only;omega⟩
 rw[Km k5]
 split
 ·rename_i h
  have:∀w,(sgW s i w).2=true->1<=(sgW s i w).1.length/\i+(sgW s i w).1.length<=s.length:=by
   intro w
   induction w with
   |zero=>intro h;simp[sgW]at h
   |succ w ih =>
    simp only[sgW]
    split
    ·rename_i h;intro _;simp only[subS_len _ _ _ h.1];omega
    ·exact ih
  have:=this 2 h
  exact⟨by simp only;omega,by simp only;omega,λ_=>by simp only;omega⟩
 ·exact⟨by simp only;omega,by simp only;omega,λh=>by simp at h⟩
def jfk(s:List UInt8):Nat->Nat->Int->List Tok->List Tok × Option (Int × Nat)
 |0,_,_,acc=>(acc,none)
 | m+1,i,last,acc =>
  if i<s.length then
   if(jcz s i).2.2=0 then
    if(jcz s i).1.kind ≠ 5/\last=i then(acc,some (11,i))
    else jfk s m (endW s [1] (jcz s i).2.1) (if(jcz s i).1.kind ≠ 5 then(jcz s i).2.1 else -1) (acc++[(jcz s i).1])
   else(acc,some ((jcz s i).2.2,i))
  else(acc,none)
def tokV(t:Tok):V:=.agg [.int .i64 t.kind,.str t.text,.int .i64 t.n,.int .i64 t.pos]
structure Yl (y:V) (base:Nat) (p b:Nat) (s:List UInt8) (P:List Tok->S->Prop) (R:Int->Nat->S->Prop):Prop where
 low:∀acc O O',(∀q,q<base->O'.heap[q]? = O.heap[q]?)->O'.toks=O.toks->base<=O'.heap.length->P acc O->P acc O'
 len:∀acc O,P acc O->base<=O.heap.length
 hp:∀acc O,P acc O->O.heap[p]? = some (.cells (scnL s) 84)
 hb:∀acc O,P acc O->O.heap[b]? = some (.cells [.ptr p 0] 79)
 ok:∀acc O t,acc.length<=4000->P acc O->∃O',jdp env (ev env) y [tokV t,.int .i64 0] O=some (.bool true,O')/\P (acc++[t]) O'/\∀q,base<=q->q<O.heap.length->O'.heap[q]? = O.heap[q]?
 err:∀acc O i x,x ≠ 0->acc.length<=4000->P acc O->∃O',jdp env (ev env) y [tokV ⟨0,[],0,(i:Nat)⟩,.int .i64 x] O=some (.bool false,O')/\R x i O'
theorem at84:env.P.funcs[84]? = some Tryz.f84:=by kernel_rfl
theorem row3:rowO env 139 1 [(0,.int .i64 1)]=some (.row (([1]:List Int).map (V.int .i64)) 1 .full):=by kernel_rfl
theorem mb97(r:Nat):env.mutb 84 r=false:=rfl
theorem jqq(p:Int):jcd env 47 [(3,.int .i64 p)]=some (.agg [.int .i64 0,.str [],.int .i64 0,.int .i64 p]):=by kernel_rfl
theorem jnH(h:List AObj)(p:V):jbi env h 3 p=(jai h 1 p).bind (·[0]?):=ja0 (by kernel_rfl)
theorem jiz(h:List AObj)(p:V):jbi env h 79 p=(jai h 1 p).bind (·[0]?):=ja0 (by kernel_rfl)
theorem jjj(L:List AObj)(a b c d:V)(t:TypeId):(jai (L++[.cells [a,b,c,d] t]) 1 (.ptr L.length 0)).bind (·[0]?)=some a:=by
 rw[YA,ja2];rfl
theorem jcX {h:List AObj}{b:Nat}{v:V}{t:TypeId}(hb:h[b]? = some (.cells [v] t)):(jai h 1 (.ptr b 0)).bind (·[0]?)=some v:=by
 rw[YA,hb];rfl
theorem jyt {y:V}{base p b:Nat}{s:List UInt8}{P:List Tok->S->Prop}{R:Int->Nat->S->Prop}(hY:Yl y base p b s P R)(hl:s.length<=2^30)(Q:Post)(T:Tm)(L:List AObj)(ts:List Nat)(acc:List Tok)(ha:acc.length<=4000)(hP:P acc ⟨L,ts⟩)(i:Nat)(hi:i<s.length)(last:Int)
  (t0:T 0=y) (t1:T 1=.ptr b 0) (t3:T 3=.int .i64 last) (t4:T 4=.int .i64 (i:Nat))
  (t:Tok) (e:Nat) (hn:jcz s i=(t,e,0)) (hk:t.kind=5)
  (h:∀T' O',T' 0=y->T' 1=.ptr b 0->T' 3=.int .i64 (-1)->T' 4=.int .i64 (endW s [1] e:Nat)->P (acc++[t]) O'->Q.norm T' [] O') :
  G env 84 none 54 Q [] (jfT 0 (jay Tryz.f84)) T [] ⟨L,ts⟩:=by
 simp only[jay,Tryz.f84,Kv,jfT,blkC,Option.or,Nat.reduceEqDiff,Kr,Ku,reduceIte]
 have he:=jkl s i hi
 rw[hn]at he
 simp only at he
 have c1:(i:Int)<(s.length:Int):=by omega
 have hb1:=jcX (hY.hb _ _ hP)
 have hs1:=jb9 L p s (hY.hp _ _ hP)
 simp only at hb1 hs1
 have hbl:base<=L.length:=hY.len _ _ hP
 obtain⟨o,hX⟩:=jh1 s hl L ts p (hY.hp _ _ hP) i hi
 rw[hn]at hX
 simp only[jtm]at hX
 have hlow:∀c q,q<base->(L++o++[c]:List AObj)[q]? = L[q]? := λc q hq=>by
  rw[Q5,K0 (by omega)]
 have hlen:L.length<=(L++o).length:=by simp
 have hPc:∀c,P acc ⟨L++o++[c],ts⟩:=λc=>hY.low acc ⟨L,ts⟩ ⟨L++o++[c],ts⟩ (hlow c) rfl (by simp only[Ks,K2]at *;omega) hP
 generalize L++o=L1 at *
 obtain⟨⟨L2,ts2⟩,hy,hP2,hfr⟩:=hY.ok acc ⟨L1++[.cells [.int .i64 t.kind,.str t.text,.int .i64 t.n,.int .i64 t.pos] 47],ts⟩ t ha (hPc _)
 unfold tokV at hy
 have hb2:=jcX (hY.hb _ _ hP2)
 simp only at hb2 hfr
 have hcell:L2[L1.length]? = some (.cells [.int .i64 t.kind,.str t.text,.int .i64 t.n,.int .i64 t.pos] 47):=by
  rw[hfr L1.length (by omega) (by simp)];simp
 have hk3:(jai L2 1 (.ptr L1.length 0)).bind (·[0]?)=some (.int .i64 t.kind):=by rw[YA,hcell];rfl
 have hrun:=jc6 s hl L2 ts2 p (hY.hp _ _ hP2) [1] 1 rfl .full jd8 (by decide) e he.2.1
 rw[hk]at hy hk3
 simp only[Ka,simprocAttr,Uq,Ke,Ur,jab,t0,t1,t3,t4,c1,jiz,jcS,jnH,hb1,hs1,jaa,jae,fo0,jhf,jaN,hX,zv52,YW,jbZ,ja2,jaT,jaY,jhg,jjj,hk,hy,hb2,hk3,mb97,jaf,row3,hrun]
 refine h _ _ ?_ ?_ ?_ ?_ hP2<;>first|exact t0|exact t1|rfl
theorem jyu {y:V}{base p b:Nat}{s:List UInt8}{P:List Tok->S->Prop}{R:Int->Nat->S->Prop}(hY:Yl y base p b s P R)(hl:s.length<=2^30)(Q:Post)(T:Tm)(L:List AObj)(ts:List Nat)(acc:List Tok)(ha:acc.length<=4000)(hP:P acc ⟨L,ts⟩)(i:Nat)(hi:i<s.length)(last:Int)
  (t0:T 0=y) (t1:T 1=.ptr b 0) (t3:T 3=.int .i64 last) (t4:T 4=.int .i64 (i:Nat))
  (t:Tok) (e:Nat) (hn:jcz s i=(t,e,0)) (hk:¬t.kind=5) (hk2:¬last=(i:Nat))
  (h:∀T' O',T' 0=y->T' 1=.ptr b 0->T' 3=.int .i64 (e)->T' 4=.int .i64 (endW s [1] e:Nat)->P (acc++[t]) O'->Q.norm T' [] O') :
  G env 84 none 54 Q [] (jfT 0 (jay Tryz.f84)) T [] ⟨L,ts⟩:=by
 simp only[jay,Tryz.f84,Kv,jfT,blkC,Option.or,Nat.reduceEqDiff,Kr,Ku,reduceIte]
 have he:=jkl s i hi
 rw[hn]at he
 simp only at he
 have c1:(i:Int)<(s.length:Int):=by omega
 have hb1:=jcX (hY.hb _ _ hP)
 have hs1:=jb9 L p s (hY.hp _ _ hP)
 simp only at hb1 hs1
 have hbl:base<=L.length:=hY.len _ _ hP
 obtain⟨o,hX⟩:=jh1 s hl L ts p (hY.hp _ _ hP) i hi
 rw[hn]at hX
 simp only[jtm]at hX
 have hlow:∀c q,q<base->(L++o++[c]:List AObj)[q]? = L[q]? := λc q hq=>by
  rw[Q5,K0 (by omega)]
 have hlen:L.length<=(L++o).length:=by simp
 have hPc:∀c,P acc ⟨L++o++[c],ts⟩:=λc=>hY.low acc ⟨L,ts⟩ ⟨L++o++[c],ts⟩ (hlow c) rfl (by simp only[Ks,K2]at *;omega) hP
 generalize L++o=L1 at *
 obtain⟨⟨L2,ts2⟩,hy,hP2,hfr⟩:=hY.ok acc ⟨L1++[.cells [.int .i64 t.kind,.str t.text,.int .i64 t.n,.int .i64 t.pos] 47],ts⟩ t ha (hPc _)
 unfold tokV at hy
 have hb2:=jcX (hY.hb _ _ hP2)
 simp only at hb2 hfr
 have hcell:L2[L1.length]? = some (.cells [.int .i64 t.kind,.str t.text,.int .i64 t.n,.int .i64 t.pos] 47):=by
  rw[hfr L1.length (by omega) (by simp)];simp
 have hk3:(jai L2 1 (.ptr L1.length 0)).bind (·[0]?)=some (.int .i64 t.kind):=by rw[YA,hcell];rfl
 have hrun:=jc6 s hl L2 ts2 p (hY.hp _ _ hP2) [1] 1 rfl .full jd8 (by decide) e he.2.1
 simp only[Ka,simprocAttr,Uq,Ke,Ur,jab,t0,t1,t3,t4,c1,jiz,jcS,jnH,hb1,hs1,jaa,jae,fo0,jhf,jaN,hX,zv52,YW,jbZ,ja2,jaT,jaY,jhg,jjj,hk,hk2,hy,hb2,hk3,mb97,jaf,row3,hrun]
 refine h _ _ ?_ ?_ ?_ ?_ hP2<;>first|exact t0|exact t1|rfl
theorem jyv {y:V}{base p b:Nat}{s:List UInt8}{P:List Tok->S->Prop}{R:Int->Nat->S->Prop}(hY:Yl y base p b s P R)(hl:s.length<=2^30)(Q:Post)(T:Tm)(L:List AObj)(ts:List Nat)(acc:List Tok)(ha:acc.length<=4000)(hP:P acc ⟨L,ts⟩)(i:Nat)(hi:i<s.length)(last:Int)
  (t0:T 0=y) (t1:T 1=.ptr b 0) (t3:T 3=.int .i64 last) (t4:T 4=.int .i64 (i:Nat))
  (t:Tok) (e:Nat) (x:Int) (hx:¬x=0) (hn:jcz s i=(t,e,x)) (h:∀T' O',R x i O'->Q.ret T' [] O') :
  G env 84 none 54 Q [] (jfT 0 (jay Tryz.f84)) T [] ⟨L,ts⟩:=by
 simp only[jay,Tryz.f84,Kv,jfT,blkC,Option.or,Nat.reduceEqDiff,Kr,Ku,reduceIte]
 have c1:(i:Int)<(s.length:Int):=by omega
 have hb1:=jcX (hY.hb _ _ hP)
 have hs1:=jb9 L p s (hY.hp _ _ hP)
 simp only at hb1 hs1
 have hbl:base<=L.length:=hY.len _ _ hP
 obtain⟨o,hX⟩:=jh1 s hl L ts p (hY.hp _ _ hP) i hi
 rw[hn]at hX
 simp only[jtm]at hX
 have hlow:∀c q,q<base->(L++o++[c]:List AObj)[q]? = L[q]? := λc q hq=>by
  rw[Q5,K0 (by omega)]
 have hlen:L.length<=(L++o).length:=by simp
 have hPc:∀c,P acc ⟨L++o++[c],ts⟩:=λc=>hY.low acc ⟨L,ts⟩ ⟨L++o++[c],ts⟩ (hlow c) rfl (by simp only[Ks,K2]at *;omega) hP
 generalize L++o=L1 at *
 obtain⟨⟨L2,ts2⟩,hy,hR⟩:=hY.err acc ⟨L1++[.cells [.int .i64 0,.str [],.int .i64 0,.int .i64 i] 47],ts⟩ i x hx ha (hPc _)
 unfold tokV at hy
 simp only[Ka,simprocAttr,Uq,Ke,Ur,jab,t0,t1,t3,t4,c1,jiz,jcS,jnH,hb1,hs1,jaa,jae,fo0,jhf,jaN,hX,zv52,YW,jbZ,ja2,jaT,jaY,jhg,jjj,hx,hy,jqq]
 exact h _ _ hR
theorem jyw {y:V}{base p b:Nat}{s:List UInt8}{P:List Tok->S->Prop}{R:Int->Nat->S->Prop}(hY:Yl y base p b s P R)(hl:s.length<=2^30)(Q:Post)(T:Tm)(L:List AObj)(ts:List Nat)(acc:List Tok)(ha:acc.length<=4000)(hP:P acc ⟨L,ts⟩)(i:Nat)(hi:i<s.length)(last:Int)
  (t0:T 0=y) (t1:T 1=.ptr b 0) (t3:T 3=.int .i64 last) (t4:T 4=.int .i64 (i:Nat))
  (t:Tok) (e:Nat) (hn:jcz s i=(t,e,0)) (hk:¬t.kind=5) (hk2:last=(i:Nat)) (h:∀T' O',R 11 i O'->Q.ret T' [] O') :
  G env 84 none 54 Q [] (jfT 0 (jay Tryz.f84)) T [] ⟨L,ts⟩:=by
 simp only[jay,Tryz.f84,Kv,jfT,blkC,Option.or,Nat.reduceEqDiff,Kr,Ku,reduceIte]
 have c1:(i:Int)<(s.length:Int):=by omega
 have hb1:=jcX (hY.hb _ _ hP)
 have hs1:=jb9 L p s (hY.hp _ _ hP)
 simp only at hb1 hs1
 have hbl:base<=L.length:=hY.len _ _ hP
 obtain⟨o,hX⟩:=jh1 s hl L ts p (hY.hp _ _ hP) i hi
 rw[hn]at hX
 simp only[jtm]at hX
 have hlow:∀c q,q<base->(L++o++[c]:List AObj)[q]? = L[q]? := λc q hq=>by
  rw[Q5,K0 (by omega)]
 have hlen:L.length<=(L++o).length:=by simp
 have hPc:∀c,P acc ⟨L++o++[c],ts⟩:=λc=>hY.low acc ⟨L,ts⟩ ⟨L++o++[c],ts⟩ (hlow c) rfl (by simp only[Ks,K2]at *;omega) hP
 generalize L++o=L1 at *
 obtain⟨⟨L2,ts2⟩,hy,hR⟩:=hY.err acc ⟨L1++[.cells [.int .i64 0,.str [],.int .i64 0,.int .i64 i] 47],ts⟩ i 11 (by decide) ha (hPc _)
 unfold tokV at hy
 simp only[Ka,simprocAttr,Uq,Ke,Ur,jab,t0,t1,t3,t4,c1,jiz,jcS,jnH,hb1,hs1,jaa,jae,fo0,jhf,jaN,hX,zv52,YW,jbZ,ja2,jaT,jaY,jhg,jjj,hk,hk2,hy,jqq]
 exact h _ _ hR
def jyx(P:List Tok->S->Prop)(R:Int->Nat->S->Prop)(r:List Tok × Option (Int × Nat))(O:S):Prop :=
 match r.2 with
 |none=>P r.1 O
 |some (x,i)=>R x i O
theorem jpc {y:V}{base p b:Nat}{s:List UInt8}{P:List Tok->S->Prop}{R:Int->Nat->S->Prop}(hY:Yl y base p b s P R)(hl:s.length<=4000)(O:S)(hP:P [] O) :
  ∃v O',jar env (ev env) 84 [y,.ptr b 0] O=some (v,O')/\jyx P R (jfk s (s.length+1) (endW s [1] 0) (-1) []) O':=by
 refine jcp rfl rfl at84 rfl (by simp[Tryz.f84]) (by simp[Tryz.f84]) (jaq ?_)
 obtain⟨L,ts⟩:=O
 have hb1:=jcX (hY.hb _ _ hP)
 simp only at hb1
 have hl2:s.length<=2^30:=by omega
 have hrun:jar env (ev env) 85 [.ptr p 0,.int .i64 0,.row (([1]:List Int).map (V.int .i64)) 1 .full] ⟨L,ts⟩=some (.int .i64 (endW s [1] 0:Nat),⟨L,ts⟩):=jc6 s hl2 L ts p (hY.hp _ _ hP) [1] 1 rfl .full jd8 (by decide) 0 (Qm _)
 have hend:=jbI s [1] 0 (Qm _)
 simp only[Tryz.f84,Ka,simprocAttr,Uq,Ke,Vq,jiz,hb1,mb97,jaf,row3,hrun]
 generalize hfin:jfk s (s.length+1) (endW s [1] 0) (-1) []=fin
 refine jbs (λm T D O=>D=[]/\T 0=y/\T 1=.ptr b 0/\∃(i:Nat) (last:Int) (acc:List Tok) (fuel:Nat),T 3=.int .i64 last/\T 4=.int .i64 i/\i<=s.length/\acc.length<=i/\m=s.length-i/\P acc O/\s.length-i<fuel/\jfk s fuel i last acc=fin) ?_ (s.length-endW s [1] 0) _ _ _ ?_
 rotate_left
 ·exact⟨rfl,rfl,rfl,endW s [1] 0,-1,[],s.length+1,rfl,rfl,hend.2,Qm _,rfl,hP,by omega,hfin⟩
 clear hfin hrun hb1 hP hend L ts
 rintro m T D ⟨L,ts⟩ ⟨rfl,t0,t1,i,last,acc,fuel,t3,t4,hi,hacc,rfl,hP,hf,hs⟩
 by_cases hlt:i<s.length
 ·obtain⟨f,rfl⟩:∃f,fuel=f+1:=⟨fuel-1,by omega⟩
  have he:=jkl s i hlt
  simp only[jfk,Kk hlt]at hs
  obtain⟨t,e,x,hn⟩:∃t e x,jcz s i=(t,e,x):=⟨_,_,_,rfl⟩
  rw[hn]at he hs
  simp only at he hs
  have h1:=jbI s [1] e he.2.1
  by_cases hx:x=0
  ·subst hx
   rw[Kk rfl]at hs
   have hie:=he.2.2 rfl
   by_cases hk:t.kind=5
   ·rw[Km (λh=>h.1 hk),Km (λh=>h hk)]at hs
    exact jyt hY hl2 _ T L ts acc (by omega) hP i hlt last t0 t1 t3 t4 t e hn hk λT' O' a0 a1 a3 a4 hP2 =>
     ⟨s.length-endW s [1] e,by omega,rfl,a0,a1,endW s [1] e,-1,acc++[t],f,a3,a4,h1.2,by simp;omega,rfl,hP2,by omega,hs⟩
   ·by_cases hk2:last=(i:Int)
    ·rw[Kk ⟨hk,hk2⟩]at hs
     subst hs
     refine jyw hY hl2 _ T L ts acc (by omega) hP i hlt last t0 t1 t3 t4 t e hn hk hk2 λT' O' hR => ?_
     exact⟨O'.heap,rfl,[],rfl,hR⟩
    ·rw[Km (λh=>hk2 h.2),Kk hk]at hs
     exact jyu hY hl2 _ T L ts acc (by omega) hP i hlt last t0 t1 t3 t4 t e hn hk hk2 λT' O' a0 a1 a3 a4 hP2 =>
      ⟨s.length-endW s [1] e,by omega,rfl,a0,a1,endW s [1] e,e,acc++[t],f,a3,a4,h1.2,by simp;omega,rfl,hP2,by omega,hs⟩
  ·rw[Km hx]at hs
   subst hs
   refine jyv hY hl2 _ T L ts acc (by omega) hP i hlt last t0 t1 t3 t4 t e x hx hn λT' O' hR => ?_
   exact⟨O'.heap,rfl,[],rfl,hR⟩
 ·obtain⟨f,rfl⟩:∃f,fuel=f+1:=⟨fuel-1,by omega⟩
  have hi2:i=s.length:=by omega
  subst hi2
  simp only[jfk,Km hlt]at hs
  subst hs
  have c1:¬(s.length:Int)<(s.length:Int):=by omega
  have hb1:=jcX (hY.hb _ _ hP)
  have hs1:=jb9 L p s (hY.hp _ _ hP)
  simp only at hb1 hs1
  refine jaq ?_
  simp only[Ka,simprocAttr,Uq,Ke,Vq,t0,t1,t3,t4,c1,jiz,jcS,hb1,hs1,jaa,jae,fo0,jaN]
  exact hP
theorem e45:jfR env 43=some 47:=by kernel_rfl
theorem s52:sz env 47=some 4:=by kernel_rfl
theorem by52:(bys env 47).isSome=true/\(bys env 47).getD 0<=2^20:=by
 have h:(match bys env 47 with|some n=>Nat.ble n (2^20)|none=>false)=true:=by kernel_rfl
 split at h
 ·rename_i n hn;rw[hn];exact⟨rfl,Qo h⟩
 ·simp at h
theorem zn52:jkC env 47=some 4:=by kernel_rfl
inductive GrowT (ts:List Nat):V->List Tok->Prop
 |nil:GrowT ts .nilsl []
 |tok (cs:List Tok) (k e:Nat) (h:ts[k]? = some e) (hne:cs ≠ []):GrowT ts (.row (flatT cs) cs.length (.tok k e 4)) cs
theorem jtn(cs:List Tok)(c:Tok):flatT (cs++[c])=flatT cs++[.int .i64 c.kind,.str c.text,.int .i64 c.n,.int .i64 c.pos]:=by simp[flatT,Tok.cells]
theorem jnI:∀cs:List Tok,(flatT cs).length=cs.length*4
 | []=>rfl
 |c::cs=>by rw[jfj];simp only[K2,jnI cs];omega
theorem jw3 {T:Tm}{O:S}{x:Operand}:opT env false T O (.buildSlice 43 1 #[(0,x)])=(jaK env T x).bind λv=>if v.cells.length=4 then some (.row v.cells 1 .full,O)else none:=by
 unfold opT
 simp only[jbn,jbt,jbD,jds]
 cases jaK env T x with
 |none=>rfl
 |some v =>
  simp only[Kw,Kj,e45,s52,zv52]
  by_cases hv:v.cells.length=4
  ·simp[jgY,hv,YW]
  ·simp[jgY,hv,YW]
theorem GrowT.append {hp:List AObj}{ts:List Nat}{v:V}{cs:List Tok}(g:GrowT ts v cs)(c:Tok)(cap:RCap)(hb:cs.length<=4000) :
  ∃v' ts',appO env false ⟨hp,ts⟩ 43 43 v (.row [.int .i64 c.kind,.str c.text,.int .i64 c.n,.int .i64 c.pos] 1 cap)=some (v',⟨hp,ts'⟩)/\GrowT ts' v' (cs++[c]):=by
 have hnew:jby hp 4 1 (.row [.int .i64 c.kind,.str c.text,.int .i64 c.n,.int .i64 c.pos] 1 cap)=some [.int .i64 c.kind,.str c.text,.int .i64 c.n,.int .i64 c.pos]:=by simp[jby]
 have hcell:([.int .i64 c.kind,.str c.text,.int .i64 c.n,.int .i64 c.pos]:List V).all V.isCell=true:=by simp[V.isCell]
 obtain⟨h52,h52b⟩:=by52
 obtain⟨nb,hnb⟩:=Option.isSome_iff_exists.1 h52
 rw[hnb]at h52b
 simp only[Kv]at h52b
 have hlim:lim=2^40:=rfl
 have hl1:(1:Nat)*nb<=lim/\1<=lim:=by rw[hlim];omega
 have hl2:(cs.length+1)*nb<=lim/\cs.length+1<=lim:=by
  have:(cs.length+1)*nb<=4001*2^20:=Nat.mul_le_mul (by omega) h52b
  rw[hlim];omega
 unfold appO
 simp only[e45,s52,u45,hnb,zn52,vLen,hnew,Kj,Ku]
 cases g with
 |nil =>
  refine⟨.row (flatT [c]) 1 (.tok ts.length 0 4),ts++[0],?_,.tok [c] ts.length 0 (by simp) (by simp)⟩
  have hl0:nb<=lim:=by rw[hlim];omega
  simp[jbT,hl1,hl0,flatT,Tok.cells]
 | tok _ k e hk hne =>
  have hkl:k<ts.length:=by
   rcases K9 k ts.length with h1|h1
   ·exact h1
   ·rw[Qh h1]at hk;simp at hk
  refine⟨.row (flatT (cs++[c])) (cs++[c]).length (.tok k (e+1) 4),ts.set k (e+1),?_,.tok _ k (e+1) (by simp[hkl]) (by simp)⟩
  have hl3:(flatT cs).length=cs.length*4:=jnI cs
  simp[jbT,hl2,hl3,hk,V.isCell,jtn]
theorem GrowT.cells {ts:List Nat}{v:V}{cs:List Tok}(g:GrowT ts v cs):v.cells=[v]:=by cases g<;>rfl
theorem GrowT.cell {ts:List Nat}{v:V}{cs:List Tok}(g:GrowT ts v cs):v.isCell=true:=by cases g<;>rfl
def toksV(l:List Tok):V:=if l=[]then .nilsl else .row (flatT l) l.length .unk
theorem toksV_is(l:List Tok):IsT (toksV l) l:=by
 unfold toksV IsT
 by_cases h:l=[]
 ·rw[Kk h];exact .inl ⟨rfl,h⟩
 ·rw[Km h];exact .inr rfl
theorem jly(h:List AObj)(d:Nat):∀l:List Tok,(flatT l).mapM (jbo h (d+1))=some (flatT l)
 | []=>rfl
 |c::l=>by
  rw[jfj,jaA,jaA,jaA,jaA,jly h d l,jaW,jb8,jaW,jaW]
  rfl
theorem jyy {h:List AObj}{d:Nat}{ts:List Nat}{v:V}{l:List Tok}(g:GrowT ts v l):jbo h (d+2) v=some (toksV l):=by
 cases g with
 |nil=>rfl
 |tok _ k e hk hne =>
  rw[jgb,jly h d l]
  simp[toksV,hne]
def rngC:Code->Option (Code × Code)
 | .rangeFunc _ _ a b=>some (a,b)
 | .block _ c=>rngC c
 | .seq a b=>(rngC a).or (rngC b)
 | .cond _ a b=>(rngC a).or (rngC b)
 | .loop c=>rngC c
 | .scope c=>rngC c
 |_=>none
def asgR(c:Code):Code:=match rngC c with|some (a,_)=>a|none=>.skip
def bodR(c:Code):Code:=match rngC c with|some (_,b)=>b|none=>.skip
theorem s45:sz env 43=some 1:=by kernel_rfl
def P35(lo:AObj)(s:List UInt8)(acc:List Tok)(O:S):Prop :=
 7<=O.heap.length/\O.heap[0]? = some (.cells [.nilsl] 43)/\O.heap[1]? = some (.cells [.int .i64 0,.int .i64 0] 32)/\O.heap[2]? = some (.cells (scnL s) 84)/\O.heap[4]? = some (.cells [.ptr 2 0] 79) /\
 O.heap[5]? = some (.defd true)/\O.heap[6]? = some lo/\∃v,O.heap[3]? = some (.cells [v] 43)/\GrowT O.toks v acc
def R35(lr:AObj)(x:Int)(i:Nat)(O:S):Prop :=
 7<=O.heap.length/\O.heap[0]? = some (.cells [.nilsl] 43)/\O.heap[1]? = some (.cells [.int .i64 x,.int .i64 i] 32)/\O.heap[5]? = some (.defd true)/\O.heap[6]? = some lr
theorem ne0 {x:Int}(h:x ≠ 0):((x:Int)=0)=False:=eq_false h
theorem juQ(s:List UInt8)(T:Tm)(tmps:List V)(lo:AObj)(hr:Rep 32 T tmps)(hlo:lo=.loop .ready none 19 tmps #[18,19] (asgR (jay Tryz.f19)) (bodR (jay Tryz.f19)) 5)
  (t5:T 5=.ptr 3 0) (acc:List Tok) (H:List AObj) (ts:List Nat) (t:Tok) (ha:acc.length<=4000) (hP:P35 lo s acc ⟨H,ts⟩) :
  ∃O',jdp env (ev env) (.yld 6) [tokV t,.int .i64 0] ⟨H,ts⟩=some (.bool true,O')/\P35 lo s (acc++[t]) O'/\∀q,7<=q->q<H.length->O'.heap[q]? = H[q]? := by
 obtain⟨h7,p0,p1,p2,p4,p5,p6,v,p3,hg⟩:=hP
 simp only at h7 p0 p1 p2 p3 p4 p5 p6 hg
 refine jgB hlo p6 hr rfl (by simp) ?_
 intro lb hlb
 clear hlb hlo hr
 obtain⟨v',ts',happ,hg'⟩:=GrowT.append (hp:=(H++[AObj.cells [.int .i64 t.kind,.str t.text,.int .i64 t.n,.int .i64 t.pos] 47]).set 6 lb) hg t .full ha
 have hv1:=hg'.cells
 have hv2:=hg'.cell
 have q3:((H++[AObj.cells [.int .i64 t.kind,.str t.text,.int .i64 t.n,.int .i64 t.pos] 47]).set 6 lb)[3]? = some (.cells [v] 43):=by
  rw[Ki (by omega),K0 (by omega)];exact p3
 have ql:jai ((H++[AObj.cells [.int .i64 t.kind,.str t.text,.int .i64 t.n,.int .i64 t.pos] 47]).set 6 lb) 4 (.ptr H.length 0)=some [.int .i64 t.kind,.str t.text,.int .i64 t.n,.int .i64 t.pos] :=
  jc4 (t:=47) (by rw[Ki (by omega)];simp)
 have q52:jbi env ((H++[AObj.cells [.int .i64 t.kind,.str t.text,.int .i64 t.n,.int .i64 t.pos] 47]).set 6 lb) 47 (.ptr H.length 0)=some (.agg [.int .i64 t.kind,.str t.text,.int .i64 t.n,.int .i64 t.pos]):=by
  have g:Go.Ab.aggT env 47=some true:=by kernel_rfl
  unfold jbi
  simp only[s52,g,ql,Kj,Kw]
 have q45:jbi env ((H++[AObj.cells [.int .i64 t.kind,.str t.text,.int .i64 t.n,.int .i64 t.pos] 47]).set 6 lb) 43 (.ptr 3 0)=some v:=by
  rw[ja0 (by kernel_rfl)];exact jcX q3
 have q6:(H++[AObj.cells [.int .i64 t.kind,.str t.text,.int .i64 t.n,.int .i64 t.pos] 47]:List AObj)[6]? = some lo:=by
  rw[K0 (by omega)];exact p6
 refine jaq ?_
 simp only[asgR,bodR,rngC,jay,Tryz.f19,Kv,Option.or,tokV]
 simp only[Ka,simprocAttr,Uq,Ke,Ur,jab,Xl,Xy,t5,zv52,YW,jbZ,ja2,jaT,jaY,q6,q45,q52,q3,s45,jw3,happ,hv1,hv2]
 generalize AObj.cells [.int .i64 t.kind,.str t.text,.int .i64 t.n,.int .i64 t.pos] 47=o
 have hq:∀q,q ≠ 3->q ≠ 6->q<H.length->((((H++[o]).set 6 lb).set 3 (AObj.cells [v'] 43)).set 6 lo)[q]? = H[q]? := λq h1 h2 h3=>by
  rw[Ki (by omega),Ki (by omega),Ki (by omega),K0 h3]
 refine⟨?_,⟨?_,?_,?_,?_,?_,?_,?_,v',?_,hg'⟩,λq h1 h2=>hq q (by omega) (by omega) h2⟩
 ·rw[Ki (by omega),Kl (by simp;omega)]
 ·simp;omega
 ·simp only;rw[hq 0 (by omega) (by omega) (by omega)];exact p0
 ·simp only;rw[hq 1 (by omega) (by omega) (by omega)];exact p1
 ·simp only;rw[hq 2 (by omega) (by omega) (by omega)];exact p2
 ·simp only;rw[hq 4 (by omega) (by omega) (by omega)];exact p4
 ·simp only;rw[hq 5 (by omega) (by omega) (by omega)];exact p5
 ·simp only;rw[Kl (by simp;omega)]
 ·simp only;rw[Ki (by omega),Kl (by simp;omega)]
theorem jpd(a b:Int):jcd env 32 [(0,.int .i64 a),(1,.int .i64 b)]=some (.agg [.int .i64 a,.int .i64 b]):=by kernel_rfl
theorem jAf:ja7 env 47 3=some 3:=by kernel_rfl
theorem juR(t:TypeId)(ps:Array (Nat × Operand)):scOp env (.build t ps)=false:=rfl
theorem juS(t:TypeId)(ps:Array (Nat × Operand)):jbh (.build t ps)=false:=rfl
theorem juT(s:List UInt8)(T:Tm)(tmps:List V)(lo lr:AObj)(hr:Rep 32 T tmps)(hlo:lo=.loop .ready none 19 tmps #[18,19] (asgR (jay Tryz.f19)) (bodR (jay Tryz.f19)) 5)
  (hlr:lr=.loop .done (some .ret) 19 tmps #[18,19] (asgR (jay Tryz.f19)) (bodR (jay Tryz.f19)) 5)
  (t2:T 2=.ptr 0 0) (t3:T 3=.ptr 1 0) (acc:List Tok) (H:List AObj) (ts:List Nat) (i:Nat) (x:Int) (hx:x ≠ 0) (hP:P35 lo s acc ⟨H,ts⟩) :
  ∃O',jdp env (ev env) (.yld 6) [tokV ⟨0,[],0,(i:Nat)⟩,.int .i64 x] ⟨H,ts⟩=some (.bool false,O')/\R35 lr x i O':=by
 obtain⟨h7,p0,p1,p2,p4,p5,p6,v,p3,hg⟩:=hP
 simp only at h7 p0 p1 p2 p3 p4 p5 p6 hg
 refine jnd hlo p6 hr rfl (by simp) ?_
 intro lb lr2 hlb hlr2
 have hlr3:lr2=lr:=by rw[hlr,hlr2]
 clear hlb hlo hr hlr2 hlr
 subst hlr3
 have hx0:=ne0 hx
 have q6:(H++[AObj.cells [.int .i64 0,.str [],.int .i64 0,.int .i64 i] 47])[6]? = some lo:=by
  rw[K0 (by omega)];exact p6
 have q0:((H++[AObj.cells [.int .i64 0,.str [],.int .i64 0,.int .i64 i] 47]).set 6 lb)[0]? = some (.cells [.nilsl] 43):=by
  rw[Ki (by omega),K0 (by omega)];exact p0
 have q1:(((H++[AObj.cells [.int .i64 0,.str [],.int .i64 0,.int .i64 i] 47]).set 6 lb).set 0 (.cells [.nilsl] 43))[1]? = some (.cells [.int .i64 0,.int .i64 0] 32):=by
  rw[Ki (by omega),Ki (by omega),K0 (by omega)];exact p1
 have qk:(jai ((H++[AObj.cells [.int .i64 0,.str [],.int .i64 0,.int .i64 i] 47]).set 6 lb) 1 (.ptr H.length 3)).bind (·[0]?)=some (.int .i64 i):=by
  rw[YA,Ki (by omega),ja2];rfl
 have s47:sz env 32=some 2:=by kernel_rfl
 refine jaq ?_
 simp only[asgR,bodR,rngC,jay,Tryz.f19,Kv,Option.or,tokV]
 simp only[Ka,simprocAttr,Uq,Ke,Ur,jab,Xl,Xy,t2,t3,zv52,YW,jbZ,ja2,jaT,jaY,q6,hx0]
 refine jk9 rfl (λs=>s.heap[H.length]? = some (.cells [.int .i64 0,.str [],.int .i64 0,.int .i64 i] 47)) (by simp only;rw[Ki (by omega),ja2]) (by kernel_rfl) ?_
 simp only[Ka,simprocAttr,Uq,Ke,Ur,jab,joP,joQ,jgc,jl3,juR,joR,joS,jgd,jl4,juS,t2,t3,jis,q0,q1,qk,s45,s47,jAf,jnH,jpd,YH,jaT,YW]
 refine⟨λs h=>by rw[h];rfl,rfl,by rw[Ki (by omega),Ki (by omega),ja2],by rw[Ki (by omega),Ki (by omega),Ki (by omega),ja2],?_⟩
 generalize AObj.cells [.int .i64 0,.str [],.int .i64 0,.int .i64 i] 47=o
 have hq:∀q,q ≠ 0->q ≠ 1->q ≠ 6->q<H.length->(((((H++[o]).set 6 lb).set 0 (AObj.cells [.nilsl] 43)).set 1 (AObj.cells [.int .i64 x,.int .i64 i] 32)).set 6 lr2)[q]? = H[q]? := λq h0 h1 h2 h3=>by
  rw[Ki (by omega),Ki (by omega),Ki (by omega),Ki (by omega),K0 h3]
 refine⟨?_,?_,?_,?_,?_,?_⟩
 ·rw[Ki (by omega),Ki (by omega),Kl (by simp;omega)]
 ·simp;omega
 ·simp only;rw[Ki (by omega),Ki (by omega),Kl (by simp)]
 ·simp only;rw[Ki (by omega),Kl (by simp;omega)]
 ·simp only;rw[hq 5 (by omega) (by omega) (by omega) (by omega)];exact p5
 ·simp only;rw[Kl (by simp;omega)]
theorem at19:env.P.funcs[19]? = some Tryz.f19:=by kernel_rfl
theorem at43:env.P.funcs[43]? = some Tryz.f43:=by kernel_rfl
theorem yl35(s:List UInt8)(T:Tm)(tmps:List V)(lo lr:AObj)(hr:Rep 32 T tmps)(hlo:lo=.loop .ready none 19 tmps #[18,19] (asgR (jay Tryz.f19)) (bodR (jay Tryz.f19)) 5)
  (hlr:lr=.loop .done (some .ret) 19 tmps #[18,19] (asgR (jay Tryz.f19)) (bodR (jay Tryz.f19)) 5)
  (t2:T 2=.ptr 0 0) (t3:T 3=.ptr 1 0) (t5:T 5=.ptr 3 0):Yl (.yld 6) 7 2 4 s (P35 lo s) (R35 lr) where
 low:=by
  rintro acc O O' h1 h2 h3 ⟨h7,p0,p1,p2,p4,p5,p6,v,p3,hg⟩
  exact⟨h3,by rw[h1 0 (by omega)];exact p0,by rw[h1 1 (by omega)];exact p1,by rw[h1 2 (by omega)];exact p2,by rw[h1 4 (by omega)];exact p4,by rw[h1 5 (by omega)];exact p5,
   by rw[h1 6 (by omega)];exact p6,v,by rw[h1 3 (by omega)];exact p3,by rw[h2];exact hg⟩
 len:=λacc O h=>h.1
 hp:=λacc O h=>h.2.2.2.1
 hb:=λacc O h=>h.2.2.2.2.1
 ok:=λacc O t ha hP=>juQ s T tmps lo hr hlo t5 acc O.heap O.toks t ha hP
 err:=λacc O i x hx ha hP=>juT s T tmps lo lr hr hlo hlr t2 t3 acc O.heap O.toks i x hx hP
theorem jez {E:Env}{f:FuncId}{args:List V}{O O':S}{v:V}(hp:E.pure f=false)(hk:E.hook f=none)(h:jar E (ev E) f args O=some (v,O'))(hz:E.frz f=false:=by rfl)(hS:E.hookS f=none:=by rfl):ev E (.call f args O)=some ⟨.ret,[v],[],O'⟩:=by
 unfold jar at h
 simp only[hk,hp,hz,hS,Kn,Kr]at h
 split at h
 ·rename_i v0 O0 he
  simp only[Kg,Kh]at h
  obtain⟨rfl,rfl⟩:=h
  exact he
 ·simp at h
theorem juU(p:Nat)(L:List AObj)(ts:List Nat):jar env (ev env) 43 [.ptr p 0] ⟨L,ts⟩=some (.func 84 [] [.ptr L.length 0],⟨L++[.cells [.ptr p 0] 79],ts⟩):=by
 refine jbk rfl rfl at43 rfl (by simp[Tryz.f43]) (by simp[Tryz.f43]) (jaq ?_)
 simp only[Tryz.f43,Ka,simprocAttr,Uq,Ke,Vq,YP,jaX,jke]
def jqr(s:List UInt8):V :=
 if 2000<s.length then .tup [.nilsl,.agg [.int .i64 4,.int .i64 2000]]else
 match (jfk s (s.length+1) (endW s [1] 0) (-1) []).2 with
 |none=>.tup [toksV (jfk s (s.length+1) (endW s [1] 0) (-1) []).1,.agg [.int .i64 0,.int .i64 0]]
 |some (x,i)=>.tup [.nilsl,.agg [.int .i64 x,.int .i64 i]]
theorem jw4(s:List UInt8):jcd env 84 [(0,.str s),(2,.agg (clsL.map (V.int .i64)))]=some (.agg (scnL s)):=by kernel_rfl
theorem ld45 {L:List AObj}{b:Nat}{v:V}(h:L[b]? = some (.cells [v] 43)):jbi env L 43 (.ptr b 0)=some v:=by
 rw[ja0 (by kernel_rfl)];exact jcX h
theorem ld47 {L:List AObj}{b:Nat}{v w:V}(h:L[b]? = some (.cells [v,w] 32)):jbi env L 32 (.ptr b 0)=some (.agg [v,w]):=by
 have g:Go.Ab.aggT env 32=some true:=by kernel_rfl
 have e:sz env 32=some 2:=by kernel_rfl
 have l:jai L 2 (.ptr b 0)=some [v,w]:=by simp[jai,h]
 unfold jbi
 simp only[g,e,l,Kj,Kw]
theorem zv45:jbG env 43=some .nilsl:=by kernel_rfl
theorem zv47:jbG env 32=some (.agg [.int .i64 0,.int .i64 0]):=by kernel_rfl
theorem s47:sz env 32=some 2:=by kernel_rfl
theorem juV:jcd env 32 []=some (.agg [.int .i64 0,.int .i64 0]):=by kernel_rfl
theorem jri(s:List UInt8)(hl:s.length<=4000)(O:S):jar env (ev env) 19 [.str s] O=some (jqr s,O):=by
 refine jau rfl rfl rfl at19 rfl (by simp[Tryz.f19]) (by simp[Tryz.f19]) (jaq ?_) O
 unfold jqr
 by_cases h1:2000<s.length
 ·rw[Kk h1]
  have g1:(2000:Int)<(s.length:Int):=by omega
  simp only[Tryz.f19,Ka,simprocAttr,Uq,Ke,Ur,jab,jas,jaN,zv45,zv47,s45,s47,g1,jpd,YW,YH,jaT]
  refine⟨rfl,?_⟩
  rw[ld45 (v:=.nilsl) rfl,ld47 (v:=.int .i64 4) (w:=.int .i64 2000) rfl]
  simp only[Kj,Kw,Yy]
  rfl
 ·rw[Km h1]
  have g1:¬(2000:Int)<(s.length:Int):=by omega
  simp only[Tryz.f19,Ka,simprocAttr,Uq,Ke,Ur,jab,jas,jaN,zv45,zv47,s45,s47,g1,jpd,YW,YH,jaT,jnG,jw4,juU]
  refine jpK rfl ?_
  intro tmps lo lr hr hlo hlr
  have hY:=yl35 s _ tmps lo lr hr hlo hlr rfl rfl rfl
  clear hr
  obtain⟨v,O2,hc,hE⟩:=jpc hY hl ⟨[.cells [.nilsl] 43,.cells [.int .i64 0,.int .i64 0] 32,.cells (scnL s) 84,.cells [.nilsl] 43,.cells [.ptr 2 0] 79,.defd true,lo],[]⟩
   ⟨by simp,rfl,rfl,rfl,rfl,rfl,rfl,.nilsl,rfl,.nil⟩
  refine⟨_,O2,jez rfl rfl hc,?_⟩
  clear hc hY hlo hlr
  unfold jyx at hE
  generalize jfk s (s.length+1) (endW s [1] 0) (-1) []=r at *
  obtain⟨l,r2⟩:=r
  obtain⟨H,ts⟩:=O2
  cases r2 with
  | none =>
   obtain⟨h7,p0,p1,p2,p4,p5,p6,u,p3,hg⟩:=hE
   simp only at h7 p0 p1 p2 p3 p4 p5 p6 hg
   refine .inl ⟨p6,_,rfl,?_⟩
   generalize AObj.loop .exhausted none 19 tmps _ _ _ _=lx
   have q0:(H.set 6 lx)[0]? = some (.cells [.nilsl] 43):=by rw[Ki (by omega)];exact p0
   have q1:∀c,((H.set 6 lx).set 0 c)[1]? = some (.cells [.int .i64 0,.int .i64 0] 32):=λc=>by rw[Ki (by omega),Ki (by omega)];exact p1
   have q3:jbi env (H.set 6 lx) 43 (.ptr 3 0)=some u:=ld45 (by rw[Ki (by omega)];exact p3)
   have hv1:=hg.cells
   have hv2:=hg.cell
   simp only[Ka,simprocAttr,Uq,Ke,Ur,jab,q0,q1,q3,s45,s47,juV,YW,jaT,hv1,hv2]
   have q5:(((H.set 6 lx).set 0 (AObj.cells [u] 43)).set 1 (AObj.cells [V.int IntKind.i64 0,V.int IntKind.i64 0] 32))[5]? = some (.defd true):=by
    rw[Ki (by omega),Ki (by omega),Ki (by omega)];exact p5
   have z0:∀d,jbi env ((((H.set 6 lx).set 0 (AObj.cells [u] 43)).set 1 (AObj.cells [V.int IntKind.i64 0,V.int IntKind.i64 0] 32)).set 5 d) 43 (.ptr 0 0)=some u:=λd=>ld45 (by
    rw[Ki (by omega),Ki (by omega),Kl (by simp;omega)])
   have z1:∀d,jbi env ((((H.set 6 lx).set 0 (AObj.cells [u] 43)).set 1 (AObj.cells [V.int IntKind.i64 0,V.int IntKind.i64 0] 32)).set 5 d) 32 (.ptr 1 0)=some (.agg [.int .i64 0,.int .i64 0]):=λd=>ld47 (by
    rw[Ki (by omega),Kl (by simp;omega)])
   simp only[Ka,simprocAttr,Uq,Ke,Vq,wpR,jbK,q5,z0,z1]
   simp only[jaX,jax,ja8,jcD,jaA,jaF,jaW,jyy hg,Kj,Kw]
  |some xi =>
   obtain⟨x,i⟩:=xi
   obtain⟨h7,p0,p1,p5,p6⟩:=hE
   simp only at h7 p0 p1 p5 p6
   refine .inr ⟨p6,_,rfl,?_⟩
   generalize AObj.loop .exhausted _ 19 tmps _ _ _ _=lx
   have q0:jbi env (H.set 6 lx) 43 (.ptr 0 0)=some .nilsl:=ld45 (by rw[Ki (by omega)];exact p0)
   have q1:jbi env (H.set 6 lx) 32 (.ptr 1 0)=some (.agg [.int .i64 x,.int .i64 i]):=ld47 (by rw[Ki (by omega)];exact p1)
   have q5:(H.set 6 lx)[5]? = some (.defd true):=by rw[Ki (by omega)];exact p5
   have z0:∀d,jbi env ((H.set 6 lx).set 5 d) 43 (.ptr 0 0)=some .nilsl:=λd=>ld45 (by rw[Ki (by omega),Ki (by omega)];exact p0)
   have z1:∀d,jbi env ((H.set 6 lx).set 5 d) 32 (.ptr 1 0)=some (.agg [.int .i64 x,.int .i64 i]):=λd=>ld47 (by rw[Ki (by omega),Ki (by omega)];exact p1)
   simp only[Ka,simprocAttr,Uq,Ke,Vq,wpR,jbK,q5,z0,z1]
   rfl
theorem jhh:∀w∈jbS,1<=w.length/\w.length<=2:=by
 have h:(jbS.all λw=>Nat.ble 1 w.length && Nat.ble w.length 2)=true:=by kernel_rfl
 intro w hw
 have:=K1.1 h w hw
 simp only[K6,Nat.ble_eq]at this
 exact this
theorem cls5(c:Nat):clsN c=5↔c=39:=by
 unfold clsN
 by_cases h1:97<=c/\c<=122
 ·simp[h1];omega
 by_cases h2:48<=c/\c<=57
 ·simp[h1,h2];omega
 by_cases h3:c=32
 ·subst h3;simp
 by_cases h4:c=95
 ·subst h4;simp
 by_cases h5:c=39
 ·subst h5;simp
 simp[h1,h2,h3,h4,h5]
theorem jlz(u:Option TypeDesc)(c:Bool)(op:BinOp)(a b:List V):jbY u c op (.agg a) (.agg b)=none:=by
 cases op<;>cases u<;>first|rfl|(rename_i u;cases u<;>rfl)
theorem jiA(t:TypeId)(c:Bool)(op:BinOp)(a b:List V):binO env t c op (some (.agg a)) (some (.agg b))=jeZ env t op (.agg a) (.agg b):=by
 have:binO env t c op (some (.agg a)) (some (.agg b))=jc8 env t c op (.agg a) (.agg b):=rfl
 rw[this]
 unfold jc8
 rw[jlz]
theorem jqs(s:List UInt8)(i:Nat)(h:s.length<=i):s.getD i 0=0:=by simp[List.getD,Qh h]
theorem jnJ(s:List UInt8)(cs:List Int)(hz:(0:Int) ∉ cs):∀m i,i+m=s.length->clsN (s.getD (runW s cs m i) 0).toNat ∉ cs
 |0,i,h=>by
  simp only[runW]
  rw[jqs s i (by omega)]
  exact hz
 |m+1,i,h=>by
  simp only[runW]
  split
  ·exact jnJ s cs hz m (i+1) (by omega)
  ·assumption
theorem jkm(s:List UInt8)(cs:List Int)(hz:(0:Int) ∉ cs)(i:Nat)(hi:i<=s.length):clsN (s.getD (endW s cs i) 0).toNat ∉ cs :=
 jnJ s cs hz _ i (by omega)
theorem jhi(s:List UInt8)(cs:List Int)(i j:Nat)(h1:i<=j)(h2:j<endW s cs i):clsN (s.getD j 0).toNat∈cs:=jo9 s cs _ i j h1 h2
theorem jd2(s:List UInt8)(cs:List Int)(hz:(0:Int) ∉ cs)(i e:Nat)(h1:i<=e)(h2:e<=s.length)(h3:∀j,i<=j->j<e->clsN (s.getD j 0).toNat∈cs)(h4:clsN (s.getD e 0).toNat ∉ cs):endW s cs i=e:=by
 have a:=jkm s cs hz i (by omega)
 have b:=jhi s cs i
 have c:=jbI s cs i (by omega)
 generalize endW s cs i=x at *
 rcases Vj x e with h|h|h
 ·exact absurd (h3 x c.1 h) a
 ·exact h
 ·exact absurd (b e h1 h) h4
theorem jqt(s s':List UInt8)(i i' n:Nat)(h1:i+n<=s.length)(h2:i'+n<=s'.length)(hs:∀k,k<n->s'.getD (i'+k) 0=s.getD (i+k) 0):subS s' i' (i'+n)=subS s i (i+n):=by
 have l1:=subS_len s i (i+n) h1
 have l2:=subS_len s' i' (i'+n) h2
 refine List.ext_getElem (by omega) λk h3 h4 => ?_
 have g1:=jfG s i (i+n) k h1 (by omega)
 have g2:=jfG s' i' (i'+n) k h2 (by omega)
 rw[Vu,K4 h4,Kv]at g1
 rw[Vu,K4 h3,Kv]at g2
 rw[g1,g2,hs k (by omega)]
theorem jkn(s:List UInt8)(i j:Nat)(hij:i<=j)(hj:j<s.length):subS s i (j+1)=subS s i j++[s.getD j 0]:=by
 unfold subS
 rw[show j+1-i=(j-i)+1 by omega,Vk]
 simp only[Jo]
 rw[show i+(j-i)=j by omega,K4 hj]
 simp[List.getD,hj]
theorem jto(s:List UInt8)(i j:Nat)(hij:i<j)(hj:i<s.length):subS s i j=s.getD i 0::subS s (i+1) j:=by
 unfold subS
 rw[Qs hj,show j-i=(j-(i+1))+1 by omega,Jb]
 simp[List.getD,hj]
theorem jqu(s:List UInt8)(i:Nat)(h:(sgW s i 2).2=true):(sgW s i 2).1∈jbS/\i+(sgW s i 2).1.length<=s.length/\subS s i (i+(sgW s i 2).1.length)=(sgW s i 2).1 /\
  ((sgW s i 2).1.length=1->¬(i+2<=s.length/\subS s i (i+2)∈jbS)):=by
 simp only[sgW,K7,Nat.reduceAdd]at h ⊢
 by_cases h2:i+2<=s.length/\subS s i (i+2)∈jbS
 ·have hl:=subS_len s i (i+2) h2.1
  have hl2:(subS s i (i+2)).length=2:=by omega
  simp only[Kk h2,hl2]
  exact⟨h2.2,h2.1,trivial,λh=>by omega⟩
 ·rw[Km h2]at h
  by_cases h1:i+1<=s.length/\subS s i (i+1)∈jbS
  ·have hl:=subS_len s i (i+1) h1.1
   have hl1:(subS s i (i+1)).length=1:=by omega
   simp only[Km h2,Kk h1,hl1]
   exact⟨h1.2,h1.1,trivial,λ_=>h2⟩
  ·rw[Km h1]at h
   simp at h
theorem jyz(s:List UInt8)(i:Nat)(x:List UInt8)(h1:x∈jbS)(h2:i+x.length<=s.length)(h3:subS s i (i+x.length)=x)(h4:x.length=1->¬(i+2<=s.length/\subS s i (i+2)∈jbS)):sgW s i 2=(x,true):=by
 have hs:=jhh x h1
 simp only[sgW,K7,Nat.reduceAdd]
 rcases K9 x.length 2 with h|h
 ·have hl:x.length=1:=by omega
  rw[Km (h4 hl)]
  rw[hl]at h2 h3
  rw[Kk ⟨h2,by rw[h3];exact h1⟩,h3]
 ·have hl:x.length=2:=by omega
  rw[hl]at h2 h3
  rw[Kk ⟨h2,by rw[h3];exact h1⟩,h3]
def Stop(t:Tok)(c:UInt8):Prop:=((t.kind=1\/t.kind=2)->clsN c.toNat ∉ ([2,3,4]:List Int))/\(t.kind=3->clsN c.toNat ∉ ([3]:List Int))/\(t.kind=5->t.text++[c] ∉ jbS)
theorem of5 {c:UInt8}(h:clsN c.toNat=5):c=39:=by
 have:=(cls5 _).1 h
 exact UInt8.toNat_inj.1 (by rw[this];rfl)
theorem jgj(s:List UInt8)(i:Nat)(hi:i<s.length)(h0:(jcz s i).2.2=0):∃(t:Tok) (e:Nat),jcz s i=(t,e,0)/\i<e/\e<=s.length/\t.pos=i/\subS s i e=jdE t/\Stop t (s.getD e 0)/\t.kind ≠ 0/\t.text ≠ []/\(t.kind=5->t.text∈jbS)/\clsN (s.getD i 0).toNat ≠ 1:=by
 have hle:=jkl s i hi
 have hlt:=hle.2.2 h0
 refine⟨(jcz s i).1,(jcz s i).2.1,by rw[<- h0],hlt,hle.2.1,?_⟩
 have b1:=jkm s [2,3,4] (by decide) i (by omega)
 have b2:=jkm s [3] (by decide) i (by omega)
 unfold jcz at h0 hlt hle ⊢
 by_cases k2:clsN (s.getD i 0).toNat=2
 ·simp only[Kk k2]at h0 hlt hle ⊢
  have hl:=subS_len s i (endW s [2,3,4] i) hle.2.1
  have hk:(if subS s i (endW s [2,3,4] i)∈N.wordsW then(2:Int)else 1)=1\/(if subS s i (endW s [2,3,4] i)∈N.wordsW then(2:Int)else 1)=2:=by split<;>simp
  generalize (if subS s i (endW s [2,3,4] i)∈N.wordsW then(2:Int)else 1)=k at *
  refine⟨trivial,?_,⟨λ_=>b1,λh => ?_,λh => ?_⟩,?_,?_,λh => ?_,by rw[k2];decide⟩
  ·simp only[jdE];rw[Km (by rcases hk with rfl|rfl<;>decide)]
  ·rcases hk with rfl|rfl<;>simp at h
  ·rcases hk with rfl|rfl<;>simp at h
  ·rcases hk with rfl|rfl<;>decide
  ·intro h;rw[h]at hl;simp at hl;omega
  ·rcases hk with rfl|rfl<;>simp at h
 simp only[Km k2]at h0 hlt hle ⊢
 by_cases k3:clsN (s.getD i 0).toNat=3
 ·simp only[Kk k3]at h0 hlt hle ⊢
  by_cases h1:1<(subS s i (endW s [3] i)).length/\((subS s i (endW s [3] i)).getD 0 0).toNat=48
  ·simp only[Kk h1]at h0;simp at h0
  simp only[Km h1]at h0 hlt hle ⊢
  by_cases h2:1000000000<decV 0 (subS s i (endW s [3] i))
  ·simp only[Kk h2]at h0;simp at h0
  simp only[Km h2]at h0 hlt hle ⊢
  have hl:=subS_len s i (endW s [3] i) hle.2.1
  refine⟨trivial,?_,⟨λh => ?_,λ_=>b2,λh => ?_⟩,by decide,?_,λh => ?_,by rw[k3];decide⟩
  ·simp[jdE]
  ·simp at h
  ·simp at h
  ·intro h;rw[h]at hl;simp at hl;omega
  ·simp at h
 simp only[Km k3]at h0 hlt hle ⊢
 by_cases k5:clsN (s.getD i 0).toNat=5
 ·simp only[Kk k5]at h0 hlt hle ⊢
  by_cases h1:endW s [2,3,4] (i+1)<s.length/\(s.getD (endW s [2,3,4] (i+1)) 0).toNat=39/\N.IsName (subS s (i+1) (endW s [2,3,4] (i+1)))
  ·simp only[Kk h1]at h0 hlt hle ⊢
   have hge:=jbI s [2,3,4] (i+1) (by omega)
   refine⟨trivial,?_,⟨λh => ?_,λh => ?_,λh => ?_⟩,by decide,?_,λh => ?_,by rw[k5];decide⟩
   ·rw[jkn s i _ (by omega) h1.1,jto s i _ (by omega) hi,of5 k5,of5 ((cls5 _).2 h1.2.1)]
    simp[jdE]
   ·simp at h
   ·simp at h
   ·simp at h
   ·intro h
    have h3:=h1.2.2.1
    rw[h]at h3
    simp at h3
   ·simp at h
  ·simp only[Km h1]at h0;simp at h0
 simp only[Km k5]at h0 hlt hle ⊢
 by_cases hb:(sgW s i 2).2=true
 ·obtain⟨g1,g2,g3,g4⟩:=jqu s i hb
  simp only[Kk hb]at h0 hlt hle ⊢
  have hsh:=jhh _ g1
  refine⟨trivial,?_,⟨λh => ?_,λh => ?_,λ_ h => ?_⟩,by decide,λh => ?_,λ_=>g1,?_⟩
  ·rw[g3];simp[jdE]
  ·simp at h
  ·simp at h
  ·have h5:=(jhh _ h).2
   rw[Ks]at h5
   simp only[K2,K5]at h5
   have h6:(sgW s i 2).1.length=1:=by omega
   rw[h6]at g3 h
   rcases K9 (i+1) s.length with h7|h7
   ·refine g4 h6 ⟨h7,?_⟩
    rw[jkn s i (i+1) (by omega) h7,g3];exact h
   ·rw[jqs s (i+1) h7]at h
    have hz:(jbS.all λw=>w.getLast? != some 0)=true:=by kernel_rfl
    have:=K1.1 hz _ h
    simp at this
  ·rw[h]at hsh;simp at hsh
  ·have hz:(jbS.all λw=>clsN (w.getD 0 0).toNat==0)=true:=by kernel_rfl
   have hz:=K1.1 hz _ g1
   have hg:=jfG s i _ 0 g2 (by omega)
   rw[g3,Jg]at hg
   rw[hg]at hz
   simp only[beq_iff_eq]at hz
   rw[hz];decide
 ·simp only[Km hb]at h0;simp at h0
theorem jh2(s s':List UInt8)(i i' n:Nat)(t:Tok)(hi:i<s.length)(hn:jcz s i=(t,i+n,0))(hb:i'+n<=s'.length)(hs:∀k,k<n->s'.getD (i'+k) 0=s.getD (i+k) 0)(hst:Stop t (s'.getD (i'+n) 0)) :
  jcz s' i'=(⟨t.kind,t.text,t.n,(i':Nat)⟩,i'+n,0):=by
 have hle:=jkl s i hi
 have h0:(jcz s i).2.2=0:=by rw[hn]
 have he:(jcz s i).2.1=i+n:=by rw[hn]
 have ht:(jcz s i).1=t:=by rw[hn]
 have hlt:=hle.2.2 h0
 have hle2:=hle.2.1
 rw[he]at hlt hle2
 clear hle hn
 have hi':i'<s'.length:=by omega
 have hb0:s'.getD i' 0=s.getD i 0:=by have:=hs 0 (by omega);simpa using this
 have hsub:=jqt s s' i i' n hle2 hb hs
 unfold jcz at h0 he ht ⊢
 rw[hb0]
 by_cases k2:clsN (s.getD i 0).toNat=2
 ·simp only[Kk k2]at h0 he ht ⊢
  have hin:=jhi s [2,3,4] i
  rw[he]at h0 ht hin
  have hE:endW s' [2,3,4] i'=i'+n:=jd2 s' _ (by decide) i' (i'+n) (by omega) hb (λj h1 h2=>by
   have:=hs (j-i') (by omega)
   rw[show i'+(j-i')=j by omega]at this
   rw[this];exact hin _ (by omega) (by omega)) (by
   refine hst.1 ?_
   rw[<- ht];simp only;split<;>simp)
  rw[hE,hsub,show i'+n-i'=i+n-i by omega,<- ht]
  simp only[h0]
 simp only[Km k2]at h0 he ht ⊢
 by_cases k3:clsN (s.getD i 0).toNat=3
 ·simp only[Kk k3]at h0 he ht ⊢
  have hin:=jhi s [3] i
  by_cases h1:1<(subS s i (endW s [3] i)).length/\((subS s i (endW s [3] i)).getD 0 0).toNat=48
  ·simp only[Kk h1]at h0;simp at h0
  simp only[Km h1]at h0 he ht
  by_cases h2:1000000000<decV 0 (subS s i (endW s [3] i))
  ·simp only[Kk h2]at h0;simp at h0
  simp only[Km h2]at h0 he ht
  rw[he]at h1 h2 ht hin
  have hE:endW s' [3] i'=i'+n:=jd2 s' _ (by decide) i' (i'+n) (by omega) hb (λj h1 h2=>by
   have:=hs (j-i') (by omega)
   rw[show i'+(j-i')=j by omega]at this
   rw[this];exact hin _ (by omega) (by omega)) (hst.2.1 (by rw[<- ht]))
  rw[hE,hsub,Km h1,Km h2,<- ht]
 simp only[Km k3]at h0 he ht ⊢
 by_cases k5:clsN (s.getD i 0).toNat=5
 ·simp only[Kk k5]at h0 he ht ⊢
  by_cases h1:endW s [2,3,4] (i+1)<s.length/\(s.getD (endW s [2,3,4] (i+1)) 0).toNat=39/\N.IsName (subS s (i+1) (endW s [2,3,4] (i+1)))
  ·simp only[Kk h1]at h0 he ht
   have hge:=jbI s [2,3,4] (i+1) (by omega)
   have hin:=jhi s [2,3,4] (i+1)
   have he2:endW s [2,3,4] (i+1)=i+(n-1):=by omega
   rw[he2]at h1 ht hin hge
   have hlast:=hs (n-1) (by omega)
   have hE:endW s' [2,3,4] (i'+1)=i'+(n-1):=jd2 s' _ (by decide) (i'+1) (i'+(n-1)) (by omega) (by omega) (λj h1 h2=>by
    have:=hs (j-i') (by omega)
    rw[show i'+(j-i')=j by omega]at this
    rw[this];exact hin _ (by omega) (by omega)) (by
    rw[hlast,of5 ((cls5 _).2 h1.2.1)];decide)
   have hsub2:=jqt s s' (i+1) (i'+1) (n-2) (by omega) (by omega) (λk hk=>by
    have:=hs (k+1) (by omega)
    rw[show i'+1+k=i'+(k+1) by omega,show i+1+k=i+(k+1) by omega];exact this)
   rw[show i+1+(n-2)=i+(n-1) by omega,show i'+1+(n-2)=i'+(n-1) by omega]at hsub2
   rw[hE,hsub2,hlast,Kk ⟨by omega,h1.2⟩,<- ht]
   simp only[Kh,and_true,true_and]
   omega
  ·simp only[Km h1]at h0;simp at h0
 simp only[Km k5]at h0 he ht ⊢
 by_cases hbb:(sgW s i 2).2=true
 ·obtain⟨g1,g2,g3,g4⟩:=jqu s i hbb
  simp only[Kk hbb]at h0 he ht ⊢
  have hn2:(sgW s i 2).1.length=n:=by omega
  rw[hn2]at g3
  have hmk:sgW s' i' 2=((sgW s i 2).1,true):=by
   refine jyz s' i' _ g1 (by omega) (by rw[hn2,hsub,g3]) λh1 h2 => ?_
   have hn1:n=1:=by omega
   subst hn1
   have h3:=hst.2.2 (by rw[<- ht])
   rw[jkn s' i' (i'+1) (by omega) (by omega),hsub,g3]at h2
   refine h3 ?_
   rw[<- ht];exact h2.2
  rw[hmk]
  simp only[Ku,hn2,<- ht]
 ·simp only[Km hbb]at h0;simp at h0
inductive Sc (s:List UInt8):Nat->Int->List Tok->Prop
 |fin (e:Nat) (last:Int):¬endW s [1] e<s.length->Sc s e last []
 |tok (e:Nat) (last:Int) (i e2:Nat) (t:Tok) (l:List Tok):endW s [1] e=i->i<s.length->jcz s i=(t,e2,0)->¬(t.kind ≠ 5/\last=i)->Sc s e2 (if t.kind ≠ 5 then(e2:Int)else -1) l->Sc s e last (t::l)
theorem jtp(s:List UInt8):∀m e last acc r,e<=s.length->s.length<m+endW s [1] e->jfk s m (endW s [1] e) last acc=(r,none)->∃l,r=acc++l/\Sc s e last l
 |0,e,last,acc,r,he,hm,h=>by have:=jbI s [1] e he;omega
 | m+1,e,last,acc,r,he,hm,h=>by
  have hE:=jbI s [1] e he
  simp only[jfk]at h
  by_cases h1:endW s [1] e<s.length
  ·rw[Kk h1]at h
   by_cases h2:(jcz s (endW s [1] e)).2.2=0
   ·rw[Kk h2]at h
    obtain⟨t,e2,hn,a1,a2,_⟩:=jgj s _ h1 h2
    rw[hn]at h
    simp only at h
    by_cases h3:t.kind ≠ 5/\last=(endW s [1] e:Nat)
    ·rw[Kk h3]at h;simp at h
    ·rw[Km h3]at h
     have b:=jbI s [1] e2 a2
     obtain⟨l,rfl,hS⟩:=jtp s m e2 _ _ r a2 (by omega) h
     exact⟨t::l,by simp,.tok e last _ e2 t l rfl h1 hn h3 hS⟩
   ·rw[Km h2]at h;simp at h
  ·rw[Km h1]at h
   simp only[Kh,and_true]at h
   exact⟨[],by simp[h],.fin e last h1⟩
theorem jw5 {s:List UInt8}{e:Nat}{last:Int}{l:List Tok}(h:Sc s e last l):e<=s.length->∀m acc,s.length<m+endW s [1] e->jfk s m (endW s [1] e) last acc=(acc++l,none):=by
 induction h with
 |fin e last h =>
  intro he m acc hm
  have:=jbI s [1] e he
  cases m with
  |zero=>omega
  |succ m=>simp only[jfk];rw[Km h];simp
 | tok e last i e2 t l h1 h2 h3 h4 _ ih =>
  intro he m acc hm
  obtain⟨t',e',hn,a1,a2,_⟩:=jgj s i h2 (by rw[h3])
  rw[h3]at hn
  simp only[Kh,and_true]at hn
  obtain⟨rfl,rfl⟩:=hn
  have b:=jbI s [1] e2 a2
  cases m with
  |zero=>omega
  |succ m =>
   simp only[jfk]
   rw[h1,Kk h2,h3]
   simp only[Ku]
   rw[Km h4,ih a2 m _ (by omega)]
   simp
def sumP:List Tok->Nat
 | []=>0
 |t::l=>(jdE t).length+sumP l
theorem jyA {s:List UInt8}{e:Nat}{last:Int}{l:List Tok}(h:Sc s e last l):e<=s.length->sumP l+e<=s.length/\l.length<=sumP l:=by
 induction h with
 |fin e last h=>intro he;simp[sumP];exact he
 |tok e last i e2 t l h1 h2 h3 h4 _ ih =>
  intro he
  have hE:=jbI s [1] e he
  obtain⟨t',e',hn,a1,a2,_,a4,_⟩:=jgj s i h2 (by rw[h3])
  rw[h3]at hn
  simp only[Kh,and_true]at hn
  obtain⟨rfl,rfl⟩:=hn
  have hl:=subS_len s i e2 a2
  rw[a4]at hl
  have:=ih a2
  simp only[sumP,K2]
  omega
def OkT(t:Tok):Prop:=∃s i e,i<s.length/\jcz s i=(t,e,0)
theorem sc_ok {s:List UInt8}{e:Nat}{last:Int}{l:List Tok}(h:Sc s e last l):∀t∈l,OkT t:=by
 induction h with
 |fin e last h=>intro t ht;simp at ht
 |tok e last i e2 t l h1 h2 h3 h4 _ ih =>
  intro x hx
  rcases Qy.1 hx with rfl|hx
  ·exact⟨s,i,e2,h2,h3⟩
  ·exact ih x hx
theorem jjk {t:Tok}(h:OkT t):∃s i n,i<s.length/\jcz s i=(t,i+n,0)/\0<n/\i+n<=s.length/\(jdE t).length=n/\(∀k,k<n->s.getD (i+k) 0=(jdE t).getD k 0)/\t.kind ≠ 0/\t.text ≠ []/\(t.kind=5->t.text∈jbS)/\clsN ((jdE t).getD 0 0).toNat ≠ 1:=by
 obtain⟨s,i,e,hi,hn⟩:=h
 obtain⟨t',e',hn',a1,a2,a3,a4,a5,a6,a7,a8,a9⟩:=jgj s i hi (by rw[hn])
 rw[hn]at hn'
 simp only[Kh,and_true]at hn'
 obtain⟨rfl,rfl⟩:=hn'
 have hl:=subS_len s i e a2
 have hg:=λk hk=>jfG s i e k a2 hk
 rw[a4]at hl hg
 refine⟨s,i,e-i,hi,by rw[hn,show i+(e-i)=e by omega],by omega,by omega,hl,λk hk=>(hg k hk).symm,a6,a7,a8,?_⟩
 rw[hg 0 (by omega)];exact a9
theorem jfl {t:Tok}(h:OkT t)(c:UInt8)(hc:c=32\/c=0):Stop t c:=by
 obtain⟨s,i,n,_,_,_,_,_,_,_,_,h5,_⟩:=jjk h
 refine⟨λ_ => ?_,λ_ => ?_,λhk hm => ?_⟩
 ·rcases hc with rfl|rfl<;>decide
 ·rcases hc with rfl|rfl<;>decide
 ·have hz:(jbS.all λw=>w.getLast? != some 0 && w.getLast? != some 32)=true:=by kernel_rfl
  have hz:=K1.1 hz _ hm
  rcases hc with rfl|rfl<;>simp at hz
def core(t:Tok):Tok:=⟨t.kind,t.text,t.n,0⟩
def sepT(l:List Tok)(k:Nat):List UInt8:=if 0<k/\¬jmg (l.getD (k-1) Tok.none) (l.getD k Tok.none)then [32]else []
theorem jgH(l:List Tok)(k:Nat):joinT l (k+1)=joinT l k++sepT l k++jdE (l.getD k Tok.none):=rfl
theorem jmi(l:List Tok)(k:Nat):∀d,∃r,joinT l (k+d)=joinT l k++r
 |0=>⟨[],by simp⟩
 |d+1=>by
  obtain⟨r,h⟩:=jmi l k d
  exact⟨r++(sepT l (k+d)++jdE (l.getD (k+d) Tok.none)),by rw[<- Xv,jgH,h];simp only[Q5]⟩
theorem jcG(a b:List UInt8)(j:Nat):(a++b).getD (a.length+j) 0=b.getD j 0:=by
 simp[List.getD,Qx]
theorem jel(a b:List UInt8)(j:Nat)(h:j<a.length):(a++b).getD j 0=a.getD j 0:=by
 simp[List.getD,K0 h]
theorem juW(s:List UInt8)(cs:List Int):endW s cs s.length=s.length:=by simp[endW,runW]
theorem jtq(t:Tok)(h:Lft t)(c:UInt8):Stop t c:=by
 obtain⟨h1,h2⟩:=h
 refine⟨λh=>by omega,λh=>by omega,λ_ hm => ?_⟩
 have hz:(L1.all λw=>jbS.all λv => !(v.length==w.length+1 && v.take w.length==w))=true:=by kernel_rfl
 have hz:=K1.1 (K1.1 hz _ h2) _ hm
 simp at hz
theorem jrj(t t2:Tok)(ht:OkT t)(h:Rgt t2):Stop t ((jdE t2).getD 0 0):=by
 obtain⟨h1,h2⟩:=h
 have hp:jdE t2=t2.text:=by simp[jdE,h1]
 rw[hp]
 have hz:(L2.all λw=>clsN (w.getD 0 0).toNat==0)=true:=by kernel_rfl
 have hz:=K1.1 hz _ h2
 simp only[beq_iff_eq]at hz
 refine⟨λ_=>by rw[hz];decide,λ_=>by rw[hz];decide,λhk hm => ?_⟩
 obtain⟨_,_,_,_,_,_,_,_,_,_,_,h5,_⟩:=jjk ht
 have hs:=h5 hk
 have hy:(L2.all λw=>jbS.all λv=>jbS.all λx => !(v.length==x.length+1 && v.take x.length==x && v.getLast? ==some (w.getD 0 0)))=true:=by kernel_rfl
 have hy:=K1.1 (K1.1 (K1.1 hy _ h2) _ hm) _ hs
 simp at hy
theorem again(l:List Tok)(hok:∀t∈l,OkT t):∀d k,k+d=l.length ->
  ∃l',Sc (joinT l l.length) (joinT l k).length (if 0<k/\(l.getD (k-1) Tok.none).kind ≠ 5 then((joinT l k).length:Int)else -1) l'/\l'.map core=(l.drop k).map core
 |0,k,hk=>by
  have:k=l.length:=by omega
  subst this
  exact⟨[],.fin _ _ (by rw[juW];omega),by simp⟩
 | d+1,k,hk=>by
  have hlt:k<l.length:=by omega
  obtain⟨l',hS,hC⟩:=again l hok d (k+1) (by omega)
  have hd:l.drop k=l.getD k Tok.none::l.drop (k+1):=by
   rw[Qs hlt];simp[List.getD,hlt]
  have hmem:l.getD k Tok.none∈l:=by simp[List.getD,hlt]
  have hOk:=hok _ hmem
  obtain⟨s,i,n,hi,hn,hn0,hin,hlen,hby,hk0,htx,hsg,hcl⟩:=jjk hOk
  obtain⟨r,hr⟩:=jmi l (k+1) d
  rw[show k+1+d=l.length by omega]at hr
  have hsucc:=jgH l k
  rw[hd,Ja]
  rw[show k+1-1=k by omega]at hS
  have hst:Stop (l.getD k Tok.none) ((joinT l l.length).getD ((joinT l (k+1)).length) 0):=by
   rcases J8 d with h0|h0
   ·subst h0
    rw[show l.length=k+1 by omega,jqs _ _ (Kx _)]
    exact jfl hOk _ (.inr rfl)
   ·obtain⟨r2,hr2⟩:=jmi l (k+1+1) (d-1)
    rw[show k+1+1+(d-1)=l.length by omega,jgH,Q5,Q5]at hr2
    have:=jcG (joinT l (k+1)) (sepT l (k+1)++(jdE (l.getD (k+1) Tok.none)++r2)) 0
    rw[<- hr2,Jg]at this
    rw[this]
    have hmem2:l.getD (k+1) Tok.none∈l:=by simp[List.getD,show k+1<l.length by omega]
    obtain⟨_,_,n2,_,_,hn2,_,hlen2,_⟩:=jjk (hok _ hmem2)
    unfold sepT
    rw[show k+1-1=k by omega]
    by_cases hT:jmg (l.getD k Tok.none) (l.getD (k+1) Tok.none)
    ·rw[Km (λh=>h.2 hT),Jv,jel _ _ _ (by omega)]
     rcases hT with hT|hT
     ·exact jtq _ hT _
     ·exact jrj _ _ hOk hT
    ·rw[Kk ⟨by omega,hT⟩]
     exact jfl hOk _ (.inl rfl)
  generalize ht:l.getD k Tok.none=t at *
  have hu:joinT l l.length=(joinT l k++sepT l k)++(jdE t++r):=by rw[hr,hsucc];simp only[Q5]
  have hl1:(joinT l (k+1)).length=(joinT l k++sepT l k).length+n:=by rw[hsucc,Ks,hlen]
  have hle:(joinT l k++sepT l k).length+n<=(joinT l l.length).length:=by rw[hu];simp only[Ks];omega
  have hb:∀j,j<n->(joinT l l.length).getD ((joinT l k++sepT l k).length+j) 0=s.getD (i+j) 0:=λj hj=>by
   rw[hu,jcG,jel _ _ _ (by omega),hby j hj]
  have hsep:(sepT l k=[]\/sepT l k=[32]):=by unfold sepT;split<;>simp
  have hE:endW (joinT l l.length) [1] (joinT l k).length=(joinT l k++sepT l k).length:=by
   refine jd2 _ _ (by decide) _ _ (by simp) (by omega) (λj h1 h2 => ?_) ?_
   ·rcases hsep with h|h
    ·rw[h]at h2;simp at h2;omega
    ·rw[h,Ks]at h2
     have:j=(joinT l k).length+0:=by simp at h2;omega
     rw[this,hu,h,Q5,jcG]
     change clsN (32:UInt8).toNat∈([1]:List Int);decide
   ·have:=hb 0 hn0
    rw[Jg]at this
    rw[this,Jg,<- Jg i,hby 0 hn0]
    simpa using hcl
  rw[hl1]at hst hS
  have hnx:=jh2 s (joinT l l.length) i (joinT l k++sepT l k).length n t hi hn hle hb hst
  refine⟨⟨t.kind,t.text,t.n,((joinT l k++sepT l k).length:Nat)⟩::l',.tok _ _ _ _ _ _ hE (by omega) hnx ?_ ?_,?_⟩
  ·rintro⟨h1,h2⟩
   simp only at h1
   by_cases h3:0<k/\(l.getD (k-1) Tok.none).kind ≠ 5
   ·rw[Kk h3]at h2
    have hnt:¬jmg (l.getD (k-1) Tok.none) (l.getD k Tok.none):=by
     rw[ht]
     rintro(h|h)
     ·exact h3.2 h.1
     ·exact h1 h.1
    have hs1:sepT l k=[32]:=by unfold sepT;rw[Kk ⟨h3.1,hnt⟩]
    rw[hs1,Ks]at h2
    simp at h2
    omega
   ·rw[Km h3]at h2;omega
  ·simpa using hS
  ·simp only[Ja,hC,core]
theorem jrk(l:List Tok):(joinT l l.length).length<=sumP l+l.length:=by
 have:∀d k,k+d=l.length->(joinT l l.length).length<=(joinT l k).length+sumP (l.drop k)+d:=by
  intro d
  induction d with
  |zero=>intro k hk;rw[show k=l.length by omega];simp
  | succ d ih =>
   intro k hk
   have hlt:k<l.length:=by omega
   have:=ih (k+1) (by omega)
   have hd:l.drop k=l.getD k Tok.none::l.drop (k+1):=by
    rw[Qs hlt];simp[List.getD,hlt]
   have hsep:(sepT l k).length<=1:=by unfold sepT;split<;>simp
   rw[jgH,Ks,Ks]at this
   rw[hd,sumP]
   omega
 have:=this l.length 0 (by omega)
 simpa[joinT]using this
theorem jyB {s:List UInt8}{e:Nat}{last:Int}{l:List Tok}(h:Sc s e last l):e<=s.length->∀t∈l,(e:Int)<=t.pos/\t.pos<s.length:=by
 induction h with
 |fin e last h=>intro _ t ht;simp at ht
 |tok e last i e2 t l h1 h2 h3 h4 _ ih =>
  intro he x hx
  have hE:=jbI s [1] e he
  obtain⟨t',e',hn,a1,a2,a3,_⟩:=jgj s i h2 (by rw[h3])
  rw[h3]at hn
  simp only[Kh,and_true]at hn
  obtain⟨rfl,rfl⟩:=hn
  rcases Qy.1 hx with rfl|hx
  ·omega
  ·have:=ih a2 x hx;omega
theorem jyC:clsN (32:UInt8).toNat∈([1]:List Int):=by decide
set_option maxRecDepth 1000000
def jbX(cs:List Int):List UInt8->Nat
 | []=>0
 |c::r=>if clsN c.toNat∈cs then jbX cs r+1 else 0
theorem jnK(s:List UInt8)(cs:List Int):∀m i,i+m=s.length->runW s cs m i=i+jbX cs (s.drop i)
 |0,i,h=>by
  have:s.drop i=[]:=Vg (by omega)
  simp[runW,this,jbX]
 |m+1,i,h=>by
  have hd:s.drop i=s[i]::s.drop (i+1):=Qs (by omega)
  have hg:s.getD i 0=s[i]:=by simp[List.getD,show i<s.length by omega]
  simp only[runW,hd,jbX,hg]
  by_cases hc:clsN s[i].toNat∈cs
  ·rw[Kk hc,Kk hc,jnK s cs m (i+1) (by omega)];omega
  ·rw[Km hc,Km hc];omega
theorem jh3(s:List UInt8)(cs:List Int)(i:Nat):endW s cs i=i+jbX cs (s.drop i):=by
 unfold endW
 rcases K9 s.length i with h|h
 ·have:s.drop i=[]:=Vg (by omega)
  rw[show s.length-i=0 by omega,this];rfl
 ·exact jnK s cs _ i (by omega)
theorem jnL(s:List UInt8)(i k:Nat):s.getD (i+k) 0=(s.drop i).getD k 0:=by
 simp[List.getD,Jo]
theorem jnM(s:List UInt8)(i n:Nat):subS s i (i+n)=(s.drop i).take n:=by
 unfold subS
 rw[Nat.add_sub_cancel_left]
def jfV(d:List UInt8):Tok × Nat × Int :=
 if clsN (d.getD 0 0).toNat=2 then
  (⟨if d.take (jbX [2,3,4] d)∈N.wordsW then 2 else 1,d.take (jbX [2,3,4] d),0,0⟩,jbX [2,3,4] d,if 20<jbX [2,3,4] d then 19 else 0)
 else if clsN (d.getD 0 0).toNat=3 then
  if 1<(d.take (jbX [3] d)).length/\((d.take (jbX [3] d)).getD 0 0).toNat=48 then(.zero,jbX [3] d,11)
  else if 1000000000<decV 0 (d.take (jbX [3] d))then(.zero,jbX [3] d,2)
  else(⟨3,d.take (jbX [3] d),decV 0 (d.take (jbX [3] d)),0⟩,jbX [3] d,0)
 else if clsN (d.getD 0 0).toNat=5 then
  if 1+jbX [2,3,4] (d.drop 1)<d.length/\(d.getD (1+jbX [2,3,4] (d.drop 1)) 0).toNat=39/\N.IsName ((d.drop 1).take (jbX [2,3,4] (d.drop 1)))then(⟨4,(d.drop 1).take (jbX [2,3,4] (d.drop 1)),0,0⟩,1+jbX [2,3,4] (d.drop 1)+1,0)
  else(.zero,1+jbX [2,3,4] (d.drop 1),11)
 else if 2<=d.length/\d.take 2∈jbS then(⟨5,d.take 2,0,0⟩,(d.take 2).length,0)
 else if 1<=d.length/\d.take 1∈jbS then(⟨5,d.take 1,0,0⟩,(d.take 1).length,0)
 else(.zero,0,11)
def Tok.at(t:Tok)(i:Int):Tok:=⟨t.kind,t.text,t.n,i⟩
theorem juX(s:List UInt8)(i:Nat)(hi:i<=s.length):(jcz s i).2.1=i+(jfV (s.drop i)).2.1/\(jcz s i).2.2=(jfV (s.drop i)).2.2/\((jfV (s.drop i)).2.2=0->(jcz s i).1=(jfV (s.drop i)).1.at i):=by
 have g0:s.getD i 0=(s.drop i).getD 0 0:=jnL s i 0
 have hd1:s.drop (i+1)=(s.drop i).drop 1:=by rw[Xd]
 have e1:∀cs,endW s cs (i+1)=i+(1+jbX cs ((s.drop i).drop 1)):=λcs=>by rw[jh3,hd1];omega
 have e2:∀cs,subS s (i+1) (i+(1+jbX cs ((s.drop i).drop 1)))=((s.drop i).drop 1).take (jbX cs ((s.drop i).drop 1)):=λcs=>by
  rw[<- hd1,<- jnM];congr 1;omega
 have hl:(s.drop i).length=s.length-i:=Qn
 have q2:∀n,(i+n<=s.length)=(n<=(s.drop i).length):=λn=>by rw[hl];exact propext (by omega)
 have q3:∀n,(i+n<s.length)=(n<(s.drop i).length):=λn=>by rw[hl];exact propext (by omega)
 unfold jcz jfV
 simp only[jh3 s _ i,e1,e2,jnM,g0,Nat.add_sub_cancel_left,sgW,q2,q3,jnL s i,K7,Nat.reduceAdd]
 generalize s.drop i=d at *
 split
 ·exact⟨rfl,rfl,λ_=>rfl⟩
 ·split
  ·split
   ·exact⟨rfl,rfl,λh=>by simp at h⟩
   ·split
    ·exact⟨rfl,rfl,λh=>by simp at h⟩
    ·exact⟨rfl,rfl,λ_=>rfl⟩
  ·split
   ·split
    ·exact⟨by simp only;omega,rfl,λ_=>rfl⟩
    ·exact⟨rfl,rfl,λh=>by simp at h⟩
   ·by_cases h2:2<=d.length/\d.take 2∈jbS
    ·simp only[Kk h2,Ku]
     exact⟨trivial,trivial,λ_=>rfl⟩
    ·simp only[Km h2]
     by_cases h1:1<=d.length/\d.take 1∈jbS
     ·simp only[Kk h1,Ku]
      exact⟨trivial,trivial,λ_=>rfl⟩
     ·simp only[Km h1,Kn,Kr]
      exact⟨rfl,trivial,λh=>by simp at h⟩
def jgk:Nat->List UInt8->Nat->Int->List Tok × Option (Int × Nat)
 |0,_,_,_=>([],none)
 | m+1,d,i,last =>
  match d with
  | []=>([],none)
  | _::_ =>
   match jfV d with
   | (t,e,x) =>
    if x=0 then
     if t.kind ≠ 5/\last=i then([],some (11,i))
     else match jgk m ((d.drop e).drop (jbX [1] (d.drop e))) (i+e+jbX [1] (d.drop e)) (if t.kind ≠ 5 then((i+e:Nat):Int)else -1)with
      |(l,r)=>(t.at i::l,r)
    else([],some (x,i))
theorem jqv(s:List UInt8):∀(m i:Nat) (last:Int) (acc:List Tok),i<=s.length->jfk s m i last acc=(acc++(jgk m (s.drop i) i last).1,(jgk m (s.drop i) i last).2)
 |0,i,last,acc,h=>by simp[jfk,jgk]
 | m+1,i,last,acc,h=>by
  unfold jfk
  by_cases hi:i<s.length
  ·rw[Kk hi]
   have hd:s.drop i=s[i]::s.drop (i+1):=Qs hi
   obtain⟨k1,k2,k3⟩:=juX s i h
   unfold jgk
   rw[hd]
   simp only
   rw[<- hd]
   generalize hn:jfV (s.drop i)=r at *
   obtain⟨t,e,x⟩:=r
   simp only at k1 k2 k3
   rw[k1,k2]
   by_cases hx:x=0
   ·rw[Kk hx,Kk hx,k3 hx]
    have hk:(t.at i).kind=t.kind:=rfl
    rw[hk]
    by_cases hc:t.kind ≠ 5/\last=i
    ·rw[Kk hc,Kk hc];simp
    ·rw[Km hc,Km hc]
     have hE:endW s [1] (i+e)=i+e+jbX [1] ((s.drop i).drop e):=by rw[jh3,Xd]
     rw[hE]
     have hn0:(jcz s i).2.2=0:=by rw[k2,hx]
     obtain⟨t',e',hn',_,he,_⟩:=jgj s i hi hn0
     rw[hn']at k1
     simp only at k1
     have hle:=(jbI s [1] (i+e) (by omega)).2
     rw[hE]at hle
     rw[jqv s m _ _ _ hle]
     have:s.drop (i+e+jbX [1] ((s.drop i).drop e))=((s.drop i).drop e).drop (jbX [1] ((s.drop i).drop e)):=by rw[Xd,Xd]
     rw[this]
     simp
   ·rw[Km hx,Km hx];simp
  ·rw[Km hi]
   have:s.drop i=[]:=Vg (by omega)
   unfold jgk
   rw[this]
   simp
def tkOf(t:Tok):PP.Tk:=⟨t.kind,t.text,t.n,t.pos⟩
def toksD(s:List UInt8):List Tok × Option (Int × Nat):=jgk (s.length+1) (s.drop (jbX [1] s)) (jbX [1] s) (-1)
theorem jqw(s:List UInt8):jfk s (s.length+1) (endW s [1] 0) (-1) []=toksD s:=by
 have hE:endW s [1] 0=jbX [1] s:=by rw[jh3,K7,Qq]
 have hle:=(jbI s [1] 0 (by omega)).2
 rw[jqv s _ _ _ _ hle,hE]
 unfold toksD
 simp
set_option maxRecDepth 100000
theorem jrl(a b:List UInt8):vBin .add (.str a) (.str b)=if a.length+b.length<=lim then some (.str (a++b))else none:=rfl
theorem vBin_sadd(us:Option TypeDesc)(cc:Bool)(a b:List UInt8):jbY us cc .add (.str a) (.str b)=if a.length+b.length<=lim then some (.str (a++b))else none:=by
 unfold jbY
 rw[jrl]
 by_cases h:a.length+b.length<=lim
 ·rw[Kk h]
 ·rw[Km h]
theorem join_call(v:V)(l:List Tok)(hv:IsT v l)(hl:l.length<=1000)(ht:∀i,i<l.length->(l.getD i Tok.none).text.length<=1000)(O:S):jar env (ev env) 21 [v] O=some (.str (joinT l l.length),O):=by
 refine jau rfl rfl (by rw[Q0,juH hv];rfl) at21 rfl (by simp[Tryz.f21]) (by simp[Tryz.f21]) (jaq ?_) O
 simp only[Tryz.f21,Ka,simprocAttr,Uq,Ke,Uu,z110,YW,jzV hv]
 refine jbs (λm T D O=>D=[]/\T 0=v/\T 3=.ptr 0 0/\T 6=v/\T 7=.int .i64 l.length/\∃(i:Nat) (L:List AObj),O=⟨L,[]⟩/\T 8=.int .i64 i/\i<=l.length/\m=l.length-i/\Bld ⟨L,[]⟩ 0 (joinT l i)) ?_ _ _ _ _
  ⟨rfl,rfl,rfl,rfl,rfl,0,_,rfl,rfl,by omega,rfl,⟨.nilptr,.nilsl,rfl,.inl ⟨rfl,rfl⟩,.inl ⟨rfl,rfl⟩⟩⟩
 rintro m T D O ⟨rfl,t0,t3,t6,t7,i,L,rfl,t8,hi,rfl,hB⟩
 refine jaq ?_
 by_cases hlt:i<l.length
 ·have c1:(i:Int)<(l.length:Int):=by omega
  have e1:IntKind.i64.wrap ((i:Int)+1)=((i+1:Nat):Int):=by rw[wrap_i64 (by omega) (by omega)];omega
  have hx:=idx_T hv hlt
  have hlen:=jkf l ht i (by omega)
  have htx:=ht i hlt
  have hB1:=hB.app (.cells [.int .i64 (l.getD i Tok.none).kind,.str (l.getD i Tok.none).text,.int .i64 (l.getD i Tok.none).n,.int .i64 (l.getD i Tok.none).pos] 47)
  -- what is written behind the blank
  have key:∀(s0:List UInt8) (L1:List AObj),s0.length<=1003*i+1->Bld ⟨L1,[]⟩ 0 s0->joinT l (i+1)=s0++jdE (l.getD i Tok.none) ->
    ((l.getD i Tok.none).kind=4->∃L2,jar env (ev env) 46 [.ptr 0 0,.str (39::((l.getD i Tok.none).text++[39]))] ⟨L1,[]⟩=some (.tup [.int .i64 (39::((l.getD i Tok.none).text++[39])).length,.nilif],⟨L2,[]⟩)/\Bld ⟨L2,[]⟩ 0 (joinT l (i+1))) /\
    (¬(l.getD i Tok.none).kind=4->∃L2,jar env (ev env) 46 [.ptr 0 0,.str (l.getD i Tok.none).text] ⟨L1,[]⟩=some (.tup [.int .i64 (l.getD i Tok.none).text.length,.nilif],⟨L2,[]⟩)/\Bld ⟨L2,[]⟩ 0 (joinT l (i+1))):=by
   intro s0 L1 h1 h2 h3
   constructor
   ·intro hk
    obtain⟨L2,g1,g2,_⟩:=jfi L1 [] 0 s0 (39::((l.getD i Tok.none).text++[39])) h2 (by simp only[Ks,K2,K5];omega)
    refine⟨L2,g1,?_⟩
    rw[h3];simpa only[jdE,hk,Ku]using g2
   ·intro hk
    obtain⟨L2,g1,g2,_⟩:=jfi L1 [] 0 s0 (l.getD i Tok.none).text h2 (by omega)
    refine⟨L2,g1,?_⟩
    rw[h3];simpa only[jdE,hk,Kr]using g2
  have fin:∀(L2:List AObj),Bld ⟨L2,[]⟩ 0 (joinT l (i+1))->∃m',m'<l.length-i/\∃(i':Nat) (L':List AObj),(⟨L2,[]⟩:S)=⟨L',[]⟩/\V.int IntKind.i64 ((i+1:Nat):Int)=V.int .i64 (i':Nat)/\i'<=l.length/\m'=l.length-i'/\Bld ⟨L',[]⟩ 0 (joinT l i') :=
   λL2 h=>⟨l.length-(i+1),by omega,i+1,L2,rfl,rfl,by omega,rfl,h⟩
  have lim1:1+(l.getD i Tok.none).text.length<=lim:=by simp only[lim];omega
  have lim2:(l.getD i Tok.none).text.length+1+1<=lim:=by simp only[lim];omega
  have hq:∀(X:List AObj),(X++[AObj.cells [.int .i64 (l.getD i Tok.none).kind,.str (l.getD i Tok.none).text,.int .i64 (l.getD i Tok.none).n,.int .i64 (l.getD i Tok.none).pos] 47])[X.length]? = some (.cells [.int .i64 (l.getD i Tok.none).kind,.str (l.getD i Tok.none).text,.int .i64 (l.getD i Tok.none).n,.int .i64 (l.getD i Tok.none).pos] 47):=λX=>ja2 _ _
  by_cases h0:(0:Int)<(i:Int)
  case neg =>
   have hi0:i=0:=by omega
   have hj:joinT l (i+1)=joinT l i++jdE (l.getD i Tok.none):=by
    simp only[joinT];rw[Km (by omega)];simp
   obtain⟨k1,k2⟩:=key (joinT l i) _ (by omega) hB1 hj
   by_cases hk:(l.getD i Tok.none).kind=4
   ·obtain⟨L2,g1,g2⟩:=k1 hk
    simp only[Ka,simprocAttr,Uq,Ke,Vq,t0,t3,t6,t7,t8,c1,e1,hx,jnB,jdo,jc4 (ja2 _ _),z52,ja2,jbZ,jab,Q4,Qq,Q6,Xi,Q0,Js,jaY,jaT,YW,eq_true hk,vBin_sadd,lim1,lim2,g1,h0]
    exact fin L2 g2
   ·obtain⟨L2,g1,g2⟩:=k2 hk
    simp only[Ka,simprocAttr,Uq,Ke,Vq,t0,t3,t6,t7,t8,c1,e1,hx,jnB,jdo,jc4 (ja2 _ _),z52,ja2,jbZ,jab,Q4,Qq,Q6,Xi,Q0,Js,jaY,jaT,YW,eq_false hk,g1,h0]
    exact fin L2 g2
  have hi1:i-1<l.length:=by omega
  have hy:=idx_T hv hi1
  have e0:IntKind.i64.wrap ((i:Int)-1)=((i-1:Nat):Int):=by rw[wrap_i64 (by omega) (by omega)];omega
  have r1:rowO env 107 4 [(0,.str [40]),(1,.str [91]),(2,.str [47]),(3,.str [46,46])]=some (.row (L1.map V.str) L1.length .full):=by kernel_rfl
  have r2:rowO env 107 5 [(0,.str [41]),(1,.str [93]),(2,.str [44]),(3,.str [47]),(4,.str [46,46])]=some (.row (L2.map V.str) L2.length .full):=by kernel_rfl
  have hS1:=jnD (l.getD (i-1) Tok.none) L1 .full (λ_ _ _ h=>by cases h) (by decide)
  have hS2:=jnD (l.getD i Tok.none) L2 .full (λ_ _ _ h=>by cases h) (by decide)
  have hjn:jmg (l.getD (i-1) Tok.none) (l.getD i Tok.none)->joinT l (i+1)=joinT l i++jdE (l.getD i Tok.none):=λh=>by
   simp only[joinT];rw[Km (λq=>q.2 h)];simp
  have hjb:¬jmg (l.getD (i-1) Tok.none) (l.getD i Tok.none)->joinT l (i+1)=(joinT l i++[32])++jdE (l.getD i Tok.none):=λh=>by
   simp only[joinT];rw[Kk ⟨by omega,h⟩]
  by_cases hA:Lft (l.getD (i-1) Tok.none)
  ·have hd:decide ((l.getD (i-1) Tok.none).kind=5/\(l.getD (i-1) Tok.none).text∈L1)=true:=decide_eq_true hA
   rw[hd]at hS1
   obtain⟨k1,k2⟩:=key (joinT l i) _ (by omega) hB1 (hjn (.inl hA))
   by_cases hk:(l.getD i Tok.none).kind=4
   ·obtain⟨L2,g1,g2⟩:=k1 hk
    simp only[Ka,simprocAttr,Uq,Ke,Vq,t0,t3,t6,t7,t8,c1,e1,hx,jnB,jdo,jc4 (ja2 _ _),z52,ja2,jbZ,jab,Q4,Qq,Q6,Xi,Q0,Js,jaY,jaT,YW,eq_true hk,vBin_sadd,lim1,lim2,g1,h0,e0,hy,jaf,r1,hS1]
    exact fin L2 g2
   ·obtain⟨L2,g1,g2⟩:=k2 hk
    simp only[Ka,simprocAttr,Uq,Ke,Vq,t0,t3,t6,t7,t8,c1,e1,hx,jnB,jdo,jc4 (ja2 _ _),z52,ja2,jbZ,jab,Q4,Qq,Q6,Xi,Q0,Js,jaY,jaT,YW,eq_false hk,g1,h0,e0,hy,jaf,r1,hS1]
    exact fin L2 g2
  have hd:decide ((l.getD (i-1) Tok.none).kind=5/\(l.getD (i-1) Tok.none).text∈L1)=false:=decide_eq_false hA
  rw[hd]at hS1
  by_cases hB:Rgt (l.getD i Tok.none)
  ·have hd2:decide ((l.getD i Tok.none).kind=5/\(l.getD i Tok.none).text∈L2)=true:=decide_eq_true hB
   rw[hd2]at hS2
   obtain⟨k1,k2⟩:=key (joinT l i) _ (by omega) hB1 (hjn (.inr hB))
   by_cases hk:(l.getD i Tok.none).kind=4
   ·obtain⟨L2,g1,g2⟩:=k1 hk
    simp only[Ka,simprocAttr,Uq,Ke,Vq,t0,t3,t6,t7,t8,c1,e1,hx,jnB,jdo,jc4 (ja2 _ _),z52,ja2,jbZ,jab,Q4,Qq,Q6,Xi,Q0,Js,jaY,jaT,YW,eq_true hk,vBin_sadd,lim1,lim2,g1,h0,e0,hy,jaf,r1,hS1,r2,hS2]
    exact fin L2 g2
   ·obtain⟨L2,g1,g2⟩:=k2 hk
    simp only[Ka,simprocAttr,Uq,Ke,Vq,t0,t3,t6,t7,t8,c1,e1,hx,jnB,jdo,jc4 (ja2 _ _),z52,ja2,jbZ,jab,Q4,Qq,Q6,Xi,Q0,Js,jaY,jaT,YW,eq_false hk,g1,h0,e0,hy,jaf,r1,hS1,r2,hS2]
    exact fin L2 g2
  have hd2:decide ((l.getD i Tok.none).kind=5/\(l.getD i Tok.none).text∈L2)=false:=decide_eq_false hB
  rw[hd2]at hS2
  obtain⟨L1',w1,w2,w3⟩:=jrb _ [] 0 (joinT l i) 32 hB1 (by omega)
  change jar env (ev env) 45 [.ptr 0 0,.int .u8 32] _=_ at w1
  have hq:=w3 L.length _ (jyi _) (ja2 _ _)
  simp only at hq
  obtain⟨k1,k2⟩:=key (joinT l i++[32]) L1' (by simp only[Ks,K2,K5];omega) w2 (hjb (λh=>h.elim hA hB))
  by_cases hk:(l.getD i Tok.none).kind=4
  ·obtain⟨L2,g1,g2⟩:=k1 hk
   simp only[Ka,simprocAttr,Uq,Ke,Vq,t0,t3,t6,t7,t8,c1,e1,hx,jnB,jdo,jc4 (ja2 _ _),z52,ja2,jbZ,jab,Q4,Qq,Q6,Xi,Q0,Js,jaY,jaT,YW,eq_true hk,vBin_sadd,lim1,lim2,g1,h0,e0,hy,jaf,r1,hS1,r2,hS2,w1,hq]
   exact fin L2 g2
  ·obtain⟨L2,g1,g2⟩:=k2 hk
   simp only[Ka,simprocAttr,Uq,Ke,Vq,t0,t3,t6,t7,t8,c1,e1,hx,jnB,jdo,jc4 (ja2 _ _),z52,ja2,jbZ,jab,Q4,Qq,Q6,Xi,Q0,Js,jaY,jaT,YW,eq_false hk,g1,h0,e0,hy,jaf,r1,hS1,r2,hS2,w1,hq]
   exact fin L2 g2
 ·have hi2:i=l.length:=by omega
  subst hi2
  have c1:¬(l.length:Int)<(l.length:Int):=by omega
  have hlen:=jkf l ht l.length (Kx _)
  obtain⟨O',hs⟩:=jo3 L [] 0 (joinT l l.length) hB (by omega)
  simp only[Ka,simprocAttr,Uq,Ke,Vq,t0,t3,t6,t7,t8,c1,hs]
  simp only[jaX,jax,jb8]
def insD(s:List UInt8)(k:Nat):List UInt8:=((subS s 0 k++[32,32])++subS s k s.length)++[32]
theorem insD_len(s:List UInt8)(k:Nat)(hk:k<=s.length):(insD s k).length=s.length+3:=by
 simp only[insD,Ks,subS_len s 0 k hk,subS_len s k s.length (Kx _),K2,K5];omega
theorem jko(s:List UInt8)(k j:Nat)(hk:k<=s.length)(hj:j<k):(insD s k).getD j 0=s.getD j 0:=by
 have hl:=subS_len s 0 k hk
 unfold insD
 rw[Q5,Q5,jel _ _ _ (by omega),jfG s 0 k j hk (by omega),K7]
theorem jtr(s:List UInt8)(k j:Nat)(hk:k<=s.length)(h1:k<=j)(h2:j<k+2):(insD s k).getD j 0=32:=by
 have hl:=subS_len s 0 k hk
 have:=jcG (subS s 0 k) ([32,32]++(subS s k s.length++[32])) (j-k)
 unfold insD
 rw[Q5,Q5]
 rw[hl]at this
 rw[show k-0+(j-k)=j by omega]at this
 rw[this]
 have:j-k=0\/j-k=1:=by omega
 rcases this with h|h<;>rw[h]<;>rfl
theorem jgl(s:List UInt8)(k j:Nat)(hk:k<=j)(hj:j<s.length):(insD s k).getD (j+2) 0=s.getD j 0:=by
 have hl:=subS_len s 0 k (by omega)
 have hl2:=subS_len s k s.length (Kx _)
 have:=jcG (subS s 0 k++[32,32]) (subS s k s.length++[32]) (j-k)
 unfold insD
 rw[Q5]
 rw[Ks,hl]at this
 rw[show k-0+[(32:UInt8),32].length+(j-k)=j+2 by simp;omega]at this
 rw[this,jel _ _ _ (by omega),jfG s k s.length (j-k) (Kx _) (by omega),show k+(j-k)=j by omega]
theorem jmj(s:List UInt8)(k:Nat)(hk:k<=s.length):(insD s k).getD (s.length+2) 0=32:=by
 have hl:=subS_len s 0 k hk
 have hl2:=subS_len s k s.length (Kx _)
 have:=jcG ((subS s 0 k++[32,32])++subS s k s.length) [32] 0
 unfold insD
 rw[Ks,Ks,hl,hl2]at this
 rw[show k-0+[(32:UInt8),32].length+(s.length-k)+0=s.length+2 by simp;omega]at this
 rw[this];rfl
theorem jts(s:List UInt8)(k:Nat):∀(e:Nat) (last:Int) (l:List Tok),Sc s e last l->k<e->e<=s.length->∀last2:Int,(last2=last+2\/last2 = -1)->∃l',Sc (insD s k) (e+2) last2 l'/\l'.map core=l.map core:=by
 intro e last l h
 induction h with
 | fin e last h =>
  intro hk he last2 _
  have hE:=jbI s [1] e he
  have hin:=jhi s [1] e
  have hlen:=insD_len s k (by omega)
  refine⟨[],.fin _ _ ?_,rfl⟩
  rw[jd2 (insD s k) [1] (by decide) (e+2) (s.length+3) (by omega) (by omega) (λj h1 h2 => ?_) (by rw[jqs _ _ (by omega)];decide)]
  ·omega
  ·rcases K9 j (s.length+2)with h3|h3
   ·have:=jgl s k (j-2) (by omega) (by omega)
    rw[show j-2+2=j by omega]at this
    rw[this];exact hin _ (by omega) (by omega)
   ·rw[show j=s.length+2 by omega,jmj s k (by omega)];exact jyC
 | tok e last i e2 t l h1 h2 h3 h4 hS ih =>
  intro hk he last2 hl2
  have hE:=jbI s [1] e he
  have hin:=jhi s [1] e
  have hlen:=insD_len s k (by omega)
  have hOk:OkT t:=⟨s,i,e2,h2,h3⟩
  obtain⟨t',e',hn,a1,a2,a3,_,a5,_,_,_,a9⟩:=jgj s i h2 (by rw[h3])
  rw[h3]at hn
  simp only[Kh,and_true]at hn
  obtain⟨rfl,rfl⟩:=hn
  rw[h1]at hE hin
  have hE2:endW (insD s k) [1] (e+2)=i+2:=by
   refine jd2 (insD s k) [1] (by decide) (e+2) (i+2) (by omega) (by omega) (λj g1 g2 => ?_) ?_
   ·have:=jgl s k (j-2) (by omega) (by omega)
    rw[show j-2+2=j by omega]at this
    rw[this];exact hin _ (by omega) (by omega)
   ·rw[jgl s k i (by omega) h2];simpa using a9
  have hst:Stop t ((insD s k).getD (i+2+(e2-i)) 0):=by
   rw[show i+2+(e2-i)=e2+2 by omega]
   rcases K9 e2 s.length with h|h
   ·rw[jgl s k e2 (by omega) h];exact a5
   ·rw[show e2=s.length by omega,jmj s k (by omega)];exact jfl hOk _ (.inl rfl)
  have hnx:=jh2 s (insD s k) i (i+2) (e2-i) t h2 (by rw[h3,show i+(e2-i)=e2 by omega]) (by omega) (λj hj=>by
   rw[show i+2+j=i+j+2 by omega];exact jgl s k (i+j) (by omega) (by omega)) hst
  rw[show i+2+(e2-i)=e2+2 by omega]at hnx
  obtain⟨l',g1,g2⟩:=ih (by omega) a2 (if t.kind ≠ 5 then((e2+2:Nat):Int)else -1) (by split<;>simp)
  refine⟨_::l',.tok _ _ _ _ _ _ hE2 (by omega) hnx ?_ (by simpa using g1),?_⟩
  ·rintro⟨h5,h6⟩
   rcases hl2 with h7|h7
   ·exact h4 ⟨h5,by omega⟩
   ·omega
  ·simp only[Ja,g2,core]
theorem blank2_lo(s:List UInt8)(k:Nat)(hks:k<=s.length):∀(e:Nat) (last:Int) (l:List Tok),Sc s e last l->e<=k->(∃t∈l,t.pos=(k:Nat))->(last = -1\/last<=(e:Nat))->∃l',Sc (insD s k) e last l'/\l'.map core=l.map core:=by
 intro e last l h
 induction h with
 |fin e last h=>rintro _ ⟨t,ht,_⟩;simp at ht
 | tok e last i e2 t l h1 h2 h3 h4 hS ih =>
  intro hk hex hlast
  have he:e<=s.length:=by omega
  have hE:=jbI s [1] e he
  have hin:=jhi s [1] e
  have hlen:=insD_len s k hks
  have hOk:OkT t:=⟨s,i,e2,h2,h3⟩
  obtain⟨t',e',hn,a1,a2,a3,_,a5,_,_,_,a9⟩:=jgj s i h2 (by rw[h3])
  rw[h3]at hn
  simp only[Kh,and_true]at hn
  obtain⟨rfl,rfl⟩:=hn
  rw[h1]at hE hin
  by_cases hik:i=k
  ·subst hik
   have hE2:endW (insD s i) [1] e=i+2:=by
    refine jd2 (insD s i) [1] (by decide) e (i+2) (by omega) (by omega) (λj g1 g2 => ?_) ?_
    ·rcases K9 j i with h|h
     ·rw[jko s i j hks h];exact hin _ (by omega) (by omega)
     ·rw[jtr s i j hks h (by omega)];exact jyC
    ·rw[jgl s i i (by omega) h2];simpa using a9
   have hst:Stop t ((insD s i).getD (i+2+(e2-i)) 0):=by
    rw[show i+2+(e2-i)=e2+2 by omega]
    rcases K9 e2 s.length with h|h
    ·rw[jgl s i e2 (by omega) h];exact a5
    ·rw[show e2=s.length by omega,jmj s i hks];exact jfl hOk _ (.inl rfl)
   have hnx:=jh2 s (insD s i) i (i+2) (e2-i) t h2 (by rw[h3,show i+(e2-i)=e2 by omega]) (by omega) (λj hj=>by
    rw[show i+2+j=i+j+2 by omega];exact jgl s i (i+j) (by omega) (by omega)) hst
   rw[show i+2+(e2-i)=e2+2 by omega]at hnx
   obtain⟨l',g1,g2⟩:=jts s i e2 _ l hS (by omega) a2 (if t.kind ≠ 5 then((e2+2:Nat):Int)else -1) (by split<;>simp)
   refine⟨_::l',.tok _ _ _ _ _ _ hE2 (by omega) hnx ?_ (by simpa using g1),?_⟩
   ·rintro⟨h5,h6⟩
    omega
   ·simp only[Ja,g2,core]
  ·obtain⟨x,hx,hxp⟩:=hex
   have hxl:x∈l:=by
    rcases Qy.1 hx with rfl|h
    ·omega
    ·exact h
   have hp:=jyB hS a2 x hxl
   have hE2:endW (insD s k) [1] e=i:=by
    refine jd2 (insD s k) [1] (by decide) e i (by omega) (by omega) (λj g1 g2 => ?_) ?_
    ·rw[jko s k j hks (by omega)];exact hin _ (by omega) (by omega)
    ·rw[jko s k i hks (by omega)];simpa using a9
   have hst:Stop t ((insD s k).getD (i+(e2-i)) 0):=by
    rw[show i+(e2-i)=e2 by omega]
    rcases K9 e2 k with h|h
    ·rw[jko s k e2 hks h];exact a5
    ·rw[show e2=k by omega,jtr s k k hks (by omega) (by omega)];exact jfl hOk _ (.inl rfl)
   have hnx:=jh2 s (insD s k) i i (e2-i) t h2 (by rw[h3,show i+(e2-i)=e2 by omega]) (by omega) (λj hj=>jko s k (i+j) hks (by omega)) hst
   rw[show i+(e2-i)=e2 by omega]at hnx
   obtain⟨l',g1,g2⟩:=ih (by omega) ⟨x,hxl,hxp⟩ (by split<;>simp)
   refine⟨_::l',.tok _ _ _ _ _ _ hE2 (by omega) hnx ?_ (by simpa using g1),?_⟩
   ·exact h4
   ·simp only[Ja,g2,core]
theorem jw6(s:List UInt8)(l:List Tok)(h:jfk s (s.length+1) (endW s [1] 0) (-1) []=(l,none)):Sc s 0 (-1) l:=by
 obtain⟨l',h1,h2⟩:=jtp s (s.length+1) 0 (-1) [] l (by omega) (by omega) h
 simpa[h1]using h2
theorem jw7(s:List UInt8)(l:List Tok)(h:Sc s 0 (-1) l):jfk s (s.length+1) (endW s [1] 0) (-1) []=(l,none):=by
 have:=jw5 h (by omega) (s.length+1) [] (by omega)
 simpa using this
theorem sc_text {s:List UInt8}{l:List Tok}(h:Sc s 0 (-1) l):l.length<=s.length/\(joinT l l.length).length<=2*s.length/\∀i,i<l.length->(l.getD i Tok.none).text.length<=s.length:=by
 obtain⟨h1,h2⟩:=jyA h (by omega)
 refine⟨by omega,by have:=jrk l;omega,λi hi => ?_⟩
 have hmem:l.getD i Tok.none∈l:=by simp[List.getD,hi]
 have hp:(jdE (l.getD i Tok.none)).length<=sumP l:=by
  clear h h1 h2 hi
  induction l with
  |nil=>simp at hmem
  | cons t l ih =>
   rcases Qy.1 hmem with h|h
   ·rw[h,sumP];omega
   ·have:∀x∈l,(jdE x).length<=sumP l:=by
     intro x hx
     clear ih hmem h
     induction l with
     |nil=>simp at hx
     |cons y l ih =>
      rcases Qy.1 hx with rfl|hx
      ·rw[sumP];omega
      ·have:=ih hx;rw[sumP];omega
    have:=this _ h
    rw[sumP];omega
 have:(l.getD i Tok.none).text.length<=(jdE (l.getD i Tok.none)).length:=by
  unfold jdE;split
  ·simp only[K2,Ks];omega
  ·exact Kx _
 omega
theorem toksD_sc {s:List UInt8}{l:List Tok}:toksD s=(l,none)↔Sc s 0 (-1) l:=by
 rw[<- jqw]
 exact⟨jw6 s l,jw7 s l⟩
end Go.Proofs.YtpclebdkhpapjaaGreatDoor.T
