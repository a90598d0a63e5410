/- Proved here: the scanner. Conditions: those of each theorem; no statement of the seat is proved in this text. -/
import Derived.Test.YtpclebdkhpapjaaGreatDoorTkA
set_option linter.unusedSimpArgs false
set_option linter.unusedVariables false
set_option linter.unusedSectionVars false
namespace Go.Proofs.YtpclebdkhpapjaaGreatDoor.T
open Go.Ab
set_option maxHeartbeats 8000000
set_option maxRecDepth 100000
theorem at85:env.P.funcs[85]? = some Tryz.f85:=by kernel_rfl
theorem u88:env.P.underlying 81=some (.array 256 80):=by kernel_rfl
theorem jtT:clsL.length=256:=by kernel_rfl
theorem jtU (c:UInt8):clsL.getD c.toNat 0=clsN c.toNat:=by
 have:=c.toNat_lt
 simp [clsL,List.getD,this]
def scnL (s:List UInt8):List V:=.str s::.int .i64 0::clsL.map (V.int .i64)
theorem jdB (h:List AObj)(p:Nat)(s:List UInt8)(hp:h[p]? = some (.cells (scnL s) 84))(c:UInt8):(jai h 1 (.ptr p (2+c.toNat))).bind (·[0]?)=some (.int .i64 (clsN c.toNat)):=by
 have hc:=c.toNat_lt
 have hl:=jtT
 rw [YA,hp]
 simp only [YB,Kk]
 have e:(scnL s)[2+c.toNat]? = (clsL.map (V.int .i64))[c.toNat]? := by
  unfold scnL
  rw [show 2+c.toNat=c.toNat+1+1 by omega]
  simp
 rw [e,Y0,Km (by omega),jtU]
theorem jb4 (h:List AObj)(p:Nat)(s:List UInt8)(hp:h[p]? = some (.cells (scnL s) 84)):(jai h 1 (.ptr p 0)).bind (·[0]?)=some (.str s):=by
 rw [YA,hp]; rfl
theorem jcN (h:List AObj)(p:V):jbj env h 9 p=(jai h 1 p).bind (·[0]?):=jaX (by kernel_rfl)
theorem jdC (p:Nat)(c:UInt8):idxO (some (.array 256 80)) (sz env) (some (.ptr p 2)) (some (.int .u8 c.toNat))=some (.ptr p (2+c.toNat)):=by
 have hc:=c.toNat_lt
 simp [idxO,s87,jdi]
 omega
def runW (s:List UInt8)(cs:List Int):Nat→Nat→Nat
 | 0,i=>i
 | m+1,i=>if clsN (s.getD i 0).toNat∈cs then runW s cs m (i+1) else i
def endW (s:List UInt8)(cs:List Int)(i:Nat):Nat:=runW s cs (s.length - i) i
theorem fo0:ja4 env 84 0=some 0:=by kernel_rfl
theorem fo2:ja4 env 84 2=some 2:=by kernel_rfl
theorem jtV (s:List UInt8)(hl:s.length≤2 ^ 30)(L:List AObj)(ts:List Nat)(p:Nat)(hp:L[p]? = some (.cells (scnL s) 84))(cs:List Int)(c:RCap)(hc:∀ k e s,c ≠ .tok k e s)(hcl:cs.length≤1000)(Q:Post)(c2:Code)(e:Nat)
  (h2:∀ T,T 1=.int .i64 (e:Nat)→G env 85 none 32 Q [] c2 T [] ⟨L,ts⟩) (T:Tm) (i0:Nat) (h0:i0≤s.length) (he:runW s cs (s.length - i0) i0=e)
  (a0:T 0=.ptr p 0) (a1:T 1=.int .i64 (i0:Nat)) (a2:T 2=.row (cs.map (V.int .i64)) cs.length c) :
  jil env 85 none 32 (jfz 0 (jax Tryz.f85)) T [] ⟨L,ts⟩ (Kt.post env 85 none 32 Q [.blk 0,.code c2]):=by
 simp only [jax,Tryz.f85,Kv,jfz,blkC,Option.or,Nat.reduceEqDiff,Kr,Ks,reduceIte]
 refine jbu (fun m T D σ=>D=[]∧σ=⟨L,ts⟩∧T 0=.ptr p 0∧T 2=.row (cs.map (V.int .i64)) cs.length c∧∃ i:Nat,T 1=.int .i64 i∧i≤s.length∧m=s.length - i∧runW s cs (s.length - i) i=e) ?_ _ _ _ _ ⟨rfl,rfl,a0,a2,i0,a1,h0,rfl,he⟩
 clear a0 a1 a2 he h0 i0 T
 rintro m T D σ ⟨rfl,rfl,t0,t2,i,t1,hi,rfl,he⟩
 refine jar ?_
 by_cases hlt:i<s.length
 ·have c1:(i:Int)<(s.length:Int):=by omega
  have c2':(0:Int)≤(i:Int)∧(i:Int)<(s.length:Int):=by omega
  have e1:IntKind.i64.wrap ((i:Int)+1)=((i+1:Nat):Int):=by rw [wrap_i64 (by omega) (by omega)]; omega
  obtain ⟨q,hq⟩:∃ q,s.length - i=q+1:=⟨s.length - i - 1,by omega⟩
  have hq2:q=s.length - (i+1):=by omega
  have hstep:runW s cs (s.length - i) i=if clsN (s.getD i 0).toNat∈cs then runW s cs q (i+1) else i:=by rw [hq]; rfl
  rw [hstep] at he
  by_cases hn:clsN (s.getD i 0).toNat∈cs
  ·rw [Km hn,hq2] at he
   simp only [Ka,simprocAttr,Ys,Y0,Ke,Vq,t0,t1,t2,c1,c2',e1,jaa,jae,fo0,fo2,jcN,jc5,jb4 L p s hp,jdB L p s hp,u88,jdC,jaK,jaG,jaE u9,jgy cs c hc hcl,hn,K3,K8]
   exact ⟨by kernel_rfl,s.length - (i+1),by omega,i+1,rfl,by omega,rfl,he⟩
  ·rw [Kn hn] at he
   subst he
   simp only [Ka,simprocAttr,Ys,Y0,Ke,Vq,t0,t1,t2,c1,c2',e1,jaa,jae,fo0,fo2,jcN,jc5,jb4 L p s hp,jdB L p s hp,u88,jdC,jaK,jaG,jaE u9,jgy cs c hc hcl,hn,K3,K8]
   exact ⟨by kernel_rfl,h2 _ t1⟩
 ·have hi2:i=s.length:=by omega
  subst hi2
  have c1:¬ (s.length:Int)<(s.length:Int):=by omega
  rw [Vi] at he
  simp only [runW] at he
  subst he
  simp only [Ka,simprocAttr,Ys,Y0,Ke,Vq,t0,t1,t2,c1,jaa,jae,fo0,fo2,jcN,jb4 L p s hp,jaK]
  exact ⟨by kernel_rfl,h2 _ t1⟩
theorem jcX (s:List UInt8)(hl:s.length≤2 ^ 30)(L:List AObj)(ts:List Nat)(p:Nat)(hp:L[p]? = some (.cells (scnL s) 84))(cs:List Int)(n:Nat)(hn:n=cs.length)(c:RCap)(hc:∀ k e s,c ≠ .tok k e s)(hcl:cs.length≤1000)(i:Nat)(hi:i≤s.length) :
  jas env (ev env) 85 [.ptr p 0,.int .i64 (i:Nat),.row (cs.map (V.int .i64)) n c] ⟨L,ts⟩=some (.int .i64 (endW s cs i:Nat),⟨L,ts⟩):=by
 subst hn
 refine jbh rfl rfl at85 rfl (by simp [Tryz.f85]) (by simp [Tryz.f85]) (jar ?_)
 simp only [Tryz.f85,Ka,simprocAttr,Ys,Y0,Ke,Vq]
 refine jtV s hl L ts p hp cs c hc hcl _ _ (endW s cs i) (fun T t1 => ?_) _ i hi rfl rfl rfl rfl
 simp only [Ka,simprocAttr,Ys,Y0,Ke,Vq,t1,jaZ]
def subS (s:List UInt8)(i j:Nat):List UInt8:=(s.drop i).take (j - i)
theorem jel (s:List UInt8)(i j:Nat)(hij:i≤j)(hj:j≤s.length):jbT env 9 (.str s) (some (.int .i64 (i:Nat))) (some (.int .i64 (j:Nat))) none=some (.str (subS s i j)):=by
 simp [jbT,u9,jcG,jbi,subS,hij,hj]
theorem jyX:env.P.funcs[125]? = some Tryz.f125:=by kernel_rfl
theorem jv1:jcc.length=16:=by kernel_rfl
theorem jtW {ws:List (List UInt8)}{j:Nat}(hj:j<ws.length)(x:List UInt8):x∈ws.drop j↔(ws.getD j []=x∨x∈ws.drop (j+1)):=by
 rw [Q6 hj,Q8]
 simp [List.getD,hj,eq_comm]
theorem jv2 (s:List UInt8)(hl:s.length≤2 ^ 30)(L:List AObj)(ts:List Nat)(p:Nat)(hp:L[p]? = some (.cells (scnL s) 84))(i w:Nat)(hw:w≤2)(hi:i+w≤s.length)(Q:Post)(ks:List Kt)
  (hf:subS s i (i+w)∈jcc→∀ T,T 4=.str (subS s i (i+w))→T 5=.bool true→G env 125 none 41 Q ks .ret T [] ⟨L,ts⟩)
  (h2:subS s i (i+w) ∉ jcc→∀ T,T 0=.ptr p 0→T 1=.int .i64 (i:Nat)→T 6=.int .i64 (w:Nat)→G env 125 none 41 Q ks .skip T [] ⟨L,ts⟩) (T:Tm)
  (a0:T 0=.ptr p 0) (a1:T 1=.int .i64 (i:Nat)) (a6:T 6=.int .i64 (w:Nat)) (a22:T 22=.row (jcc.map V.str) 16 .unk) (a23:T 23=.int .i64 16) (a24:T 24=.int .i64 (0:Nat)) :
  jil env 125 none 41 (jfz 2 (jax Tryz.f125)) T [] ⟨L,ts⟩ (Kt.post env 125 none 41 Q (.blk 2::ks)):=by
 simp only [jax,Tryz.f125,Kv,jfz,blkC,Option.or,Nat.reduceEqDiff,Kr,Ks,reduceIte]
 refine jbu (fun m T D σ=>D=[]∧σ=⟨L,ts⟩∧T 0=.ptr p 0∧T 1=.int .i64 (i:Nat)∧T 6=.int .i64 (w:Nat)∧T 22=.row (jcc.map V.str) 16 .unk∧T 23=.int .i64 16∧∃ j:Nat,T 24=.int .i64 j∧j≤16∧m=16 - j∧(subS s i (i+w)∈jcc↔subS s i (i+w)∈jcc.drop j)) ?_ _ _ _ _ ⟨rfl,rfl,a0,a1,a6,a22,a23,0,a24,Ql _,rfl,by rw [Jo]⟩
 clear a0 a1 a6 a22 a23 a24 T
 rintro m T D σ ⟨rfl,rfl,t0,t1,t6,t22,t23,j,t24,hj,rfl,hm⟩
 refine jar ?_
 have h16:=jv1
 have e2:IntKind.i64.wrap ((i:Int)+(w:Int))=((i+w:Nat):Int):=by rw [wrap_i64 (by omega) (by omega)]; omega
 by_cases hlt:j<16
 ·have c1:(j:Int)<16:=by omega
  have c3:(0:Int)≤(j:Int)∧(j:Int)<(16:Nat):=by omega
  have c4:j<jcc.length:=by omega
  have e1:IntKind.i64.wrap ((j:Int)+1)=((j+1:Nat):Int):=by rw [wrap_i64 (by omega) (by omega)]; omega
  have hd:=jtW c4 (subS s i (i+w))
  by_cases hn:jcc.getD j []=subS s i (i+w)
  ·have hin:subS s i (i+w)∈jcc:=hm.2 (hd.2 (.inl hn))
   simp only [Ka,simprocAttr,Ys,Y0,Ke,Vq,t0,t1,t6,t22,t23,t24,c1,c3,c4,e1,e2,jaa,jae,fo0,jcN,jb4 L p s hp,jba,jbb,jbf,jel s i (i+w) (Nat.le_add_right _ _) hi,jd3,jac,hn]
   refine hf hin _ ?_ ?_ <;> rfl
  ·have hm2:subS s i (i+w)∈jcc↔subS s i (i+w)∈jcc.drop (j+1):=hm.trans (hd.trans ⟨fun h=>h.resolve_left hn,.inr⟩)
   simp only [Ka,simprocAttr,Ys,Y0,Ke,Vq,t0,t1,t6,t22,t23,t24,c1,c3,c4,e1,e2,jaa,jae,fo0,jcN,jb4 L p s hp,jba,jbb,jbf,jel s i (i+w) (Nat.le_add_right _ _) hi,jd3,jac,hn]
   exact ⟨16 - (j+1),by omega,j+1,rfl,by omega,rfl,hm2⟩
 ·have hj2:j=16:=by omega
  subst hj2
  have hni:subS s i (i+w) ∉ jcc:=by
   rw [hm,Xu (by omega)]; exact Jw
  have c1:¬ ((16:Nat):Int)<16:=by omega
  simp only [Ka,simprocAttr,Ys,Y0,Ke,Vq,t0,t1,t6,t22,t23,t24,c1]
  exact h2 hni _ t0 t1 t6
def sgW (s:List UInt8)(i:Nat):Nat→List UInt8 × Bool
 | 0=>([],false)
 | w+1=>if i+(w+1)≤s.length∧subS s i (i+(w+1))∈jcc then (subS s i (i+(w+1)),true) else sgW s i w
def sgV (r:List UInt8 × Bool):V:=.tup [.str r.1,.bool r.2]
theorem jjS (s:List UInt8)(hl:s.length≤2 ^ 30)(L:List AObj)(ts:List Nat)(p:Nat)(hp:L[p]? = some (.cells (scnL s) 84))(i:Nat)(hi:i≤s.length) :
  jas env (ev env) 125 [.ptr p 0,.int .i64 (i:Nat)] ⟨L,ts⟩=some (sgV (sgW s i 2),⟨L,ts⟩):=by
 refine jbh rfl rfl jyX rfl (by simp [Tryz.f125]) (by simp [Tryz.f125]) (jar ?_)
 simp only [Tryz.f125,Ka,simprocAttr,Ys,Y0,Ke,Vq]
 refine jbu (fun m T D σ=>D=[]∧σ=⟨L,ts⟩∧T 0=.ptr p 0∧T 1=.int .i64 (i:Nat)∧∃ w:Nat,T 6=.int .i64 w∧w≤2∧m=w∧sgW s i w=sgW s i 2) ?_ _ _ _ _ ⟨rfl,rfl,rfl,rfl,2,rfl,Ky _,rfl,rfl⟩
 rintro m T D σ ⟨rfl,rfl,t0,t1,w,t6,hw,rfl,hs⟩
 refine jar ?_
 cases m with
 | zero =>
  have c1:¬ (0:Int)<((0:Nat):Int):=by omega
  simp only [Ka,simprocAttr,Ys,Y0,Ke,Vq,t0,t1,t6,c1,jaZ]
  rw [← hs]; first | exact ⟨rfl,rfl⟩ | exact ⟨rfl,trivial⟩
 | succ w =>
  have c1:(0:Int)<((w+1:Nat):Int):=by omega
  have e1:IntKind.i64.wrap (((w+1:Nat):Int) - 1)=(w:Int):=by rw [wrap_i64 (by omega) (by omega)]; omega
  have e2:IntKind.i64.wrap ((i:Int)+((w+1:Nat):Int))=((i+(w+1):Nat):Int):=by rw [wrap_i64 (by omega) (by omega)]; omega
  by_cases h1:i+(w+1)≤s.length
  ·have c2:¬ (s.length:Int)<((i+(w+1):Nat):Int):=by omega
   simp only [Ka,simprocAttr,Ys,Y0,Ke,Vq,t0,t1,t6,c1,c2,e1,e2,jaa,jae,fo0,jcN,jb4 L p s hp,jaK,jqv]
   refine jv2 s hl L ts p hp i (w+1) hw h1 _ _ (fun hin T t4 t5 => ?_) (fun hni T t0 t1 t6 => ?_) _ ?_ ?_ ?_ ?_ ?_ ?_
   ·have:sgW s i (w+1)=(subS s i (i+(w+1)),true):=Km ⟨h1,hin⟩
    simp only [Ka,simprocAttr,Ys,Y0,Ke,Vq,t4,t5,jaZ]
    rw [← hs,this]; first | exact ⟨rfl,rfl⟩ | exact ⟨rfl,trivial⟩
   ·have:sgW s i (w+1)=sgW s i w:=Kn fun h=>hni h.2
    simp only [Ka,simprocAttr,Ys,Y0,Ke,Vq,t0,t1,t6,e1]
    exact ⟨w,by omega,w,rfl,by omega,rfl,this ▸ hs⟩
   all_goals first | exact t0 | exact t1 | exact t6 | rfl
  ·have c2:(s.length:Int)<((i+(w+1):Nat):Int):=by omega
   have:sgW s i (w+1)=sgW s i w:=Kn fun h=>h1 h.1
   simp only [Ka,simprocAttr,Ys,Y0,Ke,Vq,t0,t1,t6,c1,c2,e1,e2,jaa,jae,fo0,jcN,jb4 L p s hp,jaK]
   exact ⟨w,by omega,w,rfl,by omega,rfl,this ▸ hs⟩
theorem jos (s:List UInt8)(cs:List Int):∀ m i,i≤runW s cs m i∧runW s cs m i≤i+m
 | 0,i=>⟨Ky _,Ky _⟩
 | m+1,i=>by
  simp only [runW]
  split
  ·have:=jos s cs m (i+1); omega
  ·omega
theorem jcy (s:List UInt8)(cs:List Int)(i:Nat)(hi:i≤s.length):i≤endW s cs i∧endW s cs i≤s.length:=by
 have:=jos s cs (s.length - i) i
 unfold endW; omega
theorem jsx (s:List UInt8)(cs:List Int):∀ m i j,i≤j→j<runW s cs m i→clsN (s.getD j 0).toNat∈cs
 | 0,i,j,h1,h2=>by simp only [runW] at h2; omega
 | m+1,i,j,h1,h2=>by
  simp only [runW] at h2
  split at h2
  ·rcases Qf i j with h3 | h3
   ·exact jsx s cs m (i+1) j h3 h2
   ·have:j=i:=by omega
    subst this; assumption
  ·omega
theorem jot (s:List UInt8)(cs:List Int)(i:Nat)(hi:i<s.length)(h:clsN (s.getD i 0).toNat∈cs):i<endW s cs i:=by
 obtain ⟨q,hq⟩:∃ q,s.length - i=q+1:=⟨s.length - i - 1,by omega⟩
 unfold endW
 rw [hq]
 simp only [runW,Km h]
 have:=jos s cs q (i+1)
 omega
theorem jcD (s:List UInt8)(i j:Nat)(h:j≤s.length):(subS s i j).length=j - i:=by
 unfold subS; rw [K7,Qm]; omega
theorem jpL (s:List UInt8)(i j k:Nat)(h:j≤s.length)(hk:k<j - i):(subS s i j).getD k 0=s.getD (i+k) 0:=by
 unfold subS
 simp only [List.getD]
 rw [Q4,Km hk,Jj]
theorem jxk (c:UInt8)(h:clsN c.toNat=3):IsDg c:=by
 unfold clsN at h
 unfold IsDg
 split at h
 ·omega
 ·split at h
  ·assumption
  ·split at h
   ·omega
   ·split at h
    ·omega
    ·split at h <;> omega
theorem jsy (s:List UInt8)(i:Nat)(hi:i≤s.length):∀ k,k<(subS s i (endW s [3] i)).length→IsDg ((subS s i (endW s [3] i)).getD k 0):=by
 intro k hk
 have he:=jcy s [3] i hi
 rw [jcD _ _ _ he.2] at hk
 rw [jpL _ _ _ _ he.2 hk]
 have:=jsx s [3] (s.length - i) i (i+k) (by omega) (by unfold endW at hk; omega)
 exact jxk _ (by simpa using this)
theorem jou (s:List UInt8)(i:Nat):∀ w,(sgW s i w).1.length≤w
 | 0=>Ky _
 | w+1=>by
  simp only [sgW]
  split
  ·rename_i h; simp only [jcD _ _ _ h.1]; omega
  ·have:=jou s i w; omega
theorem at86:env.P.funcs[86]? = some Tryz.f86:=by kernel_rfl
theorem jqA:jok=N.wordsW.map V.str:=N.resV_words
theorem row2:rowO env 139 3 [(0,.int .i64 2),(1,.int .i64 3),(2,.int .i64 4)]=some (.row (([2,3,4]:List Int).map (V.int .i64)) 3 .full):=by kernel_rfl
theorem row1:rowO env 139 1 [(0,.int .i64 3)]=some (.row (([3]:List Int).map (V.int .i64)) 1 .full):=by kernel_rfl
theorem jtX (σ:S):jas env (ev env) 122 [] σ=some (.row jok 35 .unk,σ):=jd8 rfl rfl rfl (k:=200) (by rw [← jfQ]; kernel_rfl) σ
theorem jhB (σ:S):jas env (ev env) 122 [] σ=some (.row (N.wordsW.map V.str) N.wordsW.length .unk,σ):=by rw [jtX,jqA,N.words_len]
theorem mb99 (r:Nat):env.mutb 86 r=false:=rfl
theorem jdV:∀ k e s,RCap.full ≠ .tok k e s:=fun _ _ _ h=>by cases h
theorem jpM:∀ k e s,RCap.unk ≠ .tok k e s:=fun _ _ _ h=>by cases h
theorem jgk (k:Int)(s:List UInt8)(p:Int):jb9 env 47 [(0,.int .i64 k),(1,.str s),(3,.int .i64 p)]=some (.agg [.int .i64 k,.str s,.int .i64 0,.int .i64 p]):=by kernel_rfl
theorem jgQ:ja4 env 47 0=some 0:=by kernel_rfl
theorem jgR (L:List AObj)(a b c d:V):jbj env (L++[.cells [a,b,c,d] 47]) 47 (.ptr L.length 0)=some (.agg [a,b,c,d]):=by
 have h:jai (L++[.cells [a,b,c,d] 47]) 4 (.ptr L.length 0)=some [a,b,c,d]:=jmY (jbI L _)
 have e:sz env 47=some 4:=by kernel_rfl
 have g:Go.Ab.aggT env 47=some true:=by kernel_rfl
 unfold jbj
 simp only [e,g,h,Kk,Kw]
def X99 (s:List UInt8)(L:List AObj)(ts:List Nat)(p i:Nat)(v:V):Prop:=∃ o,jas env (ev env) 86 [.ptr p 0,.int .i64 (i:Nat)] ⟨L,ts⟩=some (v,⟨L++o,ts⟩)
theorem jxl (s:List UInt8)(hl:s.length≤2 ^ 30)(L:List AObj)(ts:List Nat)(p:Nat)(hp:L[p]? = some (.cells (scnL s) 84))(i:Nat)(hi:i<s.length)(hc:clsN (s.getD i 0).toNat=2)(x:List UInt8)(e:Nat)(hx:x=subS s i e)(he:e=endW s [2,3,4] i)(h1:¬ x∈N.wordsW)(h2:¬ 20<e - i) :
  X99 s L ts p i (.tup [.agg [.int .i64 1,.str x,.int .i64 0,.int .i64 i],.int .i64 e,.int .i64 0]):=by
 have c2:(0:Int)≤(i:Int)∧(i:Int)<(s.length:Int):=by omega
 have hp2:∀ o,(L++o)[p]? = some (.cells (scnL s) 84):=fun o=>jbR hp o
 have hb:=jcy s [2,3,4] i (by omega)
 rw [← he] at hb
 have hsl:=jel s i e hb.1 hb.2
 have hlen:=jcD s i e hb.2
 rw [← hx] at hsl hlen
 have hrun:=fun (o:List AObj)=>jcX s hl (L++o) ts p (hp2 o) [2,3,4] 3 rfl .full jdV (by decide) i (by omega)
 rw [← he] at hrun
 have h3:¬ (20:Int)<(x.length:Int):=by omega
 refine ⟨[.cells [.int .i64 1,.str x,.int .i64 0,.int .i64 i] 47],?_⟩
 refine jbh rfl rfl at86 rfl (by simp [Tryz.f86]) (by simp [Tryz.f86]) (jar ?_)
 simp only [Tryz.f86,Ka,simprocAttr,Ys,Y0,Ke,Vq,Va,jab,hp,hp2,zv52,c2,jaa,jae,fo0,fo2,jgQ,jcN,jc5,jb4 _ p s (hp2 _),jdB _ p s (hp2 _),u88,jdC,jaK,jaG,jaE u9,K3,K8,mb99,jag,jba,jbb,jbf,ja5,jbd,jbI,jcM,jgR,jaZ,hc,row2,hrun,hsl,jgk,jhB,jd5 N.wordsW .unk jpM (by decide),h1,h2,h3]
 first | exact ⟨by kernel_rfl,trivial⟩ | exact ⟨by kernel_rfl,rfl,rfl⟩ | exact ⟨by kernel_rfl,rfl⟩
theorem jxm (s:List UInt8)(hl:s.length≤2 ^ 30)(L:List AObj)(ts:List Nat)(p:Nat)(hp:L[p]? = some (.cells (scnL s) 84))(i:Nat)(hi:i<s.length)(hc:clsN (s.getD i 0).toNat=2)(x:List UInt8)(e:Nat)(hx:x=subS s i e)(he:e=endW s [2,3,4] i)(h1:¬ x∈N.wordsW)(h2:20<e - i) :
  X99 s L ts p i (.tup [.agg [.int .i64 1,.str x,.int .i64 0,.int .i64 i],.int .i64 e,.int .i64 19]):=by
 have c2:(0:Int)≤(i:Int)∧(i:Int)<(s.length:Int):=by omega
 have hp2:∀ o,(L++o)[p]? = some (.cells (scnL s) 84):=fun o=>jbR hp o
 have hb:=jcy s [2,3,4] i (by omega)
 rw [← he] at hb
 have hsl:=jel s i e hb.1 hb.2
 have hlen:=jcD s i e hb.2
 rw [← hx] at hsl hlen
 have hrun:=fun (o:List AObj)=>jcX s hl (L++o) ts p (hp2 o) [2,3,4] 3 rfl .full jdV (by decide) i (by omega)
 rw [← he] at hrun
 have h3:(20:Int)<(x.length:Int):=by omega
 refine ⟨[.cells [.int .i64 1,.str x,.int .i64 0,.int .i64 i] 47],?_⟩
 refine jbh rfl rfl at86 rfl (by simp [Tryz.f86]) (by simp [Tryz.f86]) (jar ?_)
 simp only [Tryz.f86,Ka,simprocAttr,Ys,Y0,Ke,Vq,Va,jab,hp,hp2,zv52,c2,jaa,jae,fo0,fo2,jgQ,jcN,jc5,jb4 _ p s (hp2 _),jdB _ p s (hp2 _),u88,jdC,jaK,jaG,jaE u9,K3,K8,mb99,jag,jba,jbb,jbf,ja5,jbd,jbI,jcM,jgR,jaZ,hc,row2,hrun,hsl,jgk,jhB,jd5 N.wordsW .unk jpM (by decide),h1,h2,h3]
 first | exact ⟨by kernel_rfl,trivial⟩ | exact ⟨by kernel_rfl,rfl,rfl⟩ | exact ⟨by kernel_rfl,rfl⟩
theorem jxn (s:List UInt8)(hl:s.length≤2 ^ 30)(L:List AObj)(ts:List Nat)(p:Nat)(hp:L[p]? = some (.cells (scnL s) 84))(i:Nat)(hi:i<s.length)(hc:clsN (s.getD i 0).toNat=2)(x:List UInt8)(e:Nat)(hx:x=subS s i e)(he:e=endW s [2,3,4] i)(h1:x∈N.wordsW)(h2:¬ 20<e - i) :
  X99 s L ts p i (.tup [.agg [.int .i64 2,.str x,.int .i64 0,.int .i64 i],.int .i64 e,.int .i64 0]):=by
 have c2:(0:Int)≤(i:Int)∧(i:Int)<(s.length:Int):=by omega
 have hp2:∀ o,(L++o)[p]? = some (.cells (scnL s) 84):=fun o=>jbR hp o
 have hb:=jcy s [2,3,4] i (by omega)
 rw [← he] at hb
 have hsl:=jel s i e hb.1 hb.2
 have hlen:=jcD s i e hb.2
 rw [← hx] at hsl hlen
 have hrun:=fun (o:List AObj)=>jcX s hl (L++o) ts p (hp2 o) [2,3,4] 3 rfl .full jdV (by decide) i (by omega)
 rw [← he] at hrun
 have h3:¬ (20:Int)<(x.length:Int):=by omega
 refine ⟨[.cells [.int .i64 2,.str x,.int .i64 0,.int .i64 i] 47],?_⟩
 refine jbh rfl rfl at86 rfl (by simp [Tryz.f86]) (by simp [Tryz.f86]) (jar ?_)
 simp only [Tryz.f86,Ka,simprocAttr,Ys,Y0,Ke,Vq,Va,jab,hp,hp2,zv52,c2,jaa,jae,fo0,fo2,jgQ,jcN,jc5,jb4 _ p s (hp2 _),jdB _ p s (hp2 _),u88,jdC,jaK,jaG,jaE u9,K3,K8,mb99,jag,jba,jbb,jbf,ja5,jbd,jbI,jcM,jgR,jaZ,hc,row2,hrun,hsl,jgk,jhB,jd5 N.wordsW .unk jpM (by decide),h1,h2,h3]
 first | exact ⟨by kernel_rfl,trivial⟩ | exact ⟨by kernel_rfl,rfl,rfl⟩ | exact ⟨by kernel_rfl,rfl⟩
theorem jxo (s:List UInt8)(hl:s.length≤2 ^ 30)(L:List AObj)(ts:List Nat)(p:Nat)(hp:L[p]? = some (.cells (scnL s) 84))(i:Nat)(hi:i<s.length)(hc:clsN (s.getD i 0).toNat=2)(x:List UInt8)(e:Nat)(hx:x=subS s i e)(he:e=endW s [2,3,4] i)(h1:x∈N.wordsW)(h2:20<e - i) :
  X99 s L ts p i (.tup [.agg [.int .i64 2,.str x,.int .i64 0,.int .i64 i],.int .i64 e,.int .i64 19]):=by
 have c2:(0:Int)≤(i:Int)∧(i:Int)<(s.length:Int):=by omega
 have hp2:∀ o,(L++o)[p]? = some (.cells (scnL s) 84):=fun o=>jbR hp o
 have hb:=jcy s [2,3,4] i (by omega)
 rw [← he] at hb
 have hsl:=jel s i e hb.1 hb.2
 have hlen:=jcD s i e hb.2
 rw [← hx] at hsl hlen
 have hrun:=fun (o:List AObj)=>jcX s hl (L++o) ts p (hp2 o) [2,3,4] 3 rfl .full jdV (by decide) i (by omega)
 rw [← he] at hrun
 have h3:(20:Int)<(x.length:Int):=by omega
 refine ⟨[.cells [.int .i64 2,.str x,.int .i64 0,.int .i64 i] 47],?_⟩
 refine jbh rfl rfl at86 rfl (by simp [Tryz.f86]) (by simp [Tryz.f86]) (jar ?_)
 simp only [Tryz.f86,Ka,simprocAttr,Ys,Y0,Ke,Vq,Va,jab,hp,hp2,zv52,c2,jaa,jae,fo0,fo2,jgQ,jcN,jc5,jb4 _ p s (hp2 _),jdB _ p s (hp2 _),u88,jdC,jaK,jaG,jaE u9,K3,K8,mb99,jag,jba,jbb,jbf,ja5,jbd,jbI,jcM,jgR,jaZ,hc,row2,hrun,hsl,jgk,jhB,jd5 N.wordsW .unk jpM (by decide),h1,h2,h3]
 first | exact ⟨by kernel_rfl,trivial⟩ | exact ⟨by kernel_rfl,rfl,rfl⟩ | exact ⟨by kernel_rfl,rfl⟩
theorem nx_d (s:List UInt8)(hl:s.length≤2 ^ 30)(L:List AObj)(ts:List Nat)(p:Nat)(hp:L[p]? = some (.cells (scnL s) 84))(i:Nat)(hi:i<s.length)(hc:clsN (s.getD i 0).toNat=3)(e:Nat)(he:e=endW s [3] i)(t:Tok)(x:Int)(hv:numV (subS s i e) i=tokE t x) :
  X99 s L ts p i (.tup [.agg [.int .i64 t.kind,.str t.text,.int .i64 t.n,.int .i64 t.pos],.int .i64 e,.int .i64 x]):=by
 have c2:(0:Int)≤(i:Int)∧(i:Int)<(s.length:Int):=by omega
 have hp2:∀ o,(L++o)[p]? = some (.cells (scnL s) 84):=fun o=>jbR hp o
 have hb:=jcy s [3] i (by omega)
 have hb2:=jot s [3] i hi (by rw [hc]; decide)
 have hdg:=jsy s i (by omega)
 rw [← he] at hb hb2 hdg
 have hsl:=jel s i e hb.1 hb.2
 have hlen:=jcD s i e hb.2
 have hrun:=fun (o:List AObj)=>jcX s hl (L++o) ts p (hp2 o) [3] 1 rfl .full jdV (by decide) i (by omega)
 rw [← he] at hrun
 have hnum:=jor (subS s i e) i hdg (fun h=>by rw [h] at hlen; simp at hlen; omega) (by omega)
 rw [hv] at hnum
 unfold tokE YtpclebdkhpapjaaGreatDoor.T.aggT at hnum
 have hc2:((3:Int)=2)=False:=eq_false (by omega)
 refine ⟨[.cells [.int .i64 t.kind,.str t.text,.int .i64 t.n,.int .i64 t.pos] 47],?_⟩
 refine jbh rfl rfl at86 rfl (by simp [Tryz.f86]) (by simp [Tryz.f86]) (jar ?_)
 simp only [Tryz.f86,Ka,simprocAttr,Ys,Y0,Ke,Vq,Va,jab,hp,hp2,zv52,c2,jaa,jae,fo0,fo2,jgQ,jcN,jc5,jb4 _ p s (hp2 _),jdB _ p s (hp2 _),u88,jdC,jaK,jaG,jaE u9,K3,K8,mb99,jag,jba,jbb,jbf,ja5,jbd,jbI,jcM,jgR,jaZ,hc,hc2,row1,hrun,hsl,hnum,YW]
 first | exact ⟨by kernel_rfl,trivial⟩ | exact ⟨by kernel_rfl,rfl,rfl⟩ | exact ⟨by kernel_rfl,rfl⟩
theorem jyY (s:List UInt8)(hl:s.length≤2 ^ 30)(L:List AObj)(ts:List Nat)(p:Nat)(hp:L[p]? = some (.cells (scnL s) 84))(i:Nat)(hi:i<s.length)(hc:clsN (s.getD i 0).toNat=5)(e:Nat)(he:e=endW s [2,3,4] (i+1))(h1:¬ e<s.length) :
  X99 s L ts p i (.tup [.agg [.int .i64 0,.str [],.int .i64 0,.int .i64 0],.int .i64 e,.int .i64 11]):=by
 have c2:(0:Int)≤(i:Int)∧(i:Int)<(s.length:Int):=by omega
 have hp2:∀ o,(L++o)[p]? = some (.cells (scnL s) 84):=fun o=>jbR hp o
 have hb:=jcy s [2,3,4] (i+1) (by omega)
 rw [← he] at hb
 have hsl:=jel s (i+1) e hb.1 hb.2
 have hrun:=fun (o:List AObj)=>jcX s hl (L++o) ts p (hp2 o) [2,3,4] 3 rfl .full jdV (by decide) (i+1) (by omega)
 rw [← he] at hrun
 have hc2:((5:Int)=2)=False:=eq_false (by omega)
 have hc3:((5:Int)=3)=False:=eq_false (by omega)
 have e1:IntKind.i64.wrap ((i:Int)+1)=((i+1:Nat):Int):=by rw [wrap_i64 (by omega) (by omega)]; omega
 have g1:(s.length:Int)≤(e:Int):=by omega
 refine ⟨[.cells [.int .i64 0,.str [],.int .i64 0,.int .i64 0] 47],?_⟩
 refine jbh rfl rfl at86 rfl (by simp [Tryz.f86]) (by simp [Tryz.f86]) (jar ?_)
 simp only [Tryz.f86,Ka,simprocAttr,Ys,Y0,Ke,Vq,Va,jab,hp,hp2,zv52,c2,jaa,jae,fo0,fo2,jgQ,jcN,jc5,jb4 _ p s (hp2 _),jdB _ p s (hp2 _),u88,jdC,jaK,jaG,jaE u9,K3,K8,mb99,jag,jba,jbb,jbf,ja5,jbd,jbI,jcM,jgR,jaZ,hc,hc2,hc3,e1,row2,hrun,hsl,g1]
 first | exact ⟨by kernel_rfl,trivial⟩ | exact ⟨by kernel_rfl,rfl,rfl⟩ | exact ⟨by kernel_rfl,rfl⟩
theorem jyZ (s:List UInt8)(hl:s.length≤2 ^ 30)(L:List AObj)(ts:List Nat)(p:Nat)(hp:L[p]? = some (.cells (scnL s) 84))(i:Nat)(hi:i<s.length)(hc:clsN (s.getD i 0).toNat=5)(e:Nat)(he:e=endW s [2,3,4] (i+1))(h1:e<s.length)(h2:¬ (s.getD e 0).toNat=39) :
  X99 s L ts p i (.tup [.agg [.int .i64 0,.str [],.int .i64 0,.int .i64 0],.int .i64 e,.int .i64 11]):=by
 have c2:(0:Int)≤(i:Int)∧(i:Int)<(s.length:Int):=by omega
 have hp2:∀ o,(L++o)[p]? = some (.cells (scnL s) 84):=fun o=>jbR hp o
 have hb:=jcy s [2,3,4] (i+1) (by omega)
 rw [← he] at hb
 have hsl:=jel s (i+1) e hb.1 hb.2
 have hrun:=fun (o:List AObj)=>jcX s hl (L++o) ts p (hp2 o) [2,3,4] 3 rfl .full jdV (by decide) (i+1) (by omega)
 rw [← he] at hrun
 have hc2:((5:Int)=2)=False:=eq_false (by omega)
 have hc3:((5:Int)=3)=False:=eq_false (by omega)
 have e1:IntKind.i64.wrap ((i:Int)+1)=((i+1:Nat):Int):=by rw [wrap_i64 (by omega) (by omega)]; omega
 have g1:¬ (s.length:Int)≤(e:Int):=by omega
 have c3:(0:Int)≤(e:Int)∧(e:Int)<(s.length:Int):=by omega
 have g2:(((s.getD e 0).toNat:Int)=39)=False:=eq_false (by omega)
 refine ⟨[.cells [.int .i64 0,.str [],.int .i64 0,.int .i64 0] 47],?_⟩
 refine jbh rfl rfl at86 rfl (by simp [Tryz.f86]) (by simp [Tryz.f86]) (jar ?_)
 simp only [Tryz.f86,Ka,simprocAttr,Ys,Y0,Ke,Vq,Va,jab,hp,hp2,zv52,c2,jaa,jae,fo0,fo2,jgQ,jcN,jc5,jb4 _ p s (hp2 _),jdB _ p s (hp2 _),u88,jdC,jaK,jaG,jaE u9,K3,K8,mb99,jag,jba,jbb,jbf,ja5,jbd,jbI,jcM,jgR,jaZ,hc,hc2,hc3,e1,row2,hrun,hsl,g1,c3,g2]
 first | exact ⟨by kernel_rfl,trivial⟩ | exact ⟨by kernel_rfl,rfl,rfl⟩ | exact ⟨by kernel_rfl,rfl⟩
theorem jy0 (s:List UInt8)(hl:s.length≤2 ^ 30)(L:List AObj)(ts:List Nat)(p:Nat)(hp:L[p]? = some (.cells (scnL s) 84))(i:Nat)(hi:i<s.length)(hc:clsN (s.getD i 0).toNat=5)(e:Nat)(he:e=endW s [2,3,4] (i+1))(h1:e<s.length)(h2:(s.getD e 0).toNat=39)(h3:¬ N.IsName (subS s (i+1) e)) :
  X99 s L ts p i (.tup [.agg [.int .i64 0,.str [],.int .i64 0,.int .i64 0],.int .i64 e,.int .i64 11]):=by
 have c2:(0:Int)≤(i:Int)∧(i:Int)<(s.length:Int):=by omega
 have hp2:∀ o,(L++o)[p]? = some (.cells (scnL s) 84):=fun o=>jbR hp o
 have hb:=jcy s [2,3,4] (i+1) (by omega)
 rw [← he] at hb
 have hsl:=jel s (i+1) e hb.1 hb.2
 have hrun:=fun (o:List AObj)=>jcX s hl (L++o) ts p (hp2 o) [2,3,4] 3 rfl .full jdV (by decide) (i+1) (by omega)
 rw [← he] at hrun
 have hc2:((5:Int)=2)=False:=eq_false (by omega)
 have hc3:((5:Int)=3)=False:=eq_false (by omega)
 have e1:IntKind.i64.wrap ((i:Int)+1)=((i+1:Nat):Int):=by rw [wrap_i64 (by omega) (by omega)]; omega
 have g1:¬ (s.length:Int)≤(e:Int):=by omega
 have c3:(0:Int)≤(e:Int)∧(e:Int)<(s.length:Int):=by omega
 have g2:(((s.getD e 0).toNat:Int)=39)=True:=eq_true (by omega)
 have hnm:=N.name_call (subS s (i+1) e) (by rw [jcD _ _ _ hb.2]; omega)
 refine ⟨[.cells [.int .i64 0,.str [],.int .i64 0,.int .i64 0] 47],?_⟩
 refine jbh rfl rfl at86 rfl (by simp [Tryz.f86]) (by simp [Tryz.f86]) (jar ?_)
 simp only [Tryz.f86,Ka,simprocAttr,Ys,Y0,Ke,Vq,Va,jab,hp,hp2,zv52,c2,jaa,jae,fo0,fo2,jgQ,jcN,jc5,jb4 _ p s (hp2 _),jdB _ p s (hp2 _),u88,jdC,jaK,jaG,jaE u9,K3,K8,mb99,jag,jba,jbb,jbf,ja5,jbd,jbI,jcM,jgR,jaZ,hc,hc2,hc3,e1,row2,hrun,hsl,g1,c3,g2,hnm,h3]
 first | exact ⟨by kernel_rfl,trivial⟩ | exact ⟨by kernel_rfl,rfl,rfl⟩ | exact ⟨by kernel_rfl,rfl⟩
theorem jy1 (s:List UInt8)(hl:s.length≤2 ^ 30)(L:List AObj)(ts:List Nat)(p:Nat)(hp:L[p]? = some (.cells (scnL s) 84))(i:Nat)(hi:i<s.length)(hc:clsN (s.getD i 0).toNat=5)(e:Nat)(he:e=endW s [2,3,4] (i+1))(h1:e<s.length)(h2:(s.getD e 0).toNat=39)(h3:N.IsName (subS s (i+1) e)) :
  X99 s L ts p i (.tup [.agg [.int .i64 4,.str (subS s (i+1) e),.int .i64 0,.int .i64 i],.int .i64 (e+1:Nat),.int .i64 0]):=by
 have c2:(0:Int)≤(i:Int)∧(i:Int)<(s.length:Int):=by omega
 have hp2:∀ o,(L++o)[p]? = some (.cells (scnL s) 84):=fun o=>jbR hp o
 have hb:=jcy s [2,3,4] (i+1) (by omega)
 rw [← he] at hb
 have hsl:=jel s (i+1) e hb.1 hb.2
 have hrun:=fun (o:List AObj)=>jcX s hl (L++o) ts p (hp2 o) [2,3,4] 3 rfl .full jdV (by decide) (i+1) (by omega)
 rw [← he] at hrun
 have hc2:((5:Int)=2)=False:=eq_false (by omega)
 have hc3:((5:Int)=3)=False:=eq_false (by omega)
 have e1:IntKind.i64.wrap ((i:Int)+1)=((i+1:Nat):Int):=by rw [wrap_i64 (by omega) (by omega)]; omega
 have g1:¬ (s.length:Int)≤(e:Int):=by omega
 have c3:(0:Int)≤(e:Int)∧(e:Int)<(s.length:Int):=by omega
 have g2:(((s.getD e 0).toNat:Int)=39)=True:=eq_true (by omega)
 have hnm:=N.name_call (subS s (i+1) e) (by rw [jcD _ _ _ hb.2]; omega)
 have e3:IntKind.i64.wrap ((e:Int)+1)=((e+1:Nat):Int):=by rw [wrap_i64 (by omega) (by omega)]; omega
 refine ⟨[.cells [.int .i64 4,.str (subS s (i+1) e),.int .i64 0,.int .i64 i] 47],?_⟩
 refine jbh rfl rfl at86 rfl (by simp [Tryz.f86]) (by simp [Tryz.f86]) (jar ?_)
 simp only [Tryz.f86,Ka,simprocAttr,Ys,Y0,Ke,Vq,Va,jab,hp,hp2,zv52,c2,jaa,jae,fo0,fo2,jgQ,jcN,jc5,jb4 _ p s (hp2 _),jdB _ p s (hp2 _),u88,jdC,jaK,jaG,jaE u9,K3,K8,mb99,jag,jba,jbb,jbf,ja5,jbd,jbI,jcM,jgR,jaZ,hc,hc2,hc3,e1,row2,hrun,hsl,g1,c3,g2,hnm,h3,e3,jgk]
 first | exact ⟨by kernel_rfl,trivial⟩ | exact ⟨by kernel_rfl,rfl,rfl⟩ | exact ⟨by kernel_rfl,rfl⟩
theorem jy2 (s:List UInt8)(hl:s.length≤2 ^ 30)(L:List AObj)(ts:List Nat)(p:Nat)(hp:L[p]? = some (.cells (scnL s) 84))(i:Nat)(hi:i<s.length)(k2:¬ clsN (s.getD i 0).toNat=2)(k3:¬ clsN (s.getD i 0).toNat=3)(k5:¬ clsN (s.getD i 0).toNat=5)(x:List UInt8)(hx:sgW s i 2=(x,false)) :
  X99 s L ts p i (.tup [.agg [.int .i64 0,.str [],.int .i64 0,.int .i64 0],.int .i64 i,.int .i64 11]):=by
 have c2:(0:Int)≤(i:Int)∧(i:Int)<(s.length:Int):=by omega
 have hp2:∀ o,(L++o)[p]? = some (.cells (scnL s) 84):=fun o=>jbR hp o
 have hsg:=fun (o:List AObj)=>jjS s hl (L++o) ts p (hp2 o) i (by omega)
 have hlen:=jou s i 2
 rw [hx] at hsg hlen
 simp only [sgV] at hsg hlen
 refine ⟨[.cells [.int .i64 0,.str [],.int .i64 0,.int .i64 0] 47],?_⟩
 refine jbh rfl rfl at86 rfl (by simp [Tryz.f86]) (by simp [Tryz.f86]) (jar ?_)
 simp only [Tryz.f86,Ka,simprocAttr,Ys,Y0,Ke,Vq,Va,jab,hp,hp2,zv52,c2,jaa,jae,fo0,fo2,jgQ,jcN,jc5,jb4 _ p s (hp2 _),jdB _ p s (hp2 _),u88,jdC,jaK,jaG,jaE u9,K3,K8,mb99,jag,jba,jbb,jbf,ja5,jbd,jbI,jcM,jgR,jaZ,k2,k3,k5,hsg]
 first | exact ⟨by kernel_rfl,trivial⟩ | exact ⟨by kernel_rfl,rfl,rfl⟩ | exact ⟨by kernel_rfl,rfl⟩
theorem jy3 (s:List UInt8)(hl:s.length≤2 ^ 30)(L:List AObj)(ts:List Nat)(p:Nat)(hp:L[p]? = some (.cells (scnL s) 84))(i:Nat)(hi:i<s.length)(k2:¬ clsN (s.getD i 0).toNat=2)(k3:¬ clsN (s.getD i 0).toNat=3)(k5:¬ clsN (s.getD i 0).toNat=5)(x:List UInt8)(hx:sgW s i 2=(x,true)) :
  X99 s L ts p i (.tup [.agg [.int .i64 5,.str x,.int .i64 0,.int .i64 i],.int .i64 (i+x.length:Nat),.int .i64 0]):=by
 have c2:(0:Int)≤(i:Int)∧(i:Int)<(s.length:Int):=by omega
 have hp2:∀ o,(L++o)[p]? = some (.cells (scnL s) 84):=fun o=>jbR hp o
 have hsg:=fun (o:List AObj)=>jjS s hl (L++o) ts p (hp2 o) i (by omega)
 have hlen:=jou s i 2
 rw [hx] at hsg hlen
 simp only [sgV] at hsg hlen
 have e1:IntKind.i64.wrap ((i:Int)+(x.length:Int))=((i+x.length:Nat):Int):=by rw [wrap_i64 (by omega) (by omega)]; omega
 refine ⟨[.cells [.int .i64 5,.str x,.int .i64 0,.int .i64 i] 47],?_⟩
 refine jbh rfl rfl at86 rfl (by simp [Tryz.f86]) (by simp [Tryz.f86]) (jar ?_)
 simp only [Tryz.f86,Ka,simprocAttr,Ys,Y0,Ke,Vq,Va,jab,hp,hp2,zv52,c2,jaa,jae,fo0,fo2,jgQ,jcN,jc5,jb4 _ p s (hp2 _),jdB _ p s (hp2 _),u88,jdC,jaK,jaG,jaE u9,K3,K8,mb99,jag,jba,jbb,jbf,ja5,jbd,jbI,jcM,jgR,jaZ,k2,k3,k5,hsg,e1,jgk]
 first | exact ⟨by kernel_rfl,trivial⟩ | exact ⟨by kernel_rfl,rfl,rfl⟩ | exact ⟨by kernel_rfl,rfl⟩
def Tok.zero:Tok:=⟨0,[],0,0⟩
def jdh (s:List UInt8)(i:Nat):Tok × Nat × Int :=
 if clsN (s.getD i 0).toNat=2 then
  (⟨if subS s i (endW s [2,3,4] i)∈N.wordsW then 2 else 1,subS s i (endW s [2,3,4] i),0,i⟩,endW s [2,3,4] i,if 20<endW s [2,3,4] i - i then 19 else 0)
 else if clsN (s.getD i 0).toNat=3 then
  if 1<(subS s i (endW s [3] i)).length∧((subS s i (endW s [3] i)).getD 0 0).toNat=48 then (.zero,endW s [3] i,11)
  else if 1000000000<decV 0 (subS s i (endW s [3] i)) then (.zero,endW s [3] i,2)
  else (⟨3,subS s i (endW s [3] i),decV 0 (subS s i (endW s [3] i)),i⟩,endW s [3] i,0)
 else if clsN (s.getD i 0).toNat=5 then
  if endW s [2,3,4] (i+1)<s.length∧(s.getD (endW s [2,3,4] (i+1)) 0).toNat=39∧N.IsName (subS s (i+1) (endW s [2,3,4] (i+1))) then (⟨4,subS s (i+1) (endW s [2,3,4] (i+1)),0,i⟩,endW s [2,3,4] (i+1)+1,0)
  else (.zero,endW s [2,3,4] (i+1),11)
 else if (sgW s i 2).2=true then (⟨5,(sgW s i 2).1,0,i⟩,i+(sgW s i 2).1.length,0)
 else (.zero,i,11)
def jsz (r:Tok × Nat × Int):V:=.tup [.agg [.int .i64 r.1.kind,.str r.1.text,.int .i64 r.1.n,.int .i64 r.1.pos],.int .i64 r.2.1,.int .i64 r.2.2]
theorem jhC (s:List UInt8)(hl:s.length≤2 ^ 30)(L:List AObj)(ts:List Nat)(p:Nat)(hp:L[p]? = some (.cells (scnL s) 84))(i:Nat)(hi:i<s.length) :
  X99 s L ts p i (jsz (jdh s i)):=by
 unfold jdh
 by_cases k2:clsN (s.getD i 0).toNat=2
 ·rw [Km k2]
  by_cases h1:subS s i (endW s [2,3,4] i)∈N.wordsW
  ·rw [Km h1]
   by_cases h2:20<endW s [2,3,4] i - i
   ·rw [Km h2]; exact jxo s hl L ts p hp i hi k2 _ _ rfl rfl h1 h2
   ·rw [Kn h2]; exact jxn s hl L ts p hp i hi k2 _ _ rfl rfl h1 h2
  ·rw [Kn h1]
   by_cases h2:20<endW s [2,3,4] i - i
   ·rw [Km h2]; exact jxm s hl L ts p hp i hi k2 _ _ rfl rfl h1 h2
   ·rw [Kn h2]; exact jxl s hl L ts p hp i hi k2 _ _ rfl rfl h1 h2
 rw [Kn k2]
 by_cases k3:clsN (s.getD i 0).toNat=3
 ·rw [Km k3]
  have hd:=fun t x=>nx_d s hl L ts p hp i hi k3 _ rfl t x
  unfold numV at hd
  by_cases h1:1<(subS s i (endW s [3] i)).length∧((subS s i (endW s [3] i)).getD 0 0).toNat=48
  ·rw [Km h1] at hd ⊢; exact hd _ _ rfl
  ·rw [Kn h1] at hd ⊢
   by_cases h2:1000000000<decV 0 (subS s i (endW s [3] i))
   ·rw [Km h2] at hd ⊢; exact hd _ _ rfl
   ·rw [Kn h2] at hd ⊢; exact hd _ _ rfl
 rw [Kn k3]
 by_cases k5:clsN (s.getD i 0).toNat=5
 ·rw [Km k5]
  by_cases h:endW s [2,3,4] (i+1)<s.length∧(s.getD (endW s [2,3,4] (i+1)) 0).toNat=39∧N.IsName (subS s (i+1) (endW s [2,3,4] (i+1)))
  ·rw [Km h]; exact jy1 s hl L ts p hp i hi k5 _ rfl h.1 h.2.1 h.2.2
  ·rw [Kn h]
   by_cases h1:endW s [2,3,4] (i+1)<s.length
   ·by_cases h2:(s.getD (endW s [2,3,4] (i+1)) 0).toNat=39
    ·exact jy0 s hl L ts p hp i hi k5 _ rfl h1 h2 fun h3=>h ⟨h1,h2,h3⟩
    ·exact jyZ s hl L ts p hp i hi k5 _ rfl h1 h2
   ·exact jyY s hl L ts p hp i hi k5 _ rfl h1
 rw [Kn k5]
 cases hb:(sgW s i 2).2
 ·rw [Kn (by simp)]
  exact jy2 s hl L ts p hp i hi k2 k3 k5 (sgW s i 2).1 (by rw [← hb])
 ·rw [Km rfl]
  exact jy3 s hl L ts p hp i hi k2 k3 k5 (sgW s i 2).1 (by rw [← hb])
theorem jlM (s:List UInt8)(i:Nat)(hi:i<s.length):i≤(jdh s i).2.1∧(jdh s i).2.1≤s.length∧((jdh s i).2.2=0→i<(jdh s i).2.1):=by
 have b1:=jcy s [2,3,4] i (by omega)
 have b2:=jcy s [3] i (by omega)
 have b3:=jcy s [2,3,4] (i+1) (by omega)
 unfold jdh
 by_cases k2:clsN (s.getD i 0).toNat=2
 ·rw [Km k2]
  have:=jot s [2,3,4] i hi (by rw [k2]; decide)
  exact ⟨b1.1,b1.2,fun _=>this⟩
 rw [Kn k2]
 by_cases k3:clsN (s.getD i 0).toNat=3
 ·rw [Km k3]
  have:=jot s [3] i hi (by rw [k3]; decide)
  split
  ·exact ⟨b2.1,b2.2,fun _=>this⟩
  ·split <;> exact ⟨b2.1,b2.2,fun _=>this⟩
 rw [Kn k3]
 by_cases k5:clsN (s.getD i 0).toNat=5
 ·rw [Km k5]
  split
  ·rename_i h; exact ⟨by simp only; omega,by simp only; omega,fun _=>by simp only; omega⟩
  ·exact ⟨by simp only; omega,by simp only; omega,fun _=>by simp only; omega⟩
 rw [Kn k5]
 split
 ·rename_i h
  have:∀ w,(sgW s i w).2=true→1≤(sgW s i w).1.length∧i+(sgW s i w).1.length≤s.length:=by
   intro w
   induction w with
   | zero=>intro h; simp [sgW] at h
   | succ w ih =>
    simp only [sgW]
    split
    ·rename_i h; intro _; simp only [jcD _ _ _ h.1]; omega
    ·exact ih
  have:=this 2 h
  exact ⟨by simp only; omega,by simp only; omega,fun _=>by simp only; omega⟩
 ·exact ⟨by simp only; omega,by simp only; omega,fun h=>by simp at h⟩
def jia (s:List UInt8):Nat→Nat→Int→List Tok→List Tok × Option (Int × Nat)
 | 0,_,_,acc=>(acc,none)
 | m+1,i,last,acc =>
  if i<s.length then
   if (jdh s i).2.2=0 then
    if (jdh s i).1.kind ≠ 5∧last=i then (acc,some (11,i))
    else jia s m (endW s [1] (jdh s i).2.1) (if (jdh s i).1.kind ≠ 5 then (jdh s i).2.1 else -1) (acc++[(jdh s i).1])
   else (acc,some ((jdh s i).2.2,i))
  else (acc,none)
def tokV (t:Tok):V:=.agg [.int .i64 t.kind,.str t.text,.int .i64 t.n,.int .i64 t.pos]
structure Yl (y:V) (base:Nat) (p b:Nat) (s:List UInt8) (P:List Tok→S→Prop) (R:Int→Nat→S→Prop):Prop where
 low:∀ acc σ σ',(∀ q,q<base→σ'.heap[q]? = σ.heap[q]?)→σ'.toks=σ.toks→base≤σ'.heap.length→P acc σ→P acc σ'
 len:∀ acc σ,P acc σ→base≤σ.heap.length
 hp:∀ acc σ,P acc σ→σ.heap[p]? = some (.cells (scnL s) 84)
 hb:∀ acc σ,P acc σ→σ.heap[b]? = some (.cells [.ptr p 0] 79)
 ok:∀ acc σ t,acc.length≤4000→P acc σ→∃ σ',jdf env (ev env) y [tokV t,.int .i64 0] σ=some (.bool true,σ')∧P (acc++[t]) σ'∧∀ q,base≤q→q<σ.heap.length→σ'.heap[q]? = σ.heap[q]?
 err:∀ acc σ i x,x ≠ 0→acc.length≤4000→P acc σ→∃ σ',jdf env (ev env) y [tokV ⟨0,[],0,(i:Nat)⟩,.int .i64 x] σ=some (.bool false,σ')∧R x i σ'
theorem at84:env.P.funcs[84]? = some Tryz.f84:=by kernel_rfl
theorem row3:rowO env 139 1 [(0,.int .i64 1)]=some (.row (([1]:List Int).map (V.int .i64)) 1 .full):=by kernel_rfl
theorem mb97 (r:Nat):env.mutb 84 r=false:=rfl
theorem jpN (p:Int):jb9 env 47 [(3,.int .i64 p)]=some (.agg [.int .i64 0,.str [],.int .i64 0,.int .i64 p]):=by kernel_rfl
theorem jm2 (h:List AObj)(p:V):jbj env h 3 p=(jai h 1 p).bind (·[0]?):=jaX (by kernel_rfl)
theorem jib (h:List AObj)(p:V):jbj env h 79 p=(jai h 1 p).bind (·[0]?):=jaX (by kernel_rfl)
theorem jiW (L:List AObj)(a b c d:V)(t:TypeId):(jai (L++[.cells [a,b,c,d] t]) 1 (.ptr L.length 0)).bind (·[0]?)=some a:=by
 rw [YA,jbI]; rfl
theorem jcQ {h:List AObj}{b:Nat}{v:V}{t:TypeId}(hb:h[b]? = some (.cells [v] t)):(jai h 1 (.ptr b 0)).bind (·[0]?)=some v:=by
 rw [YA,hb]; rfl
theorem jxp {y:V}{base p b:Nat}{s:List UInt8}{P:List Tok→S→Prop}{R:Int→Nat→S→Prop}(hY:Yl y base p b s P R)(hl:s.length≤2 ^ 30)(Q:Post)(T:Tm)(L:List AObj)(ts:List Nat)(acc:List Tok)(ha:acc.length≤4000)(hP:P acc ⟨L,ts⟩)(i:Nat)(hi:i<s.length)(last:Int)
  (t0:T 0=y) (t1:T 1=.ptr b 0) (t3:T 3=.int .i64 last) (t4:T 4=.int .i64 (i:Nat))
  (t:Tok) (e:Nat) (hn:jdh s i=(t,e,0)) (hk:t.kind=5)
  (h:∀ T' σ',T' 0=y→T' 1=.ptr b 0→T' 3=.int .i64 (-1)→T' 4=.int .i64 (endW s [1] e:Nat)→P (acc++[t]) σ'→Q.norm T' [] σ') :
  G env 84 none 54 Q [] (jfz 0 (jax Tryz.f84)) T [] ⟨L,ts⟩:=by
 simp only [jax,Tryz.f84,Kv,jfz,blkC,Option.or,Nat.reduceEqDiff,Kr,Ks,reduceIte]
 have he:=jlM s i hi
 rw [hn] at he
 simp only at he
 have c1:(i:Int)<(s.length:Int):=by omega
 have hb1:=jcQ (hY.hb _ _ hP)
 have hs1:=jb4 L p s (hY.hp _ _ hP)
 simp only at hb1 hs1
 have hbl:base≤L.length:=hY.len _ _ hP
 obtain ⟨o,hX⟩:=jhC s hl L ts p (hY.hp _ _ hP) i hi
 rw [hn] at hX
 simp only [jsz] at hX
 have hlow:∀ c q,q<base→(L++o++[c]:List AObj)[q]? = L[q]? := fun c q hq=>by
  rw [Xa,K0 (by omega)]
 have hlen:L.length≤(L++o).length:=by simp
 have hPc:∀ c,P acc ⟨L++o++[c],ts⟩:=fun c=>hY.low acc ⟨L,ts⟩ ⟨L++o++[c],ts⟩ (hlow c) rfl (by simp only [Ku,K1] at *; omega) hP
 generalize L++o=L1 at *
 obtain ⟨⟨L2,ts2⟩,hy,hP2,hfr⟩:=hY.ok acc ⟨L1++[.cells [.int .i64 t.kind,.str t.text,.int .i64 t.n,.int .i64 t.pos] 47],ts⟩ t ha (hPc _)
 unfold tokV at hy
 have hb2:=jcQ (hY.hb _ _ hP2)
 simp only at hb2 hfr
 have hcell:L2[L1.length]? = some (.cells [.int .i64 t.kind,.str t.text,.int .i64 t.n,.int .i64 t.pos] 47):=by
  rw [hfr L1.length (by omega) (by simp)]; simp
 have hk3:(jai L2 1 (.ptr L1.length 0)).bind (·[0]?)=some (.int .i64 t.kind):=by rw [YA,hcell]; rfl
 have hrun:=jcX s hl L2 ts2 p (hY.hp _ _ hP2) [1] 1 rfl .full jdV (by decide) e he.2.1
 rw [hk] at hy hk3
 simp only [Ka,simprocAttr,Ys,Y0,Ke,Vq,Va,jab,t0,t1,t3,t4,c1,jib,jcN,jm2,hb1,hs1,jaa,jae,fo0,jgQ,jaK,hX,zv52,YW,jcM,jbI,ja5,jbd,jgR,jiW,hk,hy,hb2,hk3,mb97,jag,row3,hrun]
 refine h _ _ ?_ ?_ ?_ ?_ hP2 <;> first | exact t0 | exact t1 | rfl
theorem jxq {y:V}{base p b:Nat}{s:List UInt8}{P:List Tok→S→Prop}{R:Int→Nat→S→Prop}(hY:Yl y base p b s P R)(hl:s.length≤2 ^ 30)(Q:Post)(T:Tm)(L:List AObj)(ts:List Nat)(acc:List Tok)(ha:acc.length≤4000)(hP:P acc ⟨L,ts⟩)(i:Nat)(hi:i<s.length)(last:Int)
  (t0:T 0=y) (t1:T 1=.ptr b 0) (t3:T 3=.int .i64 last) (t4:T 4=.int .i64 (i:Nat))
  (t:Tok) (e:Nat) (hn:jdh s i=(t,e,0)) (hk:¬ t.kind=5) (hk2:¬ last=(i:Nat))
  (h:∀ T' σ',T' 0=y→T' 1=.ptr b 0→T' 3=.int .i64 (e)→T' 4=.int .i64 (endW s [1] e:Nat)→P (acc++[t]) σ'→Q.norm T' [] σ') :
  G env 84 none 54 Q [] (jfz 0 (jax Tryz.f84)) T [] ⟨L,ts⟩:=by
 simp only [jax,Tryz.f84,Kv,jfz,blkC,Option.or,Nat.reduceEqDiff,Kr,Ks,reduceIte]
 have he:=jlM s i hi
 rw [hn] at he
 simp only at he
 have c1:(i:Int)<(s.length:Int):=by omega
 have hb1:=jcQ (hY.hb _ _ hP)
 have hs1:=jb4 L p s (hY.hp _ _ hP)
 simp only at hb1 hs1
 have hbl:base≤L.length:=hY.len _ _ hP
 obtain ⟨o,hX⟩:=jhC s hl L ts p (hY.hp _ _ hP) i hi
 rw [hn] at hX
 simp only [jsz] at hX
 have hlow:∀ c q,q<base→(L++o++[c]:List AObj)[q]? = L[q]? := fun c q hq=>by
  rw [Xa,K0 (by omega)]
 have hlen:L.length≤(L++o).length:=by simp
 have hPc:∀ c,P acc ⟨L++o++[c],ts⟩:=fun c=>hY.low acc ⟨L,ts⟩ ⟨L++o++[c],ts⟩ (hlow c) rfl (by simp only [Ku,K1] at *; omega) hP
 generalize L++o=L1 at *
 obtain ⟨⟨L2,ts2⟩,hy,hP2,hfr⟩:=hY.ok acc ⟨L1++[.cells [.int .i64 t.kind,.str t.text,.int .i64 t.n,.int .i64 t.pos] 47],ts⟩ t ha (hPc _)
 unfold tokV at hy
 have hb2:=jcQ (hY.hb _ _ hP2)
 simp only at hb2 hfr
 have hcell:L2[L1.length]? = some (.cells [.int .i64 t.kind,.str t.text,.int .i64 t.n,.int .i64 t.pos] 47):=by
  rw [hfr L1.length (by omega) (by simp)]; simp
 have hk3:(jai L2 1 (.ptr L1.length 0)).bind (·[0]?)=some (.int .i64 t.kind):=by rw [YA,hcell]; rfl
 have hrun:=jcX s hl L2 ts2 p (hY.hp _ _ hP2) [1] 1 rfl .full jdV (by decide) e he.2.1
 simp only [Ka,simprocAttr,Ys,Y0,Ke,Vq,Va,jab,t0,t1,t3,t4,c1,jib,jcN,jm2,hb1,hs1,jaa,jae,fo0,jgQ,jaK,hX,zv52,YW,jcM,jbI,ja5,jbd,jgR,jiW,hk,hk2,hy,hb2,hk3,mb97,jag,row3,hrun]
 refine h _ _ ?_ ?_ ?_ ?_ hP2 <;> first | exact t0 | exact t1 | rfl
theorem jxr {y:V}{base p b:Nat}{s:List UInt8}{P:List Tok→S→Prop}{R:Int→Nat→S→Prop}(hY:Yl y base p b s P R)(hl:s.length≤2 ^ 30)(Q:Post)(T:Tm)(L:List AObj)(ts:List Nat)(acc:List Tok)(ha:acc.length≤4000)(hP:P acc ⟨L,ts⟩)(i:Nat)(hi:i<s.length)(last:Int)
  (t0:T 0=y) (t1:T 1=.ptr b 0) (t3:T 3=.int .i64 last) (t4:T 4=.int .i64 (i:Nat))
  (t:Tok) (e:Nat) (x:Int) (hx:¬ x=0) (hn:jdh s i=(t,e,x)) (h:∀ T' σ',R x i σ'→Q.ret T' [] σ') :
  G env 84 none 54 Q [] (jfz 0 (jax Tryz.f84)) T [] ⟨L,ts⟩:=by
 simp only [jax,Tryz.f84,Kv,jfz,blkC,Option.or,Nat.reduceEqDiff,Kr,Ks,reduceIte]
 have c1:(i:Int)<(s.length:Int):=by omega
 have hb1:=jcQ (hY.hb _ _ hP)
 have hs1:=jb4 L p s (hY.hp _ _ hP)
 simp only at hb1 hs1
 have hbl:base≤L.length:=hY.len _ _ hP
 obtain ⟨o,hX⟩:=jhC s hl L ts p (hY.hp _ _ hP) i hi
 rw [hn] at hX
 simp only [jsz] at hX
 have hlow:∀ c q,q<base→(L++o++[c]:List AObj)[q]? = L[q]? := fun c q hq=>by
  rw [Xa,K0 (by omega)]
 have hlen:L.length≤(L++o).length:=by simp
 have hPc:∀ c,P acc ⟨L++o++[c],ts⟩:=fun c=>hY.low acc ⟨L,ts⟩ ⟨L++o++[c],ts⟩ (hlow c) rfl (by simp only [Ku,K1] at *; omega) hP
 generalize L++o=L1 at *
 obtain ⟨⟨L2,ts2⟩,hy,hR⟩:=hY.err acc ⟨L1++[.cells [.int .i64 0,.str [],.int .i64 0,.int .i64 i] 47],ts⟩ i x hx ha (hPc _)
 unfold tokV at hy
 simp only [Ka,simprocAttr,Ys,Y0,Ke,Vq,Va,jab,t0,t1,t3,t4,c1,jib,jcN,jm2,hb1,hs1,jaa,jae,fo0,jgQ,jaK,hX,zv52,YW,jcM,jbI,ja5,jbd,jgR,jiW,hx,hy,jpN]
 exact h _ _ hR
theorem jxs {y:V}{base p b:Nat}{s:List UInt8}{P:List Tok→S→Prop}{R:Int→Nat→S→Prop}(hY:Yl y base p b s P R)(hl:s.length≤2 ^ 30)(Q:Post)(T:Tm)(L:List AObj)(ts:List Nat)(acc:List Tok)(ha:acc.length≤4000)(hP:P acc ⟨L,ts⟩)(i:Nat)(hi:i<s.length)(last:Int)
  (t0:T 0=y) (t1:T 1=.ptr b 0) (t3:T 3=.int .i64 last) (t4:T 4=.int .i64 (i:Nat))
  (t:Tok) (e:Nat) (hn:jdh s i=(t,e,0)) (hk:¬ t.kind=5) (hk2:last=(i:Nat)) (h:∀ T' σ',R 11 i σ'→Q.ret T' [] σ') :
  G env 84 none 54 Q [] (jfz 0 (jax Tryz.f84)) T [] ⟨L,ts⟩:=by
 simp only [jax,Tryz.f84,Kv,jfz,blkC,Option.or,Nat.reduceEqDiff,Kr,Ks,reduceIte]
 have c1:(i:Int)<(s.length:Int):=by omega
 have hb1:=jcQ (hY.hb _ _ hP)
 have hs1:=jb4 L p s (hY.hp _ _ hP)
 simp only at hb1 hs1
 have hbl:base≤L.length:=hY.len _ _ hP
 obtain ⟨o,hX⟩:=jhC s hl L ts p (hY.hp _ _ hP) i hi
 rw [hn] at hX
 simp only [jsz] at hX
 have hlow:∀ c q,q<base→(L++o++[c]:List AObj)[q]? = L[q]? := fun c q hq=>by
  rw [Xa,K0 (by omega)]
 have hlen:L.length≤(L++o).length:=by simp
 have hPc:∀ c,P acc ⟨L++o++[c],ts⟩:=fun c=>hY.low acc ⟨L,ts⟩ ⟨L++o++[c],ts⟩ (hlow c) rfl (by simp only [Ku,K1] at *; omega) hP
 generalize L++o=L1 at *
 obtain ⟨⟨L2,ts2⟩,hy,hR⟩:=hY.err acc ⟨L1++[.cells [.int .i64 0,.str [],.int .i64 0,.int .i64 i] 47],ts⟩ i 11 (by decide) ha (hPc _)
 unfold tokV at hy
 simp only [Ka,simprocAttr,Ys,Y0,Ke,Vq,Va,jab,t0,t1,t3,t4,c1,jib,jcN,jm2,hb1,hs1,jaa,jae,fo0,jgQ,jaK,hX,zv52,YW,jcM,jbI,ja5,jbd,jgR,jiW,hk,hk2,hy,jpN]
 exact h _ _ hR
def jxt (P:List Tok→S→Prop)(R:Int→Nat→S→Prop)(r:List Tok × Option (Int × Nat))(σ:S):Prop :=
 match r.2 with
 | none=>P r.1 σ
 | some (x,i)=>R x i σ
theorem jov {y:V}{base p b:Nat}{s:List UInt8}{P:List Tok→S→Prop}{R:Int→Nat→S→Prop}(hY:Yl y base p b s P R)(hl:s.length≤4000)(σ:S)(hP:P [] σ) :
  ∃ v σ',jas env (ev env) 84 [y,.ptr b 0] σ=some (v,σ')∧jxt P R (jia s (s.length+1) (endW s [1] 0) (-1) []) σ':=by
 refine jck rfl rfl at84 rfl (by simp [Tryz.f84]) (by simp [Tryz.f84]) (jar ?_)
 obtain ⟨L,ts⟩:=σ
 have hb1:=jcQ (hY.hb _ _ hP)
 simp only at hb1
 have hl2:s.length≤2 ^ 30:=by omega
 have hrun:jas env (ev env) 85 [.ptr p 0,.int .i64 0,.row (([1]:List Int).map (V.int .i64)) 1 .full] ⟨L,ts⟩=some (.int .i64 (endW s [1] 0:Nat),⟨L,ts⟩):=jcX s hl2 L ts p (hY.hp _ _ hP) [1] 1 rfl .full jdV (by decide) 0 (Ql _)
 have hend:=jcy s [1] 0 (Ql _)
 simp only [Tryz.f84,Ka,simprocAttr,Ys,Y0,Ke,Vq,jib,hb1,mb97,jag,row3,hrun]
 generalize hfin:jia s (s.length+1) (endW s [1] 0) (-1) []=fin
 refine jbu (fun m T D σ=>D=[]∧T 0=y∧T 1=.ptr b 0∧∃ (i:Nat) (last:Int) (acc:List Tok) (fuel:Nat),T 3=.int .i64 last∧T 4=.int .i64 i∧i≤s.length∧acc.length≤i∧m=s.length - i∧P acc σ∧s.length - i<fuel∧jia s fuel i last acc=fin) ?_ (s.length - endW s [1] 0) _ _ _ ?_
 rotate_left
 ·exact ⟨rfl,rfl,rfl,endW s [1] 0,-1,[],s.length+1,rfl,rfl,hend.2,Ql _,rfl,hP,by omega,hfin⟩
 clear hfin hrun hb1 hP hend L ts
 rintro m T D ⟨L,ts⟩ ⟨rfl,t0,t1,i,last,acc,fuel,t3,t4,hi,hacc,rfl,hP,hf,hs⟩
 by_cases hlt:i<s.length
 ·obtain ⟨f,rfl⟩:∃ f,fuel=f+1:=⟨fuel - 1,by omega⟩
  have he:=jlM s i hlt
  simp only [jia,Km hlt] at hs
  obtain ⟨t,e,x,hn⟩:∃ t e x,jdh s i=(t,e,x):=⟨_,_,_,rfl⟩
  rw [hn] at he hs
  simp only at he hs
  have h1:=jcy s [1] e he.2.1
  by_cases hx:x=0
  ·subst hx
   rw [Km rfl] at hs
   have hie:=he.2.2 rfl
   by_cases hk:t.kind=5
   ·rw [Kn (fun h=>h.1 hk),Kn (fun h=>h hk)] at hs
    exact jxp hY hl2 _ T L ts acc (by omega) hP i hlt last t0 t1 t3 t4 t e hn hk fun T' σ' a0 a1 a3 a4 hP2 =>
     ⟨s.length - endW s [1] e,by omega,rfl,a0,a1,endW s [1] e,-1,acc++[t],f,a3,a4,h1.2,by simp; omega,rfl,hP2,by omega,hs⟩
   ·by_cases hk2:last=(i:Int)
    ·rw [Km ⟨hk,hk2⟩] at hs
     subst hs
     refine jxs hY hl2 _ T L ts acc (by omega) hP i hlt last t0 t1 t3 t4 t e hn hk hk2 fun T' σ' hR => ?_
     exact ⟨σ'.heap,rfl,[],rfl,hR⟩
    ·rw [Kn (fun h=>hk2 h.2),Km hk] at hs
     exact jxq hY hl2 _ T L ts acc (by omega) hP i hlt last t0 t1 t3 t4 t e hn hk hk2 fun T' σ' a0 a1 a3 a4 hP2 =>
      ⟨s.length - endW s [1] e,by omega,rfl,a0,a1,endW s [1] e,e,acc++[t],f,a3,a4,h1.2,by simp; omega,rfl,hP2,by omega,hs⟩
  ·rw [Kn hx] at hs
   subst hs
   refine jxr hY hl2 _ T L ts acc (by omega) hP i hlt last t0 t1 t3 t4 t e x hx hn fun T' σ' hR => ?_
   exact ⟨σ'.heap,rfl,[],rfl,hR⟩
 ·obtain ⟨f,rfl⟩:∃ f,fuel=f+1:=⟨fuel - 1,by omega⟩
  have hi2:i=s.length:=by omega
  subst hi2
  simp only [jia,Kn hlt] at hs
  subst hs
  have c1:¬ (s.length:Int)<(s.length:Int):=by omega
  have hb1:=jcQ (hY.hb _ _ hP)
  have hs1:=jb4 L p s (hY.hp _ _ hP)
  simp only at hb1 hs1
  refine jar ?_
  simp only [Ka,simprocAttr,Ys,Y0,Ke,Vq,t0,t1,t3,t4,c1,jib,jcN,hb1,hs1,jaa,jae,fo0,jaK]
  exact hP
theorem e45:jfw env 43=some 47:=by kernel_rfl
theorem s52:sz env 47=some 4:=by kernel_rfl
theorem by52:(bys env 47).isSome=true∧(bys env 47).getD 0≤2 ^ 20:=by
 have h:(match bys env 47 with | some n=>Nat.ble n (2 ^ 20) | none=>false)=true:=by kernel_rfl
 split at h
 ·rename_i n hn; rw [hn]; exact ⟨rfl,Qn h⟩
 ·simp at h
theorem zn52:jj8 env 47=some 4:=by kernel_rfl
inductive GrowT (ts:List Nat):V→List Tok→Prop
 | nil:GrowT ts .nilsl []
 | tok (cs:List Tok) (k e:Nat) (h:ts[k]? = some e) (hne:cs ≠ []):GrowT ts (.row (flatT cs) cs.length (.tok k e 4)) cs
theorem jsA (cs:List Tok)(c:Tok):flatT (cs++[c])=flatT cs++[.int .i64 c.kind,.str c.text,.int .i64 c.n,.int .i64 c.pos]:=by simp [flatT,Tok.cells]
theorem jm3:∀ cs:List Tok,(flatT cs).length=cs.length * 4
 | []=>rfl
 | c::cs=>by rw [jk3]; simp only [K1,jm3 cs]; omega
theorem jv3 {T:Tm}{σ:S}{x:Operand}:opT env false T σ (.buildSlice 43 1 #[(0,x)])=(jaL env T x).bind fun v=>if v.cells.length=4 then some (.row v.cells 1 .full,σ) else none:=by
 unfold opT
 simp only [jbn,jbs,jbD,jdt]
 cases jaL env T x with
 | none=>rfl
 | some v =>
  simp only [Kw,Kk,e45,s52,zv52]
  by_cases hv:v.cells.length=4
  ·simp [jhH,hv,YW]
  ·simp [jhH,hv,YW]
theorem GrowT.append {hp:List AObj}{ts:List Nat}{v:V}{cs:List Tok}(g:GrowT ts v cs)(c:Tok)(cap:RCap)(hb:cs.length≤4000) :
  ∃ v' ts',appO env false ⟨hp,ts⟩ 43 43 v (.row [.int .i64 c.kind,.str c.text,.int .i64 c.n,.int .i64 c.pos] 1 cap)=some (v',⟨hp,ts'⟩)∧GrowT ts' v' (cs++[c]):=by
 have hnew:jby hp 4 1 (.row [.int .i64 c.kind,.str c.text,.int .i64 c.n,.int .i64 c.pos] 1 cap)=some [.int .i64 c.kind,.str c.text,.int .i64 c.n,.int .i64 c.pos]:=by simp [jby]
 have hcell:([.int .i64 c.kind,.str c.text,.int .i64 c.n,.int .i64 c.pos]:List V).all V.isCell=true:=by simp [V.isCell]
 obtain ⟨h52,h52b⟩:=by52
 obtain ⟨nb,hnb⟩:=Option.isSome_iff_exists.1 h52
 rw [hnb] at h52b
 simp only [Kv] at h52b
 have hlim:lim=2 ^ 40:=rfl
 have hl1:(1:Nat) * nb≤lim∧1≤lim:=by rw [hlim]; omega
 have hl2:(cs.length+1) * nb≤lim∧cs.length+1≤lim:=by
  have:(cs.length+1) * nb≤4001 * 2 ^ 20:=Nat.mul_le_mul (by omega) h52b
  rw [hlim]; omega
 unfold appO
 simp only [e45,s52,u45,hnb,zn52,vLen,hnew,Kk,Ks]
 cases g with
 | nil =>
  refine ⟨.row (flatT [c]) 1 (.tok ts.length 0 4),ts++[0],?_,.tok [c] ts.length 0 (by simp) (by simp)⟩
  have hl0:nb≤lim:=by rw [hlim]; omega
  simp [jbN,hl1,hl0,flatT,Tok.cells]
 | tok _ k e hk hne =>
  have hkl:k<ts.length:=by
   rcases Qf k ts.length with h1 | h1
   ·exact h1
   ·rw [K9 h1] at hk; simp at hk
  refine ⟨.row (flatT (cs++[c])) (cs++[c]).length (.tok k (e+1) 4),ts.set k (e+1),?_,.tok _ k (e+1) (by simp [hkl]) (by simp)⟩
  have hl3:(flatT cs).length=cs.length * 4:=jm3 cs
  simp [jbN,hl2,hl3,hk,V.isCell,jsA]
theorem GrowT.cells {ts:List Nat}{v:V}{cs:List Tok}(g:GrowT ts v cs):v.cells=[v]:=by cases g <;> rfl
theorem GrowT.cell {ts:List Nat}{v:V}{cs:List Tok}(g:GrowT ts v cs):v.isCell=true:=by cases g <;> rfl
def toksV (l:List Tok):V:=if l=[] then .nilsl else .row (flatT l) l.length .unk
theorem jk5 (h:List AObj)(d:Nat):∀ l:List Tok,(flatT l).mapM (jbm h (d+1))=some (flatT l)
 | []=>rfl
 | c::l=>by
  rw [jk3,jaz,jaz,jaz,jaz,jk5 h d l,jaW,jb8,jaW,jaW]
  rfl
theorem jxu {h:List AObj}{d:Nat}{ts:List Nat}{v:V}{l:List Tok}(g:GrowT ts v l):jbm h (d+2) v=some (toksV l):=by
 cases g with
 | nil=>rfl
 | tok _ k e hk hne =>
  rw [jfR,jk5 h d l]
  simp [toksV,hne]
def rngC:Code→Option (Code × Code)
 | .rangeFunc _ _ a b=>some (a,b)
 | .block _ c=>rngC c
 | .seq a b=>(rngC a).or (rngC b)
 | .cond _ a b=>(rngC a).or (rngC b)
 | .loop c=>rngC c
 | .scope c=>rngC c
 | _=>none
def asgR (c:Code):Code:=match rngC c with | some (a,_)=>a | none=>.skip
def bodR (c:Code):Code:=match rngC c with | some (_,b)=>b | none=>.skip
theorem s45:sz env 43=some 1:=by kernel_rfl
def P35 (lo:AObj)(s:List UInt8)(acc:List Tok)(σ:S):Prop :=
 7≤σ.heap.length∧σ.heap[0]? = some (.cells [.nilsl] 43)∧σ.heap[1]? = some (.cells [.int .i64 0,.int .i64 0] 32)∧σ.heap[2]? = some (.cells (scnL s) 84)∧σ.heap[4]? = some (.cells [.ptr 2 0] 79) ∧
 σ.heap[5]? = some (.defd true)∧σ.heap[6]? = some lo∧∃ v,σ.heap[3]? = some (.cells [v] 43)∧GrowT σ.toks v acc
def R35 (lr:AObj)(x:Int)(i:Nat)(σ:S):Prop :=
 7≤σ.heap.length∧σ.heap[0]? = some (.cells [.nilsl] 43)∧σ.heap[1]? = some (.cells [.int .i64 x,.int .i64 i] 32)∧σ.heap[5]? = some (.defd true)∧σ.heap[6]? = some lr
theorem ne0 {x:Int}(h:x ≠ 0):((x:Int)=0)=False:=eq_false h
theorem jtY (s:List UInt8)(T:Tm)(tmps:List V)(lo:AObj)(hr:Rep 32 T tmps)(hlo:lo=.loop .ready none 19 tmps #[18,19] (asgR (jax Tryz.f19)) (bodR (jax Tryz.f19)) 5)
  (t5:T 5=.ptr 3 0) (acc:List Tok) (H:List AObj) (ts:List Nat) (t:Tok) (ha:acc.length≤4000) (hP:P35 lo s acc ⟨H,ts⟩) :
  ∃ σ',jdf env (ev env) (.yld 6) [tokV t,.int .i64 0] ⟨H,ts⟩=some (.bool true,σ')∧P35 lo s (acc++[t]) σ'∧∀ q,7≤q→q<H.length→σ'.heap[q]? = H[q]? := by
 obtain ⟨h7,p0,p1,p2,p4,p5,p6,v,p3,hg⟩:=hP
 simp only at h7 p0 p1 p2 p3 p4 p5 p6 hg
 refine jgf hlo p6 hr rfl (by simp) ?_
 intro lb hlb
 clear hlb hlo hr
 obtain ⟨v',ts',happ,hg'⟩:=GrowT.append (hp:=(H++[AObj.cells [.int .i64 t.kind,.str t.text,.int .i64 t.n,.int .i64 t.pos] 47]).set 6 lb) hg t .full ha
 have hv1:=hg'.cells
 have hv2:=hg'.cell
 have q3:((H++[AObj.cells [.int .i64 t.kind,.str t.text,.int .i64 t.n,.int .i64 t.pos] 47]).set 6 lb)[3]? = some (.cells [v] 43):=by
  rw [Ki (by omega),K0 (by omega)]; exact p3
 have ql:jai ((H++[AObj.cells [.int .i64 t.kind,.str t.text,.int .i64 t.n,.int .i64 t.pos] 47]).set 6 lb) 4 (.ptr H.length 0)=some [.int .i64 t.kind,.str t.text,.int .i64 t.n,.int .i64 t.pos] :=
  jmY (t:=47) (by rw [Ki (by omega)]; simp)
 have q52:jbj env ((H++[AObj.cells [.int .i64 t.kind,.str t.text,.int .i64 t.n,.int .i64 t.pos] 47]).set 6 lb) 47 (.ptr H.length 0)=some (.agg [.int .i64 t.kind,.str t.text,.int .i64 t.n,.int .i64 t.pos]):=by
  have g:Go.Ab.aggT env 47=some true:=by kernel_rfl
  unfold jbj
  simp only [s52,g,ql,Kk,Kw]
 have q45:jbj env ((H++[AObj.cells [.int .i64 t.kind,.str t.text,.int .i64 t.n,.int .i64 t.pos] 47]).set 6 lb) 43 (.ptr 3 0)=some v:=by
  rw [jaX (by kernel_rfl)]; exact jcQ q3
 have q6:(H++[AObj.cells [.int .i64 t.kind,.str t.text,.int .i64 t.n,.int .i64 t.pos] 47]:List AObj)[6]? = some lo:=by
  rw [K0 (by omega)]; exact p6
 refine jar ?_
 simp only [asgR,bodR,rngC,jax,Tryz.f19,Kv,Option.or,tokV]
 simp only [Ka,simprocAttr,Ys,Y0,Ke,Vq,Va,jab,Xh,Xw,t5,zv52,YW,jcM,jbI,ja5,jbd,q6,q45,q52,q3,s45,jv3,happ,hv1,hv2]
 generalize AObj.cells [.int .i64 t.kind,.str t.text,.int .i64 t.n,.int .i64 t.pos] 47=o
 have hq:∀ q,q ≠ 3→q ≠ 6→q<H.length→((((H++[o]).set 6 lb).set 3 (AObj.cells [v'] 43)).set 6 lo)[q]? = H[q]? := fun q h1 h2 h3=>by
  rw [Ki (by omega),Ki (by omega),Ki (by omega),K0 h3]
 refine ⟨?_,⟨?_,?_,?_,?_,?_,?_,?_,v',?_,hg'⟩,fun q h1 h2=>hq q (by omega) (by omega) h2⟩
 ·rw [Ki (by omega),Kj (by simp; omega)]
 ·simp; omega
 ·simp only; rw [hq 0 (by omega) (by omega) (by omega)]; exact p0
 ·simp only; rw [hq 1 (by omega) (by omega) (by omega)]; exact p1
 ·simp only; rw [hq 2 (by omega) (by omega) (by omega)]; exact p2
 ·simp only; rw [hq 4 (by omega) (by omega) (by omega)]; exact p4
 ·simp only; rw [hq 5 (by omega) (by omega) (by omega)]; exact p5
 ·simp only; rw [Kj (by simp; omega)]
 ·simp only; rw [Ki (by omega),Kj (by simp; omega)]
theorem jow (a b:Int):jb9 env 32 [(0,.int .i64 a),(1,.int .i64 b)]=some (.agg [.int .i64 a,.int .i64 b]):=by kernel_rfl
theorem jy4:ja4 env 47 3=some 3:=by kernel_rfl
theorem jtZ (t:TypeId)(ps:Array (Nat × Operand)):scOp env (.build t ps)=false:=rfl
theorem jt0 (t:TypeId)(ps:Array (Nat × Operand)):jbc (.build t ps)=false:=rfl
theorem jt1 (s:List UInt8)(T:Tm)(tmps:List V)(lo lr:AObj)(hr:Rep 32 T tmps)(hlo:lo=.loop .ready none 19 tmps #[18,19] (asgR (jax Tryz.f19)) (bodR (jax Tryz.f19)) 5)
  (hlr:lr=.loop .done (some .ret) 19 tmps #[18,19] (asgR (jax Tryz.f19)) (bodR (jax Tryz.f19)) 5)
  (t2:T 2=.ptr 0 0) (t3:T 3=.ptr 1 0) (acc:List Tok) (H:List AObj) (ts:List Nat) (i:Nat) (x:Int) (hx:x ≠ 0) (hP:P35 lo s acc ⟨H,ts⟩) :
  ∃ σ',jdf env (ev env) (.yld 6) [tokV ⟨0,[],0,(i:Nat)⟩,.int .i64 x] ⟨H,ts⟩=some (.bool false,σ')∧R35 lr x i σ':=by
 obtain ⟨h7,p0,p1,p2,p4,p5,p6,v,p3,hg⟩:=hP
 simp only at h7 p0 p1 p2 p3 p4 p5 p6 hg
 refine jmE hlo p6 hr rfl (by simp) ?_
 intro lb lr2 hlb hlr2
 have hlr3:lr2=lr:=by rw [hlr,hlr2]
 clear hlb hlo hr hlr2 hlr
 subst hlr3
 have hx0:=ne0 hx
 have q6:(H++[AObj.cells [.int .i64 0,.str [],.int .i64 0,.int .i64 i] 47])[6]? = some lo:=by
  rw [K0 (by omega)]; exact p6
 have q0:((H++[AObj.cells [.int .i64 0,.str [],.int .i64 0,.int .i64 i] 47]).set 6 lb)[0]? = some (.cells [.nilsl] 43):=by
  rw [Ki (by omega),K0 (by omega)]; exact p0
 have q1:(((H++[AObj.cells [.int .i64 0,.str [],.int .i64 0,.int .i64 i] 47]).set 6 lb).set 0 (.cells [.nilsl] 43))[1]? = some (.cells [.int .i64 0,.int .i64 0] 32):=by
  rw [Ki (by omega),Ki (by omega),K0 (by omega)]; exact p1
 have qk:(jai ((H++[AObj.cells [.int .i64 0,.str [],.int .i64 0,.int .i64 i] 47]).set 6 lb) 1 (.ptr H.length 3)).bind (·[0]?)=some (.int .i64 i):=by
  rw [YA,Ki (by omega),jbI]; rfl
 have s47:sz env 32=some 2:=by kernel_rfl
 refine jar ?_
 simp only [asgR,bodR,rngC,jax,Tryz.f19,Kv,Option.or,tokV]
 simp only [Ka,simprocAttr,Ys,Y0,Ke,Vq,Va,jab,Xh,Xw,t2,t3,zv52,YW,jcM,jbI,ja5,jbd,q6,hx0]
 refine jkG rfl (fun s=>s.heap[H.length]? = some (.cells [.int .i64 0,.str [],.int .i64 0,.int .i64 i] 47)) (by simp only; rw [Ki (by omega),jbI]) (by kernel_rfl) ?_
 simp only [Ka,simprocAttr,Ys,Y0,Ke,Vq,Va,jab,joa,job,jfS,jlz,jtZ,joc,jod,jfT,jlA,jt0,t2,t3,jh3,q0,q1,qk,s45,s47,jy4,jm2,jow,YH,ja5,YW]
 refine ⟨fun s h=>by rw [h]; rfl,rfl,by rw [Ki (by omega),Ki (by omega),jbI],by rw [Ki (by omega),Ki (by omega),Ki (by omega),jbI],?_⟩
 generalize AObj.cells [.int .i64 0,.str [],.int .i64 0,.int .i64 i] 47=o
 have hq:∀ q,q ≠ 0→q ≠ 1→q ≠ 6→q<H.length→(((((H++[o]).set 6 lb).set 0 (AObj.cells [.nilsl] 43)).set 1 (AObj.cells [.int .i64 x,.int .i64 i] 32)).set 6 lr2)[q]? = H[q]? := fun q h0 h1 h2 h3=>by
  rw [Ki (by omega),Ki (by omega),Ki (by omega),Ki (by omega),K0 h3]
 refine ⟨?_,?_,?_,?_,?_,?_⟩
 ·rw [Ki (by omega),Ki (by omega),Kj (by simp; omega)]
 ·simp; omega
 ·simp only; rw [Ki (by omega),Ki (by omega),Kj (by simp)]
 ·simp only; rw [Ki (by omega),Kj (by simp; omega)]
 ·simp only; rw [hq 5 (by omega) (by omega) (by omega) (by omega)]; exact p5
 ·simp only; rw [Kj (by simp; omega)]
theorem at19:env.P.funcs[19]? = some Tryz.f19:=by kernel_rfl
theorem at43:env.P.funcs[43]? = some Tryz.f43:=by kernel_rfl
theorem yl35 (s:List UInt8)(T:Tm)(tmps:List V)(lo lr:AObj)(hr:Rep 32 T tmps)(hlo:lo=.loop .ready none 19 tmps #[18,19] (asgR (jax Tryz.f19)) (bodR (jax Tryz.f19)) 5)
  (hlr:lr=.loop .done (some .ret) 19 tmps #[18,19] (asgR (jax Tryz.f19)) (bodR (jax Tryz.f19)) 5)
  (t2:T 2=.ptr 0 0) (t3:T 3=.ptr 1 0) (t5:T 5=.ptr 3 0):Yl (.yld 6) 7 2 4 s (P35 lo s) (R35 lr) where
 low:=by
  rintro acc σ σ' h1 h2 h3 ⟨h7,p0,p1,p2,p4,p5,p6,v,p3,hg⟩
  exact ⟨h3,by rw [h1 0 (by omega)]; exact p0,by rw [h1 1 (by omega)]; exact p1,by rw [h1 2 (by omega)]; exact p2,by rw [h1 4 (by omega)]; exact p4,by rw [h1 5 (by omega)]; exact p5,
   by rw [h1 6 (by omega)]; exact p6,v,by rw [h1 3 (by omega)]; exact p3,by rw [h2]; exact hg⟩
 len:=fun acc σ h=>h.1
 hp:=fun acc σ h=>h.2.2.2.1
 hb:=fun acc σ h=>h.2.2.2.2.1
 ok:=fun acc σ t ha hP=>jtY s T tmps lo hr hlo t5 acc σ.heap σ.toks t ha hP
 err:=fun acc σ i x hx ha hP=>jt1 s T tmps lo lr hr hlo hlr t2 t3 acc σ.heap σ.toks i x hx hP
theorem jem {E:Env}{f:FuncId}{args:List V}{σ σ':S}{v:V}(hp:E.pure f=false)(hk:E.hook f=none)(h:jas E (ev E) f args σ=some (v,σ'))(hz:E.frz f=false:=by rfl)(hS:E.hookS f=none:=by rfl):ev E (.call f args σ)=some ⟨.ret,[v],[],σ'⟩:=by
 unfold jas at h
 simp only [hk,hp,hz,hS,Kl,Kr] at h
 split at h
 ·rename_i v0 σ0 he
  simp only [Kg,Kh] at h
  obtain ⟨rfl,rfl⟩:=h
  exact he
 ·simp at h
theorem jt2 (p:Nat)(L:List AObj)(ts:List Nat):jas env (ev env) 43 [.ptr p 0] ⟨L,ts⟩=some (.func 84 [] [.ptr L.length 0],⟨L++[.cells [.ptr p 0] 79],ts⟩):=by
 refine jbh rfl rfl at43 rfl (by simp [Tryz.f43]) (by simp [Tryz.f43]) (jar ?_)
 simp only [Tryz.f43,Ka,simprocAttr,Ys,Y0,Ke,Vq,YP,jaZ,jjM]
def jpO (s:List UInt8):V :=
 if 2000<s.length then .tup [.nilsl,.agg [.int .i64 4,.int .i64 2000]] else
 match (jia s (s.length+1) (endW s [1] 0) (-1) []).2 with
 | none=>.tup [toksV (jia s (s.length+1) (endW s [1] 0) (-1) []).1,.agg [.int .i64 0,.int .i64 0]]
 | some (x,i)=>.tup [.nilsl,.agg [.int .i64 x,.int .i64 i]]
theorem jv4 (s:List UInt8):jb9 env 84 [(0,.str s),(2,.agg (clsL.map (V.int .i64)))]=some (.agg (scnL s)):=by kernel_rfl
theorem ld45 {L:List AObj}{b:Nat}{v:V}(h:L[b]? = some (.cells [v] 43)):jbj env L 43 (.ptr b 0)=some v:=by
 rw [jaX (by kernel_rfl)]; exact jcQ h
theorem ld47 {L:List AObj}{b:Nat}{v w:V}(h:L[b]? = some (.cells [v,w] 32)):jbj env L 32 (.ptr b 0)=some (.agg [v,w]):=by
 have g:Go.Ab.aggT env 32=some true:=by kernel_rfl
 have e:sz env 32=some 2:=by kernel_rfl
 have l:jai L 2 (.ptr b 0)=some [v,w]:=by simp [jai,h]
 unfold jbj
 simp only [g,e,l,Kk,Kw]
theorem zv45:jbE env 43=some .nilsl:=by kernel_rfl
theorem zv47:jbE env 32=some (.agg [.int .i64 0,.int .i64 0]):=by kernel_rfl
theorem s47:sz env 32=some 2:=by kernel_rfl
theorem jt3:jb9 env 32 []=some (.agg [.int .i64 0,.int .i64 0]):=by kernel_rfl
theorem jqB (s:List UInt8)(hl:s.length≤4000)(σ:S):jas env (ev env) 19 [.str s] σ=some (jpO s,σ):=by
 refine jav rfl rfl rfl at19 rfl (by simp [Tryz.f19]) (by simp [Tryz.f19]) (jar ?_) σ
 unfold jpO
 by_cases h1:2000<s.length
 ·rw [Km h1]
  have g1:(2000:Int)<(s.length:Int):=by omega
  simp only [Tryz.f19,Ka,simprocAttr,Ys,Y0,Ke,Vq,Va,jab,jaq,jaK,zv45,zv47,s45,s47,g1,jow,YW,YH,ja5]
  refine ⟨rfl,?_⟩
  rw [ld45 (v:=.nilsl) rfl,ld47 (v:=.int .i64 4) (w:=.int .i64 2000) rfl]
  simp only [Kk,Kw,Yy]
  rfl
 ·rw [Kn h1]
  have g1:¬ (2000:Int)<(s.length:Int):=by omega
  simp only [Tryz.f19,Ka,simprocAttr,Ys,Y0,Ke,Vq,Va,jab,jaq,jaK,zv45,zv47,s45,s47,g1,jow,YW,YH,ja5,jm1,jv4,jt2]
  refine jo5 rfl ?_
  intro tmps lo lr hr hlo hlr
  have hY:=yl35 s _ tmps lo lr hr hlo hlr rfl rfl rfl
  clear hr
  obtain ⟨v,σ2,hc,hE⟩:=jov hY hl ⟨[.cells [.nilsl] 43,.cells [.int .i64 0,.int .i64 0] 32,.cells (scnL s) 84,.cells [.nilsl] 43,.cells [.ptr 2 0] 79,.defd true,lo],[]⟩
   ⟨by simp,rfl,rfl,rfl,rfl,rfl,rfl,.nilsl,rfl,.nil⟩
  refine ⟨_,σ2,jem rfl rfl hc,?_⟩
  clear hc hY hlo hlr
  unfold jxt at hE
  generalize jia s (s.length+1) (endW s [1] 0) (-1) []=r at *
  obtain ⟨l,r2⟩:=r
  obtain ⟨H,ts⟩:=σ2
  cases r2 with
  | none =>
   obtain ⟨h7,p0,p1,p2,p4,p5,p6,u,p3,hg⟩:=hE
   simp only at h7 p0 p1 p2 p3 p4 p5 p6 hg
   refine .inl ⟨p6,_,rfl,?_⟩
   generalize AObj.loop .exhausted none 19 tmps _ _ _ _=lx
   have q0:(H.set 6 lx)[0]? = some (.cells [.nilsl] 43):=by rw [Ki (by omega)]; exact p0
   have q1:∀ c,((H.set 6 lx).set 0 c)[1]? = some (.cells [.int .i64 0,.int .i64 0] 32):=fun c=>by rw [Ki (by omega),Ki (by omega)]; exact p1
   have q3:jbj env (H.set 6 lx) 43 (.ptr 3 0)=some u:=ld45 (by rw [Ki (by omega)]; exact p3)
   have hv1:=hg.cells
   have hv2:=hg.cell
   simp only [Ka,simprocAttr,Ys,Y0,Ke,Vq,Va,jab,q0,q1,q3,s45,s47,jt3,YW,ja5,hv1,hv2]
   have q5:(((H.set 6 lx).set 0 (AObj.cells [u] 43)).set 1 (AObj.cells [V.int IntKind.i64 0,V.int IntKind.i64 0] 32))[5]? = some (.defd true):=by
    rw [Ki (by omega),Ki (by omega),Ki (by omega)]; exact p5
   have z0:∀ d,jbj env ((((H.set 6 lx).set 0 (AObj.cells [u] 43)).set 1 (AObj.cells [V.int IntKind.i64 0,V.int IntKind.i64 0] 32)).set 5 d) 43 (.ptr 0 0)=some u:=fun d=>ld45 (by
    rw [Ki (by omega),Ki (by omega),Kj (by simp; omega)])
   have z1:∀ d,jbj env ((((H.set 6 lx).set 0 (AObj.cells [u] 43)).set 1 (AObj.cells [V.int IntKind.i64 0,V.int IntKind.i64 0] 32)).set 5 d) 32 (.ptr 1 0)=some (.agg [.int .i64 0,.int .i64 0]):=fun d=>ld47 (by
    rw [Ki (by omega),Kj (by simp; omega)])
   simp only [Ka,simprocAttr,Ys,Y0,Ke,Vq,wpR,jbG,q5,z0,z1]
   simp only [jaZ,jay,ja6,jcv,jaz,jaF,jaW,jxu hg,Kk,Kw]
  | some xi =>
   obtain ⟨x,i⟩:=xi
   obtain ⟨h7,p0,p1,p5,p6⟩:=hE
   simp only at h7 p0 p1 p5 p6
   refine .inr ⟨p6,_,rfl,?_⟩
   generalize AObj.loop .exhausted _ 19 tmps _ _ _ _=lx
   have q0:jbj env (H.set 6 lx) 43 (.ptr 0 0)=some .nilsl:=ld45 (by rw [Ki (by omega)]; exact p0)
   have q1:jbj env (H.set 6 lx) 32 (.ptr 1 0)=some (.agg [.int .i64 x,.int .i64 i]):=ld47 (by rw [Ki (by omega)]; exact p1)
   have q5:(H.set 6 lx)[5]? = some (.defd true):=by rw [Ki (by omega)]; exact p5
   have z0:∀ d,jbj env ((H.set 6 lx).set 5 d) 43 (.ptr 0 0)=some .nilsl:=fun d=>ld45 (by rw [Ki (by omega),Ki (by omega)]; exact p0)
   have z1:∀ d,jbj env ((H.set 6 lx).set 5 d) 32 (.ptr 1 0)=some (.agg [.int .i64 x,.int .i64 i]):=fun d=>ld47 (by rw [Ki (by omega),Ki (by omega)]; exact p1)
   simp only [Ka,simprocAttr,Ys,Y0,Ke,Vq,wpR,jbG,q5,z0,z1]
   rfl
theorem jjT:∀ w∈jcc,1≤w.length∧w.length≤2:=by
 have h:(jcc.all fun w=>Nat.ble 1 w.length && Nat.ble w.length 2)=true:=by kernel_rfl
 intro w hw
 have:=K2.1 h w hw
 simp only [K6,Nat.ble_eq] at this
 exact this
theorem cls5 (c:Nat):clsN c=5↔c=39:=by
 unfold clsN
 by_cases h1:97≤c∧c≤122
 ·simp [h1]; omega
 by_cases h2:48≤c∧c≤57
 ·simp [h1,h2]; omega
 by_cases h3:c=32
 ·subst h3; simp
 by_cases h4:c=95
 ·subst h4; simp
 by_cases h5:c=39
 ·subst h5; simp
 simp [h1,h2,h3,h4,h5]
theorem jpP (u:Option TypeDesc)(c:Bool)(op:BinOp)(a b:List V):jbZ u c op (.agg a) (.agg b)=none:=by
 cases op <;> cases u <;> first | rfl | (rename_i u; cases u <;> rfl)
theorem jic (t:TypeId)(c:Bool)(op:BinOp)(a b:List V):binO env t c op (some (.agg a)) (some (.agg b))=jfx env t op (.agg a) (.agg b):=by
 have:binO env t c op (some (.agg a)) (some (.agg b))=jdv env t c op (.agg a) (.agg b):=rfl
 rw [this]
 unfold jdv
 rw [jpP]
theorem jva (s:List UInt8)(i:Nat)(h:s.length≤i):s.getD i 0=0:=by simp [List.getD,K9 h]
theorem jm4 (s:List UInt8)(cs:List Int)(hz:(0:Int) ∉ cs):∀ m i,i+m=s.length→clsN (s.getD (runW s cs m i) 0).toNat ∉ cs
 | 0,i,h=>by
  simp only [runW]
  rw [jva s i (by omega)]
  exact hz
 | m+1,i,h=>by
  simp only [runW]
  split
  ·exact jm4 s cs hz m (i+1) (by omega)
  ·assumption
theorem jm5 (s:List UInt8)(cs:List Int)(hz:(0:Int) ∉ cs)(i:Nat)(hi:i≤s.length):clsN (s.getD (endW s cs i) 0).toNat ∉ cs :=
 jm4 s cs hz _ i (by omega)
theorem jm6 (s:List UInt8)(i j:Nat)(hij:i≤j)(hj:j<s.length):subS s i (j+1)=subS s i j++[s.getD j 0]:=by
 unfold subS
 rw [show j+1 - i=(j - i)+1 by omega,Vh]
 simp only [Jj]
 rw [show i+(j - i)=j by omega,K4 hj]
 simp [List.getD,hj]
theorem jsB (s:List UInt8)(i j:Nat)(hij:i<j)(hj:i<s.length):subS s i j=s.getD i 0::subS s (i+1) j:=by
 unfold subS
 rw [Q6 hj,show j - i=(j - (i+1))+1 by omega,Q5]
 simp [List.getD,hj]
theorem jt4 (s:List UInt8)(i:Nat)(h:(sgW s i 2).2=true):(sgW s i 2).1∈jcc∧i+(sgW s i 2).1.length≤s.length∧subS s i (i+(sgW s i 2).1.length)=(sgW s i 2).1 ∧
  ((sgW s i 2).1.length=1→¬ (i+2≤s.length∧subS s i (i+2)∈jcc)):=by
 simp only [sgW,K8,Nat.reduceAdd] at h ⊢
 by_cases h2:i+2≤s.length∧subS s i (i+2)∈jcc
 ·have hl:=jcD s i (i+2) h2.1
  have hl2:(subS s i (i+2)).length=2:=by omega
  simp only [Km h2,hl2]
  exact ⟨h2.2,h2.1,trivial,fun h=>by omega⟩
 ·rw [Kn h2] at h
  by_cases h1:i+1≤s.length∧subS s i (i+1)∈jcc
  ·have hl:=jcD s i (i+1) h1.1
   have hl1:(subS s i (i+1)).length=1:=by omega
   simp only [Kn h2,Km h1,hl1]
   exact ⟨h1.2,h1.1,trivial,fun _=>h2⟩
  ·rw [Kn h1] at h
   simp at h
def Stop (t:Tok)(c:UInt8):Prop:=((t.kind=1∨t.kind=2)→clsN c.toNat ∉ ([2,3,4]:List Int))∧(t.kind=3→clsN c.toNat ∉ ([3]:List Int))∧(t.kind=5→t.text++[c] ∉ jcc)
theorem of5 {c:UInt8}(h:clsN c.toNat=5):c=39:=by
 have:=(cls5 _).1 h
 exact UInt8.toNat_inj.1 (by rw [this]; rfl)
theorem jv5 (s:List UInt8)(i:Nat)(hi:i<s.length)(h0:(jdh s i).2.2=0):∃ (t:Tok) (e:Nat),jdh s i=(t,e,0)∧i<e∧e≤s.length∧t.pos=i∧subS s i e=jsr t∧Stop t (s.getD e 0)∧t.kind ≠ 0∧t.text ≠ []∧(t.kind=5→t.text∈jcc)∧clsN (s.getD i 0).toNat ≠ 1:=by
 have hle:=jlM s i hi
 have hlt:=hle.2.2 h0
 refine ⟨(jdh s i).1,(jdh s i).2.1,by rw [← h0],hlt,hle.2.1,?_⟩
 have b1:=jm5 s [2,3,4] (by decide) i (by omega)
 have b2:=jm5 s [3] (by decide) i (by omega)
 unfold jdh at h0 hlt hle ⊢
 by_cases k2:clsN (s.getD i 0).toNat=2
 ·simp only [Km k2] at h0 hlt hle ⊢
  have hl:=jcD s i (endW s [2,3,4] i) hle.2.1
  have hk:(if subS s i (endW s [2,3,4] i)∈N.wordsW then (2:Int) else 1)=1∨(if subS s i (endW s [2,3,4] i)∈N.wordsW then (2:Int) else 1)=2:=by split <;> simp
  generalize (if subS s i (endW s [2,3,4] i)∈N.wordsW then (2:Int) else 1)=k at *
  refine ⟨trivial,?_,⟨fun _=>b1,fun h => ?_,fun h => ?_⟩,?_,?_,fun h => ?_,by rw [k2]; decide⟩
  ·simp only [jsr]; rw [Kn (by rcases hk with rfl | rfl <;> decide)]
  ·rcases hk with rfl | rfl <;> simp at h
  ·rcases hk with rfl | rfl <;> simp at h
  ·rcases hk with rfl | rfl <;> decide
  ·intro h; rw [h] at hl; simp at hl; omega
  ·rcases hk with rfl | rfl <;> simp at h
 simp only [Kn k2] at h0 hlt hle ⊢
 by_cases k3:clsN (s.getD i 0).toNat=3
 ·simp only [Km k3] at h0 hlt hle ⊢
  by_cases h1:1<(subS s i (endW s [3] i)).length∧((subS s i (endW s [3] i)).getD 0 0).toNat=48
  ·simp only [Km h1] at h0; simp at h0
  simp only [Kn h1] at h0 hlt hle ⊢
  by_cases h2:1000000000<decV 0 (subS s i (endW s [3] i))
  ·simp only [Km h2] at h0; simp at h0
  simp only [Kn h2] at h0 hlt hle ⊢
  have hl:=jcD s i (endW s [3] i) hle.2.1
  refine ⟨trivial,?_,⟨fun h => ?_,fun _=>b2,fun h => ?_⟩,by decide,?_,fun h => ?_,by rw [k3]; decide⟩
  ·simp [jsr]
  ·simp at h
  ·simp at h
  ·intro h; rw [h] at hl; simp at hl; omega
  ·simp at h
 simp only [Kn k3] at h0 hlt hle ⊢
 by_cases k5:clsN (s.getD i 0).toNat=5
 ·simp only [Km k5] at h0 hlt hle ⊢
  by_cases h1:endW s [2,3,4] (i+1)<s.length∧(s.getD (endW s [2,3,4] (i+1)) 0).toNat=39∧N.IsName (subS s (i+1) (endW s [2,3,4] (i+1)))
  ·simp only [Km h1] at h0 hlt hle ⊢
   have hge:=jcy s [2,3,4] (i+1) (by omega)
   refine ⟨trivial,?_,⟨fun h => ?_,fun h => ?_,fun h => ?_⟩,by decide,?_,fun h => ?_,by rw [k5]; decide⟩
   ·rw [jm6 s i _ (by omega) h1.1,jsB s i _ (by omega) hi,of5 k5,of5 ((cls5 _).2 h1.2.1)]
    simp [jsr]
   ·simp at h
   ·simp at h
   ·simp at h
   ·intro h
    have h3:=h1.2.2.1
    rw [h] at h3
    simp at h3
   ·simp at h
  ·simp only [Kn h1] at h0; simp at h0
 simp only [Kn k5] at h0 hlt hle ⊢
 by_cases hb:(sgW s i 2).2=true
 ·obtain ⟨g1,g2,g3,g4⟩:=jt4 s i hb
  simp only [Km hb] at h0 hlt hle ⊢
  have hsh:=jjT _ g1
  refine ⟨trivial,?_,⟨fun h => ?_,fun h => ?_,fun _ h => ?_⟩,by decide,fun h => ?_,fun _=>g1,?_⟩
  ·rw [g3]; simp [jsr]
  ·simp at h
  ·simp at h
  ·have h5:=(jjT _ h).2
   rw [Ku] at h5
   simp only [K1,K5] at h5
   have h6:(sgW s i 2).1.length=1:=by omega
   rw [h6] at g3 h
   rcases Qf (i+1) s.length with h7 | h7
   ·refine g4 h6 ⟨h7,?_⟩
    rw [jm6 s i (i+1) (by omega) h7,g3]; exact h
   ·rw [jva s (i+1) h7] at h
    have hz:(jcc.all fun w=>w.getLast? != some 0)=true:=by kernel_rfl
    have:=K2.1 hz _ h
    simp at this
  ·rw [h] at hsh; simp at hsh
  ·have hz:(jcc.all fun w=>clsN (w.getD 0 0).toNat == 0)=true:=by kernel_rfl
   have hz:=K2.1 hz _ g1
   have hg:=jpL s i _ 0 g2 (by omega)
   rw [g3,Jl] at hg
   rw [hg] at hz
   simp only [beq_iff_eq] at hz
   rw [hz]; decide
 ·simp only [Kn hb] at h0; simp at h0
inductive Sc (s:List UInt8):Nat→Int→List Tok→Prop
 | fin (e:Nat) (last:Int):¬ endW s [1] e<s.length→Sc s e last []
 | tok (e:Nat) (last:Int) (i e2:Nat) (t:Tok) (l:List Tok):endW s [1] e=i→i<s.length→jdh s i=(t,e2,0)→¬ (t.kind ≠ 5∧last=i)→Sc s e2 (if t.kind ≠ 5 then (e2:Int) else -1) l→Sc s e last (t::l)
set_option maxRecDepth 1000000
def jbS (cs:List Int):List UInt8→Nat
 | []=>0
 | c::r=>if clsN c.toNat∈cs then jbS cs r+1 else 0
theorem jm7 (s:List UInt8)(cs:List Int):∀ m i,i+m=s.length→runW s cs m i=i+jbS cs (s.drop i)
 | 0,i,h=>by
  have:s.drop i=[]:=Ve (by omega)
  simp [runW,this,jbS]
 | m+1,i,h=>by
  have hd:s.drop i=s[i]::s.drop (i+1):=Q6 (by omega)
  have hg:s.getD i 0=s[i]:=by simp [List.getD,show i<s.length by omega]
  simp only [runW,hd,jbS,hg]
  by_cases hc:clsN s[i].toNat∈cs
  ·rw [Km hc,Km hc,jm7 s cs m (i+1) (by omega)]; omega
  ·rw [Kn hc,Kn hc]; omega
theorem jhD (s:List UInt8)(cs:List Int)(i:Nat):endW s cs i=i+jbS cs (s.drop i):=by
 unfold endW
 rcases Qf s.length i with h | h
 ·have:s.drop i=[]:=Ve (by omega)
  rw [show s.length - i=0 by omega,this]; rfl
 ·exact jm7 s cs _ i (by omega)
theorem jm8 (s:List UInt8)(i k:Nat):s.getD (i+k) 0=(s.drop i).getD k 0:=by
 simp [List.getD,Jj]
theorem jm9 (s:List UInt8)(i n:Nat):subS s i (i+n)=(s.drop i).take n:=by
 unfold subS
 rw [Nat.add_sub_cancel_left]
def jfB (d:List UInt8):Tok × Nat × Int :=
 if clsN (d.getD 0 0).toNat=2 then
  (⟨if d.take (jbS [2,3,4] d)∈N.wordsW then 2 else 1,d.take (jbS [2,3,4] d),0,0⟩,jbS [2,3,4] d,if 20<jbS [2,3,4] d then 19 else 0)
 else if clsN (d.getD 0 0).toNat=3 then
  if 1<(d.take (jbS [3] d)).length∧((d.take (jbS [3] d)).getD 0 0).toNat=48 then (.zero,jbS [3] d,11)
  else if 1000000000<decV 0 (d.take (jbS [3] d)) then (.zero,jbS [3] d,2)
  else (⟨3,d.take (jbS [3] d),decV 0 (d.take (jbS [3] d)),0⟩,jbS [3] d,0)
 else if clsN (d.getD 0 0).toNat=5 then
  if 1+jbS [2,3,4] (d.drop 1)<d.length∧(d.getD (1+jbS [2,3,4] (d.drop 1)) 0).toNat=39∧N.IsName ((d.drop 1).take (jbS [2,3,4] (d.drop 1))) then (⟨4,(d.drop 1).take (jbS [2,3,4] (d.drop 1)),0,0⟩,1+jbS [2,3,4] (d.drop 1)+1,0)
  else (.zero,1+jbS [2,3,4] (d.drop 1),11)
 else if 2≤d.length∧d.take 2∈jcc then (⟨5,d.take 2,0,0⟩,(d.take 2).length,0)
 else if 1≤d.length∧d.take 1∈jcc then (⟨5,d.take 1,0,0⟩,(d.take 1).length,0)
 else (.zero,0,11)
def Tok.at (t:Tok)(i:Int):Tok:=⟨t.kind,t.text,t.n,i⟩
theorem jt5 (s:List UInt8)(i:Nat)(hi:i≤s.length):(jdh s i).2.1=i+(jfB (s.drop i)).2.1∧(jdh s i).2.2=(jfB (s.drop i)).2.2∧((jfB (s.drop i)).2.2=0→(jdh s i).1=(jfB (s.drop i)).1.at i):=by
 have g0:s.getD i 0=(s.drop i).getD 0 0:=jm8 s i 0
 have hd1:s.drop (i+1)=(s.drop i).drop 1:=by rw [Xi]
 have e1:∀ cs,endW s cs (i+1)=i+(1+jbS cs ((s.drop i).drop 1)):=fun cs=>by rw [jhD,hd1]; omega
 have e2:∀ cs,subS s (i+1) (i+(1+jbS cs ((s.drop i).drop 1)))=((s.drop i).drop 1).take (jbS cs ((s.drop i).drop 1)):=fun cs=>by
  rw [← hd1,← jm9]; congr 1; omega
 have hl:(s.drop i).length=s.length - i:=Qm
 have q2:∀ n,(i+n≤s.length)=(n≤(s.drop i).length):=fun n=>by rw [hl]; exact propext (by omega)
 have q3:∀ n,(i+n<s.length)=(n<(s.drop i).length):=fun n=>by rw [hl]; exact propext (by omega)
 unfold jdh jfB
 simp only [jhD s _ i,e1,e2,jm9,g0,Nat.add_sub_cancel_left,sgW,q2,q3,jm8 s i,K8,Nat.reduceAdd]
 generalize s.drop i=d at *
 split
 ·exact ⟨rfl,rfl,fun _=>rfl⟩
 ·split
  ·split
   ·exact ⟨rfl,rfl,fun h=>by simp at h⟩
   ·split
    ·exact ⟨rfl,rfl,fun h=>by simp at h⟩
    ·exact ⟨rfl,rfl,fun _=>rfl⟩
  ·split
   ·split
    ·exact ⟨by simp only; omega,rfl,fun _=>rfl⟩
    ·exact ⟨rfl,rfl,fun h=>by simp at h⟩
   ·by_cases h2:2≤d.length∧d.take 2∈jcc
    ·simp only [Km h2,Ks]
     exact ⟨trivial,trivial,fun _=>rfl⟩
    ·simp only [Kn h2]
     by_cases h1:1≤d.length∧d.take 1∈jcc
     ·simp only [Km h1,Ks]
      exact ⟨trivial,trivial,fun _=>rfl⟩
     ·simp only [Kn h1,Kl,Kr]
      exact ⟨rfl,trivial,fun h=>by simp at h⟩
def jfY:Nat→List UInt8→Nat→Int→List Tok × Option (Int × Nat)
 | 0,_,_,_=>([],none)
 | m+1,d,i,last =>
  match d with
  | []=>([],none)
  | _::_ =>
   match jfB d with
   | (t,e,x) =>
    if x=0 then
     if t.kind ≠ 5∧last=i then ([],some (11,i))
     else match jfY m ((d.drop e).drop (jbS [1] (d.drop e))) (i+e+jbS [1] (d.drop e)) (if t.kind ≠ 5 then ((i+e:Nat):Int) else -1) with
      | (l,r)=>(t.at i::l,r)
    else ([],some (x,i))
theorem jpQ (s:List UInt8):∀ (m i:Nat) (last:Int) (acc:List Tok),i≤s.length→jia s m i last acc=(acc++(jfY m (s.drop i) i last).1,(jfY m (s.drop i) i last).2)
 | 0,i,last,acc,h=>by simp [jia,jfY]
 | m+1,i,last,acc,h=>by
  unfold jia
  by_cases hi:i<s.length
  ·rw [Km hi]
   have hd:s.drop i=s[i]::s.drop (i+1):=Q6 hi
   obtain ⟨k1,k2,k3⟩:=jt5 s i h
   unfold jfY
   rw [hd]
   simp only
   rw [← hd]
   generalize hn:jfB (s.drop i)=r at *
   obtain ⟨t,e,x⟩:=r
   simp only at k1 k2 k3
   rw [k1,k2]
   by_cases hx:x=0
   ·rw [Km hx,Km hx,k3 hx]
    have hk:(t.at i).kind=t.kind:=rfl
    rw [hk]
    by_cases hc:t.kind ≠ 5∧last=i
    ·rw [Km hc,Km hc]; simp
    ·rw [Kn hc,Kn hc]
     have hE:endW s [1] (i+e)=i+e+jbS [1] ((s.drop i).drop e):=by rw [jhD,Xi]
     rw [hE]
     have hn0:(jdh s i).2.2=0:=by rw [k2,hx]
     obtain ⟨t',e',hn',_,he,_⟩:=jv5 s i hi hn0
     rw [hn'] at k1
     simp only at k1
     have hle:=(jcy s [1] (i+e) (by omega)).2
     rw [hE] at hle
     rw [jpQ s m _ _ _ hle]
     have:s.drop (i+e+jbS [1] ((s.drop i).drop e))=((s.drop i).drop e).drop (jbS [1] ((s.drop i).drop e)):=by rw [Xi,Xi]
     rw [this]
     simp
   ·rw [Kn hx,Kn hx]; simp
  ·rw [Kn hi]
   have:s.drop i=[]:=Ve (by omega)
   unfold jfY
   rw [this]
   simp
def tkOf (t:Tok):PP.Tk:=⟨t.kind,t.text,t.n,t.pos⟩
def toksD (s:List UInt8):List Tok × Option (Int × Nat):=jfY (s.length+1) (s.drop (jbS [1] s)) (jbS [1] s) (-1)
theorem jt6 (s:List UInt8):jia s (s.length+1) (endW s [1] 0) (-1) []=toksD s:=by
 have hE:endW s [1] 0=jbS [1] s:=by rw [jhD,K8,Jo]
 have hle:=(jcy s [1] 0 (by omega)).2
 rw [jpQ s _ _ _ _ hle,hE]
 unfold toksD
 simp
end Go.Proofs.YtpclebdkhpapjaaGreatDoor.T
