/- Proved here: the scanner. Conditions: those of each theorem; no statement of the seat is proved in this text. -/
import Derived.Test.YtpclebdkhpapjaaGreatDoorTkA
set_option linter.unusedSimpArgs false
set_option linter.unusedVariables false
set_option linter.unusedSectionVars false
namespace Go.Proofs.YtpclebdkhpapjaaGreatDoor.T
open Go.Ab
set_option maxHeartbeats 8000000
set_option maxRecDepth 100000
theorem at85:env.P.funcs[85]? = some Tryz.f85:=by kernel_rfl
theorem u88:env.P.underlying 81=some (.array 256 80):=by kernel_rfl
theorem juX:clsL.length=256:=by kernel_rfl
theorem juY(c:UInt8):clsL.getD c.toNat 0=clsN c.toNat:=by
 have:=c.toNat_lt;simp[clsL,List.getD,this]
def scnL(s:List UInt8):List V:=.str s::.int .i64 0::clsL.map (V.int .i64)
theorem jdP(h:List AObj)(p:Nat)(s:List UInt8)(hp:h[p]? = some (.cells (scnL s) 84))(c:UInt8):(jai h 1 (.ptr p (2+c.toNat))).bind (·[0]?)=some (.int .i64 (clsN c.toNat)):=by
 have hc:=c.toNat_lt;have hl:=juX;rw[YA,hp];simp only[YB,Kn]
 have e:(scnL s)[2+c.toNat]? = (clsL.map (V.int .i64))[c.toNat]? := by
  unfold scnL;rw[show 2+c.toNat=c.toNat+1+1 by omega];simp
 rw[e,Y0,Ki (by omega),juY]
theorem jcc(h:List AObj)(p:Nat)(s:List UInt8)(hp:h[p]? = some (.cells (scnL s) 84)):(jai h 1 (.ptr p 0)).bind (·[0]?)=some (.str s):=by
 rw[YA,hp];rfl
theorem jcZ(h:List AObj)(p:V):jbi env h 9 p=(jai h 1 p).bind (·[0]?):=jaY (by kernel_rfl)
theorem jdQ(p:Nat)(c:UInt8):idxO (some (.array 256 80)) (sz env) (some (.ptr p 2)) (some (.int .u8 c.toNat))=some (.ptr p (2+c.toNat)):=by
 have hc:=c.toNat_lt;simp[idxO,s87,jdv];omega
def runW(s:List UInt8)(cs:List Int):Nat->Nat->Nat
 |0,i=>i
 |m+1,i=>if clsN (s.getD i 0).toNat∈cs then runW s cs m (i+1)else i
def endW(s:List UInt8)(cs:List Int)(i:Nat):Nat:=runW s cs (s.length-i) i
theorem fo0:ja5 env 84 0=some 0:=by kernel_rfl
theorem fo2:ja5 env 84 2=some 2:=by kernel_rfl
theorem juZ(s:List UInt8)(hl:s.length<=2^30)(L:List AObj)(ts:List Nat)(p:Nat)(hp:L[p]? = some (.cells (scnL s) 84))(cs:List Int)(c:RCap)(hc:∀k e s,c ≠ .tok k e s)(hcl:cs.length<=1000)(Q:Post)(c2:Code)(e:Nat)
  (h2:∀T,T 1=.int .i64 (e:Nat)->G env 85 none 32 Q [] c2 T [] ⟨L,ts⟩) (T:Tm) (i0:Nat) (h0:i0<=s.length) (he:runW s cs (s.length-i0) i0=e)
  (a0:T 0=.ptr p 0) (a1:T 1=.int .i64 (i0:Nat)) (a2:T 2=.row (cs.map (V.int .i64)) cs.length c) :
  jiY env 85 none 32 (jf2 0 (jaz Tryz.f85)) T [] ⟨L,ts⟩ (Kt.post env 85 none 32 Q [.blk 0,.code c2]):=by
 simp only[jaz,Tryz.f85,Kv,jf2,blkC,Option.or,Nat.reduceEqDiff,Ks,Ku,reduceIte];refine jbo (λm T D O=>D=[]/\O=⟨L,ts⟩/\T 0=.ptr p 0/\T 2=.row (cs.map (V.int .i64)) cs.length c/\∃i:Nat,T 1=.int .i64 i/\i<=s.length/\m=s.length-i/\runW s cs (s.length-i) i=e) ?_ _ _ _ _ ⟨rfl,rfl,a0,a2,i0,a1,h0,rfl,he⟩;clear a0 a1 a2 he h0 i0 T;rintro m T D O ⟨rfl,rfl,t0,t2,i,t1,hi,rfl,he⟩;refine jar ?_;by_cases hlt:i<s.length
 ·have c1:(i:Int)<(s.length:Int):=by omega
  have c2':(0:Int)<=(i:Int)/\(i:Int)<(s.length:Int):=by omega
  have e1:IntKind.i64.wrap ((i:Int)+1)=((i+1:Nat):Int):=by rw[wrap_i64 (by omega) (by omega)];omega
  obtain⟨q,hq⟩:∃q,s.length-i=q+1:=⟨s.length-i-1,by omega⟩;have hq2:q=s.length-(i+1):=by omega
  have hstep:runW s cs (s.length-i) i=if clsN (s.getD i 0).toNat∈cs then runW s cs q (i+1)else i:=by rw[hq];rfl
  rw[hstep]at he;by_cases hn:clsN (s.getD i 0).toNat∈cs
  ·rw[Ki hn,hq2]at he;simp only[Ka,simprocAttr,Uy,Ke,Vq,t0,t1,t2,c1,c2',e1,jaa,jae,fo0,fo2,jcZ,jdi,jcc L p s hp,jdP L p s hp,u88,jdQ,jaL,jaG,jaE u9,jg1 cs c hc hcl,hn,K3,K7];exact⟨by kernel_rfl,s.length-(i+1),by omega,i+1,rfl,by omega,rfl,he⟩
  ·rw[Kj hn]at he;subst he;simp only[Ka,simprocAttr,Uy,Ke,Vq,t0,t1,t2,c1,c2',e1,jaa,jae,fo0,fo2,jcZ,jdi,jcc L p s hp,jdP L p s hp,u88,jdQ,jaL,jaG,jaE u9,jg1 cs c hc hcl,hn,K3,K7];exact⟨by kernel_rfl,h2 _ t1⟩
 ·have hi2:i=s.length:=by omega
  subst hi2;have c1:¬(s.length:Int)<(s.length:Int):=by omega
  rw[X6]at he;simp only[runW]at he;subst he;simp only[Ka,simprocAttr,Uy,Ke,Vq,t0,t1,t2,c1,jaa,jae,fo0,fo2,jcZ,jcc L p s hp,jaL];exact⟨by kernel_rfl,h2 _ t1⟩
theorem jdb(s:List UInt8)(hl:s.length<=2^30)(L:List AObj)(ts:List Nat)(p:Nat)(hp:L[p]? = some (.cells (scnL s) 84))(cs:List Int)(n:Nat)(hn:n=cs.length)(c:RCap)(hc:∀k e s,c ≠ .tok k e s)(hcl:cs.length<=1000)(i:Nat)(hi:i<=s.length) :
  jas env (ev env) 85 [.ptr p 0,.int .i64 (i:Nat),.row (cs.map (V.int .i64)) n c] ⟨L,ts⟩=some (.int .i64 (endW s cs i:Nat),⟨L,ts⟩):=by
 subst hn;refine jbk rfl rfl at85 rfl (by simp[Tryz.f85]) (U4 rfl) (jar ?_);simp only[Tryz.f85,Ka,simprocAttr,Uy,Ke,Vq];refine juZ s hl L ts p hp cs c hc hcl _ _ (endW s cs i) (λT t1 => ?_) _ i hi rfl rfl rfl rfl;simp only[Ka,simprocAttr,Uy,Ke,Vq,t1,jaW]
def subS(s:List UInt8)(i j:Nat):List UInt8:=(s.drop i).take (j-i)
theorem jeC(s:List UInt8)(i j:Nat)(hij:i<=j)(hj:j<=s.length):jb0 env 9 (.str s) (some (.int .i64 (i:Nat))) (some (.int .i64 (j:Nat))) none=some (.str (subS s i j)):=by
 simp[jb0,u9,jcT,jbl,subS,hij,hj]
theorem jAf:env.P.funcs[125]? = some Tryz.f125:=by kernel_rfl
theorem jw4:jbQ.length=16:=by kernel_rfl
theorem ju0 {ws:List (List UInt8)}{j:Nat}(hj:j<ws.length)(x:List UInt8):x∈ws.drop j↔(ws.getD j []=x\/x∈ws.drop (j+1)):=by
 rw[Q8 hj,Qv];simp[List.getD,hj,eq_comm]
theorem jw5(s:List UInt8)(hl:s.length<=2^30)(L:List AObj)(ts:List Nat)(p:Nat)(hp:L[p]? = some (.cells (scnL s) 84))(i w:Nat)(hw:w<=2)(hi:i+w<=s.length)(Q:Post)(ks:List Kt)
  (hf:subS s i (i+w)∈jbQ->∀T,T 4=.str (subS s i (i+w))->T 5=.bool true->G env 125 none 41 Q ks .ret T [] ⟨L,ts⟩)
  (h2:subS s i (i+w) ∉ jbQ->∀T,T 0=.ptr p 0->T 1=.int .i64 (i:Nat)->T 6=.int .i64 (w:Nat)->G env 125 none 41 Q ks .skip T [] ⟨L,ts⟩) (T:Tm)
  (a0:T 0=.ptr p 0) (a1:T 1=.int .i64 (i:Nat)) (a6:T 6=.int .i64 (w:Nat)) (a22:T 22=.row (jbQ.map V.str) 16 .unk) (a23:T 23=.int .i64 16) (a24:T 24=.int .i64 (0:Nat)) :
  jiY env 125 none 41 (jf2 2 (jaz Tryz.f125)) T [] ⟨L,ts⟩ (Kt.post env 125 none 41 Q (.blk 2::ks)):=by
 simp only[jaz,Tryz.f125,Kv,jf2,blkC,Option.or,Nat.reduceEqDiff,Ks,Ku,reduceIte];refine jbo (λm T D O=>D=[]/\O=⟨L,ts⟩/\T 0=.ptr p 0/\T 1=.int .i64 (i:Nat)/\T 6=.int .i64 (w:Nat)/\T 22=.row (jbQ.map V.str) 16 .unk/\T 23=.int .i64 16/\∃j:Nat,T 24=.int .i64 j/\j<=16/\m=16-j/\(subS s i (i+w)∈jbQ↔subS s i (i+w)∈jbQ.drop j)) ?_ _ _ _ _ ⟨rfl,rfl,a0,a1,a6,a22,a23,0,a24,Qk _,rfl,by rw[Jn]⟩;clear a0 a1 a6 a22 a23 a24 T;rintro m T D O ⟨rfl,rfl,t0,t1,t6,t22,t23,j,t24,hj,rfl,hm⟩;refine jar ?_;have h16:=jw4;have e2:IntKind.i64.wrap ((i:Int)+(w:Int))=((i+w:Nat):Int):=by rw[wrap_i64 (by omega) (by omega)];omega
 by_cases hlt:j<16
 ·have c1:(j:Int)<16:=by omega
  have c3:(0:Int)<=(j:Int)/\(j:Int)<(16:Nat):=by omega
  have c4:j<jbQ.length:=by omega
  have e1:IntKind.i64.wrap ((j:Int)+1)=((j+1:Nat):Int):=by rw[wrap_i64 (by omega) (by omega)];omega
  have hd:=ju0 c4 (subS s i (i+w));by_cases hn:jbQ.getD j []=subS s i (i+w)
  ·have hin:subS s i (i+w)∈jbQ:=hm.2 (hd.2 (.inl hn));simp only[Ka,simprocAttr,Uy,Ke,Vq,t0,t1,t6,t22,t23,t24,c1,c3,c4,e1,e2,jaa,jae,fo0,jcZ,jcc L p s hp,jbb,jbc,jbg,jeC s i (i+w) (Nat.le_add_right _ _) hi,jeh,jac,hn];refine hf hin _ ?_ ?_<;>rfl
  ·have hm2:subS s i (i+w)∈jbQ↔subS s i (i+w)∈jbQ.drop (j+1):=hm.trans (hd.trans ⟨λh=>h.resolve_left hn,.inr⟩);simp only[Ka,simprocAttr,Uy,Ke,Vq,t0,t1,t6,t22,t23,t24,c1,c3,c4,e1,e2,jaa,jae,fo0,jcZ,jcc L p s hp,jbb,jbc,jbg,jeC s i (i+w) (Nat.le_add_right _ _) hi,jeh,jac,hn];exact⟨16-(j+1),by omega,j+1,rfl,by omega,rfl,hm2⟩
 ·have hj2:j=16:=by omega
  subst hj2
  have hni:subS s i (i+w) ∉ jbQ:=by
   rw[hm,X5 (by omega)];exact Jj
  have c1:¬((16:Nat):Int)<16:=by omega
  simp only[Ka,simprocAttr,Uy,Ke,Vq,t0,t1,t6,t22,t23,t24,c1];exact h2 hni _ t0 t1 t6
def sgW(s:List UInt8)(i:Nat):Nat->List UInt8 × Bool
 |0=>([],false)
 |w+1=>if i+(w+1)<=s.length/\subS s i (i+(w+1))∈jbQ then(subS s i (i+(w+1)),true)else sgW s i w
def sgV(r:List UInt8 × Bool):V:=.tup [.str r.1,.bool r.2]
theorem jku(s:List UInt8)(hl:s.length<=2^30)(L:List AObj)(ts:List Nat)(p:Nat)(hp:L[p]? = some (.cells (scnL s) 84))(i:Nat)(hi:i<=s.length) :
  jas env (ev env) 125 [.ptr p 0,.int .i64 (i:Nat)] ⟨L,ts⟩=some (sgV (sgW s i 2),⟨L,ts⟩):=by
 refine jbk rfl rfl jAf rfl (by simp[Tryz.f125]) (U4 rfl) (jar ?_);simp only[Tryz.f125,Ka,simprocAttr,Uy,Ke,Vq];refine jbo (λm T D O=>D=[]/\O=⟨L,ts⟩/\T 0=.ptr p 0/\T 1=.int .i64 (i:Nat)/\∃w:Nat,T 6=.int .i64 w/\w<=2/\m=w/\sgW s i w=sgW s i 2) ?_ _ _ _ _ ⟨rfl,rfl,rfl,rfl,2,rfl,Kw _,rfl,rfl⟩;rintro m T D O ⟨rfl,rfl,t0,t1,w,t6,hw,rfl,hs⟩;refine jar ?_;cases m with
 |zero =>
  have c1:¬(0:Int)<((0:Nat):Int):=by omega
  simp only[Ka,simprocAttr,Uy,Ke,Vq,t0,t1,t6,c1,jaW];rw[<- hs];first|exact⟨rfl,rfl⟩|exact⟨rfl,trivial⟩
 | succ w =>
  have c1:(0:Int)<((w+1:Nat):Int):=by omega
  have e1:IntKind.i64.wrap (((w+1:Nat):Int)-1)=(w:Int):=by rw[wrap_i64 (by omega) (by omega)];omega
  have e2:IntKind.i64.wrap ((i:Int)+((w+1:Nat):Int))=((i+(w+1):Nat):Int):=by rw[wrap_i64 (by omega) (by omega)];omega
  by_cases h1:i+(w+1)<=s.length
  ·have c2:¬(s.length:Int)<((i+(w+1):Nat):Int):=by omega
   simp only[Ka,simprocAttr,Uy,Ke,Vq,t0,t1,t6,c1,c2,e1,e2,jaa,jae,fo0,jcZ,jcc L p s hp,jaL,jrm];refine jw5 s hl L ts p hp i (w+1) hw h1 _ _ (λhin T t4 t5 => ?_) (λhni T t0 t1 t6 => ?_) _ ?_ ?_ ?_ ?_ ?_ ?_
   ·have:sgW s i (w+1)=(subS s i (i+(w+1)),true):=Ki ⟨h1,hin⟩;simp only[Ka,simprocAttr,Uy,Ke,Vq,t4,t5,jaW];rw[<- hs,this];first|exact⟨rfl,rfl⟩|exact⟨rfl,trivial⟩
   ·have:sgW s i (w+1)=sgW s i w:=Kj λh=>hni h.2
    simp only[Ka,simprocAttr,Uy,Ke,Vq,t0,t1,t6,e1];exact⟨w,by omega,w,rfl,by omega,rfl,this ▸ hs⟩
   all_goals first|exact t0|exact t1|exact t6|rfl
  ·have c2:(s.length:Int)<((i+(w+1):Nat):Int):=by omega
   have:sgW s i (w+1)=sgW s i w:=Kj λh=>h1 h.1
   simp only[Ka,simprocAttr,Uy,Ke,Vq,t0,t1,t6,c1,c2,e1,e2,jaa,jae,fo0,jcZ,jcc L p s hp,jaL];exact⟨w,by omega,w,rfl,by omega,rfl,this ▸ hs⟩
theorem jpi(s:List UInt8)(cs:List Int):∀m i,i<=runW s cs m i/\runW s cs m i<=i+m
 |0,i=>⟨Kw _,Kw _⟩
 |m+1,i=>by
  simp only[runW];split
  ·have:=jpi s cs m (i+1);omega
  ·omega
theorem jbB(s:List UInt8)(cs:List Int)(i:Nat)(hi:i<=s.length):i<=endW s cs i/\endW s cs i<=s.length:=by
 have:=jpi s cs (s.length-i) i;unfold endW;omega
theorem jpj(s:List UInt8)(cs:List Int):∀m i j,i<=j->j<runW s cs m i->clsN (s.getD j 0).toNat∈cs
 |0,i,j,h1,h2=>by simp only[runW]at h2;omega
 | m+1,i,j,h1,h2=>by
  simp only[runW]at h2;split at h2
  ·rcases K4 i j with h3|h3
   ·exact jpj s cs m (i+1) j h3 h2
   ·have:j=i:=by omega
    subst this;assumption
  ·omega
theorem jpk(s:List UInt8)(cs:List Int)(i:Nat)(hi:i<s.length)(h:clsN (s.getD i 0).toNat∈cs):i<endW s cs i:=by
 obtain⟨q,hq⟩:∃q,s.length-i=q+1:=⟨s.length-i-1,by omega⟩;unfold endW;rw[hq];simp only[runW,Ki h];have:=jpi s cs q (i+1);omega
theorem jce(s:List UInt8)(i j:Nat)(h:j<=s.length):(subS s i j).length=j-i:=by
 unfold subS;rw[K9,Qo];omega
theorem jfM(s:List UInt8)(i j k:Nat)(h:j<=s.length)(hk:k<j-i):(subS s i j).getD k 0=s.getD (i+k) 0:=by
 unfold subS;simp only[List.getD];rw[Q4,Ki hk,Jo]
theorem jyt(c:UInt8)(h:clsN c.toNat=3):IsDg c:=by
 unfold clsN at h;unfold IsDg;split at h
 ·omega
 ·split at h
  ·assumption
  ·split at h
   ·omega
   ·split at h
    ·omega
    ·split at h<;>omega
theorem jtt(s:List UInt8)(i:Nat)(hi:i<=s.length):∀k,k<(subS s i (endW s [3] i)).length->IsDg ((subS s i (endW s [3] i)).getD k 0):=by
 intro k hk;have he:=jbB s [3] i hi;rw[jce _ _ _ he.2]at hk;rw[jfM _ _ _ _ he.2 hk];have:=jpj s [3] (s.length-i) i (i+k) (by omega) (by unfold endW at hk;omega);exact jyt _ (by simpa using this)
theorem jpl(s:List UInt8)(i:Nat):∀w,(sgW s i w).1.length<=w
 |0=>Kw _
 |w+1=>by
  simp only[sgW];split
  ·rename_i h;simp only[jce _ _ _ h.1];omega
  ·have:=jpl s i w;omega
theorem at86:env.P.funcs[86]? = some Tryz.f86:=by kernel_rfl
theorem jrr:jo9=N.wordsW.map V.str:=N.resV_words
theorem row2:rowO env 139 3 [(0,.int .i64 2),(1,.int .i64 3),(2,.int .i64 4)]=some (.row (([2,3,4]:List Int).map (V.int .i64)) 3 .full):=by kernel_rfl
theorem row1:rowO env 139 1 [(0,.int .i64 3)]=some (.row (([3]:List Int).map (V.int .i64)) 1 .full):=by kernel_rfl
theorem ju1(O:S):jas env (ev env) 122 [] O=some (.row jo9 35 .unk,O):=jeo rfl rfl rfl (k:=200) (by rw[<- jgi];kernel_rfl) O
theorem jh4(O:S):jas env (ev env) 122 [] O=some (.row (N.wordsW.map V.str) N.wordsW.length .unk,O):=by rw[ju1,jrr,N.words_len]
theorem mb99(r:Nat):env.mutb 86 r=false:=rfl
theorem jd9:∀k e s,RCap.full ≠ .tok k e s:=λ_ _ _ h=>by cases h
theorem jqC:∀k e s,RCap.unk ≠ .tok k e s:=λ_ _ _ h=>by cases h
theorem jgN(k:Int)(s:List UInt8)(p:Int):jci env 47 [(0,.int .i64 k),(1,.str s),(3,.int .i64 p)]=some (.agg [.int .i64 k,.str s,.int .i64 0,.int .i64 p]):=by kernel_rfl
theorem jhi:ja5 env 47 0=some 0:=by kernel_rfl
theorem jhj(L:List AObj)(a b c d:V):jbi env (L++[.cells [a,b,c,d] 47]) 47 (.ptr L.length 0)=some (.agg [a,b,c,d]):=by
 have h:jai (L++[.cells [a,b,c,d] 47]) 4 (.ptr L.length 0)=some [a,b,c,d]:=jnM (jbL L _);have e:sz env 47=some 4:=by kernel_rfl
 have g:Go.Ab.aggT env 47=some true:=by kernel_rfl
 unfold jbi;simp only[e,g,h,Kn,Kx]
theorem U0:type_of% (And.intro @K3 (And.intro @K7 (And.intro @mb99 (And.intro @jag (And.intro @jbb (And.intro @jbc (And.intro @jbg (And.intro @ja6 (And.intro @jbe (And.intro @jbL (And.intro @jcY (@jhj)))))))))))):=And.intro @K3 (And.intro @K7 (And.intro @mb99 (And.intro @jag (And.intro @jbb (And.intro @jbc (And.intro @jbg (And.intro @ja6 (And.intro @jbe (And.intro @jbL (And.intro @jcY (@jhj)))))))))))
def X99(s:List UInt8)(L:List AObj)(ts:List Nat)(p i:Nat)(v:V):Prop:=∃o,jas env (ev env) 86 [.ptr p 0,.int .i64 (i:Nat)] ⟨L,ts⟩=some (v,⟨L++o,ts⟩)
theorem jyu(s:List UInt8)(hl:s.length<=2^30)(L:List AObj)(ts:List Nat)(p:Nat)(hp:L[p]? = some (.cells (scnL s) 84))(i:Nat)(hi:i<s.length)(hc:clsN (s.getD i 0).toNat=2)(x:List UInt8)(e:Nat)(hx:x=subS s i e)(he:e=endW s [2,3,4] i)(h1:¬x∈N.wordsW)(h2:¬20<e-i) :
  X99 s L ts p i (.tup [.agg [.int .i64 1,.str x,.int .i64 0,.int .i64 i],.int .i64 e,.int .i64 0]):=by
 have c2:(0:Int)<=(i:Int)/\(i:Int)<(s.length:Int):=by omega
 have hp2:∀o,(L++o)[p]? = some (.cells (scnL s) 84):=λo=>jbX hp o
 have hb:=jbB s [2,3,4] i (by omega);rw[<- he]at hb;have hsl:=jeC s i e hb.1 hb.2;have hlen:=jce s i e hb.2;rw[<- hx]at hsl hlen;have hrun:=λ(o:List AObj)=>jdb s hl (L++o) ts p (hp2 o) [2,3,4] 3 rfl .full jd9 (by decide) i (by omega)
 rw[<- he]at hrun;have h3:¬(20:Int)<(x.length:Int):=by omega
 refine⟨[.cells [.int .i64 1,.str x,.int .i64 0,.int .i64 i] 47],?_⟩;refine jbk rfl rfl at86 rfl (by simp[Tryz.f86]) (U4 rfl) (jar ?_);simp only[Tryz.f86,Ka,simprocAttr,Uy,Ke,Uz,jab,hp,hp2,zv52,c2,jaa,jae,fo0,fo2,jhi,jcZ,jdi,jcc _ p s (hp2 _),jdP _ p s (hp2 _),u88,jdQ,jaL,jaG,jaE u9,U0,jaW,hc,row2,hrun,hsl,jgN,jh4,jej N.wordsW .unk jqC (by decide),h1,h2,h3]
 first|exact⟨by kernel_rfl,trivial⟩|exact⟨by kernel_rfl,rfl,rfl⟩|exact⟨by kernel_rfl,rfl⟩
theorem jyv(s:List UInt8)(hl:s.length<=2^30)(L:List AObj)(ts:List Nat)(p:Nat)(hp:L[p]? = some (.cells (scnL s) 84))(i:Nat)(hi:i<s.length)(hc:clsN (s.getD i 0).toNat=2)(x:List UInt8)(e:Nat)(hx:x=subS s i e)(he:e=endW s [2,3,4] i)(h1:¬x∈N.wordsW)(h2:20<e-i) :
  X99 s L ts p i (.tup [.agg [.int .i64 1,.str x,.int .i64 0,.int .i64 i],.int .i64 e,.int .i64 19]):=by
 have c2:(0:Int)<=(i:Int)/\(i:Int)<(s.length:Int):=by omega
 have hp2:∀o,(L++o)[p]? = some (.cells (scnL s) 84):=λo=>jbX hp o
 have hb:=jbB s [2,3,4] i (by omega);rw[<- he]at hb;have hsl:=jeC s i e hb.1 hb.2;have hlen:=jce s i e hb.2;rw[<- hx]at hsl hlen;have hrun:=λ(o:List AObj)=>jdb s hl (L++o) ts p (hp2 o) [2,3,4] 3 rfl .full jd9 (by decide) i (by omega)
 rw[<- he]at hrun;have h3:(20:Int)<(x.length:Int):=by omega
 refine⟨[.cells [.int .i64 1,.str x,.int .i64 0,.int .i64 i] 47],?_⟩;refine jbk rfl rfl at86 rfl (by simp[Tryz.f86]) (U4 rfl) (jar ?_);simp only[Tryz.f86,Ka,simprocAttr,Uy,Ke,Uz,jab,hp,hp2,zv52,c2,jaa,jae,fo0,fo2,jhi,jcZ,jdi,jcc _ p s (hp2 _),jdP _ p s (hp2 _),u88,jdQ,jaL,jaG,jaE u9,U0,jaW,hc,row2,hrun,hsl,jgN,jh4,jej N.wordsW .unk jqC (by decide),h1,h2,h3]
 first|exact⟨by kernel_rfl,trivial⟩|exact⟨by kernel_rfl,rfl,rfl⟩|exact⟨by kernel_rfl,rfl⟩
theorem jyw(s:List UInt8)(hl:s.length<=2^30)(L:List AObj)(ts:List Nat)(p:Nat)(hp:L[p]? = some (.cells (scnL s) 84))(i:Nat)(hi:i<s.length)(hc:clsN (s.getD i 0).toNat=2)(x:List UInt8)(e:Nat)(hx:x=subS s i e)(he:e=endW s [2,3,4] i)(h1:x∈N.wordsW)(h2:¬20<e-i) :
  X99 s L ts p i (.tup [.agg [.int .i64 2,.str x,.int .i64 0,.int .i64 i],.int .i64 e,.int .i64 0]):=by
 have c2:(0:Int)<=(i:Int)/\(i:Int)<(s.length:Int):=by omega
 have hp2:∀o,(L++o)[p]? = some (.cells (scnL s) 84):=λo=>jbX hp o
 have hb:=jbB s [2,3,4] i (by omega);rw[<- he]at hb;have hsl:=jeC s i e hb.1 hb.2;have hlen:=jce s i e hb.2;rw[<- hx]at hsl hlen;have hrun:=λ(o:List AObj)=>jdb s hl (L++o) ts p (hp2 o) [2,3,4] 3 rfl .full jd9 (by decide) i (by omega)
 rw[<- he]at hrun;have h3:¬(20:Int)<(x.length:Int):=by omega
 refine⟨[.cells [.int .i64 2,.str x,.int .i64 0,.int .i64 i] 47],?_⟩;refine jbk rfl rfl at86 rfl (by simp[Tryz.f86]) (U4 rfl) (jar ?_);simp only[Tryz.f86,Ka,simprocAttr,Uy,Ke,Uz,jab,hp,hp2,zv52,c2,jaa,jae,fo0,fo2,jhi,jcZ,jdi,jcc _ p s (hp2 _),jdP _ p s (hp2 _),u88,jdQ,jaL,jaG,jaE u9,U0,jaW,hc,row2,hrun,hsl,jgN,jh4,jej N.wordsW .unk jqC (by decide),h1,h2,h3]
 first|exact⟨by kernel_rfl,trivial⟩|exact⟨by kernel_rfl,rfl,rfl⟩|exact⟨by kernel_rfl,rfl⟩
theorem jyx(s:List UInt8)(hl:s.length<=2^30)(L:List AObj)(ts:List Nat)(p:Nat)(hp:L[p]? = some (.cells (scnL s) 84))(i:Nat)(hi:i<s.length)(hc:clsN (s.getD i 0).toNat=2)(x:List UInt8)(e:Nat)(hx:x=subS s i e)(he:e=endW s [2,3,4] i)(h1:x∈N.wordsW)(h2:20<e-i) :
  X99 s L ts p i (.tup [.agg [.int .i64 2,.str x,.int .i64 0,.int .i64 i],.int .i64 e,.int .i64 19]):=by
 have c2:(0:Int)<=(i:Int)/\(i:Int)<(s.length:Int):=by omega
 have hp2:∀o,(L++o)[p]? = some (.cells (scnL s) 84):=λo=>jbX hp o
 have hb:=jbB s [2,3,4] i (by omega);rw[<- he]at hb;have hsl:=jeC s i e hb.1 hb.2;have hlen:=jce s i e hb.2;rw[<- hx]at hsl hlen;have hrun:=λ(o:List AObj)=>jdb s hl (L++o) ts p (hp2 o) [2,3,4] 3 rfl .full jd9 (by decide) i (by omega)
 rw[<- he]at hrun;have h3:(20:Int)<(x.length:Int):=by omega
 refine⟨[.cells [.int .i64 2,.str x,.int .i64 0,.int .i64 i] 47],?_⟩;refine jbk rfl rfl at86 rfl (by simp[Tryz.f86]) (U4 rfl) (jar ?_);simp only[Tryz.f86,Ka,simprocAttr,Uy,Ke,Uz,jab,hp,hp2,zv52,c2,jaa,jae,fo0,fo2,jhi,jcZ,jdi,jcc _ p s (hp2 _),jdP _ p s (hp2 _),u88,jdQ,jaL,jaG,jaE u9,U0,jaW,hc,row2,hrun,hsl,jgN,jh4,jej N.wordsW .unk jqC (by decide),h1,h2,h3]
 first|exact⟨by kernel_rfl,trivial⟩|exact⟨by kernel_rfl,rfl,rfl⟩|exact⟨by kernel_rfl,rfl⟩
theorem nx_d(s:List UInt8)(hl:s.length<=2^30)(L:List AObj)(ts:List Nat)(p:Nat)(hp:L[p]? = some (.cells (scnL s) 84))(i:Nat)(hi:i<s.length)(hc:clsN (s.getD i 0).toNat=3)(e:Nat)(he:e=endW s [3] i)(t:Tok)(x:Int)(hv:numV (subS s i e) i=tokE t x) :
  X99 s L ts p i (.tup [.agg [.int .i64 t.kind,.str t.text,.int .i64 t.n,.int .i64 t.pos],.int .i64 e,.int .i64 x]):=by
 have c2:(0:Int)<=(i:Int)/\(i:Int)<(s.length:Int):=by omega
 have hp2:∀o,(L++o)[p]? = some (.cells (scnL s) 84):=λo=>jbX hp o
 have hb:=jbB s [3] i (by omega);have hb2:=jpk s [3] i hi (by rw[hc];decide);have hdg:=jtt s i (by omega);rw[<- he]at hb hb2 hdg;have hsl:=jeC s i e hb.1 hb.2;have hlen:=jce s i e hb.2;have hrun:=λ(o:List AObj)=>jdb s hl (L++o) ts p (hp2 o) [3] 1 rfl .full jd9 (by decide) i (by omega)
 rw[<- he]at hrun;have hnum:=jph (subS s i e) i hdg (λh=>by rw[h]at hlen;simp at hlen;omega) (by omega);rw[hv]at hnum;unfold tokE YtpclebdkhpapjaaGreatDoor.T.aggT at hnum;have hc2:((3:Int)=2)=False:=eq_false (by omega);refine⟨[.cells [.int .i64 t.kind,.str t.text,.int .i64 t.n,.int .i64 t.pos] 47],?_⟩;refine jbk rfl rfl at86 rfl (by simp[Tryz.f86]) (U4 rfl) (jar ?_);simp only[Tryz.f86,Ka,simprocAttr,Uy,Ke,Uz,jab,hp,hp2,zv52,c2,jaa,jae,fo0,fo2,jhi,jcZ,jdi,jcc _ p s (hp2 _),jdP _ p s (hp2 _),u88,jdQ,jaL,jaG,jaE u9,U0,jaW,hc,hc2,row1,hrun,hsl,hnum,YW]
 first|exact⟨by kernel_rfl,trivial⟩|exact⟨by kernel_rfl,rfl,rfl⟩|exact⟨by kernel_rfl,rfl⟩
theorem jAg(s:List UInt8)(hl:s.length<=2^30)(L:List AObj)(ts:List Nat)(p:Nat)(hp:L[p]? = some (.cells (scnL s) 84))(i:Nat)(hi:i<s.length)(hc:clsN (s.getD i 0).toNat=5)(e:Nat)(he:e=endW s [2,3,4] (i+1))(h1:¬e<s.length) :
  X99 s L ts p i (.tup [.agg [.int .i64 0,.str [],.int .i64 0,.int .i64 0],.int .i64 e,.int .i64 11]):=by
 have c2:(0:Int)<=(i:Int)/\(i:Int)<(s.length:Int):=by omega
 have hp2:∀o,(L++o)[p]? = some (.cells (scnL s) 84):=λo=>jbX hp o
 have hb:=jbB s [2,3,4] (i+1) (by omega);rw[<- he]at hb;have hsl:=jeC s (i+1) e hb.1 hb.2;have hrun:=λ(o:List AObj)=>jdb s hl (L++o) ts p (hp2 o) [2,3,4] 3 rfl .full jd9 (by decide) (i+1) (by omega)
 rw[<- he]at hrun;have hc2:((5:Int)=2)=False:=eq_false (by omega);have hc3:((5:Int)=3)=False:=eq_false (by omega);have e1:IntKind.i64.wrap ((i:Int)+1)=((i+1:Nat):Int):=by rw[wrap_i64 (by omega) (by omega)];omega
 have g1:(s.length:Int)<=(e:Int):=by omega
 refine⟨[.cells [.int .i64 0,.str [],.int .i64 0,.int .i64 0] 47],?_⟩;refine jbk rfl rfl at86 rfl (by simp[Tryz.f86]) (U4 rfl) (jar ?_);simp only[Tryz.f86,Ka,simprocAttr,Uy,Ke,Uz,jab,hp,hp2,zv52,c2,jaa,jae,fo0,fo2,jhi,jcZ,jdi,jcc _ p s (hp2 _),jdP _ p s (hp2 _),u88,jdQ,jaL,jaG,jaE u9,U0,jaW,hc,hc2,hc3,e1,row2,hrun,hsl,g1]
 first|exact⟨by kernel_rfl,trivial⟩|exact⟨by kernel_rfl,rfl,rfl⟩|exact⟨by kernel_rfl,rfl⟩
theorem jAh(s:List UInt8)(hl:s.length<=2^30)(L:List AObj)(ts:List Nat)(p:Nat)(hp:L[p]? = some (.cells (scnL s) 84))(i:Nat)(hi:i<s.length)(hc:clsN (s.getD i 0).toNat=5)(e:Nat)(he:e=endW s [2,3,4] (i+1))(h1:e<s.length)(h2:¬(s.getD e 0).toNat=39) :
  X99 s L ts p i (.tup [.agg [.int .i64 0,.str [],.int .i64 0,.int .i64 0],.int .i64 e,.int .i64 11]):=by
 have c2:(0:Int)<=(i:Int)/\(i:Int)<(s.length:Int):=by omega
 have hp2:∀o,(L++o)[p]? = some (.cells (scnL s) 84):=λo=>jbX hp o
 have hb:=jbB s [2,3,4] (i+1) (by omega);rw[<- he]at hb;have hsl:=jeC s (i+1) e hb.1 hb.2;have hrun:=λ(o:List AObj)=>jdb s hl (L++o) ts p (hp2 o) [2,3,4] 3 rfl .full jd9 (by decide) (i+1) (by omega)
 rw[<- he]at hrun;have hc2:((5:Int)=2)=False:=eq_false (by omega);have hc3:((5:Int)=3)=False:=eq_false (by omega);have e1:IntKind.i64.wrap ((i:Int)+1)=((i+1:Nat):Int):=by rw[wrap_i64 (by omega) (by omega)];omega
 have g1:¬(s.length:Int)<=(e:Int):=by omega
 have c3:(0:Int)<=(e:Int)/\(e:Int)<(s.length:Int):=by omega
 have g2:(((s.getD e 0).toNat:Int)=39)=False:=eq_false (by omega);refine⟨[.cells [.int .i64 0,.str [],.int .i64 0,.int .i64 0] 47],?_⟩;refine jbk rfl rfl at86 rfl (by simp[Tryz.f86]) (U4 rfl) (jar ?_);simp only[Tryz.f86,Ka,simprocAttr,Uy,Ke,Uz,jab,hp,hp2,zv52,c2,jaa,jae,fo0,fo2,jhi,jcZ,jdi,jcc _ p s (hp2 _),jdP _ p s (hp2 _),u88,jdQ,jaL,jaG,jaE u9,U0,jaW,hc,hc2,hc3,e1,row2,hrun,hsl,g1,c3,g2]
 first|exact⟨by kernel_rfl,trivial⟩|exact⟨by kernel_rfl,rfl,rfl⟩|exact⟨by kernel_rfl,rfl⟩
theorem jAi(s:List UInt8)(hl:s.length<=2^30)(L:List AObj)(ts:List Nat)(p:Nat)(hp:L[p]? = some (.cells (scnL s) 84))(i:Nat)(hi:i<s.length)(hc:clsN (s.getD i 0).toNat=5)(e:Nat)(he:e=endW s [2,3,4] (i+1))(h1:e<s.length)(h2:(s.getD e 0).toNat=39)(h3:¬N.IsName (subS s (i+1) e)) :
  X99 s L ts p i (.tup [.agg [.int .i64 0,.str [],.int .i64 0,.int .i64 0],.int .i64 e,.int .i64 11]):=by
 have c2:(0:Int)<=(i:Int)/\(i:Int)<(s.length:Int):=by omega
 have hp2:∀o,(L++o)[p]? = some (.cells (scnL s) 84):=λo=>jbX hp o
 have hb:=jbB s [2,3,4] (i+1) (by omega);rw[<- he]at hb;have hsl:=jeC s (i+1) e hb.1 hb.2;have hrun:=λ(o:List AObj)=>jdb s hl (L++o) ts p (hp2 o) [2,3,4] 3 rfl .full jd9 (by decide) (i+1) (by omega)
 rw[<- he]at hrun;have hc2:((5:Int)=2)=False:=eq_false (by omega);have hc3:((5:Int)=3)=False:=eq_false (by omega);have e1:IntKind.i64.wrap ((i:Int)+1)=((i+1:Nat):Int):=by rw[wrap_i64 (by omega) (by omega)];omega
 have g1:¬(s.length:Int)<=(e:Int):=by omega
 have c3:(0:Int)<=(e:Int)/\(e:Int)<(s.length:Int):=by omega
 have g2:(((s.getD e 0).toNat:Int)=39)=True:=eq_true (by omega);have hnm:=N.name_call (subS s (i+1) e) (by rw[jce _ _ _ hb.2];omega);refine⟨[.cells [.int .i64 0,.str [],.int .i64 0,.int .i64 0] 47],?_⟩;refine jbk rfl rfl at86 rfl (by simp[Tryz.f86]) (U4 rfl) (jar ?_);simp only[Tryz.f86,Ka,simprocAttr,Uy,Ke,Uz,jab,hp,hp2,zv52,c2,jaa,jae,fo0,fo2,jhi,jcZ,jdi,jcc _ p s (hp2 _),jdP _ p s (hp2 _),u88,jdQ,jaL,jaG,jaE u9,U0,jaW,hc,hc2,hc3,e1,row2,hrun,hsl,g1,c3,g2,hnm,h3]
 first|exact⟨by kernel_rfl,trivial⟩|exact⟨by kernel_rfl,rfl,rfl⟩|exact⟨by kernel_rfl,rfl⟩
theorem jAj(s:List UInt8)(hl:s.length<=2^30)(L:List AObj)(ts:List Nat)(p:Nat)(hp:L[p]? = some (.cells (scnL s) 84))(i:Nat)(hi:i<s.length)(hc:clsN (s.getD i 0).toNat=5)(e:Nat)(he:e=endW s [2,3,4] (i+1))(h1:e<s.length)(h2:(s.getD e 0).toNat=39)(h3:N.IsName (subS s (i+1) e)) :
  X99 s L ts p i (.tup [.agg [.int .i64 4,.str (subS s (i+1) e),.int .i64 0,.int .i64 i],.int .i64 (e+1:Nat),.int .i64 0]):=by
 have c2:(0:Int)<=(i:Int)/\(i:Int)<(s.length:Int):=by omega
 have hp2:∀o,(L++o)[p]? = some (.cells (scnL s) 84):=λo=>jbX hp o
 have hb:=jbB s [2,3,4] (i+1) (by omega);rw[<- he]at hb;have hsl:=jeC s (i+1) e hb.1 hb.2;have hrun:=λ(o:List AObj)=>jdb s hl (L++o) ts p (hp2 o) [2,3,4] 3 rfl .full jd9 (by decide) (i+1) (by omega)
 rw[<- he]at hrun;have hc2:((5:Int)=2)=False:=eq_false (by omega);have hc3:((5:Int)=3)=False:=eq_false (by omega);have e1:IntKind.i64.wrap ((i:Int)+1)=((i+1:Nat):Int):=by rw[wrap_i64 (by omega) (by omega)];omega
 have g1:¬(s.length:Int)<=(e:Int):=by omega
 have c3:(0:Int)<=(e:Int)/\(e:Int)<(s.length:Int):=by omega
 have g2:(((s.getD e 0).toNat:Int)=39)=True:=eq_true (by omega);have hnm:=N.name_call (subS s (i+1) e) (by rw[jce _ _ _ hb.2];omega);have e3:IntKind.i64.wrap ((e:Int)+1)=((e+1:Nat):Int):=by rw[wrap_i64 (by omega) (by omega)];omega
 refine⟨[.cells [.int .i64 4,.str (subS s (i+1) e),.int .i64 0,.int .i64 i] 47],?_⟩;refine jbk rfl rfl at86 rfl (by simp[Tryz.f86]) (U4 rfl) (jar ?_);simp only[Tryz.f86,Ka,simprocAttr,Uy,Ke,Uz,jab,hp,hp2,zv52,c2,jaa,jae,fo0,fo2,jhi,jcZ,jdi,jcc _ p s (hp2 _),jdP _ p s (hp2 _),u88,jdQ,jaL,jaG,jaE u9,U0,jaW,hc,hc2,hc3,e1,row2,hrun,hsl,g1,c3,g2,hnm,h3,e3,jgN]
 first|exact⟨by kernel_rfl,trivial⟩|exact⟨by kernel_rfl,rfl,rfl⟩|exact⟨by kernel_rfl,rfl⟩
theorem jAk(s:List UInt8)(hl:s.length<=2^30)(L:List AObj)(ts:List Nat)(p:Nat)(hp:L[p]? = some (.cells (scnL s) 84))(i:Nat)(hi:i<s.length)(k2:¬clsN (s.getD i 0).toNat=2)(k3:¬clsN (s.getD i 0).toNat=3)(k5:¬clsN (s.getD i 0).toNat=5)(x:List UInt8)(hx:sgW s i 2=(x,false)) :
  X99 s L ts p i (.tup [.agg [.int .i64 0,.str [],.int .i64 0,.int .i64 0],.int .i64 i,.int .i64 11]):=by
 have c2:(0:Int)<=(i:Int)/\(i:Int)<(s.length:Int):=by omega
 have hp2:∀o,(L++o)[p]? = some (.cells (scnL s) 84):=λo=>jbX hp o
 have hsg:=λ(o:List AObj)=>jku s hl (L++o) ts p (hp2 o) i (by omega)
 have hlen:=jpl s i 2;rw[hx]at hsg hlen;simp only[sgV]at hsg hlen;refine⟨[.cells [.int .i64 0,.str [],.int .i64 0,.int .i64 0] 47],?_⟩;refine jbk rfl rfl at86 rfl (by simp[Tryz.f86]) (U4 rfl) (jar ?_);simp only[Tryz.f86,Ka,simprocAttr,Uy,Ke,Uz,jab,hp,hp2,zv52,c2,jaa,jae,fo0,fo2,jhi,jcZ,jdi,jcc _ p s (hp2 _),jdP _ p s (hp2 _),u88,jdQ,jaL,jaG,jaE u9,U0,jaW,k2,k3,k5,hsg]
 first|exact⟨by kernel_rfl,trivial⟩|exact⟨by kernel_rfl,rfl,rfl⟩|exact⟨by kernel_rfl,rfl⟩
theorem jAl(s:List UInt8)(hl:s.length<=2^30)(L:List AObj)(ts:List Nat)(p:Nat)(hp:L[p]? = some (.cells (scnL s) 84))(i:Nat)(hi:i<s.length)(k2:¬clsN (s.getD i 0).toNat=2)(k3:¬clsN (s.getD i 0).toNat=3)(k5:¬clsN (s.getD i 0).toNat=5)(x:List UInt8)(hx:sgW s i 2=(x,true)) :
  X99 s L ts p i (.tup [.agg [.int .i64 5,.str x,.int .i64 0,.int .i64 i],.int .i64 (i+x.length:Nat),.int .i64 0]):=by
 have c2:(0:Int)<=(i:Int)/\(i:Int)<(s.length:Int):=by omega
 have hp2:∀o,(L++o)[p]? = some (.cells (scnL s) 84):=λo=>jbX hp o
 have hsg:=λ(o:List AObj)=>jku s hl (L++o) ts p (hp2 o) i (by omega)
 have hlen:=jpl s i 2;rw[hx]at hsg hlen;simp only[sgV]at hsg hlen;have e1:IntKind.i64.wrap ((i:Int)+(x.length:Int))=((i+x.length:Nat):Int):=by rw[wrap_i64 (by omega) (by omega)];omega
 refine⟨[.cells [.int .i64 5,.str x,.int .i64 0,.int .i64 i] 47],?_⟩;refine jbk rfl rfl at86 rfl (by simp[Tryz.f86]) (U4 rfl) (jar ?_);simp only[Tryz.f86,Ka,simprocAttr,Uy,Ke,Uz,jab,hp,hp2,zv52,c2,jaa,jae,fo0,fo2,jhi,jcZ,jdi,jcc _ p s (hp2 _),jdP _ p s (hp2 _),u88,jdQ,jaL,jaG,jaE u9,U0,jaW,k2,k3,k5,hsg,e1,jgN]
 first|exact⟨by kernel_rfl,trivial⟩|exact⟨by kernel_rfl,rfl,rfl⟩|exact⟨by kernel_rfl,rfl⟩
def Tok.zero:Tok:=⟨0,[],0,0⟩
def jcn(s:List UInt8)(i:Nat):Tok × Nat × Int :=
 if clsN (s.getD i 0).toNat=2 then
  (⟨if subS s i (endW s [2,3,4] i)∈N.wordsW then 2 else 1,subS s i (endW s [2,3,4] i),0,i⟩,endW s [2,3,4] i,if 20<endW s [2,3,4] i-i then 19 else 0)
 else if clsN (s.getD i 0).toNat=3 then
  if 1<(subS s i (endW s [3] i)).length/\((subS s i (endW s [3] i)).getD 0 0).toNat=48 then(.zero,endW s [3] i,11)
  else if 1000000000<decV 0 (subS s i (endW s [3] i))then(.zero,endW s [3] i,2)
  else(⟨3,subS s i (endW s [3] i),decV 0 (subS s i (endW s [3] i)),i⟩,endW s [3] i,0)
 else if clsN (s.getD i 0).toNat=5 then
  if endW s [2,3,4] (i+1)<s.length/\(s.getD (endW s [2,3,4] (i+1)) 0).toNat=39/\N.IsName (subS s (i+1) (endW s [2,3,4] (i+1)))then(⟨4,subS s (i+1) (endW s [2,3,4] (i+1)),0,i⟩,endW s [2,3,4] (i+1)+1,0)
  else(.zero,endW s [2,3,4] (i+1),11)
 else if(sgW s i 2).2=true then(⟨5,(sgW s i 2).1,0,i⟩,i+(sgW s i 2).1.length,0)
 else(.zero,i,11)
def jtu(r:Tok × Nat × Int):V:=.tup [.agg [.int .i64 r.1.kind,.str r.1.text,.int .i64 r.1.n,.int .i64 r.1.pos],.int .i64 r.2.1,.int .i64 r.2.2]
theorem jh5(s:List UInt8)(hl:s.length<=2^30)(L:List AObj)(ts:List Nat)(p:Nat)(hp:L[p]? = some (.cells (scnL s) 84))(i:Nat)(hi:i<s.length) :
  X99 s L ts p i (jtu (jcn s i)):=by
 unfold jcn;by_cases k2:clsN (s.getD i 0).toNat=2
 ·rw[Ki k2];by_cases h1:subS s i (endW s [2,3,4] i)∈N.wordsW
  ·rw[Ki h1];by_cases h2:20<endW s [2,3,4] i-i
   ·rw[Ki h2];exact jyx s hl L ts p hp i hi k2 _ _ rfl rfl h1 h2
   ·rw[Kj h2];exact jyw s hl L ts p hp i hi k2 _ _ rfl rfl h1 h2
  ·rw[Kj h1];by_cases h2:20<endW s [2,3,4] i-i
   ·rw[Ki h2];exact jyv s hl L ts p hp i hi k2 _ _ rfl rfl h1 h2
   ·rw[Kj h2];exact jyu s hl L ts p hp i hi k2 _ _ rfl rfl h1 h2
 rw[Kj k2];by_cases k3:clsN (s.getD i 0).toNat=3
 ·rw[Ki k3];have hd:=λt x=>nx_d s hl L ts p hp i hi k3 _ rfl t x
  unfold numV at hd;by_cases h1:1<(subS s i (endW s [3] i)).length/\((subS s i (endW s [3] i)).getD 0 0).toNat=48
  ·rw[Ki h1]at hd ⊢;exact hd _ _ rfl
  ·rw[Kj h1]at hd ⊢;by_cases h2:1000000000<decV 0 (subS s i (endW s [3] i))
   ·rw[Ki h2]at hd ⊢;exact hd _ _ rfl
   ·rw[Kj h2]at hd ⊢;exact hd _ _ rfl
 rw[Kj k3];by_cases k5:clsN (s.getD i 0).toNat=5
 ·rw[Ki k5];by_cases h:endW s [2,3,4] (i+1)<s.length/\(s.getD (endW s [2,3,4] (i+1)) 0).toNat=39/\N.IsName (subS s (i+1) (endW s [2,3,4] (i+1)))
  ·rw[Ki h];exact jAj s hl L ts p hp i hi k5 _ rfl h.1 h.2.1 h.2.2
  ·rw[Kj h];by_cases h1:endW s [2,3,4] (i+1)<s.length
   ·by_cases h2:(s.getD (endW s [2,3,4] (i+1)) 0).toNat=39
    ·exact jAi s hl L ts p hp i hi k5 _ rfl h1 h2 λh3=>h ⟨h1,h2,h3⟩
    ·exact jAh s hl L ts p hp i hi k5 _ rfl h1 h2
   ·exact jAg s hl L ts p hp i hi k5 _ rfl h1
 rw[Kj k5];cases hb:(sgW s i 2).2
 ·rw[Kj (by simp)];exact jAk s hl L ts p hp i hi k2 k3 k5 (sgW s i 2).1 (by rw[<- hb])
 ·rw[Ki rfl];exact jAl s hl L ts p hp i hi k2 k3 k5 (sgW s i 2).1 (by rw[<- hb])
theorem jkv(s:List UInt8)(i:Nat)(hi:i<s.length):i<=(jcn s i).2.1/\(jcn s i).2.1<=s.length/\((jcn s i).2.2=0->i<(jcn s i).2.1):=by
 have b1:=jbB s [2,3,4] i (by omega);have b2:=jbB s [3] i (by omega);have b3:=jbB s [2,3,4] (i+1) (by omega);unfold jcn;by_cases k2:clsN (s.getD i 0).toNat=2
 ·rw[Ki k2];have:=jpk s [2,3,4] i hi (by rw[k2];decide);exact⟨b1.1,b1.2,λ_=>this⟩
 rw[Kj k2];by_cases k3:clsN (s.getD i 0).toNat=3
 ·rw[Ki k3];have:=jpk s [3] i hi (by rw[k3];decide);split
  ·exact⟨b2.1,b2.2,λ_=>this⟩
  ·split<;>exact⟨b2.1,b2.2,λ_=>this⟩
 rw[Kj k3];by_cases k5:clsN (s.getD i 0).toNat=5
 ·rw[Ki k5];split
  ·rename_i h;exact⟨by simp only;omega,by simp only;omega,λ_=>by simp only;omega⟩
  ·exact⟨by simp only;omega,by simp only;omega,λ_=>by simp only;omega⟩
 rw[Kj k5];split
 ·rename_i h
  have:∀w,(sgW s i w).2=true->1<=(sgW s i w).1.length/\i+(sgW s i w).1.length<=s.length:=by
   intro w
   induction w with
   |zero=>intro h;simp[sgW]at h
   |succ w ih =>
    simp only[sgW];split
    ·rename_i h;intro _;simp only[jce _ _ _ h.1];omega
    ·exact ih
  have:=this 2 h;exact⟨by simp only;omega,by simp only;omega,λ_=>by simp only;omega⟩
 ·exact⟨by simp only;omega,by simp only;omega,λh=>by simp at h⟩
def jfo(s:List UInt8):Nat->Nat->Int->List Tok->List Tok × Option (Int × Nat)
 |0,_,_,acc=>(acc,none)
 | m+1,i,last,acc =>
  if i<s.length then
   if(jcn s i).2.2=0 then
    if(jcn s i).1.kind ≠ 5/\last=i then(acc,some (11,i))
    else jfo s m (endW s [1] (jcn s i).2.1) (if(jcn s i).1.kind ≠ 5 then(jcn s i).2.1 else -1) (acc++[(jcn s i).1])
   else(acc,some ((jcn s i).2.2,i))
  else(acc,none)
def tokV(t:Tok):V:=.agg [.int .i64 t.kind,.str t.text,.int .i64 t.n,.int .i64 t.pos]
structure Yl (y:V) (base:Nat) (p b:Nat) (s:List UInt8) (P:List Tok->S->Prop) (R:Int->Nat->S->Prop):Prop where
 low:∀acc O O',(∀q,q<base->O'.heap[q]? = O.heap[q]?)->O'.toks=O.toks->base<=O'.heap.length->P acc O->P acc O'
 len:∀acc O,P acc O->base<=O.heap.length
 hp:∀acc O,P acc O->O.heap[p]? = some (.cells (scnL s) 84)
 hb:∀acc O,P acc O->O.heap[b]? = some (.cells [.ptr p 0] 79)
 ok:∀acc O t,acc.length<=4000->P acc O->∃O',jdt env (ev env) y [tokV t,.int .i64 0] O=some (.bool true,O')/\P (acc++[t]) O'/\∀q,base<=q->q<O.heap.length->O'.heap[q]? = O.heap[q]?
 err:∀acc O i x,x ≠ 0->acc.length<=4000->P acc O->∃O',jdt env (ev env) y [tokV ⟨0,[],0,(i:Nat)⟩,.int .i64 x] O=some (.bool false,O')/\R x i O'
theorem at84:env.P.funcs[84]? = some Tryz.f84:=by kernel_rfl
theorem row3:rowO env 139 1 [(0,.int .i64 1)]=some (.row (([1]:List Int).map (V.int .i64)) 1 .full):=by kernel_rfl
theorem mb97(r:Nat):env.mutb 84 r=false:=rfl
theorem jqD(p:Int):jci env 47 [(3,.int .i64 p)]=some (.agg [.int .i64 0,.str [],.int .i64 0,.int .i64 p]):=by kernel_rfl
theorem jnQ(h:List AObj)(p:V):jbi env h 3 p=(jai h 1 p).bind (·[0]?):=jaY (by kernel_rfl)
theorem jiN(h:List AObj)(p:V):jbi env h 79 p=(jai h 1 p).bind (·[0]?):=jaY (by kernel_rfl)
theorem jjy(L:List AObj)(a b c d:V)(t:TypeId):(jai (L++[.cells [a,b,c,d] t]) 1 (.ptr L.length 0)).bind (·[0]?)=some a:=by
 rw[YA,jbL];rfl
theorem jc2 {h:List AObj}{b:Nat}{v:V}{t:TypeId}(hb:h[b]? = some (.cells [v] t)):(jai h 1 (.ptr b 0)).bind (·[0]?)=some v:=by
 rw[YA,hb];rfl
theorem jyy {y:V}{base p b:Nat}{s:List UInt8}{P:List Tok->S->Prop}{R:Int->Nat->S->Prop}(hY:Yl y base p b s P R)(hl:s.length<=2^30)(Q:Post)(T:Tm)(L:List AObj)(ts:List Nat)(acc:List Tok)(ha:acc.length<=4000)(hP:P acc ⟨L,ts⟩)(i:Nat)(hi:i<s.length)(last:Int)
  (t0:T 0=y) (t1:T 1=.ptr b 0) (t3:T 3=.int .i64 last) (t4:T 4=.int .i64 (i:Nat))
  (t:Tok) (e:Nat) (hn:jcn s i=(t,e,0)) (hk:t.kind=5)
  (h:∀T' O',T' 0=y->T' 1=.ptr b 0->T' 3=.int .i64 (-1)->T' 4=.int .i64 (endW s [1] e:Nat)->P (acc++[t]) O'->Q.norm T' [] O') :
  G env 84 none 54 Q [] (jf2 0 (jaz Tryz.f84)) T [] ⟨L,ts⟩:=by
 simp only[jaz,Tryz.f84,Kv,jf2,blkC,Option.or,Nat.reduceEqDiff,Ks,Ku,reduceIte];have he:=jkv s i hi;rw[hn]at he;simp only at he;have c1:(i:Int)<(s.length:Int):=by omega
 have hb1:=jc2 (hY.hb _ _ hP);have hs1:=jcc L p s (hY.hp _ _ hP);simp only at hb1 hs1;have hbl:base<=L.length:=hY.len _ _ hP;obtain⟨o,hX⟩:=jh5 s hl L ts p (hY.hp _ _ hP) i hi;rw[hn]at hX;simp only[jtu]at hX
 have hlow:∀c q,q<base->(L++o++[c]:List AObj)[q]? = L[q]? := λc q hq=>by
  rw[Jd,K2 (by omega)]
 have hlen:L.length<=(L++o).length:=by simp
 have hPc:∀c,P acc ⟨L++o++[c],ts⟩:=λc=>hY.low acc ⟨L,ts⟩ ⟨L++o++[c],ts⟩ (hlow c) rfl (by simp only[Kr,K0]at *;omega) hP
 generalize L++o=L1 at *;obtain⟨⟨L2,ts2⟩,hy,hP2,hfr⟩:=hY.ok acc ⟨L1++[.cells [.int .i64 t.kind,.str t.text,.int .i64 t.n,.int .i64 t.pos] 47],ts⟩ t ha (hPc _);unfold tokV at hy;have hb2:=jc2 (hY.hb _ _ hP2);simp only at hb2 hfr
 have hcell:L2[L1.length]? = some (.cells [.int .i64 t.kind,.str t.text,.int .i64 t.n,.int .i64 t.pos] 47):=by
  rw[hfr L1.length (by omega) (by simp)];simp
 have hk3:(jai L2 1 (.ptr L1.length 0)).bind (·[0]?)=some (.int .i64 t.kind):=by rw[YA,hcell];rfl
 have hrun:=jdb s hl L2 ts2 p (hY.hp _ _ hP2) [1] 1 rfl .full jd9 (by decide) e he.2.1;rw[hk]at hy hk3;simp only[Ka,simprocAttr,Uy,Ke,Uz,jab,t0,t1,t3,t4,c1,jiN,jcZ,jnQ,hb1,hs1,jaa,jae,fo0,jhi,jaL,hX,zv52,YW,jcY,jbL,ja6,jbe,jhj,jjy,hk,hy,hb2,hk3,mb97,jag,row3,hrun];refine h _ _ ?_ ?_ ?_ ?_ hP2<;>first|exact t0|exact t1|rfl
theorem jyz {y:V}{base p b:Nat}{s:List UInt8}{P:List Tok->S->Prop}{R:Int->Nat->S->Prop}(hY:Yl y base p b s P R)(hl:s.length<=2^30)(Q:Post)(T:Tm)(L:List AObj)(ts:List Nat)(acc:List Tok)(ha:acc.length<=4000)(hP:P acc ⟨L,ts⟩)(i:Nat)(hi:i<s.length)(last:Int)
  (t0:T 0=y) (t1:T 1=.ptr b 0) (t3:T 3=.int .i64 last) (t4:T 4=.int .i64 (i:Nat))
  (t:Tok) (e:Nat) (hn:jcn s i=(t,e,0)) (hk:¬t.kind=5) (hk2:¬last=(i:Nat))
  (h:∀T' O',T' 0=y->T' 1=.ptr b 0->T' 3=.int .i64 (e)->T' 4=.int .i64 (endW s [1] e:Nat)->P (acc++[t]) O'->Q.norm T' [] O') :
  G env 84 none 54 Q [] (jf2 0 (jaz Tryz.f84)) T [] ⟨L,ts⟩:=by
 simp only[jaz,Tryz.f84,Kv,jf2,blkC,Option.or,Nat.reduceEqDiff,Ks,Ku,reduceIte];have he:=jkv s i hi;rw[hn]at he;simp only at he;have c1:(i:Int)<(s.length:Int):=by omega
 have hb1:=jc2 (hY.hb _ _ hP);have hs1:=jcc L p s (hY.hp _ _ hP);simp only at hb1 hs1;have hbl:base<=L.length:=hY.len _ _ hP;obtain⟨o,hX⟩:=jh5 s hl L ts p (hY.hp _ _ hP) i hi;rw[hn]at hX;simp only[jtu]at hX
 have hlow:∀c q,q<base->(L++o++[c]:List AObj)[q]? = L[q]? := λc q hq=>by
  rw[Jd,K2 (by omega)]
 have hlen:L.length<=(L++o).length:=by simp
 have hPc:∀c,P acc ⟨L++o++[c],ts⟩:=λc=>hY.low acc ⟨L,ts⟩ ⟨L++o++[c],ts⟩ (hlow c) rfl (by simp only[Kr,K0]at *;omega) hP
 generalize L++o=L1 at *;obtain⟨⟨L2,ts2⟩,hy,hP2,hfr⟩:=hY.ok acc ⟨L1++[.cells [.int .i64 t.kind,.str t.text,.int .i64 t.n,.int .i64 t.pos] 47],ts⟩ t ha (hPc _);unfold tokV at hy;have hb2:=jc2 (hY.hb _ _ hP2);simp only at hb2 hfr
 have hcell:L2[L1.length]? = some (.cells [.int .i64 t.kind,.str t.text,.int .i64 t.n,.int .i64 t.pos] 47):=by
  rw[hfr L1.length (by omega) (by simp)];simp
 have hk3:(jai L2 1 (.ptr L1.length 0)).bind (·[0]?)=some (.int .i64 t.kind):=by rw[YA,hcell];rfl
 have hrun:=jdb s hl L2 ts2 p (hY.hp _ _ hP2) [1] 1 rfl .full jd9 (by decide) e he.2.1;simp only[Ka,simprocAttr,Uy,Ke,Uz,jab,t0,t1,t3,t4,c1,jiN,jcZ,jnQ,hb1,hs1,jaa,jae,fo0,jhi,jaL,hX,zv52,YW,jcY,jbL,ja6,jbe,jhj,jjy,hk,hk2,hy,hb2,hk3,mb97,jag,row3,hrun];refine h _ _ ?_ ?_ ?_ ?_ hP2<;>first|exact t0|exact t1|rfl
theorem jyA {y:V}{base p b:Nat}{s:List UInt8}{P:List Tok->S->Prop}{R:Int->Nat->S->Prop}(hY:Yl y base p b s P R)(hl:s.length<=2^30)(Q:Post)(T:Tm)(L:List AObj)(ts:List Nat)(acc:List Tok)(ha:acc.length<=4000)(hP:P acc ⟨L,ts⟩)(i:Nat)(hi:i<s.length)(last:Int)
  (t0:T 0=y) (t1:T 1=.ptr b 0) (t3:T 3=.int .i64 last) (t4:T 4=.int .i64 (i:Nat))
  (t:Tok) (e:Nat) (x:Int) (hx:¬x=0) (hn:jcn s i=(t,e,x)) (h:∀T' O',R x i O'->Q.ret T' [] O') :
  G env 84 none 54 Q [] (jf2 0 (jaz Tryz.f84)) T [] ⟨L,ts⟩:=by
 simp only[jaz,Tryz.f84,Kv,jf2,blkC,Option.or,Nat.reduceEqDiff,Ks,Ku,reduceIte];have c1:(i:Int)<(s.length:Int):=by omega
 have hb1:=jc2 (hY.hb _ _ hP);have hs1:=jcc L p s (hY.hp _ _ hP);simp only at hb1 hs1;have hbl:base<=L.length:=hY.len _ _ hP;obtain⟨o,hX⟩:=jh5 s hl L ts p (hY.hp _ _ hP) i hi;rw[hn]at hX;simp only[jtu]at hX
 have hlow:∀c q,q<base->(L++o++[c]:List AObj)[q]? = L[q]? := λc q hq=>by
  rw[Jd,K2 (by omega)]
 have hlen:L.length<=(L++o).length:=by simp
 have hPc:∀c,P acc ⟨L++o++[c],ts⟩:=λc=>hY.low acc ⟨L,ts⟩ ⟨L++o++[c],ts⟩ (hlow c) rfl (by simp only[Kr,K0]at *;omega) hP
 generalize L++o=L1 at *;obtain⟨⟨L2,ts2⟩,hy,hR⟩:=hY.err acc ⟨L1++[.cells [.int .i64 0,.str [],.int .i64 0,.int .i64 i] 47],ts⟩ i x hx ha (hPc _);unfold tokV at hy;simp only[Ka,simprocAttr,Uy,Ke,Uz,jab,t0,t1,t3,t4,c1,jiN,jcZ,jnQ,hb1,hs1,jaa,jae,fo0,jhi,jaL,hX,zv52,YW,jcY,jbL,ja6,jbe,jhj,jjy,hx,hy,jqD];exact h _ _ hR
theorem jyB {y:V}{base p b:Nat}{s:List UInt8}{P:List Tok->S->Prop}{R:Int->Nat->S->Prop}(hY:Yl y base p b s P R)(hl:s.length<=2^30)(Q:Post)(T:Tm)(L:List AObj)(ts:List Nat)(acc:List Tok)(ha:acc.length<=4000)(hP:P acc ⟨L,ts⟩)(i:Nat)(hi:i<s.length)(last:Int)
  (t0:T 0=y) (t1:T 1=.ptr b 0) (t3:T 3=.int .i64 last) (t4:T 4=.int .i64 (i:Nat))
  (t:Tok) (e:Nat) (hn:jcn s i=(t,e,0)) (hk:¬t.kind=5) (hk2:last=(i:Nat)) (h:∀T' O',R 11 i O'->Q.ret T' [] O') :
  G env 84 none 54 Q [] (jf2 0 (jaz Tryz.f84)) T [] ⟨L,ts⟩:=by
 simp only[jaz,Tryz.f84,Kv,jf2,blkC,Option.or,Nat.reduceEqDiff,Ks,Ku,reduceIte];have c1:(i:Int)<(s.length:Int):=by omega
 have hb1:=jc2 (hY.hb _ _ hP);have hs1:=jcc L p s (hY.hp _ _ hP);simp only at hb1 hs1;have hbl:base<=L.length:=hY.len _ _ hP;obtain⟨o,hX⟩:=jh5 s hl L ts p (hY.hp _ _ hP) i hi;rw[hn]at hX;simp only[jtu]at hX
 have hlow:∀c q,q<base->(L++o++[c]:List AObj)[q]? = L[q]? := λc q hq=>by
  rw[Jd,K2 (by omega)]
 have hlen:L.length<=(L++o).length:=by simp
 have hPc:∀c,P acc ⟨L++o++[c],ts⟩:=λc=>hY.low acc ⟨L,ts⟩ ⟨L++o++[c],ts⟩ (hlow c) rfl (by simp only[Kr,K0]at *;omega) hP
 generalize L++o=L1 at *;obtain⟨⟨L2,ts2⟩,hy,hR⟩:=hY.err acc ⟨L1++[.cells [.int .i64 0,.str [],.int .i64 0,.int .i64 i] 47],ts⟩ i 11 (by decide) ha (hPc _);unfold tokV at hy;simp only[Ka,simprocAttr,Uy,Ke,Uz,jab,t0,t1,t3,t4,c1,jiN,jcZ,jnQ,hb1,hs1,jaa,jae,fo0,jhi,jaL,hX,zv52,YW,jcY,jbL,ja6,jbe,jhj,jjy,hk,hk2,hy,jqD];exact h _ _ hR
def jyC(P:List Tok->S->Prop)(R:Int->Nat->S->Prop)(r:List Tok × Option (Int × Nat))(O:S):Prop :=
 match r.2 with
 |none=>P r.1 O
 |some (x,i)=>R x i O
theorem jpm {y:V}{base p b:Nat}{s:List UInt8}{P:List Tok->S->Prop}{R:Int->Nat->S->Prop}(hY:Yl y base p b s P R)(hl:s.length<=4000)(O:S)(hP:P [] O) :
  ∃v O',jas env (ev env) 84 [y,.ptr b 0] O=some (v,O')/\jyC P R (jfo s (s.length+1) (endW s [1] 0) (-1) []) O':=by
 refine jcv rfl rfl at84 rfl (by simp[Tryz.f84]) (U4 rfl) (jar ?_);obtain⟨L,ts⟩:=O;have hb1:=jc2 (hY.hb _ _ hP);simp only at hb1;have hl2:s.length<=2^30:=by omega
 have hrun:jas env (ev env) 85 [.ptr p 0,.int .i64 0,.row (([1]:List Int).map (V.int .i64)) 1 .full] ⟨L,ts⟩=some (.int .i64 (endW s [1] 0:Nat),⟨L,ts⟩):=jdb s hl2 L ts p (hY.hp _ _ hP) [1] 1 rfl .full jd9 (by decide) 0 (Qk _);have hend:=jbB s [1] 0 (Qk _);simp only[Tryz.f84,Ka,simprocAttr,Uy,Ke,Vq,jiN,hb1,mb97,jag,row3,hrun];generalize hfin:jfo s (s.length+1) (endW s [1] 0) (-1) []=fin;refine jbo (λm T D O=>D=[]/\T 0=y/\T 1=.ptr b 0/\∃(i:Nat) (last:Int) (acc:List Tok) (fuel:Nat),T 3=.int .i64 last/\T 4=.int .i64 i/\i<=s.length/\acc.length<=i/\m=s.length-i/\P acc O/\s.length-i<fuel/\jfo s fuel i last acc=fin) ?_ (s.length-endW s [1] 0) _ _ _ ?_
 rotate_left
 ·exact⟨rfl,rfl,rfl,endW s [1] 0,-1,[],s.length+1,rfl,rfl,hend.2,Qk _,rfl,hP,by omega,hfin⟩
 clear hfin hrun hb1 hP hend L ts;rintro m T D ⟨L,ts⟩ ⟨rfl,t0,t1,i,last,acc,fuel,t3,t4,hi,hacc,rfl,hP,hf,hs⟩;by_cases hlt:i<s.length
 ·obtain⟨f,rfl⟩:∃f,fuel=f+1:=⟨fuel-1,by omega⟩;have he:=jkv s i hlt;simp only[jfo,Ki hlt]at hs;obtain⟨t,e,x,hn⟩:∃t e x,jcn s i=(t,e,x):=⟨_,_,_,rfl⟩;rw[hn]at he hs;simp only at he hs;have h1:=jbB s [1] e he.2.1;by_cases hx:x=0
  ·subst hx;rw[Ki rfl]at hs;have hie:=he.2.2 rfl;by_cases hk:t.kind=5
   ·rw[Kj (λh=>h.1 hk),Kj (λh=>h hk)]at hs
    exact jyy hY hl2 _ T L ts acc (by omega) hP i hlt last t0 t1 t3 t4 t e hn hk λT' O' a0 a1 a3 a4 hP2 =>
     ⟨s.length-endW s [1] e,by omega,rfl,a0,a1,endW s [1] e,-1,acc++[t],f,a3,a4,h1.2,by simp;omega,rfl,hP2,by omega,hs⟩
   ·by_cases hk2:last=(i:Int)
    ·rw[Ki ⟨hk,hk2⟩]at hs;subst hs;refine jyB hY hl2 _ T L ts acc (by omega) hP i hlt last t0 t1 t3 t4 t e hn hk hk2 λT' O' hR => ?_
     exact⟨O'.heap,rfl,[],rfl,hR⟩
    ·rw[Kj (λh=>hk2 h.2),Ki hk]at hs
     exact jyz hY hl2 _ T L ts acc (by omega) hP i hlt last t0 t1 t3 t4 t e hn hk hk2 λT' O' a0 a1 a3 a4 hP2 =>
      ⟨s.length-endW s [1] e,by omega,rfl,a0,a1,endW s [1] e,e,acc++[t],f,a3,a4,h1.2,by simp;omega,rfl,hP2,by omega,hs⟩
  ·rw[Kj hx]at hs;subst hs;refine jyA hY hl2 _ T L ts acc (by omega) hP i hlt last t0 t1 t3 t4 t e x hx hn λT' O' hR => ?_
   exact⟨O'.heap,rfl,[],rfl,hR⟩
 ·obtain⟨f,rfl⟩:∃f,fuel=f+1:=⟨fuel-1,by omega⟩;have hi2:i=s.length:=by omega
  subst hi2;simp only[jfo,Kj hlt]at hs;subst hs;have c1:¬(s.length:Int)<(s.length:Int):=by omega
  have hb1:=jc2 (hY.hb _ _ hP);have hs1:=jcc L p s (hY.hp _ _ hP);simp only at hb1 hs1;refine jar ?_;simp only[Ka,simprocAttr,Uy,Ke,Vq,t0,t1,t3,t4,c1,jiN,jcZ,hb1,hs1,jaa,jae,fo0,jaL];exact hP
theorem e45:jf0 env 43=some 47:=by kernel_rfl
theorem s52:sz env 47=some 4:=by kernel_rfl
theorem by52:(bys env 47).isSome=true/\(bys env 47).getD 0<=2^20:=by
 have h:(match bys env 47 with|some n=>Nat.ble n (2^20)|none=>false)=true:=by kernel_rfl
 split at h
 ·rename_i n hn;rw[hn];exact⟨rfl,Qq h⟩
 ·simp at h
theorem zn52:jkK env 47=some 4:=by kernel_rfl
inductive GrowT (ts:List Nat):V->List Tok->Prop
 |nil:GrowT ts .nilsl []
 |tok (cs:List Tok) (k e:Nat) (h:ts[k]? = some e) (hne:cs ≠ []):GrowT ts (.row (flatT cs) cs.length (.tok k e 4)) cs
theorem jtv(cs:List Tok)(c:Tok):flatT (cs++[c])=flatT cs++[.int .i64 c.kind,.str c.text,.int .i64 c.n,.int .i64 c.pos]:=by simp[flatT,Tok.cells]
theorem jnR:∀cs:List Tok,(flatT cs).length=cs.length*4
 | []=>rfl
 |c::cs=>by rw[jlH];simp only[K0,jnR cs];omega
theorem jw6 {T:Tm}{O:S}{x:Operand}:opT env false T O (.buildSlice 43 1 #[(0,x)])=(jaK env T x).bind λv=>if v.cells.length=4 then some (.row v.cells 1 .full,O)else none:=by
 unfold opT;simp only[jbp,jbu,jbz,jdJ];cases jaK env T x with
 |none=>rfl
 |some v =>
  simp only[Kx,Kn,e45,s52,zv52];by_cases hv:v.cells.length=4
  ·simp[jie,hv,YW]
  ·simp[jie,hv,YW]
theorem GrowT.append {hp:List AObj}{ts:List Nat}{v:V}{cs:List Tok}(g:GrowT ts v cs)(c:Tok)(cap:RCap)(hb:cs.length<=4000) :
  ∃v' ts',appO env false ⟨hp,ts⟩ 43 43 v (.row [.int .i64 c.kind,.str c.text,.int .i64 c.n,.int .i64 c.pos] 1 cap)=some (v',⟨hp,ts'⟩)/\GrowT ts' v' (cs++[c]):=by
 have hnew:jbv hp 4 1 (.row [.int .i64 c.kind,.str c.text,.int .i64 c.n,.int .i64 c.pos] 1 cap)=some [.int .i64 c.kind,.str c.text,.int .i64 c.n,.int .i64 c.pos]:=by simp[jbv]
 have hcell:([.int .i64 c.kind,.str c.text,.int .i64 c.n,.int .i64 c.pos]:List V).all V.isCell=true:=by simp[V.isCell]
 obtain⟨h52,h52b⟩:=by52
 obtain⟨nb,hnb⟩:=Option.isSome_iff_exists.1 h52;rw[hnb]at h52b;simp only[Kv]at h52b;have hlim:lim=2^40:=rfl;have hl1:(1:Nat)*nb<=lim/\1<=lim:=by rw[hlim];omega
 have hl2:(cs.length+1)*nb<=lim/\cs.length+1<=lim:=by
  have:(cs.length+1)*nb<=4001*2^20:=Nat.mul_le_mul (by omega) h52b;rw[hlim];omega
 unfold appO;simp only[e45,s52,u45,hnb,zn52,vLen,hnew,Kn,Ku];cases g with
 |nil =>
  refine⟨.row (flatT [c]) 1 (.tok ts.length 0 4),ts++[0],?_,.tok [c] ts.length 0 (by simp) (by simp)⟩;have hl0:nb<=lim:=by rw[hlim];omega
  simp[jbT,hl1,hl0,flatT,Tok.cells]
 | tok _ k e hk hne =>
  have hkl:k<ts.length:=by
   rcases K4 k ts.length with h1|h1
   ·exact h1
   ·rw[Qf h1]at hk;simp at hk
  refine⟨.row (flatT (cs++[c])) (cs++[c]).length (.tok k (e+1) 4),ts.set k (e+1),?_,.tok _ k (e+1) (by simp[hkl]) (by simp)⟩;have hl3:(flatT cs).length=cs.length*4:=jnR cs;simp[jbT,hl2,hl3,hk,V.isCell,jtv]
theorem GrowT.cells {ts:List Nat}{v:V}{cs:List Tok}(g:GrowT ts v cs):v.cells=[v]:=by cases g<;>rfl
theorem GrowT.cell {ts:List Nat}{v:V}{cs:List Tok}(g:GrowT ts v cs):v.isCell=true:=by cases g<;>rfl
def toksV(l:List Tok):V:=if l=[]then .nilsl else .row (flatT l) l.length .unk
theorem jlJ(h:List AObj)(d:Nat):∀l:List Tok,(flatT l).mapM (jbn h (d+1))=some (flatT l)
 | []=>rfl
 |c::l=>by
  rw[jlH,jaA,jaA,jaA,jaA,jlJ h d l,jaV,jch,jaV,jaV];rfl
theorem jyD {h:List AObj}{d:Nat}{ts:List Nat}{v:V}{l:List Tok}(g:GrowT ts v l):jbn h (d+2) v=some (toksV l):=by
 cases g with
 |nil=>rfl
 |tok _ k e hk hne =>
  rw[jgj,jlJ h d l];simp[toksV,hne]
def rngC:Code->Option (Code × Code)
 | .rangeFunc _ _ a b=>some (a,b)
 | .block _ c=>rngC c
 | .seq a b=>(rngC a).or (rngC b)
 | .cond _ a b=>(rngC a).or (rngC b)
 | .loop c=>rngC c
 | .scope c=>rngC c
 |_=>none
def asgR(c:Code):Code:=match rngC c with|some (a,_)=>a|none=>.skip
def bodR(c:Code):Code:=match rngC c with|some (_,b)=>b|none=>.skip
theorem s45:sz env 43=some 1:=by kernel_rfl
def P35(lo:AObj)(s:List UInt8)(acc:List Tok)(O:S):Prop :=
 7<=O.heap.length/\O.heap[0]? = some (.cells [.nilsl] 43)/\O.heap[1]? = some (.cells [.int .i64 0,.int .i64 0] 32)/\O.heap[2]? = some (.cells (scnL s) 84)/\O.heap[4]? = some (.cells [.ptr 2 0] 79) /\
 O.heap[5]? = some (.defd true)/\O.heap[6]? = some lo/\∃v,O.heap[3]? = some (.cells [v] 43)/\GrowT O.toks v acc
def R35(lr:AObj)(x:Int)(i:Nat)(O:S):Prop :=
 7<=O.heap.length/\O.heap[0]? = some (.cells [.nilsl] 43)/\O.heap[1]? = some (.cells [.int .i64 x,.int .i64 i] 32)/\O.heap[5]? = some (.defd true)/\O.heap[6]? = some lr
theorem ne0 {x:Int}(h:x ≠ 0):((x:Int)=0)=False:=eq_false h
theorem ju2(s:List UInt8)(T:Tm)(tmps:List V)(lo:AObj)(hr:Rep 32 T tmps)(hlo:lo=.loop .ready none 19 tmps #[18,19] (asgR (jaz Tryz.f19)) (bodR (jaz Tryz.f19)) 5)
  (t5:T 5=.ptr 3 0) (acc:List Tok) (H:List AObj) (ts:List Nat) (t:Tok) (ha:acc.length<=4000) (hP:P35 lo s acc ⟨H,ts⟩) :
  ∃O',jdt env (ev env) (.yld 6) [tokV t,.int .i64 0] ⟨H,ts⟩=some (.bool true,O')/\P35 lo s (acc++[t]) O'/\∀q,7<=q->q<H.length->O'.heap[q]? = H[q]? := by
 obtain⟨h7,p0,p1,p2,p4,p5,p6,v,p3,hg⟩:=hP;simp only at h7 p0 p1 p2 p3 p4 p5 p6 hg;refine jgI hlo p6 hr rfl (by simp) ?_;intro lb hlb;clear hlb hlo hr;obtain⟨v',ts',happ,hg'⟩:=GrowT.append (hp:=(H++[AObj.cells [.int .i64 t.kind,.str t.text,.int .i64 t.n,.int .i64 t.pos] 47]).set 6 lb) hg t .full ha;have hv1:=hg'.cells;have hv2:=hg'.cell
 have q3:((H++[AObj.cells [.int .i64 t.kind,.str t.text,.int .i64 t.n,.int .i64 t.pos] 47]).set 6 lb)[3]? = some (.cells [v] 43):=by
  rw[Kk (by omega),K2 (by omega)];exact p3
 have ql:jai ((H++[AObj.cells [.int .i64 t.kind,.str t.text,.int .i64 t.n,.int .i64 t.pos] 47]).set 6 lb) 4 (.ptr H.length 0)=some [.int .i64 t.kind,.str t.text,.int .i64 t.n,.int .i64 t.pos] :=
  jnM (t:=47) (by rw[Kk (by omega)];simp)
 have q52:jbi env ((H++[AObj.cells [.int .i64 t.kind,.str t.text,.int .i64 t.n,.int .i64 t.pos] 47]).set 6 lb) 47 (.ptr H.length 0)=some (.agg [.int .i64 t.kind,.str t.text,.int .i64 t.n,.int .i64 t.pos]):=by
  have g:Go.Ab.aggT env 47=some true:=by kernel_rfl
  unfold jbi;simp only[s52,g,ql,Kn,Kx]
 have q45:jbi env ((H++[AObj.cells [.int .i64 t.kind,.str t.text,.int .i64 t.n,.int .i64 t.pos] 47]).set 6 lb) 43 (.ptr 3 0)=some v:=by
  rw[jaY (by kernel_rfl)];exact jc2 q3
 have q6:(H++[AObj.cells [.int .i64 t.kind,.str t.text,.int .i64 t.n,.int .i64 t.pos] 47]:List AObj)[6]? = some lo:=by
  rw[K2 (by omega)];exact p6
 refine jar ?_;simp only[asgR,bodR,rngC,jaz,Tryz.f19,Kv,Option.or,tokV];simp only[Ka,simprocAttr,Uy,Ke,Uz,jab,Xm,X8,t5,zv52,YW,jcY,jbL,ja6,jbe,q6,q45,q52,q3,s45,jw6,happ,hv1,hv2];generalize AObj.cells [.int .i64 t.kind,.str t.text,.int .i64 t.n,.int .i64 t.pos] 47=o
 have hq:∀q,q ≠ 3->q ≠ 6->q<H.length->((((H++[o]).set 6 lb).set 3 (AObj.cells [v'] 43)).set 6 lo)[q]? = H[q]? := λq h1 h2 h3=>by
  rw[Kk (by omega),Kk (by omega),Kk (by omega),K2 h3]
 refine⟨?_,⟨?_,?_,?_,?_,?_,?_,?_,v',?_,hg'⟩,λq h1 h2=>hq q (by omega) (by omega) h2⟩
 ·rw[Kk (by omega),Kl (by simp;omega)]
 ·simp;omega
 ·simp only;rw[hq 0 (by omega) (by omega) (by omega)];exact p0
 ·simp only;rw[hq 1 (by omega) (by omega) (by omega)];exact p1
 ·simp only;rw[hq 2 (by omega) (by omega) (by omega)];exact p2
 ·simp only;rw[hq 4 (by omega) (by omega) (by omega)];exact p4
 ·simp only;rw[hq 5 (by omega) (by omega) (by omega)];exact p5
 ·simp only;rw[Kl (by simp;omega)]
 ·simp only;rw[Kk (by omega),Kl (by simp;omega)]
theorem jpn(a b:Int):jci env 32 [(0,.int .i64 a),(1,.int .i64 b)]=some (.agg [.int .i64 a,.int .i64 b]):=by kernel_rfl
theorem jAm:ja5 env 47 3=some 3:=by kernel_rfl
theorem ju3(t:TypeId)(ps:Array (Nat × Operand)):scOp env (.build t ps)=false:=rfl
theorem ju4(t:TypeId)(ps:Array (Nat × Operand)):jbd (.build t ps)=false:=rfl
theorem ju5(s:List UInt8)(T:Tm)(tmps:List V)(lo lr:AObj)(hr:Rep 32 T tmps)(hlo:lo=.loop .ready none 19 tmps #[18,19] (asgR (jaz Tryz.f19)) (bodR (jaz Tryz.f19)) 5)
  (hlr:lr=.loop .done (some .ret) 19 tmps #[18,19] (asgR (jaz Tryz.f19)) (bodR (jaz Tryz.f19)) 5)
  (t2:T 2=.ptr 0 0) (t3:T 3=.ptr 1 0) (acc:List Tok) (H:List AObj) (ts:List Nat) (i:Nat) (x:Int) (hx:x ≠ 0) (hP:P35 lo s acc ⟨H,ts⟩) :
  ∃O',jdt env (ev env) (.yld 6) [tokV ⟨0,[],0,(i:Nat)⟩,.int .i64 x] ⟨H,ts⟩=some (.bool false,O')/\R35 lr x i O':=by
 obtain⟨h7,p0,p1,p2,p4,p5,p6,v,p3,hg⟩:=hP;simp only at h7 p0 p1 p2 p3 p4 p5 p6 hg;refine jno hlo p6 hr rfl (by simp) ?_;intro lb lr2 hlb hlr2;have hlr3:lr2=lr:=by rw[hlr,hlr2]
 clear hlb hlo hr hlr2 hlr;subst hlr3;have hx0:=ne0 hx
 have q6:(H++[AObj.cells [.int .i64 0,.str [],.int .i64 0,.int .i64 i] 47])[6]? = some lo:=by
  rw[K2 (by omega)];exact p6
 have q0:((H++[AObj.cells [.int .i64 0,.str [],.int .i64 0,.int .i64 i] 47]).set 6 lb)[0]? = some (.cells [.nilsl] 43):=by
  rw[Kk (by omega),K2 (by omega)];exact p0
 have q1:(((H++[AObj.cells [.int .i64 0,.str [],.int .i64 0,.int .i64 i] 47]).set 6 lb).set 0 (.cells [.nilsl] 43))[1]? = some (.cells [.int .i64 0,.int .i64 0] 32):=by
  rw[Kk (by omega),Kk (by omega),K2 (by omega)];exact p1
 have qk:(jai ((H++[AObj.cells [.int .i64 0,.str [],.int .i64 0,.int .i64 i] 47]).set 6 lb) 1 (.ptr H.length 3)).bind (·[0]?)=some (.int .i64 i):=by
  rw[YA,Kk (by omega),jbL];rfl
 have s47:sz env 32=some 2:=by kernel_rfl
 refine jar ?_;simp only[asgR,bodR,rngC,jaz,Tryz.f19,Kv,Option.or,tokV];simp only[Ka,simprocAttr,Uy,Ke,Uz,jab,Xm,X8,t2,t3,zv52,YW,jcY,jbL,ja6,jbe,q6,hx0];refine jli rfl (λs=>s.heap[H.length]? = some (.cells [.int .i64 0,.str [],.int .i64 0,.int .i64 i] 47)) (by simp only;rw[Kk (by omega),jbL]) (by kernel_rfl) ?_;simp only[Ka,simprocAttr,Uy,Ke,Uz,jab,jo0,jo1,jgk,jmf,ju3,jo2,jo3,jgl,jmg,ju4,t2,t3,jiB,q0,q1,qk,s45,s47,jAm,jnQ,jpn,YH,ja6,YW];refine⟨λs h=>by rw[h];rfl,rfl,by rw[Kk (by omega),Kk (by omega),jbL],by rw[Kk (by omega),Kk (by omega),Kk (by omega),jbL],?_⟩;generalize AObj.cells [.int .i64 0,.str [],.int .i64 0,.int .i64 i] 47=o
 have hq:∀q,q ≠ 0->q ≠ 1->q ≠ 6->q<H.length->(((((H++[o]).set 6 lb).set 0 (AObj.cells [.nilsl] 43)).set 1 (AObj.cells [.int .i64 x,.int .i64 i] 32)).set 6 lr2)[q]? = H[q]? := λq h0 h1 h2 h3=>by
  rw[Kk (by omega),Kk (by omega),Kk (by omega),Kk (by omega),K2 h3]
 refine⟨?_,?_,?_,?_,?_,?_⟩
 ·rw[Kk (by omega),Kk (by omega),Kl (by simp;omega)]
 ·simp;omega
 ·simp only;rw[Kk (by omega),Kk (by omega),Kl (by simp)]
 ·simp only;rw[Kk (by omega),Kl (by simp;omega)]
 ·simp only;rw[hq 5 (by omega) (by omega) (by omega) (by omega)];exact p5
 ·simp only;rw[Kl (by simp;omega)]
theorem at19:env.P.funcs[19]? = some Tryz.f19:=by kernel_rfl
theorem at43:env.P.funcs[43]? = some Tryz.f43:=by kernel_rfl
theorem yl35(s:List UInt8)(T:Tm)(tmps:List V)(lo lr:AObj)(hr:Rep 32 T tmps)(hlo:lo=.loop .ready none 19 tmps #[18,19] (asgR (jaz Tryz.f19)) (bodR (jaz Tryz.f19)) 5)
  (hlr:lr=.loop .done (some .ret) 19 tmps #[18,19] (asgR (jaz Tryz.f19)) (bodR (jaz Tryz.f19)) 5)
  (t2:T 2=.ptr 0 0) (t3:T 3=.ptr 1 0) (t5:T 5=.ptr 3 0):Yl (.yld 6) 7 2 4 s (P35 lo s) (R35 lr) where
 low:=by
  rintro acc O O' h1 h2 h3 ⟨h7,p0,p1,p2,p4,p5,p6,v,p3,hg⟩
  exact⟨h3,by rw[h1 0 (by omega)];exact p0,by rw[h1 1 (by omega)];exact p1,by rw[h1 2 (by omega)];exact p2,by rw[h1 4 (by omega)];exact p4,by rw[h1 5 (by omega)];exact p5,
   by rw[h1 6 (by omega)];exact p6,v,by rw[h1 3 (by omega)];exact p3,by rw[h2];exact hg⟩
 len:=λacc O h=>h.1
 hp:=λacc O h=>h.2.2.2.1
 hb:=λacc O h=>h.2.2.2.2.1
 ok:=λacc O t ha hP=>ju2 s T tmps lo hr hlo t5 acc O.heap O.toks t ha hP
 err:=λacc O i x hx ha hP=>ju5 s T tmps lo lr hr hlo hlr t2 t3 acc O.heap O.toks i x hx hP
theorem jeD {E:Env}{f:FuncId}{args:List V}{O O':S}{v:V}(hp:E.pure f=false)(hk:E.hook f=none)(h:jas E (ev E) f args O=some (v,O'))(hz:E.frz f=false:=by rfl)(hS:E.hookS f=none:=by rfl):ev E (.call f args O)=some ⟨.ret,[v],[],O'⟩:=by
 unfold jas at h;simp only[hk,hp,hz,hS,Km,Ks]at h;split at h
 ·rename_i v0 O0 he;simp only[Kg,Kh]at h;obtain⟨rfl,rfl⟩:=h;exact he
 ·simp at h
theorem ju6(p:Nat)(L:List AObj)(ts:List Nat):jas env (ev env) 43 [.ptr p 0] ⟨L,ts⟩=some (.func 84 [] [.ptr L.length 0],⟨L++[.cells [.ptr p 0] 79],ts⟩):=by
 refine jbk rfl rfl at43 rfl (by simp[Tryz.f43]) (U4 rfl) (jar ?_);simp only[Tryz.f43,Ka,simprocAttr,Uy,Ke,Vq,YP,jaW,jko]
def jqE(s:List UInt8):V :=
 if 2000<s.length then .tup [.nilsl,.agg [.int .i64 4,.int .i64 2000]]else
 match (jfo s (s.length+1) (endW s [1] 0) (-1) []).2 with
 |none=>.tup [toksV (jfo s (s.length+1) (endW s [1] 0) (-1) []).1,.agg [.int .i64 0,.int .i64 0]]
 |some (x,i)=>.tup [.nilsl,.agg [.int .i64 x,.int .i64 i]]
theorem jw7(s:List UInt8):jci env 84 [(0,.str s),(2,.agg (clsL.map (V.int .i64)))]=some (.agg (scnL s)):=by kernel_rfl
theorem ld45 {L:List AObj}{b:Nat}{v:V}(h:L[b]? = some (.cells [v] 43)):jbi env L 43 (.ptr b 0)=some v:=by
 rw[jaY (by kernel_rfl)];exact jc2 h
theorem ld47 {L:List AObj}{b:Nat}{v w:V}(h:L[b]? = some (.cells [v,w] 32)):jbi env L 32 (.ptr b 0)=some (.agg [v,w]):=by
 have g:Go.Ab.aggT env 32=some true:=by kernel_rfl
 have e:sz env 32=some 2:=by kernel_rfl
 have l:jai L 2 (.ptr b 0)=some [v,w]:=by simp[jai,h]
 unfold jbi;simp only[g,e,l,Kn,Kx]
theorem zv45:jbG env 43=some .nilsl:=by kernel_rfl
theorem zv47:jbG env 32=some (.agg [.int .i64 0,.int .i64 0]):=by kernel_rfl
theorem s47:sz env 32=some 2:=by kernel_rfl
theorem ju7:jci env 32 []=some (.agg [.int .i64 0,.int .i64 0]):=by kernel_rfl
theorem jrs(s:List UInt8)(hl:s.length<=4000)(O:S):jas env (ev env) 19 [.str s] O=some (jqE s,O):=by
 refine jau rfl rfl rfl at19 rfl (by simp[Tryz.f19]) (U4 rfl) (jar ?_) O;unfold jqE;by_cases h1:2000<s.length
 ·rw[Ki h1];have g1:(2000:Int)<(s.length:Int):=by omega
  simp only[Tryz.f19,Ka,simprocAttr,Uy,Ke,Uz,jab,jap,jaL,zv45,zv47,s45,s47,g1,jpn,YW,YH,ja6];refine⟨rfl,?_⟩;rw[ld45 (v:=.nilsl) rfl,ld47 (v:=.int .i64 4) (w:=.int .i64 2000) rfl];simp only[Kn,Kx,Yy];rfl
 ·rw[Kj h1];have g1:¬(2000:Int)<(s.length:Int):=by omega
  simp only[Tryz.f19,Ka,simprocAttr,Uy,Ke,Uz,jab,jap,jaL,zv45,zv47,s45,s47,g1,jpn,YW,YH,ja6,jnP,jw7,ju6];refine jpX rfl ?_;intro tmps lo lr hr hlo hlr;have hY:=yl35 s _ tmps lo lr hr hlo hlr rfl rfl rfl;clear hr
  obtain⟨v,O2,hc,hE⟩:=jpm hY hl ⟨[.cells [.nilsl] 43,.cells [.int .i64 0,.int .i64 0] 32,.cells (scnL s) 84,.cells [.nilsl] 43,.cells [.ptr 2 0] 79,.defd true,lo],[]⟩
   ⟨by simp,rfl,rfl,rfl,rfl,rfl,rfl,.nilsl,rfl,.nil⟩
  refine⟨_,O2,jeD rfl rfl hc,?_⟩;clear hc hY hlo hlr;unfold jyC at hE;generalize jfo s (s.length+1) (endW s [1] 0) (-1) []=r at *;obtain⟨l,r2⟩:=r;obtain⟨H,ts⟩:=O2;cases r2 with
  | none =>
   obtain⟨h7,p0,p1,p2,p4,p5,p6,u,p3,hg⟩:=hE;simp only at h7 p0 p1 p2 p3 p4 p5 p6 hg;refine .inl ⟨p6,_,rfl,?_⟩;generalize AObj.loop .exhausted none 19 tmps _ _ _ _=lx;have q0:(H.set 6 lx)[0]? = some (.cells [.nilsl] 43):=by rw[Kk (by omega)];exact p0
   have q1:∀c,((H.set 6 lx).set 0 c)[1]? = some (.cells [.int .i64 0,.int .i64 0] 32):=λc=>by rw[Kk (by omega),Kk (by omega)];exact p1
   have q3:jbi env (H.set 6 lx) 43 (.ptr 3 0)=some u:=ld45 (by rw[Kk (by omega)];exact p3);have hv1:=hg.cells;have hv2:=hg.cell;simp only[Ka,simprocAttr,Uy,Ke,Uz,jab,q0,q1,q3,s45,s47,ju7,YW,ja6,hv1,hv2]
   have q5:(((H.set 6 lx).set 0 (AObj.cells [u] 43)).set 1 (AObj.cells [V.int IntKind.i64 0,V.int IntKind.i64 0] 32))[5]? = some (.defd true):=by
    rw[Kk (by omega),Kk (by omega),Kk (by omega)];exact p5
   have z0:∀d,jbi env ((((H.set 6 lx).set 0 (AObj.cells [u] 43)).set 1 (AObj.cells [V.int IntKind.i64 0,V.int IntKind.i64 0] 32)).set 5 d) 43 (.ptr 0 0)=some u:=λd=>ld45 (by
    rw[Kk (by omega),Kk (by omega),Kl (by simp;omega)])
   have z1:∀d,jbi env ((((H.set 6 lx).set 0 (AObj.cells [u] 43)).set 1 (AObj.cells [V.int IntKind.i64 0,V.int IntKind.i64 0] 32)).set 5 d) 32 (.ptr 1 0)=some (.agg [.int .i64 0,.int .i64 0]):=λd=>ld47 (by
    rw[Kk (by omega),Kl (by simp;omega)])
   simp only[Ka,simprocAttr,Uy,Ke,Vq,wpR,jbI,q5,z0,z1];simp only[jaW,jay,ja7,jcJ,jaA,jaF,jaV,jyD hg,Kn,Kx]
  |some xi =>
   obtain⟨x,i⟩:=xi;obtain⟨h7,p0,p1,p5,p6⟩:=hE;simp only at h7 p0 p1 p5 p6;refine .inr ⟨p6,_,rfl,?_⟩;generalize AObj.loop .exhausted _ 19 tmps _ _ _ _=lx;have q0:jbi env (H.set 6 lx) 43 (.ptr 0 0)=some .nilsl:=ld45 (by rw[Kk (by omega)];exact p0);have q1:jbi env (H.set 6 lx) 32 (.ptr 1 0)=some (.agg [.int .i64 x,.int .i64 i]):=ld47 (by rw[Kk (by omega)];exact p1);have q5:(H.set 6 lx)[5]? = some (.defd true):=by rw[Kk (by omega)];exact p5
   have z0:∀d,jbi env ((H.set 6 lx).set 5 d) 43 (.ptr 0 0)=some .nilsl:=λd=>ld45 (by rw[Kk (by omega),Kk (by omega)];exact p0)
   have z1:∀d,jbi env ((H.set 6 lx).set 5 d) 32 (.ptr 1 0)=some (.agg [.int .i64 x,.int .i64 i]):=λd=>ld47 (by rw[Kk (by omega),Kk (by omega)];exact p1)
   simp only[Ka,simprocAttr,Uy,Ke,Vq,wpR,jbI,q5,z0,z1];rfl
theorem jhk:∀w∈jbQ,1<=w.length/\w.length<=2:=by
 have h:(jbQ.all λw=>Nat.ble 1 w.length && Nat.ble w.length 2)=true:=by kernel_rfl
 intro w hw;have:=K1.1 h w hw;simp only[K8,Nat.ble_eq]at this;exact this
theorem cls5(c:Nat):clsN c=5↔c=39:=by
 unfold clsN;by_cases h1:97<=c/\c<=122
 ·simp[h1];omega
 by_cases h2:48<=c/\c<=57
 ·simp[h1,h2];omega
 by_cases h3:c=32
 ·subst h3;simp
 by_cases h4:c=95
 ·subst h4;simp
 by_cases h5:c=39
 ·subst h5;simp
 simp[h1,h2,h3,h4,h5]
theorem jlK(u:Option TypeDesc)(c:Bool)(op:BinOp)(a b:List V):jbZ u c op (.agg a) (.agg b)=none:=by
 cases op<;>cases u<;>first|rfl|(rename_i u;cases u<;>rfl)
theorem jiO(t:TypeId)(c:Bool)(op:BinOp)(a b:List V):binO env t c op (some (.agg a)) (some (.agg b))=je7 env t op (.agg a) (.agg b):=by
 have:binO env t c op (some (.agg a)) (some (.agg b))=jdd env t c op (.agg a) (.agg b):=rfl;rw[this];unfold jdd;rw[jlK]
theorem jnS(s:List UInt8)(i:Nat)(h:s.length<=i):s.getD i 0=0:=by simp[List.getD,Qf h]
theorem jnT(s:List UInt8)(cs:List Int)(hz:(0:Int) ∉ cs):∀m i,i+m=s.length->clsN (s.getD (runW s cs m i) 0).toNat ∉ cs
 |0,i,h=>by
  simp only[runW];rw[jnS s i (by omega)];exact hz
 |m+1,i,h=>by
  simp only[runW];split
  ·exact jnT s cs hz m (i+1) (by omega)
  ·assumption
theorem jh6(s:List UInt8)(cs:List Int)(hz:(0:Int) ∉ cs)(i:Nat)(hi:i<=s.length):clsN (s.getD (endW s cs i) 0).toNat ∉ cs :=
 jnT s cs hz _ i (by omega)
theorem jdG(s:List UInt8)(cs:List Int)(i j:Nat)(h1:i<=j)(h2:j<endW s cs i):clsN (s.getD j 0).toNat∈cs:=jpj s cs _ i j h1 h2
theorem jc8(s:List UInt8)(cs:List Int)(hz:(0:Int) ∉ cs)(i e:Nat)(h1:i<=e)(h2:e<=s.length)(h3:∀j,i<=j->j<e->clsN (s.getD j 0).toNat∈cs)(h4:clsN (s.getD e 0).toNat ∉ cs):endW s cs i=e:=by
 have a:=jh6 s cs hz i (by omega);have b:=jdG s cs i;have c:=jbB s cs i (by omega);generalize endW s cs i=x at *
 rcases Xx x e with h|h|h
 ·exact absurd (h3 x c.1 h) a
 ·exact h
 ·exact absurd (b e h1 h) h4
theorem jqF(s s':List UInt8)(i i' n:Nat)(h1:i+n<=s.length)(h2:i'+n<=s'.length)(hs:∀k,k<n->s'.getD (i'+k) 0=s.getD (i+k) 0):subS s' i' (i'+n)=subS s i (i+n):=by
 have l1:=jce s i (i+n) h1;have l2:=jce s' i' (i'+n) h2;refine List.ext_getElem (by omega) λk h3 h4 => ?_
 have g1:=jfM s i (i+n) k h1 (by omega);have g2:=jfM s' i' (i'+n) k h2 (by omega);rw[Vc,K5 h4,Kv]at g1;rw[Vc,K5 h3,Kv]at g2;rw[g1,g2,hs k (by omega)]
theorem jkw(s:List UInt8)(i j:Nat)(hij:i<=j)(hj:j<s.length):subS s i (j+1)=subS s i j++[s.getD j 0]:=by
 unfold subS;rw[show j+1-i=(j-i)+1 by omega,Vv];simp only[Jo];rw[show i+(j-i)=j by omega,K5 hj];simp[List.getD,hj]
theorem jnU(s:List UInt8)(i j:Nat)(hij:i<j)(hj:i<s.length):subS s i j=s.getD i 0::subS s (i+1) j:=by
 unfold subS;rw[Q8 hj,show j-i=(j-(i+1))+1 by omega,Q7];simp[List.getD,hj]
theorem jmw(s:List UInt8)(i:Nat)(h:(sgW s i 2).2=true):(sgW s i 2).1∈jbQ/\i+(sgW s i 2).1.length<=s.length/\subS s i (i+(sgW s i 2).1.length)=(sgW s i 2).1 /\
  ((sgW s i 2).1.length=1->¬(i+2<=s.length/\subS s i (i+2)∈jbQ)):=by
 simp only[sgW,K7,Nat.reduceAdd]at h ⊢;by_cases h2:i+2<=s.length/\subS s i (i+2)∈jbQ
 ·have hl:=jce s i (i+2) h2.1;have hl2:(subS s i (i+2)).length=2:=by omega
  simp only[Ki h2,hl2];exact⟨h2.2,h2.1,trivial,λh=>by omega⟩
 ·rw[Kj h2]at h;by_cases h1:i+1<=s.length/\subS s i (i+1)∈jbQ
  ·have hl:=jce s i (i+1) h1.1;have hl1:(subS s i (i+1)).length=1:=by omega
   simp only[Kj h2,Ki h1,hl1];exact⟨h1.2,h1.1,trivial,λ_=>h2⟩
  ·rw[Kj h1]at h;simp at h
theorem jwh(s:List UInt8)(i:Nat)(x:List UInt8)(h1:x∈jbQ)(h2:i+x.length<=s.length)(h3:subS s i (i+x.length)=x)(h4:x.length=1->¬(i+2<=s.length/\subS s i (i+2)∈jbQ)):sgW s i 2=(x,true):=by
 have hs:=jhk x h1;simp only[sgW,K7,Nat.reduceAdd]
 rcases K4 x.length 2 with h|h
 ·have hl:x.length=1:=by omega
  rw[Kj (h4 hl)];rw[hl]at h2 h3;rw[Ki ⟨h2,by rw[h3];exact h1⟩,h3]
 ·have hl:x.length=2:=by omega
  rw[hl]at h2 h3;rw[Ki ⟨h2,by rw[h3];exact h1⟩,h3]
def Stop(t:Tok)(c:UInt8):Prop:=((t.kind=1\/t.kind=2)->clsN c.toNat ∉ ([2,3,4]:List Int))/\(t.kind=3->clsN c.toNat ∉ ([3]:List Int))/\(t.kind=5->t.text++[c] ∉ jbQ)
theorem of5 {c:UInt8}(h:clsN c.toNat=5):c=39:=by
 have:=(cls5 _).1 h;exact UInt8.toNat_inj.1 (by rw[this];rfl)
theorem jhl(s:List UInt8)(i:Nat)(hi:i<s.length)(h0:(jcn s i).2.2=0):∃(t:Tok) (e:Nat),jcn s i=(t,e,0)/\i<e/\e<=s.length/\t.pos=i/\subS s i e=jnL t/\Stop t (s.getD e 0)/\t.kind ≠ 0/\t.text ≠ []/\(t.kind=5->t.text∈jbQ)/\clsN (s.getD i 0).toNat ≠ 1:=by
 have hle:=jkv s i hi;have hlt:=hle.2.2 h0;refine⟨(jcn s i).1,(jcn s i).2.1,by rw[<- h0],hlt,hle.2.1,?_⟩;have b1:=jh6 s [2,3,4] (by decide) i (by omega);have b2:=jh6 s [3] (by decide) i (by omega);unfold jcn at h0 hlt hle ⊢;by_cases k2:clsN (s.getD i 0).toNat=2
 ·simp only[Ki k2]at h0 hlt hle ⊢;have hl:=jce s i (endW s [2,3,4] i) hle.2.1;have hk:(if subS s i (endW s [2,3,4] i)∈N.wordsW then(2:Int)else 1)=1\/(if subS s i (endW s [2,3,4] i)∈N.wordsW then(2:Int)else 1)=2:=by split<;>simp
  generalize (if subS s i (endW s [2,3,4] i)∈N.wordsW then(2:Int)else 1)=k at *;refine⟨trivial,?_,⟨λ_=>b1,λh => ?_,λh => ?_⟩,?_,?_,λh => ?_,by rw[k2];decide⟩
  ·simp only[jnL];rw[Kj (by rcases hk with rfl|rfl<;>decide)]
  ·rcases hk with rfl|rfl<;>simp at h
  ·rcases hk with rfl|rfl<;>simp at h
  ·rcases hk with rfl|rfl<;>decide
  ·intro h;rw[h]at hl;simp at hl;omega
  ·rcases hk with rfl|rfl<;>simp at h
 simp only[Kj k2]at h0 hlt hle ⊢;by_cases k3:clsN (s.getD i 0).toNat=3
 ·simp only[Ki k3]at h0 hlt hle ⊢;by_cases h1:1<(subS s i (endW s [3] i)).length/\((subS s i (endW s [3] i)).getD 0 0).toNat=48
  ·simp only[Ki h1]at h0;simp at h0
  simp only[Kj h1]at h0 hlt hle ⊢;by_cases h2:1000000000<decV 0 (subS s i (endW s [3] i))
  ·simp only[Ki h2]at h0;simp at h0
  simp only[Kj h2]at h0 hlt hle ⊢;have hl:=jce s i (endW s [3] i) hle.2.1;refine⟨trivial,?_,⟨λh => ?_,λ_=>b2,λh => ?_⟩,by decide,?_,λh => ?_,by rw[k3];decide⟩
  ·simp[jnL]
  ·simp at h
  ·simp at h
  ·intro h;rw[h]at hl;simp at hl;omega
  ·simp at h
 simp only[Kj k3]at h0 hlt hle ⊢;by_cases k5:clsN (s.getD i 0).toNat=5
 ·simp only[Ki k5]at h0 hlt hle ⊢;by_cases h1:endW s [2,3,4] (i+1)<s.length/\(s.getD (endW s [2,3,4] (i+1)) 0).toNat=39/\N.IsName (subS s (i+1) (endW s [2,3,4] (i+1)))
  ·simp only[Ki h1]at h0 hlt hle ⊢;have hge:=jbB s [2,3,4] (i+1) (by omega);refine⟨trivial,?_,⟨λh => ?_,λh => ?_,λh => ?_⟩,by decide,?_,λh => ?_,by rw[k5];decide⟩
   ·rw[jkw s i _ (by omega) h1.1,jnU s i _ (by omega) hi,of5 k5,of5 ((cls5 _).2 h1.2.1)];simp[jnL]
   ·simp at h
   ·simp at h
   ·simp at h
   ·intro h;have h3:=h1.2.2.1;rw[h]at h3;simp at h3
   ·simp at h
  ·simp only[Kj h1]at h0;simp at h0
 simp only[Kj k5]at h0 hlt hle ⊢;by_cases hb:(sgW s i 2).2=true
 ·obtain⟨g1,g2,g3,g4⟩:=jmw s i hb;simp only[Ki hb]at h0 hlt hle ⊢;have hsh:=jhk _ g1;refine⟨trivial,?_,⟨λh => ?_,λh => ?_,λ_ h => ?_⟩,by decide,λh => ?_,λ_=>g1,?_⟩
  ·rw[g3];simp[jnL]
  ·simp at h
  ·simp at h
  ·have h5:=(jhk _ h).2;rw[Kr]at h5;simp only[K0,K6]at h5;have h6:(sgW s i 2).1.length=1:=by omega
   rw[h6]at g3 h
   rcases K4 (i+1) s.length with h7|h7
   ·refine g4 h6 ⟨h7,?_⟩;rw[jkw s i (i+1) (by omega) h7,g3];exact h
   ·rw[jnS s (i+1) h7]at h;have hz:(jbQ.all λw=>w.getLast? != some 0)=true:=by kernel_rfl
    have:=K1.1 hz _ h;simp at this
  ·rw[h]at hsh;simp at hsh
  ·have hz:(jbQ.all λw=>clsN (w.getD 0 0).toNat==0)=true:=by kernel_rfl
   have hz:=K1.1 hz _ g1;have hg:=jfM s i _ 0 g2 (by omega);rw[g3,Q5]at hg;rw[hg]at hz;simp only[beq_iff_eq]at hz;rw[hz];decide
 ·simp only[Kj hb]at h0;simp at h0
theorem jkx(s s':List UInt8)(i i' n:Nat)(t:Tok)(hi:i<s.length)(hn:jcn s i=(t,i+n,0))(hb:i'+n<=s'.length)(hs:∀k,k<n->s'.getD (i'+k) 0=s.getD (i+k) 0)(hst:Stop t (s'.getD (i'+n) 0)) :
  jcn s' i'=(⟨t.kind,t.text,t.n,(i':Nat)⟩,i'+n,0):=by
 have hle:=jkv s i hi;have h0:(jcn s i).2.2=0:=by rw[hn]
 have he:(jcn s i).2.1=i+n:=by rw[hn]
 have ht:(jcn s i).1=t:=by rw[hn]
 have hlt:=hle.2.2 h0;have hle2:=hle.2.1;rw[he]at hlt hle2;clear hle hn;have hi':i'<s'.length:=by omega
 have hb0:s'.getD i' 0=s.getD i 0:=by have:=hs 0 (by omega);simpa using this
 have hsub:=jqF s s' i i' n hle2 hb hs;unfold jcn at h0 he ht ⊢;rw[hb0];by_cases k2:clsN (s.getD i 0).toNat=2
 ·simp only[Ki k2]at h0 he ht ⊢;have hin:=jdG s [2,3,4] i;rw[he]at h0 ht hin
  have hE:endW s' [2,3,4] i'=i'+n:=jc8 s' _ (by decide) i' (i'+n) (by omega) hb (λj h1 h2=>by
   have:=hs (j-i') (by omega);rw[show i'+(j-i')=j by omega]at this;rw[this];exact hin _ (by omega) (by omega)) (by
   refine hst.1 ?_;rw[<- ht];simp only;split<;>simp)
  rw[hE,hsub,show i'+n-i'=i+n-i by omega,<- ht];simp only[h0]
 simp only[Kj k2]at h0 he ht ⊢;by_cases k3:clsN (s.getD i 0).toNat=3
 ·simp only[Ki k3]at h0 he ht ⊢;have hin:=jdG s [3] i;by_cases h1:1<(subS s i (endW s [3] i)).length/\((subS s i (endW s [3] i)).getD 0 0).toNat=48
  ·simp only[Ki h1]at h0;simp at h0
  simp only[Kj h1]at h0 he ht;by_cases h2:1000000000<decV 0 (subS s i (endW s [3] i))
  ·simp only[Ki h2]at h0;simp at h0
  simp only[Kj h2]at h0 he ht;rw[he]at h1 h2 ht hin
  have hE:endW s' [3] i'=i'+n:=jc8 s' _ (by decide) i' (i'+n) (by omega) hb (λj h1 h2=>by
   have:=hs (j-i') (by omega);rw[show i'+(j-i')=j by omega]at this;rw[this];exact hin _ (by omega) (by omega)) (hst.2.1 (by rw[<- ht]))
  rw[hE,hsub,Kj h1,Kj h2,<- ht]
 simp only[Kj k3]at h0 he ht ⊢;by_cases k5:clsN (s.getD i 0).toNat=5
 ·simp only[Ki k5]at h0 he ht ⊢;by_cases h1:endW s [2,3,4] (i+1)<s.length/\(s.getD (endW s [2,3,4] (i+1)) 0).toNat=39/\N.IsName (subS s (i+1) (endW s [2,3,4] (i+1)))
  ·simp only[Ki h1]at h0 he ht;have hge:=jbB s [2,3,4] (i+1) (by omega);have hin:=jdG s [2,3,4] (i+1);have he2:endW s [2,3,4] (i+1)=i+(n-1):=by omega
   rw[he2]at h1 ht hin hge;have hlast:=hs (n-1) (by omega)
   have hE:endW s' [2,3,4] (i'+1)=i'+(n-1):=jc8 s' _ (by decide) (i'+1) (i'+(n-1)) (by omega) (by omega) (λj h1 h2=>by
    have:=hs (j-i') (by omega);rw[show i'+(j-i')=j by omega]at this;rw[this];exact hin _ (by omega) (by omega)) (by
    rw[hlast,of5 ((cls5 _).2 h1.2.1)];decide)
   have hsub2:=jqF s s' (i+1) (i'+1) (n-2) (by omega) (by omega) (λk hk=>by
    have:=hs (k+1) (by omega);rw[show i'+1+k=i'+(k+1) by omega,show i+1+k=i+(k+1) by omega];exact this)
   rw[show i+1+(n-2)=i+(n-1) by omega,show i'+1+(n-2)=i'+(n-1) by omega]at hsub2;rw[hE,hsub2,hlast,Ki ⟨by omega,h1.2⟩,<- ht];simp only[Kh,and_true,true_and];omega
  ·simp only[Kj h1]at h0;simp at h0
 simp only[Kj k5]at h0 he ht ⊢;by_cases hbb:(sgW s i 2).2=true
 ·obtain⟨g1,g2,g3,g4⟩:=jmw s i hbb;simp only[Ki hbb]at h0 he ht ⊢;have hn2:(sgW s i 2).1.length=n:=by omega
  rw[hn2]at g3
  have hmk:sgW s' i' 2=((sgW s i 2).1,true):=by
   refine jwh s' i' _ g1 (by omega) (by rw[hn2,hsub,g3]) λh1 h2 => ?_
   have hn1:n=1:=by omega
   subst hn1;have h3:=hst.2.2 (by rw[<- ht]);rw[jkw s' i' (i'+1) (by omega) (by omega),hsub,g3]at h2;refine h3 ?_;rw[<- ht];exact h2.2
  rw[hmk];simp only[Ku,hn2,<- ht]
 ·simp only[Kj hbb]at h0;simp at h0
inductive Sc (s:List UInt8):Nat->Int->List Tok->Prop
 |fin (e:Nat) (last:Int):¬endW s [1] e<s.length->Sc s e last []
 |tok (e:Nat) (last:Int) (i e2:Nat) (t:Tok) (l:List Tok):endW s [1] e=i->i<s.length->jcn s i=(t,e2,0)->¬(t.kind ≠ 5/\last=i)->Sc s e2 (if t.kind ≠ 5 then(e2:Int)else -1) l->Sc s e last (t::l)
theorem jtw(s:List UInt8):∀m e last acc r,e<=s.length->s.length<m+endW s [1] e->jfo s m (endW s [1] e) last acc=(r,none)->∃l,r=acc++l/\Sc s e last l
 |0,e,last,acc,r,he,hm,h=>by have:=jbB s [1] e he;omega
 | m+1,e,last,acc,r,he,hm,h=>by
  have hE:=jbB s [1] e he;simp only[jfo]at h;by_cases h1:endW s [1] e<s.length
  ·rw[Ki h1]at h;by_cases h2:(jcn s (endW s [1] e)).2.2=0
   ·rw[Ki h2]at h;obtain⟨t,e2,hn,a1,a2,_⟩:=jhl s _ h1 h2;rw[hn]at h;simp only at h;by_cases h3:t.kind ≠ 5/\last=(endW s [1] e:Nat)
    ·rw[Ki h3]at h;simp at h
    ·rw[Kj h3]at h;have b:=jbB s [1] e2 a2;obtain⟨l,rfl,hS⟩:=jtw s m e2 _ _ r a2 (by omega) h;exact⟨t::l,by simp,.tok e last _ e2 t l rfl h1 hn h3 hS⟩
   ·rw[Kj h2]at h;simp at h
  ·rw[Kj h1]at h;simp only[Kh,and_true]at h;exact⟨[],by simp[h],.fin e last h1⟩
theorem jw8 {s:List UInt8}{e:Nat}{last:Int}{l:List Tok}(h:Sc s e last l):e<=s.length->∀m acc,s.length<m+endW s [1] e->jfo s m (endW s [1] e) last acc=(acc++l,none):=by
 induction h with
 |fin e last h =>
  intro he m acc hm;have:=jbB s [1] e he;cases m with
  |zero=>omega
  |succ m=>simp only[jfo];rw[Kj h];simp
 | tok e last i e2 t l h1 h2 h3 h4 _ ih =>
  intro he m acc hm;obtain⟨t',e',hn,a1,a2,_⟩:=jhl s i h2 (by rw[h3]);rw[h3]at hn;simp only[Kh,and_true]at hn;obtain⟨rfl,rfl⟩:=hn;have b:=jbB s [1] e2 a2;cases m with
  |zero=>omega
  |succ m =>
   simp only[jfo];rw[h1,Ki h2,h3];simp only[Ku];rw[Kj h4,ih a2 m _ (by omega)];simp
def OkT(t:Tok):Prop:=∃s i e,i<s.length/\jcn s i=(t,e,0)
theorem jqG {t:Tok}(h:OkT t):∃s i n,i<s.length/\jcn s i=(t,i+n,0)/\0<n/\i+n<=s.length/\(jnL t).length=n/\(∀k,k<n->s.getD (i+k) 0=(jnL t).getD k 0)/\t.kind ≠ 0/\t.text ≠ []/\(t.kind=5->t.text∈jbQ)/\clsN ((jnL t).getD 0 0).toNat ≠ 1:=by
 obtain⟨s,i,e,hi,hn⟩:=h;obtain⟨t',e',hn',a1,a2,a3,a4,a5,a6,a7,a8,a9⟩:=jhl s i hi (by rw[hn]);rw[hn]at hn';simp only[Kh,and_true]at hn';obtain⟨rfl,rfl⟩:=hn';have hl:=jce s i e a2;have hg:=λk hk=>jfM s i e k a2 hk
 rw[a4]at hl hg;refine⟨s,i,e-i,hi,by rw[hn,show i+(e-i)=e by omega],by omega,by omega,hl,λk hk=>(hg k hk).symm,a6,a7,a8,?_⟩;rw[hg 0 (by omega)];exact a9
theorem jiP {t:Tok}(h:OkT t)(c:UInt8)(hc:c=32\/c=0):Stop t c:=by
 obtain⟨s,i,n,_,_,_,_,_,_,_,_,h5,_⟩:=jqG h;refine⟨λ_ => ?_,λ_ => ?_,λhk hm => ?_⟩
 ·rcases hc with rfl|rfl<;>decide
 ·rcases hc with rfl|rfl<;>decide
 ·have hz:(jbQ.all λw=>w.getLast? != some 0 && w.getLast? != some 32)=true:=by kernel_rfl
  have hz:=K1.1 hz _ hm
  rcases hc with rfl|rfl<;>simp at hz
def core(t:Tok):Tok:=⟨t.kind,t.text,t.n,0⟩
theorem je4(a b:List UInt8)(j:Nat):(a++b).getD (a.length+j) 0=b.getD j 0:=by
 simp[List.getD,Q6]
theorem jh7(a b:List UInt8)(j:Nat)(h:j<a.length):(a++b).getD j 0=a.getD j 0:=by
 simp[List.getD,K2 h]
theorem jyE:clsN (32:UInt8).toNat∈([1]:List Int):=by decide
set_option maxRecDepth 1000000
def jbY(cs:List Int):List UInt8->Nat
 | []=>0
 |c::r=>if clsN c.toNat∈cs then jbY cs r+1 else 0
theorem jnV(s:List UInt8)(cs:List Int):∀m i,i+m=s.length->runW s cs m i=i+jbY cs (s.drop i)
 |0,i,h=>by
  have:s.drop i=[]:=Vs (by omega);simp[runW,this,jbY]
 |m+1,i,h=>by
  have hd:s.drop i=s[i]::s.drop (i+1):=Q8 (by omega);have hg:s.getD i 0=s[i]:=by simp[List.getD,show i<s.length by omega]
  simp only[runW,hd,jbY,hg];by_cases hc:clsN s[i].toNat∈cs
  ·rw[Ki hc,Ki hc,jnV s cs m (i+1) (by omega)];omega
  ·rw[Kj hc,Kj hc];omega
theorem jh8(s:List UInt8)(cs:List Int)(i:Nat):endW s cs i=i+jbY cs (s.drop i):=by
 unfold endW
 rcases K4 s.length i with h|h
 ·have:s.drop i=[]:=Vs (by omega);rw[show s.length-i=0 by omega,this];rfl
 ·exact jnV s cs _ i (by omega)
theorem jnW(s:List UInt8)(i k:Nat):s.getD (i+k) 0=(s.drop i).getD k 0:=by
 simp[List.getD,Jo]
theorem jnX(s:List UInt8)(i n:Nat):subS s i (i+n)=(s.drop i).take n:=by
 unfold subS;rw[Uf]
def jf3(d:List UInt8):Tok × Nat × Int :=
 if clsN (d.getD 0 0).toNat=2 then
  (⟨if d.take (jbY [2,3,4] d)∈N.wordsW then 2 else 1,d.take (jbY [2,3,4] d),0,0⟩,jbY [2,3,4] d,if 20<jbY [2,3,4] d then 19 else 0)
 else if clsN (d.getD 0 0).toNat=3 then
  if 1<(d.take (jbY [3] d)).length/\((d.take (jbY [3] d)).getD 0 0).toNat=48 then(.zero,jbY [3] d,11)
  else if 1000000000<decV 0 (d.take (jbY [3] d))then(.zero,jbY [3] d,2)
  else(⟨3,d.take (jbY [3] d),decV 0 (d.take (jbY [3] d)),0⟩,jbY [3] d,0)
 else if clsN (d.getD 0 0).toNat=5 then
  if 1+jbY [2,3,4] (d.drop 1)<d.length/\(d.getD (1+jbY [2,3,4] (d.drop 1)) 0).toNat=39/\N.IsName ((d.drop 1).take (jbY [2,3,4] (d.drop 1)))then(⟨4,(d.drop 1).take (jbY [2,3,4] (d.drop 1)),0,0⟩,1+jbY [2,3,4] (d.drop 1)+1,0)
  else(.zero,1+jbY [2,3,4] (d.drop 1),11)
 else if 2<=d.length/\d.take 2∈jbQ then(⟨5,d.take 2,0,0⟩,(d.take 2).length,0)
 else if 1<=d.length/\d.take 1∈jbQ then(⟨5,d.take 1,0,0⟩,(d.take 1).length,0)
 else(.zero,0,11)
def Tok.at(t:Tok)(i:Int):Tok:=⟨t.kind,t.text,t.n,i⟩
theorem ju8(s:List UInt8)(i:Nat)(hi:i<=s.length):(jcn s i).2.1=i+(jf3 (s.drop i)).2.1/\(jcn s i).2.2=(jf3 (s.drop i)).2.2/\((jf3 (s.drop i)).2.2=0->(jcn s i).1=(jf3 (s.drop i)).1.at i):=by
 have g0:s.getD i 0=(s.drop i).getD 0 0:=jnW s i 0;have hd1:s.drop (i+1)=(s.drop i).drop 1:=by rw[Xf]
 have e1:∀cs,endW s cs (i+1)=i+(1+jbY cs ((s.drop i).drop 1)):=λcs=>by rw[jh8,hd1];omega
 have e2:∀cs,subS s (i+1) (i+(1+jbY cs ((s.drop i).drop 1)))=((s.drop i).drop 1).take (jbY cs ((s.drop i).drop 1)):=λcs=>by
  rw[<- hd1,<- jnX];congr 1;omega
 have hl:(s.drop i).length=s.length-i:=Qo;have q2:∀n,(i+n<=s.length)=(n<=(s.drop i).length):=λn=>by rw[hl];exact propext (by omega)
 have q3:∀n,(i+n<s.length)=(n<(s.drop i).length):=λn=>by rw[hl];exact propext (by omega)
 unfold jcn jf3;simp only[jh8 s _ i,e1,e2,jnX,g0,Uf,sgW,q2,q3,jnW s i,K7,Nat.reduceAdd];generalize s.drop i=d at *;split
 ·exact⟨rfl,rfl,λ_=>rfl⟩
 ·split
  ·split
   ·exact⟨rfl,rfl,λh=>by simp at h⟩
   ·split
    ·exact⟨rfl,rfl,λh=>by simp at h⟩
    ·exact⟨rfl,rfl,λ_=>rfl⟩
  ·split
   ·split
    ·exact⟨by simp only;omega,rfl,λ_=>rfl⟩
    ·exact⟨rfl,rfl,λh=>by simp at h⟩
   ·by_cases h2:2<=d.length/\d.take 2∈jbQ
    ·simp only[Ki h2,Ku];exact⟨trivial,trivial,λ_=>rfl⟩
    ·simp only[Kj h2];by_cases h1:1<=d.length/\d.take 1∈jbQ
     ·simp only[Ki h1,Ku];exact⟨trivial,trivial,λ_=>rfl⟩
     ·simp only[Kj h1,Km,Ks];exact⟨rfl,trivial,λh=>by simp at h⟩
def jgs:Nat->List UInt8->Nat->Int->List Tok × Option (Int × Nat)
 |0,_,_,_=>([],none)
 | m+1,d,i,last =>
  match d with
  | []=>([],none)
  | _::_ =>
   match jf3 d with
   | (t,e,x) =>
    if x=0 then
     if t.kind ≠ 5/\last=i then([],some (11,i))
     else match jgs m ((d.drop e).drop (jbY [1] (d.drop e))) (i+e+jbY [1] (d.drop e)) (if t.kind ≠ 5 then((i+e:Nat):Int)else -1)with
      |(l,r)=>(t.at i::l,r)
    else([],some (x,i))
theorem jqH(s:List UInt8):∀(m i:Nat) (last:Int) (acc:List Tok),i<=s.length->jfo s m i last acc=(acc++(jgs m (s.drop i) i last).1,(jgs m (s.drop i) i last).2)
 |0,i,last,acc,h=>by simp[jfo,jgs]
 | m+1,i,last,acc,h=>by
  unfold jfo;by_cases hi:i<s.length
  ·rw[Ki hi];have hd:s.drop i=s[i]::s.drop (i+1):=Q8 hi;obtain⟨k1,k2,k3⟩:=ju8 s i h;unfold jgs;rw[hd];simp only;rw[<- hd];generalize hn:jf3 (s.drop i)=r at *;obtain⟨t,e,x⟩:=r;simp only at k1 k2 k3;rw[k1,k2];by_cases hx:x=0
   ·rw[Ki hx,Ki hx,k3 hx];have hk:(t.at i).kind=t.kind:=rfl;rw[hk];by_cases hc:t.kind ≠ 5/\last=i
    ·rw[Ki hc,Ki hc];simp
    ·rw[Kj hc,Kj hc];have hE:endW s [1] (i+e)=i+e+jbY [1] ((s.drop i).drop e):=by rw[jh8,Xf]
     rw[hE];have hn0:(jcn s i).2.2=0:=by rw[k2,hx]
     obtain⟨t',e',hn',_,he,_⟩:=jhl s i hi hn0;rw[hn']at k1;simp only at k1;have hle:=(jbB s [1] (i+e) (by omega)).2;rw[hE]at hle;rw[jqH s m _ _ _ hle];have:s.drop (i+e+jbY [1] ((s.drop i).drop e))=((s.drop i).drop e).drop (jbY [1] ((s.drop i).drop e)):=by rw[Xf,Xf]
     rw[this];simp
   ·rw[Kj hx,Kj hx];simp
  ·rw[Kj hi];have:s.drop i=[]:=Vs (by omega);unfold jgs;rw[this];simp
def tkOf(t:Tok):PP.Tk:=⟨t.kind,t.text,t.n,t.pos⟩
def toksD(s:List UInt8):List Tok × Option (Int × Nat):=jgs (s.length+1) (s.drop (jbY [1] s)) (jbY [1] s) (-1)
theorem jqI(s:List UInt8):jfo s (s.length+1) (endW s [1] 0) (-1) []=toksD s:=by
 have hE:endW s [1] 0=jbY [1] s:=by rw[jh8,K7,Jn]
 have hle:=(jbB s [1] 0 (by omega)).2;rw[jqH s _ _ _ _ hle,hE];unfold toksD;simp
set_option maxRecDepth 100000
theorem jrt(a b:List UInt8):vBin .add (.str a) (.str b)=if a.length+b.length<=lim then some (.str (a++b))else none:=rfl
theorem vBin_sadd(us:Option TypeDesc)(cc:Bool)(a b:List UInt8):jbZ us cc .add (.str a) (.str b)=if a.length+b.length<=lim then some (.str (a++b))else none:=by
 unfold jbZ;rw[jrt];by_cases h:a.length+b.length<=lim
 ·rw[Ki h]
 ·rw[Kj h]
theorem jw9(s:List UInt8)(l:List Tok)(h:jfo s (s.length+1) (endW s [1] 0) (-1) []=(l,none)):Sc s 0 (-1) l:=by
 obtain⟨l',h1,h2⟩:=jtw s (s.length+1) 0 (-1) [] l (by omega) (by omega) h;simpa[h1]using h2
theorem jxa(s:List UInt8)(l:List Tok)(h:Sc s 0 (-1) l):jfo s (s.length+1) (endW s [1] 0) (-1) []=(l,none):=by
 have:=jw8 h (by omega) (s.length+1) [] (by omega);simpa using this
theorem toksD_sc {s:List UInt8}{l:List Tok}:toksD s=(l,none)↔Sc s 0 (-1) l:=by
 rw[<- jqI];exact⟨jw9 s l,jxa s l⟩
theorem ju9(s:List UInt8)(i:Nat)(hi:i<s.length)(h0:(jcn s i).2.2=0):∀j,i<=j->j<(jcn s i).2.1->clsN (s.getD j 0).toNat ≠ 1:=by
 intro j h1 h2 hb;have hin2:=jdG s [2,3,4] i j h1;have hin3:=jdG s [3] i j h1;unfold jcn at h0 h2;by_cases k2:clsN (s.getD i 0).toNat=2
 ·simp only[Ki k2]at h0 h2;have:=hin2 h2;rw[hb]at this;exact absurd this (by decide)
 simp only[Kj k2]at h0 h2;by_cases k3:clsN (s.getD i 0).toNat=3
 ·simp only[Ki k3]at h0 h2;by_cases g1:1<(subS s i (endW s [3] i)).length/\((subS s i (endW s [3] i)).getD 0 0).toNat=48
  ·simp only[Ki g1]at h0;simp at h0
  simp only[Kj g1]at h0 h2;by_cases g2:1000000000<decV 0 (subS s i (endW s [3] i))
  ·simp only[Ki g2]at h0;simp at h0
  simp only[Kj g2]at h0 h2;have:=hin3 h2;rw[hb]at this;exact absurd this (by decide)
 simp only[Kj k3]at h0 h2;by_cases k5:clsN (s.getD i 0).toNat=5
 ·simp only[Ki k5]at h0 h2;by_cases g1:endW s [2,3,4] (i+1)<s.length/\(s.getD (endW s [2,3,4] (i+1)) 0).toNat=39/\N.IsName (subS s (i+1) (endW s [2,3,4] (i+1)))
  ·simp only[Ki g1]at h0 h2;by_cases hj:j=i
   ·rw[hj,k5]at hb;exact absurd hb (by decide)
   by_cases hj2:j=endW s [2,3,4] (i+1)
   ·rw[hj2,(cls5 _).2 g1.2.1]at hb;exact absurd hb (by decide)
   have:=jdG s [2,3,4] (i+1) j (by omega) (by omega);rw[hb]at this;exact absurd this (by decide)
  ·simp only[Kj g1]at h0;simp at h0
 simp only[Kj k5]at h0 h2;by_cases hbb:(sgW s i 2).2=true
 ·obtain⟨g1,g2,g3,g4⟩:=jmw s i hbb;simp only[Ki hbb]at h0 h2;have hg:=jfM s i _ (j-i) g2 (by omega);rw[g3,show i+(j-i)=j by omega]at hg;have hz:(jbQ.all λw=>w.all λb=>clsN b.toNat != 1)=true:=by kernel_rfl
  have hz:=K1.1 hz _ g1
  have hm:(sgW s i 2).1.getD (j-i) 0∈(sgW s i 2).1:=by
   rw[Vc,K5 (by omega),Kv];exact J3 _
  have:=K1.1 hz _ hm;rw[hg,hb]at this;simp at this
 ·simp only[Kj hbb]at h0;simp at h0
theorem jxb {s:List UInt8}{e:Nat}{last:Int}{l:List Tok}(h:Sc s e last l)(e':Nat)(he':e'<e)(he:e<=s.length)(hb:∀j,e'<=j->j<e->clsN (s.getD j 0).toNat∈([1]:List Int))(last':Int)(hl:last'<=(e':Nat)):Sc s e' last' l:=by
 have hin:=jdG s [1] e;have hE:=jbB s [1] e he;have hst:=jh6 s [1] (by decide) e he
 have hE2:endW s [1] e'=endW s [1] e:=jc8 s [1] (by decide) e' _ (by omega) hE.2 (λj h1 h2=>by
  rcases K4 j e with h3|h3
  ·exact hb j h1 h3
  ·exact hin j h3 h2) hst
 cases h with
 |fin _ _ h=>exact .fin _ _ (by rw[hE2];exact h)
 |tok _ _ i e2 t l h1 h2 h3 h4 h5=>exact .tok _ _ i e2 t l (by rw[hE2];exact h1) h2 h3 (by rintro⟨_,h6⟩;omega) h5
theorem jtx(s s':List UInt8)(d:Nat)(hs:∀j,j<s.length->s'.getD (d+j) 0=s.getD j 0)(hl:d+s.length<=s'.length)(hst:∀t,OkT t->Stop t (s'.getD (d+s.length) 0))(R:List Tok)
  (hK:∀(e':Nat) (last':Int),d<=e'->e'<=d+s.length->(∀j,e'<=j->j<d+s.length->clsN (s'.getD j 0).toNat∈([1]:List Int))->last'<=(e':Nat)->∃l2,Sc s' e' last' l2/\l2.map core=R) :
  ∀(e:Nat) (last:Int) (l:List Tok),Sc s e last l->e<=s.length->∀last2:Int,(last2=last+d\/last2 = -1)->last2<=(d+e:Nat)->∃l',Sc s' (d+e) last2 l'/\l'.map core=l.map core++R:=by
 intro e last l h
 induction h with
 | fin e last h =>
  intro he last2 _ hl3;have hE:=jbB s [1] e he;have hin:=jdG s [1] e
  obtain⟨l2,h1,h2⟩:=hK (d+e) last2 (by omega) (by omega) (λj g1 g2=>by
   have:=hs (j-d) (by omega);rw[show d+(j-d)=j by omega]at this;rw[this];exact hin _ (by omega) (by omega)) hl3
  exact⟨l2,h1,by simpa using h2⟩
 | tok e last i e2 t l h1 h2 h3 h4 hS ih =>
  intro he last2 hl2 hl3;have hE:=jbB s [1] e he;have hin:=jdG s [1] e;have hOk:OkT t:=⟨s,i,e2,h2,h3⟩;obtain⟨t',e',hn,a1,a2,a3,_,a5,_,_,_,a9⟩:=jhl s i h2 (by rw[h3]);rw[h3]at hn;simp only[Kh,and_true]at hn;obtain⟨rfl,rfl⟩:=hn;rw[h1]at hE hin
  have hE2:endW s' [1] (d+e)=d+i:=by
   refine jc8 s' [1] (by decide) (d+e) (d+i) (by omega) (by omega) (λj g1 g2 => ?_) ?_
   ·have:=hs (j-d) (by omega);rw[show d+(j-d)=j by omega]at this;rw[this];exact hin _ (by omega) (by omega)
   ·rw[hs i h2];simpa using a9
  have hst2:Stop t (s'.getD (d+i+(e2-i)) 0):=by
   rw[show d+i+(e2-i)=d+e2 by omega]
   rcases K4 e2 s.length with h|h
   ·rw[hs e2 h];exact a5
   ·rw[show e2=s.length by omega];exact hst t hOk
  have hnx:=jkx s s' i (d+i) (e2-i) t h2 (by rw[h3,show i+(e2-i)=e2 by omega]) (by omega) (λj hj=>by
   rw[show d+i+j=d+(i+j) by omega];exact hs (i+j) (by omega)) hst2
  rw[show d+i+(e2-i)=d+e2 by omega]at hnx;obtain⟨l',g1,g2⟩:=ih a2 (if t.kind ≠ 5 then((d+e2:Nat):Int)else -1) (by by_cases hk:t.kind ≠ 5<;>simp[hk]<;>omega) (by split<;>omega);refine⟨_::l',.tok _ _ _ _ _ _ hE2 (by omega) hnx ?_ (by simpa using g1),?_⟩
  ·rintro⟨h5,h6⟩
   rcases hl2 with h7|h7
   ·exact h4 ⟨h5,by omega⟩
   ·omega
  ·simp only[Jf,Ji,g2,core]
theorem jlL {s:List UInt8}{e:Nat}{last:Int}(he:e<=s.length)(hb:∀j,e<=j->j<s.length->clsN (s.getD j 0).toNat∈([1]:List Int)):Sc s e last []:=by
 refine .fin e last ?_;rw[jc8 s [1] (by decide) e s.length he (Kw _) hb (by rw[jnS _ _ (Kw _)];decide)];omega
theorem jxc(s b:List UInt8)(d:Nat)(hs:∀j,s.getD (d+j) 0=b.getD j 0)(hl:s.length=d+b.length):∀(e:Nat) (last:Int) (l:List Tok),Sc s e last l->d<=e->e<=s.length->∀last2:Int,(last2=last-d\/last2 = -1)->∃l',Sc b (e-d) last2 l'/\l'.map core=l.map core:=by
 intro e last l h
 induction h with
 |fin e last h =>
  intro hd he last2 _;have hE:=jbB s [1] e he;have hin:=jdG s [1] e;exact⟨[],jlL (by omega) (λj g1 g2=>by rw[<- hs];exact hin _ (by omega) (by omega)),rfl⟩
 | tok e last i e2 t l h1 h2 h3 h4 hS ih =>
  intro hd he last2 hl2;have hE:=jbB s [1] e he;have hin:=jdG s [1] e;obtain⟨t',e',hn,a1,a2,a3,_,a5,_,_,_,a9⟩:=jhl s i h2 (by rw[h3]);rw[h3]at hn;simp only[Kh,and_true]at hn;obtain⟨rfl,rfl⟩:=hn;rw[h1]at hE hin;have g:∀j,d<=j->b.getD (j-d) 0=s.getD j 0:=λj hj=>by rw[<- hs,show d+(j-d)=j by omega]
  have hE2:endW b [1] (e-d)=i-d:=by
   refine jc8 b [1] (by decide) (e-d) (i-d) (by omega) (by omega) (λj g1 g2 => ?_) ?_
   ·rw[<- hs];exact hin _ (by omega) (by omega)
   ·rw[g i (by omega)];simpa using a9
  have hnx:=jkx s b i (i-d) (e2-i) t h2 (by rw[h3,show i+(e2-i)=e2 by omega]) (by omega) (λj hj=>by
   rw[<- hs,show d+(i-d+j)=i+j by omega]) (by rw[show i-d+(e2-i)=e2-d by omega,g e2 (by omega)];exact a5)
  rw[show i-d+(e2-i)=e2-d by omega]at hnx;obtain⟨l',g1,g2⟩:=ih (by omega) a2 (if t.kind ≠ 5 then((e2-d:Nat):Int)else -1) (by by_cases hk:t.kind ≠ 5<;>simp[hk]<;>omega);refine⟨_::l',.tok _ _ _ _ _ _ hE2 (by omega) hnx ?_ (by simpa using g1),?_⟩
  ·rintro⟨h5,h6⟩
   rcases hl2 with h7|h7
   ·exact h4 ⟨h5,by omega⟩
   ·omega
  ·simp only[Jf,g2,core]
theorem jky(a b:List UInt8)(j:Nat)(h:j<a.length):(a++32::b).getD j 0=a.getD j 0:=jh7 _ _ _ h
theorem jty(a b:List UInt8):(a++32::b).getD a.length 0=32:=by
 have:=je4 a (32::b) 0;rw[Q5]at this;rw[this];rfl
theorem jwi(a b:List UInt8)(j:Nat):(a++32::b).getD (a.length+1+j) 0=b.getD j 0:=by
 have:=je4 a (32::b) (1+j);rw[<- Xy]at this;rw[this,Jv 1 j];rfl
theorem jyF(a b:List UInt8):∀(e:Nat) (last:Int) (l:List Tok),Sc (a++32::b) e last l->e<=a.length->∃A B,l.map core=A.map core++B.map core/\Sc a e last A/\Sc b 0 (-1) B:=by
 have hlen:(a++32::b).length=a.length+1+b.length:=by simp only[Kr,K0];omega
 have hsb:clsN ((a++32::b).getD a.length 0).toNat∈([1]:List Int):=by rw[jty];exact jyE
 intro e last l h
 induction h with
 |fin e last h =>
  intro he;have hE:=jbB (a++32::b) [1] e (by omega);have hin:=jdG (a++32::b) [1] e;refine⟨[],[],rfl,jlL he λj g1 g2 => ?_,jlL (by omega) λj g1 g2 => ?_⟩
  ·rw[<- jky a b j g2];exact hin _ g1 (by omega)
  ·rw[<- jwi a b j];exact hin _ (by omega) (by omega)
 | tok e last i e2 t l h1 h2 h3 h4 hS ih =>
  intro he;have hE:=jbB (a++32::b) [1] e (by omega);have hin:=jdG (a++32::b) [1] e;have hOk:OkT t:=⟨_,i,e2,h2,h3⟩;have hnb:=ju9 _ i h2 (by rw[h3]);obtain⟨t',e',hn,a1,a2,a3,_,a5,_,_,_,a9⟩:=jhl _ i h2 (by rw[h3]);rw[h3]at hn;simp only[Kh,and_true]at hn;obtain⟨rfl,rfl⟩:=hn;rw[h1]at hE hin;rw[h3]at hnb;by_cases hia:i<a.length
  ·have he2:e2<=a.length:=by
    rcases K4 a.length e2 with g|g
    ·exact absurd (by simpa using hsb) (hnb a.length (by omega) g)
    ·exact g
   have hE2:endW a [1] e=i:=by
    refine jc8 a [1] (by decide) e i (by omega) (by omega) (λj g1 g2 => ?_) ?_
    ·rw[<- jky a b j (by omega)];exact hin _ g1 (by omega)
    ·rw[<- jky a b i hia];simpa using a9
   have hst:Stop t (a.getD (i+(e2-i)) 0):=by
    rw[show i+(e2-i)=e2 by omega]
    rcases K4 e2 a.length with h|h
    ·rw[<- jky a b e2 h];exact a5
    ·rw[jnS a e2 h];exact jiP hOk _ (.inr rfl)
   have hnx:=jkx _ a i i (e2-i) t h2 (by rw[h3,show i+(e2-i)=e2 by omega]) (by omega) (λj hj=>(jky a b (i+j) (by omega)).symm) hst;rw[show i+(e2-i)=e2 by omega]at hnx;obtain⟨A,B,g1,g2,g3⟩:=ih he2;exact⟨_::A,B,by simp only[Jf,Ji,g1,core],.tok _ _ _ _ _ _ hE2 hia hnx h4 (by simpa using g2),g3⟩
  ·have hi2:i ≠ a.length:=λh=>a9 (by rw[h];simpa using hsb)
   have hS2:Sc (a++32::b) (a.length+1) (-1) (t::l):=by
    refine .tok _ _ i e2 t l (jc8 _ [1] (by decide) _ i (by omega) (by omega) (λj g1 g2=>hin _ (by omega) g2) (by simpa using a9)) h2 h3 ?_ hS;rintro⟨_,h6⟩;omega
   obtain⟨B,g1,g2⟩:=jxc _ b (a.length+1) (jwi a b) hlen _ _ _ hS2 (Kw _) (by omega) (-1) (.inr rfl);rw[X6]at g1;exact⟨[],B,by simp[g2],jlL he λj h5 h6=>by rw[<- jky a b j h6];exact hin _ h5 (by omega),g1⟩
def Lx(s:List UInt8)(L:List Tok):Prop:=∃l,Sc s 0 (-1) l/\l.map core=L
theorem lx_fun {s:List UInt8}{A B:List Tok}(ha:Lx s A)(hb:Lx s B):A=B:=by
 obtain⟨a,h1,rfl⟩:=ha;obtain⟨b,h2,rfl⟩:=hb;have:=(toksD_sc.2 h1).symm.trans (toksD_sc.2 h2);simp only[Kh,and_true]at this;rw[this]
theorem lx_const {s:List UInt8}{l:List Tok}(h:toksD s=(l,none)):Lx s (l.map core):=⟨l,toksD_sc.1 h,rfl⟩
theorem lx_cut {a b:List UInt8}{L:List Tok}(h:Lx (a++32::b) L):∃A B,L=A++B/\Lx a A/\Lx b B:=by
 obtain⟨l,h,rfl⟩:=h;obtain⟨A,B,h1,h2,h3⟩:=jyF a b 0 (-1) l h (Qk _);exact⟨_,_,h1,⟨A,h2,rfl⟩,⟨B,h3,rfl⟩⟩
theorem jyG {b:List UInt8}{B:List Tok}(hb:Lx b B)(pre:List UInt8):∃l2,Sc (pre++b) pre.length (-1) l2/\l2.map core=B:=by
 obtain⟨l,h,rfl⟩:=hb;have hl:(pre++b).length=pre.length+b.length:=Kr
 obtain⟨l2,h1,h2⟩:=jtx b (pre++b) pre.length (λj _=>je4 pre b j) (by omega) (λt ht=>by
  rw[jnS _ _ (by omega)];exact jiP ht _ (.inr rfl)) [] (λe' last' g1 g2 g3 _=>⟨[],jlL (by omega) (by rw[hl];exact g3),rfl⟩) 0 (-1) l h (Qk _) (-1) (.inr rfl) (by omega)
 exact⟨l2,by simpa using h1,by simpa using h2⟩
theorem lx_glue {a b:List UInt8}{A B:List Tok}(ha:Lx a A)(hb:Lx b B):Lx (a++32::b) (A++B):=by
 obtain⟨la,h,rfl⟩:=ha;have hlen:(a++32::b).length=a.length+1+b.length:=by simp only[Kr,K0];omega
 obtain⟨l2,g1,g2⟩:=jyG hb (a++[32]);rw[show a++[32]++b=a++32::b by simp,show(a++[(32:UInt8)]).length=a.length+1 by simp]at g1
 obtain⟨l,h1,h2⟩:=jtx a (a++32::b) 0 (λj hj=>by rw[K7];exact jky a b j hj) (by omega) (λt ht=>by
  rw[K7,jty];exact jiP ht _ (.inl rfl)) B (λe' last' k1 k2 k3 k4=>⟨l2,jxb g1 e' (by omega) (by omega) (λj m1 m2=>by
   rcases K4 j a.length with m3|m3
   ·exact k3 j m1 (by omega)
   ·rw[show j=a.length by omega,jty];exact jyE) last' k4,g2⟩) 0 (-1) la h (Qk _) (-1) (.inr rfl) (by omega)
 exact⟨l,by simpa using h1,h2⟩
def sgT(c:UInt8):Tok:=⟨5,[c],0,0⟩
def IsP(c:UInt8):Prop:=c=40\/c=41\/c=91\/c=93
theorem jtz {s:List UInt8}{p e':Nat}{c:UInt8}(hc:IsP c)(hp:s.getD p 0=c)(hpl:p<s.length)(hb:∀j,e'<=j->j<p->clsN (s.getD j 0).toNat∈([1]:List Int))(he':e'<=p){l:List Tok}(h:Sc s (p+1) (-1) l)(last:Int):∃l2,Sc s e' last l2/\l2.map core=sgT c::l.map core:=by
 have hcl:clsN c.toNat=0:=by rcases hc with rfl|rfl|rfl|rfl<;>decide
 have hsub:subS s p (p+1)=[c]:=by
  rw[jnU s p (p+1) (by omega) hpl,hp];unfold subS;rw[X6,Jl]
 have hmem:[c]∈jbQ:=by rcases hc with rfl|rfl|rfl|rfl<;>exact of_decide_eq_true (by kernel_rfl)
 have hsg:sgW s p 2=([c],true):=by
  refine jwh s p [c] hmem hpl hsub λ_ h2 => ?_
  have hz:(jbQ.all λw => !(w.length==2 && (w.getD 0 0==40 ||w.getD 0 0==41 ||w.getD 0 0==91 ||w.getD 0 0==93)))=true:=by kernel_rfl
  have hz:=K1.1 hz _ h2.2;have hl:=jce s p (p+2) h2.1;have hg:=jfM s p (p+2) 0 h2.1 (by omega);rw[show p+0=p from rfl,hp]at hg;rw[hl,hg]at hz
  rcases hc with rfl|rfl|rfl|rfl<;>simp at hz
 have hn:jcn s p=(⟨5,[c],0,(p:Nat)⟩,p+1,0):=by
  unfold jcn;rw[hp,hcl,hsg];simp
 exact⟨⟨5,[c],0,(p:Nat)⟩::l,.tok e' last p (p+1) _ l (jc8 s [1] (by decide) e' p he' (by omega) hb (by rw[hp,hcl];decide)) hpl hn (by simp) (by simpa using h),rfl⟩
theorem jyH {b:List UInt8}{B:List Tok}{c:UInt8}(hc:IsP c)(hb:Lx b B):Lx (c::b) (sgT c::B):=by
 obtain⟨l2,g1,rfl⟩:=jyG hb [c];exact jtz (p:=0) (e':=0) hc rfl (by simp) (λj h1 h2=>by omega) (Kw _) g1 (-1)
theorem jva {t:Tok}{c:UInt8}(ht:OkT t)(hc:c=41\/c=93):Stop t c:=by
 obtain⟨s,i,n,_,_,_,_,_,_,_,h4,h5,_⟩:=jqG ht;refine⟨λ_ => ?_,λ_ => ?_,λhk hm => ?_⟩
 ·rcases hc with rfl|rfl<;>decide
 ·rcases hc with rfl|rfl<;>decide
 ·have hz:(jbQ.all λw=>w.length==1 ||(w.getLast? != some 41 && w.getLast? != some 93))=true:=by kernel_rfl
  have hz:=K1.1 hz _ hm;have:t.text.length ≠ 0:=λh=>h4 (List.length_eq_zero_iff.1 h)
  rcases hc with rfl|rfl<;>simp at hz<;>exact h4 hz
theorem jyI {a:List UInt8}{A:List Tok}{c:UInt8}(hc:c=41\/c=93)(ha:Lx a A):Lx (a++[c]) (A++[sgT c]):=by
 obtain⟨la,h,rfl⟩:=ha;have hl:(a++[c]).length=a.length+1:=by simp
 have hat:(a++[c]).getD a.length 0=c:=by simp[List.getD]
 have hP:IsP c:=by rcases hc with rfl|rfl<;>simp[IsP]
 obtain⟨l,h1,h2⟩:=jtx a (a++[c]) 0 (λj hj=>by rw[K7];exact jh7 _ _ _ hj) (by omega) (λt ht=>by
  rw[K7,hat];exact jva ht hc) [sgT c] (λe' last' k1 k2 k3 k4=>by
   obtain⟨l2,m1,m2⟩:=jtz (s:=a++[c]) (p:=a.length) (e':=e') hP hat (by omega) (by simpa using k3) (by omega) (l:=[]) (jlL (by omega) (λj h5 h6=>by omega)) last';exact⟨l2,m1,by simpa using m2⟩) 0 (-1) la h (Qk _) (-1) (.inr rfl) (by omega)
 exact⟨l,by simpa using h1,h2⟩
theorem lx_sufs {a:List UInt8}{A:List Tok}{c:UInt8}(hc:c=41\/c=93)(ha:Lx a A):∀n,Lx (a++List.replicate n c) (A++List.replicate n (sgT c))
 |0=>by simpa using ha
 |n+1=>by
  have:=jyI hc (lx_sufs hc ha n);rw[V2,V2,<- Jd,<- Jd];exact this
theorem lx_pres {b:List UInt8}{B:List Tok}{c:UInt8}(hc:IsP c)(hb:Lx b B):∀n,Lx (List.replicate n c++b) (List.replicate n (sgT c)++B)
 |0=>by simpa using hb
 |n+1=>by
  rw[V6,V6,Ji,Ji];exact jyH hc (lx_pres hc hb n)
end Go.Proofs.YtpclebdkhpapjaaGreatDoor.T
