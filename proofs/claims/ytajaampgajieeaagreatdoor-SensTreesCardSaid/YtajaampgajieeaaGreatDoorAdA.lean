/- Proved here: values, counts and totals. Conditions: each theorem's own. -/
import Derived.Test.YtajaampgajieeaaGreatDoorVxA
set_option linter.unusedSimpArgs false
set_option maxHeartbeats 16000000
set_option maxRecDepth 1000000
set_option linter.unusedVariables false
set_option linter.unusedSectionVars false
namespace Go.Proofs.YtajaampgajieeaaGreatDoor.B
open Go.Ab
open W (IsI)
theorem joinedL(v:VP)(hj:∀o pub left right limit,v.jn=some (o,pub,left,right,limit)->limit<=50):v.joined.length<=v.rows.length*50:=by
 have hk:v.kept.length<=v.rows.length:=by
  unfold VP.kept;split
  ·exact Kw _
  ·exact(jeD _ _ _).length_le
 unfold VP.joined;split
 ·omega
 ·rename_i o pub left right limit e;have hl:=hj _ _ _ _ _ e
  have:∀l:List PR,(je9 pub left right limit o l).length<=l.length*50:=λl=>by
   induction l with
   |nil=>simp[je9]
   |cons r l ih =>
    rw[jd2,Kk,Qh];have:=jfz pub left right limit r o 0;omega
  have:=this v.kept;omega
def iV(xs:List Int):V:=if xs=[]then .nilsl else .row (xs.map (V.int .i64)) xs.length .unk
noncomputable def jsV(Q:Qy)(cs:List Col)(rs:List PR):List Int:=rs.map λr=>max Q.lo (min Q.hi (W.valueV Q.ex cs r.2))
noncomputable def jsW(l:List Tb)(Q:Qy):List Int:=jsV Q (jaI Q (sv l)) (vpQ l Q).view
theorem eI22:Elt env 22 3 1 8:=⟨ac,ac,ac,ac,ac⟩
section
variable {v:V}{l:List Tb}{Q:Qy}{ev' wv rv:V}{fe:Int}
end
theorem juh {r:Rw}{n:Nat}(h:RowN n r)(U:S):jah env (ev env) 129 [.agg [.int .i64 r.own,r.vv]] U=some (.int .i64 1,U):=by
 have hc:V.closed r.vv=true:=W.closed_I h.1;refine jaj (by simp[V.closed,V.closed.closedL,hc]) jz2 rfl ?_ U;simp only[Tryz.f129,simprocAttr,zK,Vq,jai,Q1];rfl
theorem jxQ(b w:Nat){o:Nat}(h:o<w):jaw 1 (.hsl b 0 w w .exact) (.int .i64 (o:Int))=some (.ptr b o):=by
 simp only[jaw];rw[Kg aa];simp
theorem jsX {l:List Int}{n:Nat}(h:n<l.length)(x:Int):jaa (l.map (V.int .i64)) n [.int .i64 x]=(l.set n x).map (V.int .i64):=by
 rw[List.map_set,Vz,Kg (by simpa using h)];simp[jaa]
theorem jui {Q:Post}{ks:List Kt}{T:Tm}{H:List AObj}{ts:List Nat}{b w p i k:Nat}{cu av:V}{cs:List Col}{r:Rw}{xs:List Rw}{os:List Int}{n:Nat}(hcu:IsC cu cs)(hk:k<cs.length)(hr:RowN n r)(hkn:k<n)(hx:IsR av xs)(hi:i<xs.length){n2:Nat}(hr2:RowN n2 (xs.getD i Rw.none))
  {o:Nat} (ho:(r.vs.getD k 0)-(cs.getD k Col.none).lo=(o:Int)) (how:o<w) (hosl:os.length=w) (hlo:IntKind.i64.wrap (r.vs.getD k 0-(cs.getD k Col.none).lo)=r.vs.getD k 0-(cs.getD k Col.none).lo) (hsum:IntKind.i64.wrap (os.getD o 0+1)=os.getD o 0+1)
  (t2:T 2=av) (t3:T 3=.func 129 [] []) (t9:T 9=cu) (t10:T 10=.int .i64 k) (t12:T 12=.hsl b 0 w w .exact) (t13:T 13=.int .i64 i) (t14:T 14=.ptr p 0)
  (hp:H[p]? = some (.cells [.int .i64 r.own,r.vv] 70)) (hb:H[b]? = some (.cells (os.map (V.int .i64)) 3))
  (h:∀T',(∀j,j<=49->T' j=T j)->G env 128 none 74 Q ks .skip T' [] ⟨H.set b (.cells ((os.set o (os.getD o 0+1)).map (V.int .i64)) 3),ts⟩) :
  G env 128 none 74 Q ks (regB 9 (jaz Tryz.f128)) T [] ⟨H,ts⟩:=by
 simp only[regB,jaz,Tryz.f128,Kr,regO,Option.or,Nat.reduceEqDiff,Kn,Kl,reduceIte];have hv:=W.idx_I hr.1 (i:=k) (by rw[hr.2.1];exact hkn);have hc:=jel hcu hk;have ha:=jnW hx hi;have hix:=jxQ b w how;rw[<- ho]at hix;have hat:jce (some (AObj.cells (os.map (V.int .i64)) 3)) o=some (.int .i64 (os.getD o 0)):=by simp[jce,List.getD,hosl,how]
 have hid:=juh hr2;refine jwF rfl [(false,[]),(false,[]),(false,[1]),(false,[]),(false,[]),(false,[1]),(false,[]),(false,[]),(false,[]),(false,[]),(false,[1]),(false,[]),(false,[]),(false,[1]),(false,[]),(false,[]),(false,[]),(false,[]),(false,[]),(true,[]),(false,[]),(false,[]),(true,[])] (λm s0=>m<=1->s0.heap=H) (λ_=>rfl) ac ac ?_;simp only[Ka,Nat.reduceLT,Nat.reduceEqDiff,Kl,Kn,reduceIte,Ys,Y0,Int.reduceEq,Int.reduceLT,Int.reduceLE,Int.reduceNeg,mb,Nat.reduceBEq,tys,stb,Vq,Nat.reduceGcd,juT,jwG,jwH,juU,jwI,juV,jwJ,jrA,joM,jhS,jlQ,jbH,Kw,-Ys,Q1,t2,t3,t9,t10,t12,t13,t14,hp,hb,hv,hc,ha,hix,jaq,jbr,hlo,hat,hid,hsum];have hst:=jsX (show o<os.length by omega) (os.getD o 0+1);rw[hst];refine⟨⟨λs e=>by rw[e,hp];rfl,trivial⟩,⟨λ_ _=>trivial,trivial⟩,⟨λ_ _=>trivial,trivial⟩,⟨λs e=>by rw[e,hb];exact hat,trivial⟩,⟨by simp;omega,rfl⟩,λh=>absurd h aa,h _ λj hj => ?_⟩;simp only[Z7]
 repeat rw[Ke aa]
theorem cells_le(w:Nat){B:Int}(hB:0<=B):∀(l:List (Nat × Int)),(∀x∈l,-B<=x.2/\x.2<=B)->∀i,i<w -> -(B*l.length)<=(jcD w l).getD i 0/\(jcD w l).getD i 0<=B*l.length:=λl h i hi=>by
 rw[jec hi]
 have key:∀l:List (Nat × Int),(∀x∈l,-B<=x.2/\x.2<=B) -> -(B*l.length)<=l.foldl (λa x=>a+x.2) 0/\l.foldl (λa x=>a+x.2) 0<=B*l.length:=λl=>by
  induction l with
  |nil=>intro _;simp
  |cons x l ih =>
   intro h;have h1:=ih λy hy=>h y (by simp[hy])
   have h2:=h x ae;rw[X4,jml];have e:B*((x::l).length:Nat)=B*l.length+B:=by rw[Qh,Vh,Int.mul_add];simp
   rw[e];omega
 have h1:=key (l.filter λx=>decide (x.1=i)) λx hx=>h x (Vg.1 hx).1
 have h2:B*((l.filter λx=>decide (x.1=i)).length:Int)<=B*(l.length:Int):=Ue (Int.ofNat_le.2 (Uj _ _)) hB;omega
def jdf(cs:List Col)(k:Nat)(r:Rw):Nat:=(r.vs.getD k 0-(cs.getD k Col.none).lo).toNat
section
variable {Q:Post}{ks:List Kt}{T:Tm}{H:List AObj}{ts:List Nat}{b w k n:Nat}{cu av u:V}{cs:List Col}{ws:List Rw}
theorem juj(hcu:IsC cu cs)(hk:k<cs.length)(hkn:k<n)(hR:IsR u ws)(hw2:∀r∈ws,RowN n r)(hlen:ws.length<=100000)
  (hin:∀r∈ws,(cs.getD k Col.none).lo<=r.vs.getD k 0/\r.vs.getD k 0-(cs.getD k Col.none).lo<w) (hwl:w<=100000)
  (t2:T 2=u) (t3:T 3=.func 129 [] []) (t9:T 9=cu) (t10:T 10=.int .i64 k) (t12:T 12=.hsl b 0 w w .exact) (t43:T 43=u) (t44:T 44=.int .i64 ws.length) (t45:T 45=.int .i64 0)
  (hb:H[b]? = some (.cells ((List.replicate w (0:Int)).map (V.int .i64)) 3))
  (h:∀T' H',(∀j,j<=12->T' j=T j)->H'[b]? = some (.cells ((jcD w ((ws.map (jdf cs k)).zip (List.replicate ws.length 1))).map (V.int .i64)) 3)->G env 128 none 74 Q ks .skip T' [] ⟨H',ts⟩) :
  jdx env 128 none 74 (jcK 0 (jaz Tryz.f128)) T [] ⟨H,ts⟩ (Kt.post env 128 none 74 Q (.blk 0::ks)):=by
 obtain⟨xs,hxs⟩:∃xs:List Int,xs=List.replicate ws.length 1:=⟨_,rfl⟩;rw[<- hxs]at h;have hxl:xs.length=ws.length:=by rw[hxs];simp
 have hxb:∀x∈xs,-(2^40:Int)<=x/\x<=2^40:=λx hx=>by rw[hxs]at hx;rw[List.eq_of_mem_replicate hx];decide
 have hx1:∀i,i<ws.length->xs.getD i 0=1:=λi hi=>by rw[hxs];simp[List.getD,hi]
 have l9:regB 9 (jaz Tryz.f128)=regB 9 (jcK 0 (jaz Tryz.f128)):=rfl;simp only[jaz,Tryz.f128,Kr,jcK,blkC,Option.or,Nat.reduceEqDiff,Kn,Kl,reduceIte];have hlen2:=jnV hR 70;have hzl:∀i,i<=ws.length->(((ws.map (jdf cs k)).zip xs).take i).length=i:=λi hi=>by simp;omega
 refine jau (λm T' D U=>D=[]/\(∀j,j<=12->T' j=T j)/\T' 43=u/\T' 44=.int .i64 ws.length/\∃(i:Nat) (L:List AObj),U=⟨L,ts⟩/\T' 45=.int .i64 i/\i<=ws.length/\m=ws.length-i/\L[b]? = some (.cells ((jcD w (((ws.map (jdf cs k)).zip xs).take i)).map (V.int .i64)) 3)) ?_ (ws.length-0) _ _ _
  ⟨rfl,λ_ _=>rfl,t43,t44,0,H,rfl,t45,Qm _,rfl,by rw[Jj,jqc];exact hb⟩
 rintro m T' D U ⟨rfl,hT,u43,u44,i,L,rfl,u45,hi,rfl,hLb⟩;refine jaC ?_;by_cases hlt:i<ws.length
 ·have c1:((i:Int)<(ws.length:Int))=True:=eq_true aa;have e1:IntKind.i64.wrap ((i:Int)+1)=((i+1:Nat):Int):=by rw[wrap_i64 aa aa];omega
  have hx2:=jnW hR hlt;have hrm:ws.getD i Rw.none∈ws:=by simp[List.getD,hlt]
  have hrow:=hw2 _ hrm;have hinr:=hin _ hrm;have icv:=jcv hrow.1;have u2:=(hT 2 aa).trans t2;have u3:=(hT 3 aa).trans t3;have u9:=(hT 9 aa).trans t9;have u10:=(hT 10 aa).trans t10;have u12:=(hT 12 aa).trans t12;have hxm:xs.getD i 0∈xs:=by simp[List.getD,show i<xs.length by omega]
  have hxbi:=hxb _ hxm;have h1x:=hx1 i hlt;rw[h1x]at hxbi;have hcl:=cells_le w (B:=2^40) af (((ws.map (jdf cs k)).zip xs).take i) (λx hx=>hxb _ (List.of_mem_zip (Xw hx)).2) (jdf cs k (ws.getD i Rw.none)) (by unfold jdf;omega);rw[hzl i hi]at hcl
  have htk:((ws.map (jdf cs k)).zip xs).take (i+1)=((ws.map (jdf cs k)).zip xs).take i++[(jdf cs k (ws.getD i Rw.none),xs.getD i 0)]:=by
   rw[Vw]
   congr 1
   simp[List.getD,hlt,show i<xs.length by omega,List.getElem?_zip_eq_some]
  rw[h1x]at htk;generalize hrr:ws.getD i Rw.none=r at *;simp only[simprocAttr,yK,K0,jaa,Q1,u43,u44,u45,c1,hx2,jbr,K2,jac,icv];refine jui (b:=b) (w:=w) (p:=L.length) (i:=i) (k:=k) (cs:=cs) (r:=r) (xs:=ws) (os:=jcD w (((ws.map (jdf cs k)).zip xs).take i)) (n:=n) (o:=jdf cs k r) hcu hk hrow hkn hR hlt (n2:=n) (by rw[hrr];exact hrow) (by unfold jdf;omega) (by unfold jdf;omega) (jcV _ _) (wrap_i64 aa aa) (wrap_i64 aa aa) u2 u3 u9 u10 u12 rfl rfl (jad _ _) (jaE hLb _) λT2 hT2 => ?_
  have v45:T2 45=.int .i64 i:=(hT2 45 aa).trans u45;have v43:T2 43=u:=(hT2 43 aa).trans u43;have v44:T2 44=.int .i64 ws.length:=(hT2 44 aa).trans u44;simp only[simprocAttr,zK,Vq,Q1,v43,v44,v45,e1];refine⟨ws.length-(i+1),aa,λj hj => ?_,i+1,_,rfl,rfl,aa,rfl,?_⟩
  ·repeat rw[Ke aa]
   rw[hT2 j aa,<- hT j hj];simp only[Z7]
   repeat rw[Ke aa]
  ·rw[htk,jnU,Km (by have:=jao hLb;simp;omega)]
 ·have hie:i=ws.length:=by omega
  subst hie;have c1:((ws.length:Int)<(ws.length:Int))=False:=eq_false aa;simp only[simprocAttr,zK,Vq,Q1,u43,u44,u45,c1];refine h _ L (λj hj => ?_) ?_
  ·rw[<- hT j hj];simp only[Z7];repeat rw[Ke aa]
  ·rw[Qu (by simp;omega)]at hLb;exact hLb
end
theorem jgT {c:Col}(h:Ok1 c):c.name ≠ []/\c.lo<=c.hi /\ -1000000<=c.lo/\c.hi<=1000000/\jcU c=c.hi-c.lo+1:=by
 have hk:c.lo<=c.hi /\ -1000000<=c.lo/\c.hi<=1000000:=by
  have h2:=h.2;unfold colE at h2;by_cases a:c.ws.length=0
  ·rw[Kg a]at h2;by_cases b:c.lo < -1000000\/1000000<c.hi\/c.hi<c.lo
   ·rw[Kg b]at h2;cases h2
   ·omega
  ·rw[Ke a]at h2;by_cases b:64<c.ws.length
   ·rw[Kg b]at h2;cases h2
   rw[Ke b]at h2;by_cases d:∃i,i<c.ws.length/\¬jaZ (c.ws.getD i [])
   ·rw[Kg d]at h2;cases h2
   rw[Ke d]at h2;by_cases e:jiB c.ws
   ·rw[Kg e]at h2;cases h2
   rw[Ke e]at h2;by_cases f:c.lo ≠ 0\/c.hi ≠ (c.ws.length:Int)-1
   ·rw[Kg f]at h2;cases h2
   ·omega
 refine⟨λe => ?_,hk.1,hk.2.1,hk.2.2,?_⟩
 ·have:=h.1.1;rw[e]at this;simp at this
 ·unfold jcU;have w1:IntKind.i64.wrap (c.hi-c.lo)=c.hi-c.lo:=wrap_i64 aa aa;rw[Kg h,w1,wrap_i64 aa aa]
theorem jv9 {a b:List Col}{x y:List Int}(hx:InC a x)(hy:InC b y)(hl:x.length=a.length):InC (a++b) (x++y):=λk hk=>by
 by_cases h:k<a.length
 ·have e1:(a++b).getD k Col.none=a.getD k Col.none:=by simp only[List.getD,Kj h]
  have e2:(x++y).getD k 0=x.getD k 0:=by simp only[List.getD,Kj (show k<x.length by omega)]
  rw[e1,e2];exact hx k h
 ·have e1:(a++b).getD k Col.none=b.getD (k-a.length) Col.none:=by simp only[List.getD,Jv (show a.length<=k by omega)]
  have e2:(x++y).getD k 0=y.getD (k-a.length) 0:=by simp only[List.getD,Jv (show x.length<=k by omega),hl]
  rw[Kk]at hk;rw[e1,e2];exact hy _ aa
def colI(cs:List Col)(Q:Qy):Nat:=(jbg cs Q.column).toNat
def cellI(cs:List Col)(k:Nat)(r:PR):Nat:=(r.2.getD k 0-(cs.getD k Col.none).lo).toNat
noncomputable def widQ(cs:List Col)(Q:Qy):Nat:=(jcU (cs.getD (colI cs Q) Col.none)).toNat
section
variable {l:List Tb}{Q:Qy}{fe:Int}
theorem jph(ht:0<=ja3 (sv l) Q.table (sv l).length 0)(ho:Q.other ≠ []->0<=ja3 (sv l) Q.other (sv l).length 0):jaI Q (sv l)=(tbN l Q.table).s.cs++if Q.other=[]then []else(tbN l Q.other).s.cs:=by
 obtain⟨_,_,_,_,h4,_,_⟩:=tbN_spec ht;unfold jaI;rw[h4];by_cases h:Q.other=[]
 ·rw[Kg h,Kg h];rfl
 ·obtain⟨_,_,_,_,g4,_,_⟩:=tbN_spec (ho h);rw[Ke h,Ke h,g4];rfl
theorem jwa(h:FitQ l Q fe):∀r∈(vpQ l Q).view,InC (jaI Q (sv l)) r.2/\r.2.length=(jaI Q (sv l)).length:=λr hr=>by
 have hK:=ja4 h.2;have hG:=(jhq h.1).2;obtain⟨_,_,_,_,_,h5,_⟩:=tbN_spec hK.tab;have hr:=(vpQ l Q).view_sub.subset hr;rw[jph hK.tab λho=>(hK.other ho).1]
 have hrow:∀r∈(vpQ l Q).kept,InC (tbN l Q.table).s.cs r.2/\r.2.length=(tbN l Q.table).s.cs.length:=λr hr=>by
  have hr:r∈(vpQ l Q).rows:=by
   unfold VP.kept at hr;split at hr
   ·exact hr
   ·exact(jeD _ _ _).subset hr
  obtain⟨s,hs,rfl⟩:=Jd.1 hr;have:=(hG _ h5).r s hs;exact⟨this.2.1,this.1⟩
 by_cases ho:Q.other=[]
 ·have e:(vpQ l Q).joined=(vpQ l Q).kept:=by
   unfold VP.joined vpQ;simp only[ho,Kl]
  rw[e]at hr;rw[Kg ho,Jb];exact hrow r hr
 ·obtain⟨_,_,_,_,_,g5,_⟩:=tbN_spec (hK.other ho).1
  have e:(vpQ l Q).joined=je9 (tbN l Q.other).s.pub (ixL l Q) (ixR l Q) Q.limit ((tbN l Q.other).rows.map Rw.pl) (vpQ l Q).kept:=by
   unfold VP.joined vpQ;simp only[ho,Kn]
  rw[e]at hr;obtain⟨s,hs,hr⟩:=U7.1 hr;obtain⟨_,s2,hs2,e2,_⟩:=jeE _ _ _ _ _ _ _ r hr;obtain⟨s3,hs3,rfl⟩:=Jd.1 hs2;have h1:=hrow s hs;have h2:=(hG _ g5).r s3 hs3;rw[Ke ho,e2];exact⟨jv9 h1.1 h2.2.1 h1.2,by rw[Kk,Kk,h1.2,h2.1]⟩
theorem jwb(h:FitQ l Q fe):(vpQ l Q).view.length<=100000:=by
 have hK:=ja4 h.2;have h2:=(vpQ l Q).view_sub.length_le
 have h3:=joinedL (vpQ l Q) λo pub left right limit e=>by
  unfold vpQ at e;by_cases ho:Q.other=[]
  ·simp only[ho,Kl]at e;cases e
  ·simp only[ho,Kn,Ki,Qg]at e;have:=(hK.other ho).2.2.2.2.1;omega
 obtain⟨_,_,_,_,_,h5,_⟩:=tbN_spec hK.tab;have h6:=((jhq h.1).2 _ h5).l;have h7:(vpQ l Q).rows.length=(tbN l Q.table).rows.length:=by simp[vpQ]
 omega
theorem jxR(ht:0<=ja3 (sv l) Q.table (sv l).length 0)(ho:Q.other ≠ []->0<=ja3 (sv l) Q.other (sv l).length 0):(jaI Q (sv l)).length=jnN l Q (tbN l Q.table).s.cs.length:=by
 rw[jph ht ho,Kk];unfold jnN;by_cases h:Q.other=[]
 ·rw[Kg h,Kg h];rfl
 ·rw[Ke h,Ke h]
theorem fit_col(h:FitQ l Q fe)(hC:∀c∈jaI Q (sv l),Ok1 c):(Q.column=[]↔¬colK Q.kind)/\(0<=jbg (jaI Q (sv l)) Q.column↔Q.column ≠ [])/\(Q.column ≠ []->colI (jaI Q (sv l)) Q<(jaI Q (sv l)).length/\1<=widQ (jaI Q (sv l)) Q/\widQ (jaI Q (sv l)) Q<=64):=by
 have hK:=ja4 h.2
 have hn:0<=jbg (jaI Q (sv l)) Q.column->Q.column ≠ []:=λhp e=>by
  rcases jca (jaI Q (sv l)) Q.column with a|⟨j,a,hj,b,_⟩
  ·omega
  ·exact(jgT (hC ((jaI Q (sv l)).getD j Col.none) (by simp[List.getD,hj]))).1 (b.trans e)
 have hk:=hK.kind;have hc:=hK.col
 have h3:¬colK Q.kind->Q.column=[]:=λa=>by
  unfold jjr at hk;by_cases g:Q.kind<1\/10<Q.kind
  ·rw[Kg g]at hk;cases hk
  ·rw[Ke g]at hk;by_cases b:bad1 Q\/bad2 Q\/bad3 Q\/bad4 Q\/bad5 Q\/bad6 Q
   ·rw[Kg b]at hk;cases hk
   ·refine Jo λe=>b (.inr (.inr (.inl ⟨a,e⟩)))
 have h4:colK Q.kind->0<=jbg (jaI Q (sv l)) Q.column/\jcU (colN (jaI Q (sv l)) Q.column)<=64:=λa=>by
  unfold jl4 at hc;rw[Ke (λq=>q a)]at hc;by_cases b:0<=jbg (jaI Q (sv l)) Q.column
  ·rw[Ke (λq=>q b)]at hc;by_cases d:64<jcU (colN (jaI Q (sv l)) Q.column)
   ·rw[Kg d]at hc;cases hc
   ·exact⟨b,aa⟩
  ·rw[Kg b]at hc;cases hc
 have h5:Q.column=[]↔¬colK Q.kind:=⟨λe a=>hn (h4 a).1 e,h3⟩;have h6:Q.column ≠ []->colK Q.kind:=λe=>Jo λa=>e (h3 a)
 refine⟨h5,⟨hn,λe=>(h4 (h6 e)).1⟩,λe => ?_⟩;obtain⟨a,b⟩:=h4 (h6 e);obtain⟨c,d⟩:=jeG a
 have e2:colN (jaI Q (sv l)) Q.column=(jaI Q (sv l)).getD (colI (jaI Q (sv l)) Q) Col.none:=by
  unfold colN;rw[Kg a];rfl
 rw[e2]at b;have f:=jgT (hC ((jaI Q (sv l)).getD (colI (jaI Q (sv l)) Q) Col.none) (by have:colI (jaI Q (sv l)) Q<_:=d;simp[List.getD,this]));exact⟨d,by unfold widQ;omega,by unfold widQ;omega⟩
noncomputable def jcc(l:List Tb)(Q:Qy)(xs:List Int):List Int:=jcD (widQ (jaI Q (sv l)) Q) (((vpQ l Q).view.map (cellI (jaI Q (sv l)) (colI (jaI Q (sv l)) Q))).zip xs)
end
theorem jtD:env.hook 133=some (jbU YtajaampgajieeaaGreatDoor.env 133):=rfl
theorem jAl:jbD env 38 [(3,.nilsl)]=some (.agg [.str [],.bool false,.int .i64 0,.nilsl]):=ac
theorem jAm(cs:List V)(n:Nat):jbD env 38 [(3,.row cs n .unk)]=some (.agg [.str [],.bool false,.int .i64 0,.row cs n .unk]):=ac
theorem jxS {u:V}{cs:List Col}(h:K.CpV u cs):jbD env 38 [(3,u)]=some (.agg [.str [],.bool false,.int .i64 0,u]):=by
 rcases h with⟨rfl,_⟩|rfl
 ·exact jAl
 ·exact jAm _ _
theorem mkw(L:List AObj)(ts:List Nat){w:Nat}(h0:1<=w)(h:w<=100000):jrg env true ⟨L,ts⟩ 22 (.int .i64 w) (.int .i64 w)=some (.hsl L.length 0 w w .exact,⟨L++[.cells ((List.replicate w (0:Int)).map (V.int .i64)) 3],ts⟩):=by
 have z3:jba env 3=some (.int .i64 0):=ac;have hlim:lim=2^40:=rfl;have hl:(w:Int)<=(lim:Int)/\(w:Int)*8<=(lim:Int):=by rw[hlim];omega
 have w0:¬w=0:=aa
 have hf:∀n:Nat,(List.replicate n [V.int .i64 0]).flatten=List.replicate n (V.int .i64 0):=λn=>by
  induction n with
  |zero=>rfl
  |succ n ih=>rw[Vn,Vj,ih,Vn];rfl
 simp only[jrg,eI22.elem,eI22.size,eI22.bytes,Kq,z3];simp[hl,S.push,V.cells,hf,w0]
theorem jmB(xs:List Int):IsI (iV xs) xs:=by
 unfold iV;split
 ·rename_i h;exact .inl ⟨rfl,h⟩
 ·exact .inr (.inl rfl)
theorem jmC {lv:V}{ss:List Sch}{Q:Qy}{ev' wv rv:V}(hS:K.SB lv ss)(hQ:K.QV Q ev' wv rv):∃cu cs,K.CpV cu cs/\(K.tells Q ss->cs=jaI Q ss)/\OkC cs/\cs.length<=1000/\(∀i,i<cs.length->jdL (cs.getD i Col.none))/\∀U,jah env (ev env) 26 [.agg (Q.cells ev' wv rv),lv] U=some (cu,U):=by
 obtain⟨cu,h1,h2,h3⟩:=K.columns_call hS hQ;have hC:=λU=>jiy hk26 h3 (ev env) U
 by_cases ht:K.tells Q ss
 ·have hle:=jo9 (Q:=Q) hS.cl;refine⟨cu,_,h1 ht,λ_=>rfl,colsQ_all λs hs c hcm=>(hS.ok s hs).2 c hcm,aa,?_,hC⟩
  have:=colsQ_all (P:=λc=>jdL c) (Q:=Q) (ss:=ss) λs hs c hcm=>by
   obtain⟨i,hi,e⟩:=Jr hs;have hsh:=hS.sh i hi;rw[show ss.getD i Sch.none=s by simp[List.getD,hi,e]]at hsh;obtain⟨j,hj,e2⟩:=Jr hcm;have:=hsh.2.2 j hj;rwa[show s.cs.getD j Col.none=c by simp[List.getD,hj,e2]]at this
  exact λi hi=>this _ (by simp[List.getD,hi])
 ·exact⟨cu,[],.inl ⟨h2 ht,rfl⟩,λh=>absurd h ht,λc h=>(by cases h),ae,λi hi=>by simp at hi,hC⟩
section
variable {v:V}{l:List Tb}{Q:Qy}{ev' wv rv:V}{fe:Int}
theorem jmD(h:FitQ l Q fe):K.tells Q (sv l):=by
 have hK:=ja4 h.2;refine⟨hK.all,hK.tab,?_⟩;by_cases ho:Q.other=[]
 ·exact .inl ho
 ·exact .inr (hK.other ho).1
theorem jwc(H:List AObj)(os:List Int):jaK H jak (iV os)=some (iV os):=by
 unfold iV;split
 ·rfl
 ·show jaK H (10+1+1) (.row _ _ _)=_;rw[ja1,jdd];rfl
theorem jqq(H:List AObj){b w:Nat}{os:List Int}(h:H[b]? = some (.cells (os.map (V.int .i64)) 3))(hl:os.length=w)(hw:1<=w):jaK H jak (.hsl b 0 w w .exact)=some (iV os):=by
 show(match H[b]? with|some (.cells cs _)=>if w<=w then((cs.drop 0).mapM (jaK H 11)).map λc=>V.row c w .unk else none|_=>none)=_;rw[h];show(if w<=w then(((os.map (V.int .i64)).drop 0).mapM (jaK H 11)).map λc=>V.row c w .unk else none)=_;have e:=jdd H 10 os;rw[Kg (Kw _),Qz,e];unfold iV;rw[Ke (λe=>by rw[e]at hl;simp at hl;omega),hl];rfl
open Classical in
theorem juk(hB:BOK v l)(hQ:K.QV Q ev' wv rv)(hf:K.Fac Q.factor fe)(hC:∀c∈jaI Q (sv l),Ok1 c){u:V}(hu1:FitQ l Q fe->VR (jnN l Q (tbN l Q.table).s.cs.length) (vpQ l Q).view u)(huc:u.closed=true)(hV:∀U,jah env (ev env) 41 [v,.agg (Q.cells ev' wv rv)] U=some (u,U))(U:S) :
  jah env (ev env) 128 [v,.agg (Q.cells ev' wv rv),u,.func 129 [] []] U=some (if FitQ l Q fe/\Q.column ≠ []then iV (jcc l Q (List.replicate (vpQ l Q).view.length 1))else .nilsl,U):=by
 refine jaj (by rw[Ks,Ks,Ks,hB.closed,hQ.closed,huc];rfl) jz1 rfl ?_ U;have hl30:jab [K.qc30 Q ev' wv rv] 20 (.ptr 0 0)=_:=K.ld30 (Q:=Q) (ev:=ev') (wv:=wv) (rv:=rv) rfl;have hS:=jcC hB;obtain⟨cu,cs,hcu,htl,hok,hle,hsh,hC26⟩:=jmC (jsA hB) hQ;have hcol:=λU=>jb6 jt9 (λU=>jdB Q.column (.str []) (.bool false) (.int .i64 0) rfl rfl rfl cu cs hcu.isC hok hle U) (ev env) U
 have bd:=jxS hcu;have hF:=jo7 hB hQ hf;unfold Qy.cells at hC26 hF hV ⊢
 change ∀U,_=some (jcn (jbg _ _),U)at hcol
 generalize hr:(if FitQ l Q fe/\Q.column ≠ []then iV (jcc l Q (List.replicate (vpQ l Q).view.length 1))else V.nilsl)=res;by_cases hk:0<=jbg cs Q.column
 case neg =>
  have hfit:¬(FitQ l Q fe/\Q.column ≠ []):=λh=>by
   have e:=htl (jmD h.1);rw[e]at hk;exact hk ((fit_col h.1 hC).2.1.2 h.2)
  rw[Ke hfit]at hr;subst hr;unfold jcn at hcol;rw[Ke hk,decide_eq_false hk]at hcol;simp only[Tryz.f128,simprocAttr,zK,K0,jaa,jai,Q1,YW,hl30,hS,hC26,bd,hcol];exact⟨ac,rfl⟩
 obtain⟨k1,k2⟩:=jeG hk;rw[k1,jhD]at hcol;by_cases hfit:FitQ l Q fe
 case neg =>
  rw[Ke λh=>hfit h.1]at hr;subst hr;rw[show decide ((jed l).1=0/\(jdD Q (sv l) fe).1=0)=false from decide_eq_false hfit]at hF;simp only[Tryz.f128,simprocAttr,zK,K0,jaa,jai,Q1,YW,hl30,hS,hC26,bd,hcol,hF];exact⟨ac,rfl⟩
 rw[show decide ((jed l).1=0/\(jdD Q (sv l) fe).1=0)=true from decide_eq_true hfit]at hF;have ecs:=htl (jmD hfit);subst ecs;obtain⟨_,h2,h3⟩:=fit_col hfit hC;have hne:=h2.1 hk;obtain⟨c1,c2,c3⟩:=h3 hne;rw[Kg ⟨hfit,hne⟩]at hr;have hK:=ja4 hfit.2;have hjl:=jxR hK.tab λho=>(hK.other ho).1
 have hix:=jel hcu.isC k2;have hcm:(jaI Q (sv l)).getD (jbg (jaI Q (sv l)) Q.column).toNat Col.none∈jaI Q (sv l):=by simp[List.getD,k2]
 have hW:=λU=>jb6 jtD (λU=>width_call _ (hok _ hcm) (hsh _ k2) U) (ev env) U
 have hof:=jgT (hC _ hcm)
 have hwq:jcU ((jaI Q (sv l)).getD (jbg (jaI Q (sv l)) Q.column).toNat Col.none)=(widQ (jaI Q (sv l)) Q:Int):=by
  show _=(((jcU ((jaI Q (sv l)).getD (jbg (jaI Q (sv l)) Q.column).toNat Col.none)).toNat:Nat):Int);omega
 rw[hwq]at hW;unfold aggC at hW;obtain⟨ws,rfl,hw2,hw3⟩:=hu1 hfit;have hR:=ji1 ws;have hlen:=jnV hR 70;have hvl:=jwb hfit;have hwl:ws.length=(vpQ l Q).view.length:=by rw[<- hw3,Qw]
 have hin:∀r∈ws,((jaI Q (sv l)).getD (colI (jaI Q (sv l)) Q) Col.none).lo<=r.vs.getD (colI (jaI Q (sv l)) Q) 0/\r.vs.getD (colI (jaI Q (sv l)) Q) 0-((jaI Q (sv l)).getD (colI (jaI Q (sv l)) Q) Col.none).lo<(widQ (jaI Q (sv l)) Q:Int):=λr hr=>by
  have:=(jwa hfit r.pl (by rw[<- hw3];exact List.mem_map_of_mem hr)).1 _ c1;rw[<- hwq];have e:jbg (jaI Q (sv l)) Q.column=jbg (jaI Q (sv l)) Q.column:=rfl;unfold colI at this ⊢;simp only at this;omega
 have mk:=mkw [K.qc30 Q ev' wv rv] [] (w:=widQ (jaI Q (sv l)) Q) aa aa;have mbt:env.mutb 128 5=true:=rfl;have hl31:jab [K.qc30 Q ev' wv rv,.cells ((List.replicate (widQ (jaI Q (sv l)) Q) (0:Int)).map (V.int .i64)) 3] 20 (.ptr 0 0)=_:=K.ld30 (Q:=Q) (ev:=ev') (wv:=wv) (rv:=rv) rfl;simp only[Tryz.f128,simprocAttr,yK,K0,jaa,jai,Q1,YW,hl30,hS,hC26,bd,hcol,hF,hix,ld4r,hW,jgE,mbt,mk,hl31,hV,hlen];refine⟨ac,juj (b:=1) (w:=widQ (jaI Q (sv l)) Q) (k:=colI (jaI Q (sv l)) Q) (n:=jnN l Q (tbN l Q.table).s.cs.length) (ws:=ws) hcu.isC c1 aa hR hw2 aa hin aa rfl rfl rfl rfl rfl rfl rfl rfl rfl λT' H' ha hb => ?_⟩;have t12:T' 12=.hsl 1 0 (widQ (jaI Q (sv l)) Q) (widQ (jaI Q (sv l)) Q) .exact:=ha 12 aa;have hs:=jqq H' hb (jcV _ _) c2;simp only[simprocAttr,zK,Vq,t12]
 have e:jcD (widQ (jaI Q (sv l)) Q) ((ws.map (jdf (jaI Q (sv l)) (colI (jaI Q (sv l)) Q))).zip (List.replicate ws.length 1))=jcc l Q (List.replicate (vpQ l Q).view.length 1):=by
  unfold jcc;rw[<- hw3,X5,hwl,<- hw3];rfl
 rw[e]at hs;rw[<- hr];exact hs
open Classical in
theorem counts43(hB:BOK v l)(hQ:K.QV Q ev' wv rv)(hf:K.Fac Q.factor fe)(hC:∀c∈jaI Q (sv l),Ok1 c)(U:S) :
  jah env (ev env) 43 [v,.agg (Q.cells ev' wv rv)] U=some (if FitQ l Q fe/\Q.column ≠ []then iV (jcc l Q (List.replicate (vpQ l Q).view.length 1))else .nilsl,U):=by
 refine jaj (by rw[Ks,Ks,hB.closed,hQ.closed];rfl) at43 rfl ?_ U;have hl30:jab [K.qc30 Q ev' wv rv] 20 (.ptr 0 0)=_:=K.ld30 (Q:=Q) (ev:=ev') (wv:=wv) (rv:=rv) rfl;obtain⟨u,⟨hu1,hu2⟩,hV⟩:=jsG hB hQ hf
 have huc:u.closed=true:=by
  by_cases hfit:FitQ l Q fe
  ·obtain⟨ws,rfl,a,b⟩:=hu1 hfit;exact jgP (ji1 ws) λr hr=>⟨(a r hr).1,(a r hr).2.2.1,(a r hr).2.2.2⟩
  ·rw[hu2 hfit];rfl
 have hc:=juk hB hQ hf hC hu1 huc hV;generalize hr:(if FitQ l Q fe/\Q.column ≠ []then iV (jcc l Q (List.replicate (vpQ l Q).view.length 1))else V.nilsl)=res at *
 have hs:jaK [K.qc30 Q ev' wv rv] jak res=some res:=by
  rw[<- hr];split
  ·exact jwc _ _
  ·rfl
 unfold Qy.cells at hV hc ⊢;simp only[Tryz.f43,simprocAttr,zK,Vq,jai,Q1,YW,hl30,hV,hc];exact⟨ac,hs⟩
end
end Go.Proofs.YtajaampgajieeaaGreatDoor.B
