/- Proved here: what Check answers. Conditions: each theorem's own. -/
import Derived.Test.YtajaampgajieeaaGreatDoorCkB
import Derived.Test.YtajaampgajieeaaGreatDoorCkC
set_option linter.unusedSimpArgs false
set_option maxHeartbeats 16000000
set_option maxRecDepth 1000000
set_option linter.unusedVariables false
set_option linter.unusedSectionVars false
namespace Go.Proofs.YtajaampgajieeaaGreatDoor.K
open Go.Ab
theorem at83:env.P.funcs[83]? = some Tryz.f83:=ac
theorem jl7 {l:List Col}(h:jaO l=[]):l=[]:=by
 cases l with
 |nil=>rfl
 |cons x l=>rw[jbI]at h;simp at h
theorem RC.grow {base:Nat}{ts:List Nat}{v:V}{l:List Col}(ok:OkC l)(g:GC base ts v l):RC v l:=by
 have hw:=jch ok;unfold GC at g;generalize hc:jaO l=cs at g;generalize hn:l.length=n at g;cases g with
 |nil=>exact⟨λ_=>.inl ⟨rfl,jl7 hc⟩,.inl ⟨rfl,jl7 hc⟩⟩
 |full _ _ hl=>subst hc hn;exact RC.row ok _
 |tok _ _ k e hl hb ht=>subst hc hn;exact RC.row ok _
theorem RC.of {v:V}{cs:List Col}(h:IsC v cs)(ok:OkC cs):RC v cs:=by
 rcases h with⟨rfl,rfl⟩|⟨q,_,rfl⟩
 ·exact⟨λ_=>.inl ⟨rfl,rfl⟩,.inl ⟨rfl,rfl⟩⟩
 ·exact RC.row ok q
theorem CV.of {v:V}{cs:List Col}(h:IsC v cs)(ok:OkC cs)(hl:cs.length<=400)(sh:∀i,i<cs.length->jdL (cs.getD i Col.none)):CV v cs :=
 ⟨.of h ok,ok,by rcases h with⟨rfl,_⟩|⟨q,_,rfl⟩<;>exact⟨rfl,rfl⟩,hl,sh⟩
theorem jpW {cs:List Col}(ok:OkC cs):(jaO cs).all V.isCell=true:=by
 rw[Qq];intro v hv;simp only[jaO,List.mem_flatten,Jd]at hv;obtain⟨_,⟨c,hc,rfl⟩,h⟩:=hv;have hw:=jbf (ok c hc);simp only[Col.cells,Jg,V4,or_false]at h
 rcases h with rfl|rfl|rfl|rfl
 ·rfl
 ·rfl
 ·rfl
 ·exact hw
theorem jw8 {base:Nat}{hp:List AObj}{ts:List Nat}{v w:V}{la bs:List Col}(g:GC base ts v la)(hb:base<=ts.length)(h:IsC w bs)(ok:OkC bs)(ha:la.length<=1000)(hl:bs.length<=1000):∃v' ts',appO env false ⟨hp,ts⟩ 36 36 v w=some (v',⟨hp,ts'⟩)/\GC base ts' v' (la++bs)/\Ext base ts ts':=by
 have hlim:lim=2^40:=rfl;have hy:vLen w=some bs.length:=by rcases h with⟨rfl,rfl⟩|⟨q,_,rfl⟩<;>rfl
 have hc:jaV hp 4 bs.length w=some (jaO bs):=by
  rcases h with⟨rfl,rfl⟩|⟨q,_,rfl⟩
  ·rfl
  ·simp only[jaV];rw[Kg (by rw[jcA];omega),Qu (by rw[jcA];omega)]
 obtain⟨v',ts',h1,h2,h3⟩:=GrowV.append (E:=env) (hp:=hp) eC ⟨41,eC.slice⟩ g hb hy hc (jcA bs) (jpW ok) ⟨by rw[hlim];omega,by rw[hlim];omega⟩;exact⟨v',ts',h1,by unfold GC;rw[jd6,Kk];exact h2,h3⟩
theorem jiL(f:Nat->Bool):∀m i,jbR f m i<((i+m:Nat):Int)\/jbR f m i = -1
 |0,i=>.inr rfl
 | m+1,i=>by
  simp only[jbR];split
  ·left;omega
  ·rcases jiL f m (i+1)with h|h
   ·left;omega
   ·right;exact h
def oth(Q:Qy)(ss:List Sch):Sch:=if Q.other=[]then Sch.none else schN ss Q.other
theorem jw9(a0 a1 a2 a3 a4 a5 a6 a7 a8 a9 a10 a11 a12 a13 a14 a15 a16 a17 a18 a19:V){lv:V}{ss:List Sch}(h:IsS lv ss):jbD env 117 [(0,.agg [a0,a1,a2,a3,a4,a5,a6,a7,a8,a9,a10,a11,a12,a13,a14,a15,a16,a17,a18,a19]),(1,lv)]=some (.agg [a0,a1,a2,a3,a4,a5,a6,a7,a8,a9,a10,a11,a12,a13,a14,a15,a16,a17,a18,a19,lv,.str [],.bool false,.int .i64 0,.nilsl,.str [],.bool false,.int .i64 0,.nilsl,.nilsl]):=by
 rcases h with⟨rfl,_⟩|⟨q,_,rfl⟩
 ·kernel_rfl
 ·kernel_rfl
theorem bd38 {v:V}(h:v.cells=[v]):jbD env 38 [(3,v)]=some (.agg [.str [],.bool false,.int .i64 0,v]):=by
 have hz:jba env 38=some (.agg [.str [],.bool false,.int .i64 0,.nilsl]):=ac;have hp:((jfG env 38).bind λpl=>pl 3)=some (3,1):=ac;unfold jbD;rw[hz];cases hq:jfG env 38 with
 |none=>rw[hq]at hp;cases hp
 |some pl =>
  rw[hq]at hp;simp only[Kq]at hp;simp[jeK,hp,h,YW]
structure SB (lv:V) (ss:List Sch):Prop extends SS lv ss where
 cl:∀i,i<ss.length->(ss.getD i Sch.none).cs.length<=200
theorem SS.at {lv:V}{ss:List Sch}(h:SS lv ss){i:Nat}(hi:i<ss.length):IsC (ss.getD i Sch.none).cv (ss.getD i Sch.none).cs/\OkC (ss.getD i Sch.none).cs:=h.ok.at hi
theorem SB.cv {lv:V}{ss:List Sch}(h:SB lv ss){i:Nat}(hi:i<ss.length):CV (ss.getD i Sch.none).cv (ss.getD i Sch.none).cs :=
 .of (h.at hi).1 (h.at hi).2 (by have:=h.cl i hi;omega) (h.sh i hi).2.2
theorem jr5:CV Sch.none.cv Sch.none.cs:=.of (.inl ⟨rfl,rfl⟩) (λc hc=>by simp[Sch.none]at hc) (by simp[Sch.none]) (λi hi=>by simp[Sch.none]at hi)
theorem jkS {lv:V}{ss:List Sch}(h:SB lv ss)(nm:List UInt8):CV (schN ss nm).cv (schN ss nm).cs:=by
 unfold schN;split
 ·rename_i h0;have hp:=(jdn (λi=>decide ((ss.getD i Sch.none).name=nm)) ss.length 0).1 h0;obtain⟨n,hn⟩:∃n:Nat,ja3 ss nm ss.length 0=n:=⟨(ja3 ss nm ss.length 0).toNat,aa⟩
  have hl:n<ss.length:=by
   have:=jiL (λi=>decide ((ss.getD i Sch.none).name=nm)) ss.length 0;unfold ja3 at hn;omega
  rw[hn,Qj];exact h.cv hl
 ·exact jr5
section
variable {Q:Qy}{ev wv rv lv:V}{ss:List Sch}{L:List AObj}{ts:List Nat}
abbrev qc30(Q:Qy)(ev wv rv:V):AObj:=.cells [.int .i64 Q.kind,ev,.int .i64 Q.lo,.int .i64 Q.hi,.int .i64 Q.p,.int .i64 Q.q,.str Q.column,.int .i64 Q.bound,rv,.int .i64 Q.strat,.bool Q.cons,.str Q.table,.int .i64 Q.keep,.str Q.other,.str Q.left,.str Q.right,.int .i64 Q.limit,wv,.str Q.factor,.int .i64 Q.bits] 30
theorem ld30 {L:List AObj}{b:Nat}(h:L[b]? = some (qc30 Q ev wv rv)):jab L 20 (.ptr b 0)=some [.int .i64 Q.kind,ev,.int .i64 Q.lo,.int .i64 Q.hi,.int .i64 Q.p,.int .i64 Q.q,.str Q.column,.int .i64 Q.bound,rv,.int .i64 Q.strat,.bool Q.cons,.str Q.table,.int .i64 Q.keep,.str Q.other,.str Q.left,.str Q.right,.int .i64 Q.limit,wv,.str Q.factor,.int .i64 Q.bits]:=by simp[jab,h]
structure Opened (Q:Qy) (ev wv rv lv:V) (ss:List Sch) (L:List AObj) (v:V) (U:S):Prop where
 go:∃p cv,v=.tup [.ptr p 0,.bool (decide (Q.other=[]\/0<=ja3 ss Q.other ss.length 0))]/\QO Q ev wv rv lv (schN ss Q.table) (oth Q ss) cv U.heap p/\CV cv (jaI Q ss)
theorem jr6(hS:SB lv ss)(hx:ev.isCell=true/\wv.isCell=true/\rv.isCell=true)(h0:¬0<=ja3 ss Q.table ss.length 0):∃v U',jah env (Go.Ab.ev env) 83 [.agg (Q.cells ev wv rv),lv] ⟨L,ts⟩=some (v,U')/\∃p,v=.tup [.ptr p 0,.bool false]/\QO Q ev wv rv lv Sch.none Sch.none .nilsl U'.heap p:=by
 refine jaD at83 rfl ?_;have hF:=find_call hS.toSS Q.table;unfold jcn at hF;have d0:=eq_false h0;have hl:=ld30 (Q:=Q) (ev:=ev) (wv:=wv) (rv:=rv) (jad L _);obtain⟨x1,x2,x3⟩:=hx;have hb:=λa0 a1 a2 a3 a4 a5 a6 a7 a8 a9 a10 a11 a12 a13 a14 a15 a16 a17 a18 a19=>jw9 a0 a1 a2 a3 a4 a5 a6 a7 a8 a9 a10 a11 a12 a13 a14 a15 a16 a17 a18 a19 hS.v
 have hc:∀a,(L++[qc30 Q ev wv rv]++[a])[L.length]? = some (qc30 Q ev wv rv):=λa=>jaE (jad _ _) _
 have he:∀a,(L++[qc30 Q ev wv rv]++[a])[(L++[qc30 Q ev wv rv]).length]? = some a:=λa=>jad _ _
 simp only[Tryz.f83,simprocAttr,zK,K0,jaa,Qy.cells,K3,fo30,jaJ,al1,uq,hl,hb,hc,jad,YW,Qf,x1,x2,x3,Q5,K8,hF,d0,decide_false];exact⟨_,rfl,he _⟩
theorem jgo(nm:List UInt8)(h0:0<=ja3 ss nm ss.length 0):∃n:Nat,ja3 ss nm ss.length 0=n/\n<ss.length/\schN ss nm=ss.getD n Sch.none:=by
 obtain⟨n,hn⟩:∃n:Nat,ja3 ss nm ss.length 0=n:=⟨(ja3 ss nm ss.length 0).toNat,aa⟩;refine⟨n,hn,?_,?_⟩
 ·have:=jiL (λi=>decide ((ss.getD i Sch.none).name=nm)) ss.length 0;unfold ja3 at hn;omega
 ·unfold schN;rw[Kg h0,hn,Qj]
theorem joT(hS:SB lv ss)(hx:ev.isCell=true/\wv.isCell=true/\rv.isCell=true)(h0:0<=ja3 ss Q.table ss.length 0):∃v U',jah env (Go.Ab.ev env) 83 [.agg (Q.cells ev wv rv),lv] ⟨L,ts⟩=some (v,U')/\Opened Q ev wv rv lv ss L v U':=by
 refine jaD at83 rfl ?_;have hF:=find_call hS.toSS Q.table;have hF2:=find_call hS.toSS Q.other;obtain⟨n,hn,hnl,hsn⟩:=jgo Q.table h0;unfold jcn at hF hF2;rw[hn]at hF;have d0:((0:Int)<=(n:Int))=True:=eq_true aa;have hl:=ld30 (Q:=Q) (ev:=ev) (wv:=wv) (rv:=rv) (jad L _);obtain⟨x1,x2,x3⟩:=hx;have hb:=λa0 a1 a2 a3 a4 a5 a6 a7 a8 a9 a10 a11 a12 a13 a14 a15 a16 a17 a18 a19=>jw9 a0 a1 a2 a3 a4 a5 a6 a7 a8 a9 a10 a11 a12 a13 a14 a15 a16 a17 a18 a19 hS.v
 have hc:∀a,(L++[qc30 Q ev wv rv]++[a])[L.length]? = some (qc30 Q ev wv rv):=λa=>jaE (jad _ _) _
 have hi:=jkJ hS.v hnl;rw[<- hsn]at hi;have hT:=jkS hS Q.table;have hIC:=(hS.at hnl);rw[<- hsn]at hIC;have hTl:=hS.cl n hnl;rw[<- hsn]at hTl;have ld4:=jaM;obtain⟨y1,y2⟩:=hT.cell;have hcolq:jaI Q ss=(schN ss Q.table).cs++if Q.other=[]then []else(schN ss Q.other).cs:=rfl
 generalize htt:schN ss Q.table=t at *;obtain⟨cv,ts1,hA,gA,xA⟩:=jw8 (hp:=L++[qc30 Q ev wv rv]++[qobj Q ev wv rv lv t Sch.none .nilsl]) (base:=ts.length) (ts:=ts) (la:=[]) (show GC ts.length ts .nilsl []from GrowV.nil) (Kw _) hIC.1 hIC.2 (Qm _) aa;rw[Ja]at gA;have cvc:=gA.cells;simp only[Sch.none]at hA;have hh1:∀a:AObj,(L++[qc30 Q ev wv rv]++[a])[(L++[qc30 Q ev wv rv]).length]? = some a:=λa=>jad _ _
 by_cases ho:Q.other=[]
 ·have c0:=eq_true ho;simp only[Tryz.f83,simprocAttr,zK,K0,jaa,Qy.cells,K3,fo30,jaJ,al1,uq,hl,hb,hc,K2,Qf,x1,x2,x3,y1,y2,cvc,Q5,K8,hF,d0,decide_true,hi,ld4,jaq,hA,c0,jax];refine⟨ac,⟨_,cv,by rw[decide_eq_true (.inl ho)];rfl,?_,?_⟩⟩
  ·unfold oth;rw[Kg ho,htt];exact hh1 _
  ·rw[hcolq,Kg ho,Jb];exact⟨.grow hIC.2 gA,hIC.2,cvc,aa,hT.sh⟩
 ·have c0:=eq_false ho;by_cases hs2:0<=ja3 ss Q.other ss.length 0
  ·obtain⟨k,hk,hkl,hsk⟩:=jgo Q.other hs2;rw[hk]at hF2;have d1:((0:Int)<=(k:Int))=True:=eq_true aa;have hi2:=jkJ hS.v hkl;rw[<- hsk]at hi2;have hO:=jkS hS Q.other;have hIC2:=(hS.at hkl);rw[<- hsk]at hIC2;have hOl:=hS.cl k hkl;rw[<- hsk]at hOl;obtain⟨z1,z2⟩:=hO.cell;have hoth:oth Q ss=schN ss Q.other:=Ke ho;have hcol:jaI Q ss=t.cs++(schN ss Q.other).cs:=by rw[hcolq,Ke ho]
   generalize hoo:schN ss Q.other=o at *;obtain⟨cv2,ts2,hA2,gA2,xA2⟩:=jw8 (hp:=L++[qc30 Q ev wv rv]++[qobj Q ev wv rv lv t o cv]) gA xA.1 hIC2.1 hIC2.2 aa aa;have cvc2:=gA2.cells;simp only[Tryz.f83,simprocAttr,zK,K0,jaa,Qy.cells,K3,fo30,jaJ,al1,uq,hl,hb,hc,K2,Qf,x1,x2,x3,y1,y2,z1,z2,cvc,cvc2,Q5,K8,hF,hF2,d0,d1,decide_true,hi,hi2,ld4,jaq,hA,hA2,c0,jax];refine⟨ac,ac,⟨_,cv2,by rw[decide_eq_true (.inr hs2)];rfl,?_,?_⟩⟩
   ·rw[htt,hoth];exact hh1 _
   ·rw[hcol];have hok:OkC (t.cs++o.cs):=λc hc=>(Jl.1 hc).elim (hIC.2 c) (hIC2.2 c)
    refine⟨.grow hok gA2,hok,cvc2,by rw[Kk];omega,λi hi => ?_⟩
    rcases Ql i t.cs.length with h|h
    ·rw[show(t.cs++o.cs).getD i Col.none=t.cs.getD i Col.none by simp[List.getD,Kj h]];exact hT.sh i h
    ·rw[show(t.cs++o.cs).getD i Col.none=o.cs.getD (i-t.cs.length) Col.none by simp[List.getD,Jv h]];exact hO.sh _ (by rw[Kk]at hi;omega)
  ·have d1:=eq_false hs2;simp only[Tryz.f83,simprocAttr,zK,K0,jaa,Qy.cells,K3,fo30,jaJ,al1,uq,hl,hb,hc,K2,Qf,x1,x2,x3,y1,y2,cvc,Q5,K8,hF,hF2,d0,d1,decide_true,decide_false,hi,ld4,jaq,hA,c0,jax];refine⟨ac,⟨_,cv,by rw[decide_eq_false (λq=>q.elim ho hs2)];rfl,?_,?_⟩⟩
   ·rw[htt];unfold oth schN;rw[Ke ho,Ke hs2];exact hh1 _
   ·rw[hcolq,Ke ho];unfold schN;rw[Ke hs2];rw[show t.cs++Sch.none.cs=t.cs by simp[Sch.none]];exact⟨.grow hIC.2 gA,hIC.2,cvc,aa,hT.sh⟩
end
theorem jiM {E:Env}{fn:FuncId}{rnd:Option Nat}{n:Nat}{P:Post}{T:Tm}{D:List DE}{U:S}:∀ks:List Kt,G E fn rnd n P ks .ret T D U=P.ret T D U
 | []=>Zk
 | .code c::ks=>by rw[Zi];exact jiM ks
 | .blk l::ks=>by rw[Zj];exact jiM ks
theorem at17:env.P.funcs[17]? = some Tryz.f17:=ac
def ents:List (List UInt8 × FuncId):=[([115,99,104,101,109,97,115],84),([107,105,110,100],85),([116,97,98,108,101],86),([107,101,101,112],87),([106,111,105,110],88),([119,104,101,114,101],89),([101,120,112,114,101,115,115,105,111,110],90),([114,97,110,103,101],91),([99,111,108,117,109,110],92),([114,97,110,103,101,115],93),([102,97,99,116,111,114],94),([98,105,116,115],95)]
def jjt(p:Nat)(l:List (List UInt8 × FuncId)):List V:=(l.map λe=>[V.str e.1,V.func e.2 [.ptr p 0] []]).flatten
theorem jy9(p:Nat):rowO env 105 12 [(0,.agg [.str [115,99,104,101,109,97,115],.func 84 [.ptr p 0] []]),(1,.agg [.str [107,105,110,100],.func 85 [.ptr p 0] []]),(2,.agg [.str [116,97,98,108,101],.func 86 [.ptr p 0] []]),(3,.agg [.str [107,101,101,112],.func 87 [.ptr p 0] []]),(4,.agg [.str [106,111,105,110],.func 88 [.ptr p 0] []]),(5,.agg [.str [119,104,101,114,101],.func 89 [.ptr p 0] []]),(6,.agg [.str [101,120,112,114,101,115,115,105,111,110],.func 90 [.ptr p 0] []]),(7,.agg [.str [114,97,110,103,101],.func 91 [.ptr p 0] []]),(8,.agg [.str [99,111,108,117,109,110],.func 92 [.ptr p 0] []]),(9,.agg [.str [114,97,110,103,101,115],.func 93 [.ptr p 0] []]),(10,.agg [.str [102,97,99,116,111,114],.func 94 [.ptr p 0] []]),(11,.agg [.str [98,105,116,115],.func 95 [.ptr p 0] []])]=some (.row (jjt p ents) 12 .full):=ac
theorem jj7(p:Nat):∀(l:List (List UInt8 × FuncId)) (i:Nat),(jjt p l).drop (i*2)=jjt p (l.drop i)
 |l,0=>ae
 | [],i+1=>by simp[jjt]
 |c::cs,i+1=>by
  have e:jjt p (c::cs)=.str c.1::.func c.2 [.ptr p 0] []::jjt p cs:=rfl;rw[e,show(i+1)*2=i*2+1+1 by omega,K5,K5,K5];exact jj7 p cs i
theorem jza {p i:Nat}(hi:i<12):jaw 2 (.row (jjt p ents) 12 .full) (.int .i64 (i:Int))=some (.rptr (.str (ents.getD i ([],0)).1::.func (ents.getD i ([],0)).2 [.ptr p 0] []::jjt p (ents.drop (i+1)))):=by
 have hi2:i<ents.length:=hi;rw[Ys,Kg aa,Qj,jj7,Qk hi2];simp only[List.getD,Kz hi2,Kr];rfl
theorem jzb(s:List UInt8)(f:FuncId)(p:Nat):jbD env 104 [(0,.str s),(1,.func f [.ptr p 0] [])]=some (.agg [.str s,.func f [.ptr p 0] []]):=ac
theorem jzc:jba env 104=some (.agg [.str [],.nilfn]):=ac
section
variable {Q:Qy}{ev wv rv lv cv:V}{t o:Sch}
def Meth(f:FuncId)(e:Int)(Q:Qy)(ev wv rv lv:V)(t o:Sch)(cv:V):Prop:=∀(L:List AObj) (ts:List Nat) (p:Nat),QO Q ev wv rv lv t o cv L p->∃v U',jah env (Go.Ab.ev env) f [.ptr p 0] ⟨L,ts⟩=some (v,U')/\v=.int .i64 e/\∃X,U'=⟨L++X,ts⟩
theorem Meth.of {f:FuncId}{e:Int}(h:∀(L:List AObj) (ts:List Nat) (p:Nat),QO Q ev wv rv lv t o cv L p->jah env (Go.Ab.ev env) f [.ptr p 0] ⟨L,ts⟩=some (.int .i64 e,⟨L,ts⟩)):Meth f e Q ev wv rv lv t o cv:=λL ts p hp=>⟨_,_,h L ts p hp,rfl,[],ae⟩
theorem jtH {l:List (List UInt8 × Int)}{i:Nat}(hi:i<l.length)(h:∀j,j<i->(l.getD j ([],0)).2=0)(he:(l.getD i ([],0)).2 ≠ 0):jcf l=((l.getD i ([],0)).2,(l.getD i ([],0)).1):=by
 induction l generalizing i with
 |nil=>simp at hi
 | cons a r ih =>
  obtain⟨n,e⟩:=a;cases i with
  |zero=>simp only[V6]at he ⊢;unfold jcf;rw[Ke he]
  |succ i =>
   have h0:e=0:=h 0 aa;unfold jcf;rw[Kg h0];exact ih (by simpa using hi) (λj hj=>h (j+1) aa) he
theorem jr7 {l:List (List UInt8 × Int)}(h:∀j,j<l.length->(l.getD j ([],0)).2=0):jcf l=(0,[]):=by
 induction l with
 |nil=>rfl
 |cons a r ih =>
  obtain⟨n,e⟩:=a;have h0:e=0:=h 0 ae;unfold jcf;rw[Kg h0];exact ih λj hj=>h (j+1) (by simpa using hj)
theorem jhc(l:List (List UInt8 × Int))(hl:l.length=12)(hnm:∀i,i<12->(l.getD i ([],0)).1=(ents.getD i ([],0)).1)(hM:∀i,i<12->(∀j,j<i->(l.getD j ([],0)).2=0)->Meth (ents.getD i ([],0)).2 (l.getD i ([],0)).2 Q ev wv rv lv t o cv)
  {T:Tm} {L:List AObj} {ts:List Nat} {p:Nat} {ks:List Kt} (hp:QO Q ev wv rv lv t o cv L p) (t53:T 53=.row (jjt p ents) 12 .full) (t54:T 54=.int .i64 12) (t55:T 55=.int .i64 0)
  (h:∀(T':Tm) (U':S),jcf l=(0,[])->G env 17 none 68 ⟨wpR env [.tmp 4,.tmp 5] λv U'=>jaK U'.heap jak v=some (.tup [.int .i64 (jcf l).1,.str (jcf l).2]),λ_ _ _ _=>False,wpR env [.tmp 4,.tmp 5] λv U'=>jaK U'.heap jak v=some (.tup [.int .i64 (jcf l).1,.str (jcf l).2])⟩ ks .skip T' [] U') :
  jdx env 17 none 68 (jcK 0 (jaz Tryz.f17)) T [] ⟨L,ts⟩ (Kt.post env 17 none 68 ⟨wpR env [.tmp 4,.tmp 5] λv U'=>jaK U'.heap jak v=some (.tup [.int .i64 (jcf l).1,.str (jcf l).2]),λ_ _ _ _=>False,wpR env [.tmp 4,.tmp 5] λv U'=>jaK U'.heap jak v=some (.tup [.int .i64 (jcf l).1,.str (jcf l).2])⟩ (.blk 0::ks)):=by
 simp only[jaz,Tryz.f17,Kr,jcK,blkC,Option.or,Nat.reduceEqDiff,Kn,Kl,reduceIte];refine jau (λm T D U=>D=[]/\T 53=.row (jjt p ents) 12 .full/\T 54=.int .i64 12/\∃(i:Nat) (L':List AObj),U=⟨L',ts⟩/\T 55=.int .i64 i/\i<=12/\m=12-i/\QO Q ev wv rv lv t o cv L' p/\∀j,j<i->(l.getD j ([],0)).2=0) ?_ (12-0) _ _ _ ⟨rfl,t53,t54,0,L,rfl,t55,aa,rfl,hp,λj hj=>aa⟩;clear t53 t54 t55 hp;rintro m T D U ⟨rfl,t53,t54,i,L',rfl,t55,hi,rfl,hp,hno⟩;refine jaC ?_;by_cases hlt:i<12
 ·have k1:(i:Int)<12:=by omega
  have e1:IntKind.i64.wrap ((i:Int)+1)=((i+1:Nat):Int):=by rw[wrap_i64 aa aa];omega
  have hx:=jza (p:=p) hlt;have hm:=hM i hlt hno;have hnm:=hnm i hlt
  have hstep:(l.getD i ([],0)).2=0->∀j,j<i+1->(l.getD j ([],0)).2=0:=λh0 j hj=>by
   rcases Ql j i with q|q
   ·exact hno j q
   ·obtain rfl:j=i:=by omega
    exact h0
  have hret:(l.getD i ([],0)).2 ≠ 0->jcf l=((l.getD i ([],0)).2,(l.getD i ([],0)).1):=λh=>jtH aa hno h
  rw[hnm]at hret;generalize ents.getD i ([],0)=en at *;obtain⟨nm,fn⟩:=en;generalize (l.getD i ([],0)).2=e at *;have hp2:=hp.app [.cells [.str nm,.func fn [.ptr p 0] []] 104];have hz:∀X:List AObj,(L'++[AObj.cells [.str nm,.func fn [.ptr p 0] []] 104]++X)[L'.length]? = some (.cells [.str nm,.func fn [.ptr p 0] []] 104):=λX=>jaE (jad _ _) X
  simp only[simprocAttr,yK,K0,jaa,t53,t54,t55,k1,e1,hx,jgN,al1,uq,jzc,K2,jae,V.isCell,jaJ];refine jgb (hm _ _ _ hp2) ?_;rintro _ _ ⟨rfl,X,rfl⟩;by_cases he:e=0
  ·have he1:=eq_true he;simp only[simprocAttr,zK,K0,jaa,t53,t54,t55,k1,e1,uq,he1];exact⟨12-(i+1),aa,i+1,_,rfl,rfl,aa,rfl,hp2.app X,hstep he⟩
  ·have he1:=eq_false he;simp only[simprocAttr,zK,K0,jaa,t53,t54,t55,k1,e1,al1,uq,he1,hz,jaJ];refine⟨ac,?_⟩;rw[hret he,jiM];simp only[simprocAttr,zK,Vq,jaB,jak,jbS,jal,jaR,jav,jbC,Kq,K9]
 ·have hi2:i=12:=by omega
  subst hi2;have:=jr7 (l:=l) (by rw[hl];exact hno);simp only[simprocAttr,zK,K0,jaa,t53,t54,t55,show ¬((12:Nat):Int)<12 by decide];exact h _ _ this
end
structure QV (Q:Qy) (ev wv rv:V):Prop where
 e:NV ev Q.ex
 w:NV wv Q.wh
 r:RgV rv Q.rg
 cl:ev.closed=true/\wv.closed=true/\rv.closed=true
 fl:Q.factor.length<2^40
section
variable {Q:Qy}{ev wv rv lv:V}{ss:List Sch}{fe:Int}
theorem QV.x(h:QV Q ev wv rv):ev.isCell=true/\wv.isCell=true/\rv.isCell=true:=⟨h.e.cell.2,h.w.cell.2,h.r.cell.2⟩
theorem QV.closed(h:QV Q ev wv rv):(V.agg (Q.cells ev wv rv)).closed=true:=by
 obtain⟨a,b,c⟩:=h.cl;simp[Qy.cells,V.closed,V.closed.closedL,a,b,c]
theorem jl8:(je6 Q ss fe).length=12:=rfl
theorem joU:∀i,i<12->((je6 Q ss fe).getD i ([],0)).1=(ents.getD i ([],0)).1:=by
 intro i hi;have:i=0\/i=1\/i=2\/i=3\/i=4\/i=5\/i=6\/i=7\/i=8\/i=9\/i=10\/i=11:=aa
 rcases this with rfl|rfl|rfl|rfl|rfl|rfl|rfl|rfl|rfl|rfl|rfl|rfl<;>rfl
theorem jr8 {cv:V}(hS:SB lv ss)(hq:QV Q ev wv rv)(hf:Fac Q.factor fe)(hc:CV cv (jaI Q ss)):∀i,i<12->(∀j,j<i->((je6 Q ss fe).getD j ([],0)).2=0)->Meth (ents.getD i ([],0)).2 ((je6 Q ss fe).getD i ([],0)).2 Q ev wv rv lv (schN ss Q.table) (oth Q ss) cv:=by
 intro i hi hz;have hT:=jkS hS Q.table
 have hO:CV (oth Q ss).cv (oth Q ss).cs:=by
  unfold oth;split
  ·exact jr5
  ·exact jkS hS Q.other
 have hj:jiH Q ss (schN ss Q.table) (oth Q ss)=jiH Q ss (schN ss Q.table) (schN ss Q.other):=by
  unfold oth;by_cases h:Q.other=[]
  ·unfold jiH;rw[Kg h,Kg h]
  ·rw[Ke h]
 have:i=0\/i=1\/i=2\/i=3\/i=4\/i=5\/i=6\/i=7\/i=8\/i=9\/i=10\/i=11:=aa
 rcases this with rfl|rfl|rfl|rfl|rfl|rfl|rfl|rfl|rfl|rfl|rfl|rfl
 ·exact .of λL ts p hp=>jcC hp hS.toSS ts
 ·exact λL ts p hp=>jl6 hp hq.e hq.w hq.r ts
 ·exact .of λL ts p hp=>jiJ hp hS.toSS ts
 ·exact .of λL ts p hp=>jr1 hp ts
 ·intro L ts p hp;have:=jr4 hp hS.toSS hT hO hq.x ts;rw[hj]at this;exact this
 ·exact .of λL ts p hp=>jpV hp hq.w hc ts
 ·exact .of λL ts p hp=>jtF hp hq.e hc ts
 ·exact λL ts p hp=>jnB hp hq.x ts
 ·exact λL ts p hp=>jd7 hp hc ts
 ·exact λL ts p hp=>je1 hp hc hq.r ts
 ·exact .of λL ts p hp=>jnA hp hf hq.fl ts
 ·exact .of λL ts p hp=>jr2 hp ts
theorem jtI(hS:SB lv ss)(hq:QV Q ev wv rv)(h0:¬0<=ja3 ss Q.table ss.length 0):∀i,i<12->(∀j,j<i->((je6 Q ss fe).getD j ([],0)).2=0)->Meth (ents.getD i ([],0)).2 ((je6 Q ss fe).getD i ([],0)).2 Q ev wv rv lv Sch.none Sch.none .nilsl:=by
 intro i hi hz;have:i=0\/i=1\/i=2\/2<i:=aa
 rcases this with rfl|rfl|rfl|h
 ·exact .of λL ts p hp=>jcC hp hS.toSS ts
 ·exact λL ts p hp=>jl6 hp hq.e hq.w hq.r ts
 ·exact .of λL ts p hp=>jiJ hp hS.toSS ts
 ·exfalso
  have h2:tabE Q ss=0:=hz 2 h;unfold tabE at h2;rw[Ke h0]at h2;cases h2
theorem check_call(hS:SB lv ss)(hq:QV Q ev wv rv)(hf:Fac Q.factor fe)(U:S):jah env (Go.Ab.ev env) 17 [.agg (Q.cells ev wv rv),lv] U=some (.tup [.int .i64 (jdD Q ss fe).1,.str (jdD Q ss fe).2],U):=by
 refine jaj (by rw[Ks,hq.closed,Ks,jda hS.v hS.ok];rfl) at17 rfl ?_ U;have hl:jab [qc30 Q ev wv rv] 20 (.ptr 0 0)=_:=ld30 (Q:=Q) (ev:=ev) (wv:=wv) (rv:=rv) rfl;have hb:=jzb;have r12:=jy9;have hend:∀(l:List (List UInt8 × Int)),jcf l=(0,[])->jaK S.empty.heap jak (.tup [.int .i64 (jcf l).1,.str (jcf l).2])=some (.tup [.int .i64 (jcf l).1,.str (jcf l).2]):=λl h=>by rw[h];rfl
 simp only[Tryz.f17,simprocAttr,zK,K0,jaa,jai,Qy.cells,YW,al1,uq,hl,jad];by_cases h0:0<=ja3 ss Q.table ss.length 0
 ·have hO:=joT (L:=[qc30 Q ev wv rv]) (ts:=[]) hS hq.x h0;unfold Qy.cells at hO;refine jgb hO ?_;rintro _ ⟨L',ts'⟩ ⟨p,cv,rfl,hp,hcv⟩;simp only[simprocAttr,zK,K0,jaa,YP,uq,hb,jar,r12];refine jhc (je6 Q ss fe) jl8 joU (jr8 hS hq hf hcv) hp ?_ ?_ ?_ λT' U' h1 => ?_
  ·rfl
  ·rfl
  ·rfl
  simp only[simprocAttr,zK,K0,jaa,h1,jaB,jak,jbS,jal,jaR,jav,jbC,Kq,K9]
 ·have hO:=jr6 (L:=[qc30 Q ev wv rv]) (ts:=[]) hS hq.x h0;unfold Qy.cells at hO;refine jgb hO ?_;rintro _ ⟨L',ts'⟩ ⟨p,rfl,hp⟩;simp only[simprocAttr,zK,K0,jaa,YP,uq,hb,jar,r12];refine jhc (je6 Q ss fe) jl8 joU (jtI hS hq h0) hp ?_ ?_ ?_ λT' U' h1 => ?_
  ·rfl
  ·rfl
  ·rfl
  simp only[simprocAttr,zK,K0,jaa,h1,jaB,jak,jbS,jal,jaR,jav,jbC,Kq,K9]
end
theorem at19:env.P.funcs[19]? = some Tryz.f19:=ac
noncomputable def privX(Q:Qy)(ss:List Sch):Bool:=decide ((allE ss).1=0/\0<=ja3 ss Q.table ss.length 0/\(schN ss Q.table).pub=false)
section
variable {Q:Qy}{ev wv rv lv:V}{ss:List Sch}
theorem private_call(hS:SB lv ss)(hq:QV Q ev wv rv)(U:S):jah env (Go.Ab.ev env) 19 [.agg (Q.cells ev wv rv),lv] U=some (.bool (privX Q ss),U):=by
 refine jaj (by rw[Ks,hq.closed,Ks,jda hS.v hS.ok];rfl) at19 rfl ?_ U;have hl:jab [qc30 Q ev wv rv] 20 (.ptr 0 0)=_:=ld30 (Q:=Q) (ev:=ev) (wv:=wv) (rv:=rv) rfl;have hA:=jkR hS.toSS;have hF:=find_call hS.toSS Q.table;unfold tri at hA;unfold jcn at hF;have fin:∀b b',b=b'->jaK S.empty.heap jak (.bool b)=some (.bool b'):=λb b' h=>by rw[h];rfl
 by_cases h1:(allE ss).1=0
 case neg =>
  have d1:=eq_false h1;simp only[Tryz.f19,simprocAttr,zK,K0,jaa,jai,Qy.cells,YW,al1,uq,hl,jad,hA,d1];exact fin _ _ (by unfold privX;simp[h1])
 have d1:=eq_true h1;by_cases h0:0<=ja3 ss Q.table ss.length 0
 case neg =>
  have d0:=eq_false h0;simp only[d0,Kn,decide_false]at hF;simp only[Tryz.f19,simprocAttr,zK,K0,jaa,jai,Qy.cells,YW,fo30,al1,uq,hl,jad,hA,d1,hF];exact fin _ _ (by unfold privX;simp[h0])
 obtain⟨n,hn,hnl,hsn⟩:=jgo Q.table h0;have hi:=jkJ hS.v hnl;rw[hn]at hF;have d0:((0:Int)<=(n:Int))=True:=eq_true aa;simp only[d0,Kl,decide_true]at hF;rw[<- hsn]at hi;cases hp:(schN ss Q.table).pub
 ·simp only[Tryz.f19,simprocAttr,zK,K0,jaa,jai,Qy.cells,YW,fo30,jaJ,al1,uq,hl,jad,hA,d1,hF,hi,YV,jaq,hp];exact fin _ _ (by unfold privX;simp[h0,h1,hp])
 ·simp only[Tryz.f19,simprocAttr,zK,K0,jaa,jai,Qy.cells,YW,fo30,jaJ,al1,uq,hl,jad,hA,d1,hF,hi,YV,jaq,hp];exact fin _ _ (by unfold privX;simp[h0,h1,hp])
end
theorem at26:env.P.funcs[26]? = some Tryz.f26:=ac
theorem jtJ:env.hook 105=some (jbU YtajaampgajieeaaGreatDoor.env 105):=rfl
theorem jzd(a b c u:V):jrm env 38 3 (.agg [a,b,c,u])=some u:=ac
def CpV(u:V)(cs:List Col):Prop:=(u=.nilsl/\cs=[])\/u=.row (jaO cs) cs.length .unk
theorem CpV.of {v:V}{cs:List Col}(h:IsC v cs):CpV (unkV v) cs:=by
 rcases h with⟨rfl,rfl⟩|⟨q,_,rfl⟩
 ·exact .inl ⟨rfl,rfl⟩
 ·exact .inr rfl
theorem CpV.isC {v:V}{cs:List Col}(h:CpV v cs):IsC v cs:=by
 rcases h with h|h
 ·exact .inl h
 ·exact .inr ⟨.unk,.inl rfl,h⟩
theorem CpV.seal {v:V}{cs:List Col}(h:CpV v cs)(ok:OkC cs)(H:List AObj):jaK H jak v=some v:=by
 rcases h with⟨rfl,_⟩|rfl
 ·rfl
 ·show jaK H (_+3) _=_;rw[ja1,jdZ _ _ ok];rfl
theorem jtK {cv:V}{cs:List Col}(c:CV cv cs):∃u,CpV u cs/\∀U,jah env (ev env) 105 [.agg [.str [],.bool false,.int .i64 0,cv]] U=some (.agg [.str [],.bool false,.int .i64 0,u],U):=by
 have hl:=c.le;cases h:cv.closed with
 |true=>exact⟨unkV cv,.of (c.rc.1 h),jb6 jtJ (jhh [] false 0 cv cs (c.rc.1 h) c.ok aa c.w) _⟩
 |false =>
  refine⟨unkV cv.weak,.of c.rc.2,jb6 jtJ (jjq rfl rfl (λh2 => ?_) ?_ ?_) _⟩
  ·simp[V.closed,V.closed.closedL,h]at h2
  ·simp only[K6,J5,Ks,Qn,ja9 c.rc.2 c.ok,V.weak,V.weak.weakL,V.closed,V.closed.closedL,K8]
  ·exact jhh [] false 0 cv.weak cs c.rc.2 c.ok aa c.w
def tells(Q:Qy)(ss:List Sch):Prop:=(allE ss).1=0/\0<=ja3 ss Q.table ss.length 0/\(Q.other=[]\/0<=ja3 ss Q.other ss.length 0)
section
variable {Q:Qy}{ev wv rv lv:V}{ss:List Sch}
theorem columns_call(hS:SB lv ss)(hq:QV Q ev wv rv):∃u,(tells Q ss->CpV u (jaI Q ss))/\(¬tells Q ss->u=.nilsl)/\∀U,jah env (Go.Ab.ev env) 26 [.agg (Q.cells ev wv rv),lv] U=some (u,U):=by
 have hl:jab [qc30 Q ev wv rv] 20 (.ptr 0 0)=_:=ld30 (Q:=Q) (ev:=ev) (wv:=wv) (rv:=rv) rfl;have hA:=jkR hS.toSS;unfold tri at hA;have hcl:(List.all [V.agg (Q.cells ev wv rv),lv] V.closed)=true:=by rw[Ks,hq.closed,Ks,jda hS.v hS.ok];rfl
 have nil_:jaK S.empty.heap jak .nilsl=some .nilsl:=rfl;by_cases h1:(allE ss).1=0
 case neg =>
  have d1:=eq_false h1;refine⟨.nilsl,λt=>absurd t.1 h1,λ_=>rfl,λU => ?_⟩;refine jaj hcl at26 rfl ?_ U;simp only[Tryz.f26,simprocAttr,zK,Vq,jai,Qy.cells,YW,al1,uq,hl,jad,hA,d1];rfl
 have d1:=eq_true h1;by_cases h0:0<=ja3 ss Q.table ss.length 0
 case neg =>
  have hO:=jr6 (L:=[qc30 Q ev wv rv]) (ts:=[]) hS hq.x h0;unfold Qy.cells at hO;refine⟨.nilsl,λt=>absurd t.2.1 h0,λ_=>rfl,λU => ?_⟩;refine jaj hcl at26 rfl ?_ U;simp only[Tryz.f26,simprocAttr,zK,Vq,jai,Qy.cells,YW,al1,uq,hl,jad,hA,d1];refine jgb hO ?_;rintro _ ⟨L',ts'⟩ ⟨p,rfl,hp⟩;simp only[simprocAttr,zK,Vq];rfl
 have hO:=joT (L:=[qc30 Q ev wv rv]) (ts:=[]) hS hq.x h0;unfold Qy.cells at hO;by_cases h2:Q.other=[]\/0<=ja3 ss Q.other ss.length 0
 case neg =>
  refine⟨.nilsl,λt=>absurd t.2.2 h2,λ_=>rfl,λU => ?_⟩;refine jaj hcl at26 rfl ?_ U;simp only[Tryz.f26,simprocAttr,zK,Vq,jai,Qy.cells,YW,al1,uq,hl,jad,hA,d1];refine jgb hO ?_;rintro _ ⟨L',ts'⟩ ⟨p,cv,rfl,hp,hcv⟩;rw[decide_eq_false h2];simp only[simprocAttr,zK,Vq];rfl
 obtain⟨_,⟨L',ts'⟩,hrun,⟨p,cv,rfl,hp,hcv⟩⟩:=hO;obtain⟨u,hu,hcall⟩:=jtK hcv;refine⟨u,λ_=>hu,λt=>absurd ⟨h1,h0,h2⟩ t,λU => ?_⟩;refine jaj hcl at26 rfl ?_ U;simp only[Tryz.f26,simprocAttr,zK,Vq,jai,Qy.cells,YW,al1,uq,hl,jad,hA,d1];refine jgb (K:=λv s=>v=.tup [.ptr p 0,.bool (decide (Q.other=[]\/0<=ja3 ss Q.other ss.length 0))]/\s=⟨L',ts'⟩) ⟨_,_,hrun,rfl,rfl⟩ ?_;rintro _ _ ⟨rfl,rfl⟩;rw[decide_eq_true h2];have hh:=hp.has;have hb:=bd38 hcv.cell.1;simp only[simprocAttr,zK,K0,jaa,K3,fo30,jaJ,al1,uq,hh,hb,hcall,jlK,jzd];exact hu.seal hcv.ok _
end
end Go.Proofs.YtajaampgajieeaaGreatDoor.K
