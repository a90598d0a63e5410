/- Proved here: schemas and expressions that are drawn. Conditions: each theorem's own. -/
import Derived.Test.YtajaampgajieeaaGreatDoorCqB
set_option linter.unusedSimpArgs false
set_option maxHeartbeats 16000000
set_option maxRecDepth 1000000
set_option linter.unusedVariables false
set_option linter.unusedSectionVars false
namespace Go.Proofs.YtajaampgajieeaaGreatDoor.N
open Go.Ab
def IsI(v:V)(xs:List Int):Prop:=(v=.nilsl/\xs=[])\/v=.row (xs.map (V.int .i64)) xs.length .unk\/v=.row (xs.map (V.int .i64)) xs.length .full
theorem len_I {v:V}{xs:List Int}(h:IsI v xs):jbb (some (.slice 3)) v=some (.int .i64 xs.length):=by
 rcases h with⟨rfl,rfl⟩|rfl|rfl<;>rfl
theorem idx_I {v:V}{xs:List Int}(h:IsI v xs){i:Nat}(hi:i<xs.length):jaw 1 v (.int .i64 (i:Int))=some (.rptr (.int .i64 (xs.getD i 0)::(xs.map (V.int .i64)).drop (i+1))):=by
 rcases h with⟨rfl,rfl⟩|rfl|rfl
 ·simp at hi
 ·rw[Ys,Kg aa,Qj,Xc,Qk (by simpa using hi)];simp[List.getD,hi]
 ·rw[Ys,Kg aa,Qj,Xc,Qk (by simpa using hi)];simp[List.getD,hi]
theorem closed_I {v:V}{xs:List Int}(h:IsI v xs):v.closed=true:=by
 rcases h with⟨rfl,rfl⟩|h
 ·rfl
 ·have:∀ws:List Int,V.closed.closedL (ws.map (V.int .i64))=true:=by
   intro ws
   induction ws with
   |nil=>rfl
   |cons w ws ih=>simp only[K6,V.closed.closedL,V.closed,Xh];exact ih
  rcases h with rfl|rfl<;>simp only[V.closed,this,K8]
theorem mb(f:FuncId)(r:Nat):env.mutb f r=(f==32 && r==8 ||f==10 && r==14):=rfl
theorem stb(f:FuncId)(r:Nat)(h:(f==81 && r==8 ||f==81 && r==9 ||f==77 && r==11 ||f==159 && r==7 ||f==16 && r==3 ||f==79 && r==8 ||f==82 && r==13 ||f==82 && r==18 ||f==82 && r==28 ||f==82 && r==29 ||f==32 && r==20 ||f==33 && r==7)=false):env.stab f r=false:=h
theorem tys:env.P.underlying 3=some (.int .i64)/\env.P.underlying 4=some .bool/\env.P.underlying 9=some .string/\env.P.underlying 39=some (.slice 9)/\env.P.underlying 26=some (.slice 84)/\env.P.underlying 36=some (.slice 41)/\env.P.underlying 22=some (.slice 3) /\
  sz env 9=some 1/\sz env 39=some 1/\sz env 3=some 1/\sz env 4=some 1/\sz env 26=some 1/\sz env 36=some 1/\sz env 22=some 1/\sz env 41=some 4/\sz env 84=some 3/\sz env 93=some 2 /\
  jas env 93 0=some 0/\jas env 93 1=some 1/\jas env 41 0=some 0/\jas env 41 1=some 1/\jas env 41 2=some 2/\jas env 41 3=some 3/\jas env 84 0=some 0/\jas env 84 1=some 1/\jas env 84 2=some 2 /\
  (∀h p,jaH env h 9 p=(jab h 1 p).bind (·[0]?))/\(∀h p,jaH env h 39 p=(jab h 1 p).bind (·[0]?))/\(∀h p,jaH env h 3 p=(jab h 1 p).bind (·[0]?))/\(∀h p,jaH env h 4 p=(jab h 1 p).bind (·[0]?)) /\
  (∀h p,jaH env h 22 p=(jab h 1 p).bind (·[0]?))/\(∀h p,jaH env h 36 p=(jab h 1 p).bind (·[0]?))/\(∀h p,jaH env h 84 p=(jab h 3 p).map .agg)/\(∀h p,jaH env h 41 p=(jab h 4 p).map .agg) /\
  jba env 84=some (.agg [.int .i64 0,.int .i64 0,.str []])/\jba env 41=some (.agg [.str [],.int .i64 0,.int .i64 0,.nilsl]):=by
 have g9:aggT env 9=some false:=ac;have g44:aggT env 39=some false:=ac;have g3:aggT env 3=some false:=ac;have g4:aggT env 4=some false:=ac;have g24:aggT env 22=some false:=ac;have g23:aggT env 36=some false:=ac;have g52:aggT env 84=some true:=ac;have g46:aggT env 41=some true:=ac;have s52:sz env 84=some 3:=ac;have s46:sz env 41=some 4:=ac
 exact⟨ac,ac,ac,ac,ac,ac,ac,ac,ac,ac,ac,ac,ac,ac,ac,ac,ac,ac,ac,ac,ac,ac,ac,ac,ac,ac,
  λ_ _=>jay g9,λ_ _=>jay g44,λ_ _=>jay g3,λ_ _=>jay g4,λ_ _=>jay g24,λ_ _=>jay g23,λh p=>by unfold jaH;rw[g52,s52];rfl,λh p=>by unfold jaH;rw[g46,s46];rfl,ac,ac⟩
theorem Kc:type_of% (Kd @mb (Kd @stb @tys)):=Kd @mb (Kd @stb @tys)
theorem zK:type_of% (Kd @Ka (Kd @Ys (Kd @Y0 @Kc))):=Kd @Ka (Kd @Ys (Kd @Y0 @Kc))
theorem yK:type_of% (Kd @Ka (Kd @Y0 @Kc)):=Kd @Ka (Kd @Y0 @Kc)
theorem at78:env.P.funcs[78]? = some Tryz.f78:=ac
theorem at20:env.P.funcs[20]? = some Tryz.f20:=ac
theorem pick_call(x n:Int)(hx:In64 x)(hn:In64 n)(h1:1<=n)(U:S):jah env (ev env) 20 [.int .i64 x,.int .i64 n] U=some (.int .i64 (x % n),U):=by
 refine jaj rfl at20 rfl ?_ U;unfold In64 at hx hn;have hne:(n=0)=False:=eq_false aa;have hb1:Int.tmod x n<n:=Int.tmod_lt_of_pos x aa;have hb2 : -n<Int.tmod x n:=Int.lt_tmod_of_pos x aa;have e1:IntKind.i64.wrap (Int.tmod x n)=Int.tmod x n:=wrap_i64 aa aa
 have hem:x % n=if Int.tmod x n<0 then Int.tmod x n+n else Int.tmod x n:=by
  have h2:=Int.tmod_add_mul_tdiv x n;split
  ·rename_i h;have:(Int.tmod x n+n+n*(Int.tdiv x n-1)) % n=Int.tmod x n+n:=by rw[Vu];exact Ug aa aa
   rw[<- this];congr 1;rw[Int.mul_sub];omega
  ·have:(Int.tmod x n+n*Int.tdiv x n) % n=Int.tmod x n:=by rw[Vu];exact Ug aa aa
   rw[<- this];congr 1;omega
 by_cases h:Int.tmod x n<0
 ·rw[Kg h]at hem;have e2:IntKind.i64.wrap (Int.tmod x n+n)=Int.tmod x n+n:=wrap_i64 aa aa;have g:(Int.tmod x n<0)=True:=eq_true h;simp only[Tryz.f20,simprocAttr,zK,Vq,jai,hne,e1,g,e2];rw[hem];rfl
 ·rw[Ke h]at hem;have g:(Int.tmod x n<0)=False:=eq_false h;simp only[Tryz.f20,simprocAttr,zK,Vq,jai,hne,e1,g];rw[hem];rfl
abbrev tk(xv:V)(a:Nat):AObj:=.cells [xv,.int .i64 a] 93
theorem jr0 {v:V}{xs:List Int}(h:IsI v xs)(e:TypeId):jbb (some (.slice e)) v=some (.int .i64 xs.length):=by rcases h with⟨rfl,rfl⟩|rfl|rfl<;>simp[jbb]
theorem jhV(xv:V)(xs:List Int)(hx:IsI xv xs)(hin:∀x∈xs,In64 x)(hxl:xs.length<2^63)(a:Nat)(ha:a<=xs.length)(n:Int)(hn:In64 n) :
  ∃(r:Int) (a':Nat),(∀(L:List AObj) (b:Nat) ts,b<L.length->jah env (ev env) 78 [.ptr b 0,.int .i64 n] ⟨L.set b (tk xv a),ts⟩=some (.int .i64 r,⟨L.set b (tk xv a'),ts⟩))/\a'<=xs.length/\0<=r/\(1<=n->r<n)/\(n<1->r=0):=by
 have hln:=jr0 hx 3;unfold In64 at hn;by_cases h1:xs.length<=a
 ·have g1:((a:Int) >= (xs.length:Int))=True:=eq_true aa;refine⟨0,a,λL b ts hb => ?_,ha,Jt _,λh=>aa,λ_=>rfl⟩;have hg:(L.set b (tk xv a))[b]? = some (tk xv a):=Km hb;refine jaL at78 rfl ?_;simp only[Tryz.f78,simprocAttr,zK,K0,jaa,K3,hg,hln,g1,jaF];exact⟨ac,rfl,trivial⟩
 have g1:((a:Int) >= (xs.length:Int))=False:=eq_false aa;by_cases h2:n<1
 ·have g2:(n<1)=True:=eq_true h2;refine⟨0,a,λL b ts hb => ?_,ha,Jt _,λh=>aa,λ_=>rfl⟩;have hg:(L.set b (tk xv a))[b]? = some (tk xv a):=Km hb;refine jaL at78 rfl ?_;simp only[Tryz.f78,simprocAttr,zK,K0,jaa,K3,hg,hln,g1,g2,jaF];exact⟨ac,rfl,trivial⟩
 have g2:(n<1)=False:=eq_false h2;have hx64:=jkO hin a;have hP:=pick_call (xs.getD a 0) n hx64 hn aa;have e1:IntKind.i64.wrap ((a:Int)+1)=((a+1:Nat):Int):=by rw[wrap_i64 aa aa];omega
 have e2:IntKind.i64.wrap (((a+1:Nat):Int)-1)=(a:Int):=by rw[wrap_i64 aa aa];omega
 have hxv:=idx_I hx (show a<xs.length by omega);refine⟨xs.getD a 0 % n,a+1,λL b ts hb => ?_,aa,Int.emod_nonneg _ aa,λ_=>Int.emod_lt_of_pos _ aa,λh=>absurd h h2⟩;have hg:(L.set b (tk xv a))[b]? = some (tk xv a):=Km hb;have hg2:((L.set b (tk xv a)).set b (tk xv (a+1)))[b]? = some (tk xv (a+1)):=by rw[Xo];exact Km hb
 refine jaL at78 rfl ?_;simp only[Tryz.f78,simprocAttr,zK,K0,jaa,K3,hg,hln,g1,g2,jaF,e1,hg2,e2,hxv,hP,jaq];exact⟨ac,rfl,ac,rfl,by rw[Xo]⟩
theorem jl3(L:List AObj)(b:Nat)(xv:V)(xs:List Int)(hx:IsI xv xs)(hin:∀x∈xs,In64 x)(hxl:xs.length<2^63)(hb:b<L.length)(a:Nat)(ha:a<=xs.length)(n:Int)(hn:In64 n) :
  ∃(r:Int) (a':Nat),(∀ts,jah env (ev env) 78 [.ptr b 0,.int .i64 n] ⟨L.set b (tk xv a),ts⟩=some (.int .i64 r,⟨L.set b (tk xv a'),ts⟩))/\a'<=xs.length/\0<=r/\(1<=n->r<n)/\(n<1->r=0):=by
 obtain⟨r,a',h1,h2⟩:=jhV xv xs hx hin hxl a ha n hn;exact⟨r,a',λts=>h1 L b ts hb,h2⟩
theorem jhW(s:List UInt8):jbD env 84 [(0,.int .i64 2),(2,.str s)]=some (.agg [.int .i64 2,.int .i64 0,.str s]):=ac
theorem jej(x:Int):jbD env 84 [(0,.int .i64 x)]=some (.agg [.int .i64 x,.int .i64 0,.str []]):=ac
theorem jhX(x n:Int):jbD env 84 [(0,.int .i64 x),(1,.int .i64 n)]=some (.agg [.int .i64 x,.int .i64 n,.str []]):=ac
def Nd.v(x:Nd):V:=.agg [.int .i64 x.op,.int .i64 x.n,.str x.col]
theorem eN:Elt env 26 84 3 32:=⟨ac,ac,ac,ac,ac⟩
theorem eC:Elt env 36 41 4 56:=⟨ac,ac,ac,ac,ac⟩
theorem eI:Elt env 22 3 1 8:=⟨ac,ac,ac,ac,ac⟩
theorem jea:∀l:List Nd,(jb9 l).length=l.length*3
 | []=>rfl
 |x::l=>by rw[jbJ];simp only[Qh,jea l];omega
theorem jfw(a b:List Nd):jb9 (a++b)=jb9 a++jb9 b:=by simp[jb9]
theorem jhJ(a b c:V):rowO env 26 1 [(0,.agg [a,b,c])]=some (.row [a,b,c] 1 .full):=ac
theorem jkP(a b c d e f g h i:V):rowO env 26 3 [(0,.agg [a,b,c]),(1,.agg [d,e,f]),(2,.agg [g,h,i])]=some (.row [a,b,c,d,e,f,g,h,i] 3 .full):=ac
theorem jnx(a b c d:V):rowO env 36 1 [(0,.agg [a,b,c,d])]=some (.row [a,b,c,d] 1 .full):=ac
theorem jw4(a:Int):rowO env 22 1 [(0,.int .i64 a)]=some (.row [.int .i64 a] 1 .full):=ac
abbrev GN(base:Nat)(ts:List Nat)(v:V)(l:List Nd):Prop:=GrowV base ts 3 v l.length (jb9 l)
theorem GN.push {base:Nat}{hp:List AObj}{ts:List Nat}{v:V}{l:List Nd}(g:GN base ts v l)(hb:base<=ts.length)(x:Nd)(q:RCap)(hl:l.length<=4000):∃v' ts',appO env false ⟨hp,ts⟩ 26 26 v (.row [.int .i64 x.op,.int .i64 x.n,.str x.col] 1 q)=some (v',⟨hp,ts'⟩)/\GN base ts' v' (l++[x])/\Ext base ts ts':=by
 have hlim:lim=2^40:=rfl;have:=GrowV.push (E:=env) (hp:=hp) (q:=q) (new:=[.int .i64 x.op,.int .i64 x.n,.str x.col]) eN ⟨84,eN.slice⟩ g hb rfl (by simp[V.isCell]) ⟨by rw[hlim];omega,by rw[hlim];omega⟩;obtain⟨v',ts',h1,h2,h3⟩:=this;refine⟨v',ts',h1,?_,h3⟩;unfold GN;rw[Kk,jfw];exact h2
theorem GN.append {base:Nat}{hp:List AObj}{ts:List Nat}{v y:V}{l m:List Nd}(g:GN base ts v l)(hb:base<=ts.length)(hy:vLen y=some m.length)(hc:jaV hp 3 m.length y=some (jb9 m))(hl:l.length<=4000)(hm:m.length<=4000):∃v' ts',appO env false ⟨hp,ts⟩ 26 26 v y=some (v',⟨hp,ts'⟩)/\GN base ts' v' (l++m)/\Ext base ts ts':=by
 have hlim:lim=2^40:=rfl
 have hcell:(jb9 m).all V.isCell=true:=by
  induction m with
  |nil=>rfl
  |cons x m ih=>simp only[Qh]at hm;rw[jbJ];simp only[Ks,V.isCell,Xh];clear hy hc hm ih;induction m with
   |nil=>rfl
   |cons x m ih=>rw[jbJ];simp only[Ks,V.isCell,Xh];exact ih
 have:=GrowV.append (E:=env) eN ⟨84,eN.slice⟩ g hb hy hc (jea m) hcell ⟨by rw[hlim];omega,by rw[hlim];omega⟩;obtain⟨v',ts',h1,h2,h3⟩:=this;refine⟨v',ts',h1,?_,h3⟩;unfold GN;rw[Kk,jfw];exact h2
theorem GN.full(base:Nat)(ts:List Nat)(l:List Nd):GN base ts (.row (jb9 l) l.length .full) l:=GrowV.full _ _ (jea l)
theorem jiG {cs:List Col}{i:Nat}(h:i<cs.length):∃r,(jaO cs).drop (i*4)=.str (cs.getD i Col.none).name::.int .i64 (cs.getD i Col.none).lo::.int .i64 (cs.getD i Col.none).hi::(cs.getD i Col.none).w::r:=by
 induction cs generalizing i with
 |nil=>simp at h
 | cons c cs ih =>
  cases i with
  |zero=>exact⟨jaO cs,by rw[jbI];rfl⟩
  |succ i =>
   obtain⟨r,hr⟩:=ih (i:=i) (by simpa using h);refine⟨r,?_⟩;rw[jbI,show(i+1)*4=i*4+1+1+1+1 by omega];simp only[K5,X7];exact hr
theorem jfx(cs:List Col)(q:RCap){i:Nat}(h:i<cs.length):∃r,jaw 4 (.row (jaO cs) cs.length q) (.int .i64 i)=some (.rptr (.str (cs.getD i Col.none).name::.int .i64 (cs.getD i Col.none).lo::.int .i64 (cs.getD i Col.none).hi::(cs.getD i Col.none).w::r)):=by
 obtain⟨r,hr⟩:=jiG h;exact⟨r,by rw[Ys,Kg aa,Qj,hr]⟩
theorem jjq {E:Env}{f:FuncId}{args:List V}{v:V}(hp:E.pure f=true)(hk:E.hook f=none)(h1:args.all V.closed=true->∀U,jah E (ev E) f args U=some (v,U))
  (h2:(args.map V.weak).all V.closed=true) (h3:∀U,jah E (ev E) f (args.map V.weak) U=some (v,U)) (U:S):jah E (ev E) f args U=some (v,U):=by
 cases h:args.all V.closed with
 |true=>exact h1 h U
 |false=>rw[jgl hp hk h h2 U];exact h3 U
theorem jbo:∀l:List Nd,V.weak.weakL (jb9 l)=jb9 l
 | []=>rfl
 |x::l=>by rw[jbJ];simp only[V.weak.weakL,V.weak,jbo l]
def RN(v:V)(l:List Nd):Prop:=(v.closed=true->IsN v l)/\IsN v.weak l
def RC(v:V)(cs:List Col):Prop:=(v.closed=true->IsC v cs)/\IsC v.weak cs
theorem jfy {l:List Nd}(h:(jb9 l)=[]):l=[]:=by
 cases l with
 |nil=>rfl
 |cons x l=>rw[jbJ]at h;simp at h
theorem RN.grow {base:Nat}{ts:List Nat}{v:V}{l:List Nd}(g:GN base ts v l):RN v l:=by
 unfold GN at g;generalize hc:jb9 l=cs at g;generalize hn:l.length=n at g;cases g with
 |nil=>exact⟨λ_=>.inl ⟨rfl,jfy hc⟩,.inl ⟨rfl,jfy hc⟩⟩
 |full _ _ hl=>subst hc hn;exact⟨λ_=>.inr (.inr rfl),.inr (.inr (by simp only[V.weak,jbo,RCap.weak]))⟩
 |tok _ _ k e hl hb ht=>subst hc hn;exact⟨λh=>by simp[V.closed]at h,.inr (.inl (by simp only[V.weak,jbo,RCap.weak]))⟩
theorem RC.row {cs:List Col}(ok:OkC cs)(q:RCap):RC (.row (jaO cs) cs.length q) cs:=by
 refine⟨λh => ?_,?_⟩
 ·cases q with
  |full=>exact .inr ⟨.full,.inr rfl,rfl⟩
  |unk=>exact .inr ⟨.unk,.inl rfl,rfl⟩
  |tok k e w=>simp[V.closed]at h
 ·have:=jch ok;cases q with
  |full=>exact .inr ⟨.full,.inr rfl,by simp only[V.weak,this,RCap.weak]⟩
  |unk=>exact .inr ⟨.unk,.inl rfl,by simp only[V.weak,this,RCap.weak]⟩
  |tok k e w=>exact .inr ⟨.unk,.inl rfl,by simp only[V.weak,this,RCap.weak]⟩
structure Fit (v:V) (l:List Nd) (cv:V) (cs:List Col):Prop where
 hv:RN v l
 hl:l.length<=1000
 hc:RC cv cs
 ok:OkC cs
 hcl:cs.length<=1000
 hw:∀i,i<cs.length->(cs.getD i Col.none).ws.length<=1000
theorem expr_call {v:V}{l:List Nd}{cv:V}{cs:List Col}(F:Fit v l cv cs)(cond:Bool)(U:S):jah env (ev env) 75 [v,cv,.bool cond] U=some (.int .i64 (jfv l cs cond),U):=by
 have hl:=F.hl;have hcl:=F.hcl;refine jb6 rfl (jjq rfl rfl (λh => ?_) ?_ ?_) _ U
 ·simp only[Ks,Qn,Q5,Qt]at h;exact λU=>YtajaampgajieeaaGreatDoor.expr_call v l (F.hv.1 h.1) aa cv cs (F.hc.1 h.2.1) F.ok aa F.hw cond U
 ·simp only[K6,J5,Ks,Qn,ja9 F.hc.2 F.ok,jei F.hv.2,V.weak,V.closed,K8]
 ·exact λU=>YtajaampgajieeaaGreatDoor.expr_call v.weak l F.hv.2 aa cv.weak cs F.hc.2 F.ok aa F.hw cond U
theorem jdo(f:Nat->Bool):∀m i,jbR f m i = -1->∀k,i<=k->k<i+m->f k=false
 |0,i,_,k,h1,h2=>aa
 | m+1,i,h,k,h1,h2=>by
  simp only[jbR]at h;by_cases hf:f i=true
  ·rw[Kg hf]at h;omega
  ·rw[Ke hf]at h;by_cases hk:k=i
   ·rw[hk];simpa using hf
   ·exact jdo f m (i+1) h k aa aa
theorem jny {v:V}{xs:List Int}(h:IsI v xs):jbD env 93 [(0,v)]=some (.agg [v,.int .i64 0]):=by
 rcases h with⟨rfl,rfl⟩|rfl|rfl<;>kernel_rfl
theorem jcv {v:V}{xs:List Int}(h:IsI v xs):v.isCell=true:=by rcases h with⟨rfl,_⟩|rfl|rfl<;>rfl
theorem jep(ag:Array Operand)(ts:Array TypeId):scOp env (.call ⟨.value (.func 78),ag,ts⟩)=true:=rfl
theorem jd6(a b:List Col):jaO (a++b)=jaO a++jaO b:=by simp[jaO]
abbrev GC(base:Nat)(ts:List Nat)(v:V)(cs:List Col):Prop:=GrowV base ts 4 v cs.length (jaO cs)
abbrev GI(base:Nat)(ts:List Nat)(v:V)(xs:List Int):Prop:=GrowV base ts 1 v xs.length (xs.map (V.int .i64))
theorem GC.push {base:Nat}{hp:List AObj}{ts:List Nat}{v:V}{cs:List Col}(g:GC base ts v cs)(hb:base<=ts.length)(c:Col)(hc:c.w.isCell=true)(q:RCap)(hl:cs.length<=4000):∃v' ts',appO env false ⟨hp,ts⟩ 36 36 v (.row [.str c.name,.int .i64 c.lo,.int .i64 c.hi,c.w] 1 q)=some (v',⟨hp,ts'⟩)/\GC base ts' v' (cs++[c])/\Ext base ts ts':=by
 have hlim:lim=2^40:=rfl;have:=GrowV.push (E:=env) (hp:=hp) (q:=q) (new:=[.str c.name,.int .i64 c.lo,.int .i64 c.hi,c.w]) eC ⟨41,eC.slice⟩ g hb rfl (by simp only[Ks,Qn,hc];rfl) ⟨by rw[hlim];omega,by rw[hlim];omega⟩;obtain⟨v',ts',h1,h2,h3⟩:=this;refine⟨v',ts',h1,?_,h3⟩;unfold GC;rw[Kk,jd6];exact h2
theorem GI.push {base:Nat}{hp:List AObj}{ts:List Nat}{v:V}{xs:List Int}(g:GI base ts v xs)(hb:base<=ts.length)(x:Int)(q:RCap)(hl:xs.length<=4000):∃v' ts',appO env false ⟨hp,ts⟩ 22 22 v (.row [.int .i64 x] 1 q)=some (v',⟨hp,ts'⟩)/\GI base ts' v' (xs++[x])/\Ext base ts ts':=by
 have hlim:lim=2^40:=rfl;have:=GrowV.push (E:=env) (hp:=hp) (q:=q) (new:=[.int .i64 x]) eI ⟨3,eI.slice⟩ g hb rfl (by simp[V.isCell]) ⟨by rw[hlim];omega,by rw[hlim];omega⟩;obtain⟨v',ts',h1,h2,h3⟩:=this;refine⟨v',ts',h1,?_,h3⟩;unfold GI;rw[Kk,Js];exact h2
def Kp(L L':List AObj)(b:Nat):Prop:=L.length<=L'.length/\∀q,q<L.length->q ≠ b->L'[q]? = L[q]?
theorem Kp.rfl'(L:List AObj)(b:Nat):Kp L L b:=⟨Kw _,λ_ _ _=>rfl⟩
theorem Kp.trans {L L2 L3:List AObj}{b:Nat}(h:Kp L L2 b)(g:Kp L2 L3 b):Kp L L3 b:=⟨Jp h.1 g.1,λq hq hb=>by rw[g.2 q (by have:=h.1;omega) hb,h.2 q hq hb]⟩
theorem Kp.app {L:List AObj}(X:List AObj)(b:Nat):Kp L (L++X) b:=⟨ae,λq hq _=>Kj hq⟩
structure Tk (xv:V) (xs:List Int):Prop where
 hx:IsI xv xs
 hin:∀x∈xs,In64 x
 hxl:xs.length<2^63
def Has(L:List AObj)(b:Nat)(xv:V)(xs:List Int):Prop:=∃a:Nat,a<=xs.length/\L[b]? = some (tk xv a)
theorem Has.lt {L:List AObj}{b:Nat}{xv:V}{xs:List Int}(h:Has L b xv xs):b<L.length:=by
 obtain⟨a,_,h⟩:=h;exact(K4.1 h).1
theorem Has.app {L:List AObj}{b:Nat}{xv:V}{xs:List Int}(h:Has L b xv xs)(X:List AObj):Has (L++X) b xv xs:=by
 have:=h.lt;obtain⟨a,h1,h2⟩:=h;exact⟨a,h1,by rw[Kj this];exact h2⟩
theorem jaS {xv:V}{xs:List Int}(K:Tk xv xs){L:List AObj}{b:Nat}(h:Has L b xv xs)(n:Int)(hn:In64 n) :
  ∃(r:Int) (L':List AObj),(∀ts,jah env (ev env) 78 [.ptr b 0,.int .i64 n] ⟨L,ts⟩=some (.int .i64 r,⟨L',ts⟩))/\Has L' b xv xs/\Kp L L' b/\L'.length=L.length/\0<=r/\(1<=n->r<n)/\(n<1->r=0):=by
 have hb:=h.lt;obtain⟨a,ha,hg⟩:=h;obtain⟨r,a',h1,h2,h3,h4,h5⟩:=jl3 L b xv xs K.hx K.hin K.hxl hb a ha n hn
 have e:L.set b (tk xv a)=L:=by
  have:L[b]=tk xv a:=by rw[Kz hb]at hg;exact Option.some.inj hg
  rw[<- this];exact List.set_getElem_self hb
 rw[e]at h1;exact⟨r,L.set b (tk xv a'),h1,⟨a',h2,Km hb⟩,⟨ae,λq hq hqb=>Kh (Ne.symm hqb)⟩,ae,h3,h4,h5⟩
theorem jhZ {xv:V}{xs:List Int}(K:Tk xv xs){L:List AObj}{b:Nat}(h:Has L b xv xs)(n:Int)(hn:In64 n) :
  ∃(r:Int) (L':List AObj),(∀X ts,jah env (ev env) 78 [.ptr b 0,.int .i64 n] ⟨L++X,ts⟩=some (.int .i64 r,⟨L'++X,ts⟩))/\Has L' b xv xs/\Kp L L' b/\L'.length=L.length/\0<=r/\(1<=n->r<n)/\(n<1->r=0):=by
 have hb:=h.lt;obtain⟨a,ha,hg⟩:=h;obtain⟨r,a',h1,h2,h3,h4,h5⟩:=jhV xv xs K.hx K.hin K.hxl a ha n hn
 have e:L.set b (tk xv a)=L:=by
  have:L[b]=tk xv a:=by rw[Kz hb]at hg;exact Option.some.inj hg
  rw[<- this];exact List.set_getElem_self hb
 refine⟨r,L.set b (tk xv a'),λX ts => ?_,⟨a',h2,Km hb⟩,⟨ae,λq hq hqb=>Kh (Ne.symm hqb)⟩,ae,h3,h4,h5⟩;have:=h1 (L++X) b ts (by simp;omega);rw[List.set_append_left _ _ hb,List.set_append_left _ _ hb,e]at this;exact this
theorem jze:env.P.funcs[162]? = some Tryz.f162:=ac
def jci(cs:List Col)(i:Nat):Prop:=∀k,k<i->(cs.getD k Col.none).name ≠ (cs.getD i Col.none).name
open Classical in
theorem jj8(cs:List Col)(ok:OkC cs)(q:RCap)(i:Nat)(hi:i<cs.length)(hl:cs.length<=1000)(U:S):jah env (ev env) 162 [.row (jaO cs) cs.length q,.int .i64 i] U=some (.bool (decide (jci cs i)),U):=by
 have key:∀q:RCap,(V.row (jaO cs) cs.length q).closed=true->∀U,jah env (ev env) 162 [.row (jaO cs) cs.length q,.int .i64 i] U=some (.bool (decide (jci cs i)),U):=λq hc U=>by
  refine jaj (by simp only[Ks,Qn,hc];rfl) jze rfl ?_ U;simp only[Tryz.f162,simprocAttr,zK,K0,jaa,jai];refine jau (λm T D U=>D=[]/\T 0=.row (jaO cs) cs.length q/\T 1=.int .i64 i/\U=⟨[],[]⟩/\∃k:Nat,T 5=.int .i64 k/\k<=i/\m=i-k/\∀j,j<k->(cs.getD j Col.none).name ≠ (cs.getD i Col.none).name) ?_ (i-0) _ _ _ ⟨rfl,rfl,rfl,rfl,0,rfl,Qm _,rfl,λj hj=>aa⟩;rintro m T D U ⟨rfl,t0,t1,rfl,k,t5,hk,rfl,hall⟩;refine jaC ?_;by_cases hlt:k<i
  ·have c1:(k:Int)<(i:Int):=by omega
   have e1:IntKind.i64.wrap ((k:Int)+1)=((k+1:Nat):Int):=by rw[wrap_i64 aa aa];omega
   obtain⟨r1,h1⟩:=jfx cs q (show k<cs.length by omega);obtain⟨r2,h2⟩:=jfx cs q hi;by_cases he:(cs.getD k Col.none).name=(cs.getD i Col.none).name
   ·have g:((cs.getD k Col.none).name=(cs.getD i Col.none).name)=True:=eq_true he;rw[decide_eq_false (show ¬jci cs i from λh=>h k hlt he)];simp only[simprocAttr,yK,K0,jaa,t0,t1,t5,c1,e1,h1,h2,jaq,jax,g];exact⟨ac,rfl⟩
   ·have g:((cs.getD k Col.none).name=(cs.getD i Col.none).name)=False:=eq_false he;simp only[simprocAttr,yK,K0,jaa,t0,t1,t5,c1,e1,h1,h2,jaq,jax,g]
    exact⟨ac,i-(k+1),aa,k+1,rfl,aa,rfl,λj hj=>by
     by_cases hjk:j=k
     ·rw[hjk];exact he
     ·exact hall j aa⟩
  ·have hki:k=i:=by omega
   subst hki;have c1:¬(k:Int)<(k:Int):=aa;rw[decide_eq_true (show jci cs k from hall)];simp only[simprocAttr,zK,K0,jaa,t0,t1,t5,c1];rfl
 have hw:=jch ok;refine jjq rfl rfl (λh=>key q ?_) ?_ ?_ U
 ·simp only[Ks,Qn,Q5,Qt]at h;exact h.1
 ·have:=ja9 (RC.row ok q).2 ok;simp only[K6,J5,Ks,Qn,this];rfl
 ·have:=ja9 (RC.row ok q).2 ok;cases q with
  |full=>simp only[K6,J5,V.weak,hw,RCap.weak]at this ⊢;exact key _ this
  |unk=>simp only[K6,J5,V.weak,hw,RCap.weak]at this ⊢;exact key _ this
  |tok k e w=>simp only[K6,J5,V.weak,hw,RCap.weak]at this ⊢;exact key _ this
theorem jr9 {cs:List Col}{i:Nat}(hi:i<cs.length)(h:jci cs i):colN cs (cs.getD i Col.none).name=cs.getD i Col.none:=by
 rcases jca cs (cs.getD i Col.none).name with e|⟨j,e,hj,hn,hf⟩
 ·have:=jdo (λk=>decide ((cs.getD k Col.none).name=(cs.getD i Col.none).name)) cs.length 0 e i (Qm _) aa;simp at this
 ·have:j=i:=by
   rcases Vv j i with h1|h1|h1
   ·exact absurd hn (h j h1)
   ·exact h1
   ·exact absurd rfl (hf i h1)
  subst this;unfold colN;rw[e,Kg aa,Qj]
theorem joV {cs:List Col}{i:Nat}(hi:i<cs.length):0<=jbg cs (cs.getD i Col.none).name:=by
 rcases jca cs (cs.getD i Col.none).name with e|⟨j,e,_⟩
 ·have:=jdo (λk=>decide ((cs.getD k Col.none).name=(cs.getD i Col.none).name)) cs.length 0 e i (Qm _) aa;simp at this
 ·omega
theorem jzf:env.P.funcs[218]? = some Tryz.f218:=ac
theorem jzg:env.P.funcs[161]? = some Tryz.f161:=ac
theorem jvB:env.P.funcs[160]? = some Tryz.f160:=ac
theorem jzh:env.P.funcs[159]? = some Tryz.f159:=ac
theorem eW:Elt env 39 9 1 16:=⟨ac,ac,ac,ac,ac⟩
theorem jxa:rowO env 39 0 []=some (.row [] 0 .full):=ac
theorem jvC(a b c d:List UInt8):rowO env 39 4 [(0,.str a),(1,.str b),(2,.str c),(3,.str d)]=some (.row [.str a,.str b,.str c,.str d] 4 .full):=ac
theorem jvD(a b c d e:List UInt8):rowO env 39 5 [(0,.str a),(1,.str b),(2,.str c),(3,.str d),(4,.str e)]=some (.row [.str a,.str b,.str c,.str d,.str e] 5 .full):=ac
def rowW(ws:List (List UInt8)):V:=.row (ws.map V.str) ws.length .unk
theorem jnD(ws:List (List UInt8)):IsW (rowW ws) ws:=.inr rfl
theorem jl9:∀ws:List (List UInt8),(ws.map V.str).all V.isCell=true
 | []=>rfl
 |w::ws=>by simp only[K6,Ks,V.isCell,jl9 ws,K8]
theorem joW(w:V)(ws:List (List UInt8))(h:IsW w ws)(hl:ws.length<=1000)(U:S):jah env (ev env) 218 [w] U=some (rowW ws,U):=by
 refine jaj (by simp only[Ks,Qn,jct h];rfl) jzf rfl ?_ U;have hlim:lim=2^40:=rfl;have g0:GrowV 0 [] 1 (.row [] 0 .full) 0 []:=.full _ _ rfl;by_cases hz:ws=[]
 ·subst hz;have hA:appO env false ⟨[],[]⟩ 39 39 (.row [] 0 .full) w=some (.row [] 0 .full,⟨[],[]⟩):=by rcases h with⟨rfl,_⟩|rfl<;>kernel_rfl
  simp only[Tryz.f218,simprocAttr,zK,K0,jaa,jai,jar,jxa,hA];rfl
 have hpos:0<ws.length:=by
  cases ws with
  |nil=>exact absurd rfl hz
  |cons x ws=>simp
 have hv:vLen w=some ws.length/\jaV [] 1 ws.length w=some (ws.map V.str):=by
  rcases h with⟨rfl,rfl⟩|rfl
  ·exact⟨rfl,rfl⟩
  ·refine⟨rfl,?_⟩;simp only[jaV,Qw,Xc];rw[Kg ⟨Kw _,Kw _⟩,Qu ae]
 obtain⟨v',ts',hA,hg,_⟩:=GrowV.append (E:=env) (hp:=[]) (y:=w) eW ⟨9,eW.slice⟩ g0 (Qm _) hv.1 hv.2 ae (jl9 ws) ⟨by rw[hlim];omega,by rw[hlim];omega⟩;simp only[Tryz.f218,simprocAttr,zK,K0,jaa,jai,jar,jxa,hA];rw[Ja,Jk]at hg;obtain⟨q,rfl⟩:=hg.isrow hpos
 change jaK [] 12 (V.row (List.map V.str ws) ws.length q)=_
 rw[ja1,jfS];rfl
theorem jpT(a b c d:V)(t:TypeId)(X:List AObj):jab (.cells [a,b,c,d] t::X) 4 (.ptr 0 0)=some [a,b,c,d]:=rfl
theorem jxb(h:List AObj)(nm:List UInt8)(lo hi:Int)(ws:List (List UInt8)):jaK h 12 (.agg [.str nm,.int .i64 lo,.int .i64 hi,.row (ws.map V.str) ws.length .unk])=some (.agg [.str nm,.int .i64 lo,.int .i64 hi,.row (ws.map V.str) ws.length .unk]):=by
 rw[jey,jal,jal,jal,jal,jaR,jbC,jav,jav,ja1,jfS];rfl
theorem jlX(c:Col)(h:IsW c.w c.ws)(hl:c.ws.length<=1000)(U:S):jah env (ev env) 161 [aggC c] U=some (.agg [.str c.name,.int .i64 c.lo,.int .i64 c.hi,rowW c.ws],U):=by
 obtain⟨nm,lo,hi,w,ws⟩:=c;simp only at h hl ⊢;have hic:=jbf h;have hO:=joW w ws h hl;refine jaj (by simp only[aggC,Ks,Qn,V.closed,V.closed.closedL,jct h];rfl) jzg rfl ?_ U;unfold rowW at hO ⊢;simp only[Tryz.f161,simprocAttr,zK,K0,jaa,jai,aggC,hO,jac,jae,hic,jpT];refine V1i rfl ?_;exact jxb _ nm lo hi ws
def reds:List (List UInt8):=[[114,101,100],[103,114,101,101,110],[98,108,117,101],[103,114,101,121],[112,105,110,107]]
def ages:List (List UInt8):=[[97,103,101],[99,111,108,111,117,114],[104,101,105,103,104,116],[112,108,97,99,101],[115,99,111,114,101]]
def tabs:List (List UInt8):=[[112,101,111,112,108,101],[118,105,115,105,116,115],[112,108,97,99,101,115],[110,111,116,101,115]]
theorem jnE(U:S):jah env (ev env) 160 [.int .i64 0] U=some (rowW tabs,U):=by
 refine jaj rfl jvB rfl ?_ U;simp only[Tryz.f160,simprocAttr,zK,K0,jaa,jai,jar,jvC,jvD];rfl
theorem jnF(U:S):jah env (ev env) 160 [.int .i64 1] U=some (rowW ages,U):=by
 refine jaj rfl jvB rfl ?_ U;simp only[Tryz.f160,simprocAttr,zK,K0,jaa,jai,jar,jvC,jvD];rfl
theorem jnG(U:S):jah env (ev env) 160 [.int .i64 2] U=some (rowW reds,U):=by
 refine jaj rfl jvB rfl ?_ U;simp only[Tryz.f160,simprocAttr,zK,K0,jaa,jai,jar,jvC,jvD];rfl
def KitC(nm:List UInt8)(c:Col):Prop:=c.name=nm/\((c.w=.nilsl/\c.ws=[] /\ -3<=c.lo/\c.lo<=c.hi/\c.hi<=20)\/∃k,1<=k/\k<=5/\c.ws=reds.take k/\c.w=rowW (reds.take k)/\c.lo=0/\c.hi=(k:Int)-1)
theorem jtL(s:List UInt8):jbD env 41 [(0,.str s)]=some (.agg [.str s,.int .i64 0,.int .i64 0,.nilsl]):=ac
theorem jpX:jbN env 39 (rowW reds) none (some (.int .i64 1)) none=some (rowW (reds.take 1)):=ac
theorem jpY:jbN env 39 (rowW reds) none (some (.int .i64 2)) none=some (rowW (reds.take 2)):=ac
theorem jpZ:jbN env 39 (rowW reds) none (some (.int .i64 3)) none=some (rowW (reds.take 3)):=ac
theorem jp0:jbN env 39 (rowW reds) none (some (.int .i64 4)) none=some (rowW (reds.take 4)):=ac
theorem jp1:jbN env 39 (rowW reds) none (some (.int .i64 5)) none=some (rowW (reds.take 5)):=ac
theorem jp2(k:Nat)(h1:1<=k)(h2:k<=5):jbN env 39 (rowW reds) none (some (.int .i64 k)) none=some (rowW (reds.take k)):=by
 have h:k=1\/k=2\/k=3\/k=4\/k=5:=aa
 rcases h with rfl|rfl|rfl|rfl|rfl
 ·exact jpX
 ·exact jpY
 ·exact jpZ
 ·exact jp0
 ·exact jp1
theorem jiN {h:List AObj}{n:Nat}{a b c d:V}{t:TypeId}(hh:h[n]? = some (.cells [a,b,c,d] t)):jab h 4 (.ptr n 0)=some [a,b,c,d]:=by simp[jab,hh]
theorem jkT {xv:V}{xs:List Int}(K:Tk xv xs){L:List AObj}{b:Nat}(hH:Has L b xv xs)(nm:List UInt8)(ts:List Nat) :
  ∃v U',jah env (ev env) 159 [.ptr b 0,.str nm] ⟨L,ts⟩=some (v,U')/\∃(c:Col) (L':List AObj),v=aggC c/\U'=⟨L',ts⟩/\Has L' b xv xs/\Kp L L' b/\KitC nm c:=by
 have hbl:=hH.lt;obtain⟨k1,M1,hT1,hH1,hK1,hl1,p1,p2,_⟩:=jaS K ((hH.app [AObj.cells [V.str [],V.int IntKind.i64 0,V.int IntKind.i64 0,V.nilsl] 41]).app [AObj.cells [V.str nm,V.int IntKind.i64 0,V.int IntKind.i64 0,V.nilsl] 41]) 3 (by simp[In64]);refine jaD jzh rfl ?_;have b46:=jtL nm;have hlen:(L++[AObj.cells [V.str [],V.int IntKind.i64 0,V.int IntKind.i64 0,V.nilsl] 41]).length=L.length+1:=ae;have hN2:=jnG;have hp2:=p2 af
 have hG1:M1[(L++[AObj.cells [V.str [],V.int IntKind.i64 0,V.int IntKind.i64 0,V.nilsl] 41]).length]? = some (.cells [V.str nm,V.int IntKind.i64 0,V.int IntKind.i64 0,V.nilsl] 41):=by
  rw[hK1.2 _ ae aa];exact jad _ _
 have hZ1:M1[L.length]? = some (.cells [V.str [],V.int IntKind.i64 0,V.int IntKind.i64 0,V.nilsl] 41):=by
  rw[hK1.2 _ ae aa,Kj ae];exact jad _ _
 have hKL1:Kp L M1 b:=((Kp.app _ _).trans (Kp.app _ _)).trans hK1;have hE1:∀c:AObj,(L++[AObj.cells [V.str [],V.int IntKind.i64 0,V.int IntKind.i64 0,V.nilsl] 41]++[c])[(L++[AObj.cells [V.str [],V.int IntKind.i64 0,V.int IntKind.i64 0,V.nilsl] 41]).length]? = some c:=λc=>jad _ _
 have hE2:∀c d:AObj,(L++[AObj.cells [V.str [],V.int IntKind.i64 0,V.int IntKind.i64 0,V.nilsl] 41]++[c]).set (L++[AObj.cells [V.str [],V.int IntKind.i64 0,V.int IntKind.i64 0,V.nilsl] 41]).length d=L++[AObj.cells [V.str [],V.int IntKind.i64 0,V.int IntKind.i64 0,V.nilsl] 41]++[d]:=λc d=>jan _ _ _
 generalize hPe:(L++[AObj.cells [V.str [],V.int IntKind.i64 0,V.int IntKind.i64 0,V.nilsl] 41]).length=P at *;have seto:∀(M:List AObj) (X Y:AObj),M[P]? = some X->(M.set P Y)[P]? = some Y:=λM X Y h=>Km (K4.1 h).1
 have setz:∀(M:List AObj) (Y:AObj),(M.set P Y)[L.length]? = M[L.length]? := λM Y=>Kh aa
 have keep:∀(M:List AObj) (Y Z:AObj),Has M b xv xs->Kp L M b->Has ((M.set P Y).set L.length Z) b xv xs/\Kp L ((M.set P Y).set L.length Z) b:=λM Y Z h1 h2=>by
  obtain⟨a,e1,e2⟩:=h1;refine⟨⟨a,e1,by rw[Kh aa,Kh aa];exact e2⟩,by have:=h2.1;simp;omega,λq hq hqb => ?_⟩;rw[Kh aa,Kh aa];exact h2.2 q hq hqb
 by_cases h1:k1=1
 ·have g1:(k1=1)=True:=eq_true h1;obtain⟨k2,M2,hT2,hH2,hK2,hl2,p3,p4,_⟩:=jaS K hH1 5 (by simp[In64]);have hp4:=p4 af;obtain⟨k,hk⟩:∃k:Nat,1+k2=(k:Int):=⟨(1+k2).toNat,aa⟩;have e1:IntKind.i64.wrap (1+k2)=(k:Int):=by rw[wrap_i64 aa aa];exact hk
  have hsl:=jp2 k aa aa;have hrl:(reds.take k).length=k:=by simp[reds];omega
  have hO:=joW (rowW (reds.take k)) (reds.take k) (jnD _) aa;have e2:IntKind.i64.wrap ((k:Int)-1)=(k:Int)-1:=wrap_i64 aa aa;have hG2:M2[P]? = some (.cells [V.str nm,V.int IntKind.i64 0,V.int IntKind.i64 0,V.nilsl] 41):=by rw[hK2.2 _ (K4.1 hG1).1 aa];exact hG1
  have hZ2:M2[L.length]? = some (.cells [V.str [],V.int IntKind.i64 0,V.int IntKind.i64 0,V.nilsl] 41):=by rw[hK2.2 _ (K4.1 hZ1).1 aa];exact hZ1
  have hs:=λY=>seto M2 _ Y hG2
  have hz:=λY=>(setz M2 Y).trans hZ2
  have hll:∀e,jbb (some (.slice e)) (rowW (reds.take k))=some (.int .i64 k):=λe=>by unfold rowW;rw[hrl];rfl
  have hwc:(rowW (reds.take k)).isCell=true:=rfl;have hwc2:(rowW (reds.take k)).cells=[rowW (reds.take k)]:=rfl;have hkp:=keep M2 (.cells [V.str nm,V.int IntKind.i64 0,V.int IntKind.i64 ((k:Int)-1),rowW (reds.take k)] 41) (.cells [V.str nm,V.int IntKind.i64 0,V.int IntKind.i64 ((k:Int)-1),rowW (reds.take k)] 41) hH2 (hKL1.trans hK2);generalize hw:rowW (reds.take k)=w at *;have hl4:=jiN (hs (.cells [V.str nm,V.int IntKind.i64 0,V.int IntKind.i64 ((k:Int)-1),w] 41));simp only[Tryz.f159,simprocAttr,zK,K0,jaa,jai,b46,jac,jae,jdC,hT1,g1,jad,jan,hN2,hT2,e1,jbO,jbP,jbT,hsl,hO,hG2,hwc,hwc2,hs,Xo,hll,e2,hl4,hz,hPe,hE1,hE2];refine V1i (v:=[.agg [V.str nm,V.int IntKind.i64 0,V.int IntKind.i64 ((k:Int)-1),w]]) (by rw[jiN (Km (K4.1 (hz _)).1)];rfl) ?_;exact⟨⟨nm,0,(k:Int)-1,w,reds.take k⟩,_,rfl,rfl,hkp.1,hkp.2,rfl,.inr ⟨k,aa,aa,rfl,hw.symm,rfl,rfl⟩⟩
 ·have g1:(k1=1)=False:=eq_false h1;obtain⟨k2,M2,hT2,hH2,hK2,hl2,p3,p4,_⟩:=jaS K hH1 9 (by simp[In64]);have hp4:=p4 af;have e1:IntKind.i64.wrap (k2-3)=k2-3:=wrap_i64 aa aa;have hG2:M2[P]? = some (.cells [V.str nm,V.int IntKind.i64 0,V.int IntKind.i64 0,V.nilsl] 41):=by rw[hK2.2 _ (K4.1 hG1).1 aa];exact hG1
  have hZ2:M2[L.length]? = some (.cells [V.str [],V.int IntKind.i64 0,V.int IntKind.i64 0,V.nilsl] 41):=by rw[hK2.2 _ (K4.1 hZ1).1 aa];exact hZ1
  have hs2:=seto M2 _ (.cells [V.str nm,V.int IntKind.i64 (k2-3),V.int IntKind.i64 0,V.nilsl] 41) hG2;have hz2:=(setz M2 (.cells [V.str nm,V.int IntKind.i64 (k2-3),V.int IntKind.i64 0,V.nilsl] 41)).trans hZ2
  have hH2':Has (M2.set P (.cells [V.str nm,V.int IntKind.i64 (k2-3),V.int IntKind.i64 0,V.nilsl] 41)) b xv xs:=by
   obtain⟨a,a1,a2⟩:=hH2;exact⟨a,a1,by rw[Kh aa];exact a2⟩
  have hKL2:Kp L (M2.set P (.cells [V.str nm,V.int IntKind.i64 (k2-3),V.int IntKind.i64 0,V.nilsl] 41)) b:=by
   have h2:=hKL1.trans hK2;exact⟨by have:=h2.1;simp;omega,λq hq hqb=>by rw[Kh aa];exact h2.2 q hq hqb⟩
  obtain⟨k3,M3,hT3,hH3,hK3,hl3,p5,p6,_⟩:=jaS K hH2' 8 (by simp[In64]);have hp6:=p6 af;have e3:IntKind.i64.wrap (k2-3+k3)=k2-3+k3:=wrap_i64 aa aa;have hG3:M3[P]? = some (.cells [V.str nm,V.int IntKind.i64 (k2-3),V.int IntKind.i64 0,V.nilsl] 41):=by rw[hK3.2 _ (by have:=(K4.1 hs2).1;omega) aa];exact hs2
  have hZ3:M3[L.length]? = some (.cells [V.str [],V.int IntKind.i64 0,V.int IntKind.i64 0,V.nilsl] 41):=by rw[hK3.2 _ (by have:=(K4.1 hz2).1;omega) aa];exact hz2
  have hs:=λY=>seto M3 _ Y hG3
  have hz:=λY=>(setz M3 Y).trans hZ3
  have hkp:=keep M3 (.cells [V.str nm,V.int IntKind.i64 (k2-3),V.int IntKind.i64 (k2-3+k3),V.nilsl] 41) (.cells [V.str nm,V.int IntKind.i64 (k2-3),V.int IntKind.i64 (k2-3+k3),V.nilsl] 41) hH3 (hKL2.trans hK3);have hl4:=jiN (hs (.cells [V.str nm,V.int IntKind.i64 (k2-3),V.int IntKind.i64 (k2-3+k3),V.nilsl] 41));simp only[Tryz.f159,simprocAttr,zK,K0,jaa,jai,b46,jac,jae,jdC,hT1,g1,jad,jan,hT2,e1,hG2,hPe,hE1,hE2];refine jcI rfl (λs=>jce s.heap[P]? 1=some (V.int IntKind.i64 (k2-3))) (by rw[hs2];rfl) ac ?_;simp only[simprocAttr,zK,K0,jaa,jac,jae,jdC,hs2,hT3,e3,hG3,hs,Xo,hl4,hz,jep,jdG,jdH,jbE,jbs,jbt,jdb,jdc,jiF,jc4,jc6,jck,jcl,jc5,jc7,jdI,jdJ,jbF,jdK,jbH];refine⟨λs h=>h,V1i (v:=[.agg [V.str nm,V.int IntKind.i64 (k2-3),V.int IntKind.i64 (k2-3+k3),V.nilsl]]) (by rw[jiN (Km (K4.1 (hz _)).1)];rfl) ?_⟩;exact⟨⟨nm,k2-3,k2-3+k3,.nilsl,[]⟩,_,rfl,rfl,hkp.1,hkp.2,rfl,.inl ⟨rfl,rfl,by simp only;omega,by simp only;omega,by simp only;omega⟩⟩
theorem at77:env.P.funcs[77]? = some Tryz.f77:=ac
theorem tysc:env.P.underlying 24=some (.slice 38)/\sz env 38=some 4/\jas env 38 0=some 0/\jas env 38 1=some 1/\jas env 38 2=some 2/\jas env 38 3=some 3/\(∀h p,jaH env h 38 p=(jab h 4 p).map .agg)/\jba env 38=some (.agg [.str [],.bool false,.int .i64 0,.nilsl]):=by
 have g36:aggT env 38=some true:=ac;have s36:sz env 38=some 4:=ac;exact⟨ac,s36,ac,ac,ac,ac,λh p=>by unfold jaH;rw[g36,s36];rfl,ac⟩
theorem eS:Elt env 24 38 4 56:=⟨ac,ac,ac,ac,ac⟩
theorem jvE(a b c d:V):rowO env 24 1 [(0,.agg [a,b,c,d])]=some (.row [a,b,c,d] 1 .full):=ac
theorem jkM(s:List UInt8)(n:Int):jbD env 38 [(0,.str s),(2,.int .i64 n)]=some (.agg [.str s,.bool false,.int .i64 n,.nilsl]):=ac
theorem jtM {j:Nat}(h:j<5):∃r,jaw 1 (rowW ages) (.int .i64 j)=some (.rptr (.str (ages.getD j [])::r)):=by
 match j,h with
 |0,_=>exact⟨_,rfl⟩
 |1,_=>exact⟨_,rfl⟩
 |2,_=>exact⟨_,rfl⟩
 |3,_=>exact⟨_,rfl⟩
 |4,_=>exact⟨_,rfl⟩
theorem jbq(b:Bool):(V.bool b).cells=[.bool b]:=rfl
theorem joX(t:TypeId)(ps:Array (Nat × Operand)):jbl (.build t ps)=false:=rfl
theorem joY(f:FuncId)(ag:Array Operand)(ts:Array TypeId):jbl (.call ⟨.value (.func f),ag,ts⟩)=false:=rfl
theorem jtN {j:Nat}(h:j<3):∃r,jaw 1 (rowW tabs) (.int .i64 j)=some (.rptr (.str (tabs.getD j [])::r)):=by
 match j,h with
 |0,_=>exact⟨_,rfl⟩
 |1,_=>exact⟨_,rfl⟩
 |2,_=>exact⟨_,rfl⟩
theorem KitC.is {nm:List UInt8}{c:Col}(h:KitC nm c):IsW c.w c.ws/\c.ws.length<=5:=by
 rcases h.2 with⟨h1,h2,_⟩|⟨k,h1,h2,h3,h4,_⟩
 ·exact⟨.inl ⟨h1,h2⟩,by rw[h2];simp⟩
 ·refine⟨by rw[h3,h4];exact jnD _,by rw[h3];simp;omega⟩
def AllC(cs:List Col):Prop:=∀j,j<cs.length->KitC (ages.getD j []) (cs.getD j Col.none)
theorem AllC.add {cs:List Col}(h:AllC cs){c:Col}(hc:KitC (ages.getD cs.length []) c):AllC (cs++[c]):=λj hj=>by
 rw[Kk,Ju]at hj;by_cases e:j<cs.length
 ·have:(cs++[c]).getD j Col.none=cs.getD j Col.none:=by simp only[List.getD];rw[Kj e]
  rw[this];exact h j e
 ·have:j=cs.length:=by omega
  subst this;have:(cs++[c]).getD cs.length Col.none=c:=by simp[List.getD]
  rw[this];exact hc
def Kit(c:Col):Prop:=(∃j,j<5/\c.name=ages.getD j [])/\IsW c.w c.ws/\((c.ws=[] /\ -3<=c.lo/\c.lo<=c.hi/\c.hi<=20)\/∃k,1<=k/\k<=5/\c.ws=reds.take k/\c.lo=0/\c.hi=(k:Int)-1)
theorem KitC.copy {j:Nat}(hj:j<5){c:Col}(h:KitC (ages.getD j []) c):Kit ⟨c.name,c.lo,c.hi,rowW c.ws,c.ws⟩:=by
 refine⟨⟨j,hj,h.1⟩,jnD _,?_⟩
 rcases h.2 with⟨_,h2,h3⟩|⟨k,h1,h2,h3,_,h5⟩
 ·exact .inl ⟨h2,h3⟩
 ·exact .inr ⟨k,h1,h2,h3,h5⟩
def Kits(ds:List Col):Prop:=∀c∈ds,Kit c
theorem Kits.add {ds:List Col}(h:Kits ds){c:Col}(hc:Kit c):Kits (ds++[c]):=λd hd=>by
 rcases Jl.1 hd with hd|hd
 ·exact h d hd
 ·rw[J4.1 hd];exact hc
def cpK(c:Col):Col:=⟨c.name,c.lo,c.hi,rowW c.ws,c.ws⟩
def SubC(cs ds:List Col)(k:Nat):Prop:=∃js:List Nat,ds=js.map (λj=>cpK (cs.getD j Col.none))/\js.Pairwise (· < ·)/\∀j∈js,j<k
theorem SubC.add {cs ds:List Col}{k:Nat}(h:SubC cs ds k):SubC cs (ds++[cpK (cs.getD k Col.none)]) (k+1):=by
 obtain⟨js,h1,h2,h3⟩:=h;refine⟨js++[k],by simp[h1],List.pairwise_append.2 ⟨h2,ae,λa ha b hb=>by simp only[J4]at hb;subst hb;exact h3 a ha⟩,λj hj => ?_⟩
 rcases Jl.1 hj with h|h
 ·have:=h3 j h;omega
 ·simp only[J4]at h;omega
theorem SubC.mono {cs ds:List Col}{k m:Nat}(h:SubC cs ds k)(hm:k<=m):SubC cs ds m:=by
 obtain⟨js,h1,h2,h3⟩:=h;exact⟨js,h1,h2,λj hj=>by have:=h3 j hj;omega⟩
theorem SubC.kits {cs ds:List Col}(h:SubC cs ds 5)(hA:AllC cs)(hl:cs.length=5):Kits ds:=λc hc=>by
 obtain⟨js,rfl,_,h3⟩:=h;obtain⟨j,hj,rfl⟩:=Jd.1 hc;have:=h3 j hj;exact(hA j aa).copy this
structure KitS (cs:List Col) (i:Nat) (s:Sch):Prop where
 nm:s.name=tabs.getD i []
 sub:SubC cs s.cs 5
 ne:1<=s.cs.length
 le:s.cs.length<=5
 pb:(s.pub=true/\s.many=0/\1<=i)\/(s.pub=false/\1<=s.many/\s.many<=4)
 row:∃q,s.cv=.row (jaO s.cs) s.cs.length q
theorem jsa {base:Nat}{ts:List Nat}{v:V}{ds:List Col}(g:GC base ts v ds)(h:ds ≠ []):∃q,v=.row (jaO ds) ds.length q:=g.isrow (by cases ds with|nil=>exact absurd rfl h|cons x r=>simp)
def Kp2(L L':List AObj)(b P:Nat):Prop:=L.length<=L'.length/\∀q,q<L.length->q ≠ b->q ≠ P->L'[q]? = L[q]?
section
variable {xv:V}{xs:List Int}(K:Tk xv xs)
include K
theorem jhl {Q:Post}{ks:List Kt}{T:Tm}{H:List AObj}{ts:List Nat}{b P:Nat}(hPb:P ≠ b){cs:List Col}{q:RCap}(hA:AllC cs)(hl:cs.length=5){s:List UInt8}{pb:Bool}{nn f:Int}(hf0:0<=f)(hf:f<5)
    (t0:T 0=.ptr b 0) (t3:T 3=.row (jaO cs) cs.length q) (t8:T 8=.ptr P 0) (t9:T 9=.int .i64 f) (t10:T 10=.int .i64 0) (hH:Has H b xv xs) (hP:H[P]? = some (.cells [.str s,.bool pb,.int .i64 nn,.nilsl] 38))
    (h:∀(T':Tm) (H':List AObj) (ts':List Nat) (ds:List Col) (qd:RCap),T' 0=T 0->T' 3=T 3->T' 5=T 5->T' 6=T 6->T' 7=T 7->T' 8=T 8->Has H' b xv xs->Kp2 H H' b P->H'[P]? = some (.cells [.str s,.bool pb,.int .i64 nn,.row (jaO ds) ds.length qd] 38)->SubC cs ds 5->1<=ds.length->ds.length<=5->Ext ts.length ts ts'->G env 77 none 78 Q ks .skip T' [] ⟨H',ts'⟩) :
    jdx env 77 none 78 (jcK 4 (jaz Tryz.f77)) T [] ⟨H,ts⟩ (Kt.post env 77 none 78 Q (.blk 4::ks)):=by
  simp only[jaz,Tryz.f77,Kr,jcK,blkC,Option.or,Nat.reduceEqDiff,Kn,Kl,reduceIte]
  refine jau (λm T2 D U=>D=[]/\T2 0=T 0/\T2 3=T 3/\T2 5=T 5/\T2 6=T 6/\T2 7=T 7/\T2 8=T 8/\T2 9=T 9/\∃(M:List AObj) (ts':List Nat) (k:Nat) (ds:List Col) (dv:V),U=⟨M,ts'⟩/\T2 10=.int .i64 k/\Has M b xv xs/\Kp2 H M b P/\M[P]? = some (.cells [.str s,.bool pb,.int .i64 nn,dv] 38)/\GC ts.length ts' dv ds/\Ext ts.length ts ts'/\SubC cs ds k/\k<=5/\ds.length<=k/\(f<k->ds ≠ [])/\m=5-k) ?_ (5-0) _ _ _
    ⟨rfl,rfl,rfl,rfl,rfl,rfl,rfl,rfl,H,ts,0,[],.nilsl,rfl,t10,hH,⟨Kw _,λ_ _ _ _=>rfl⟩,hP,.nil,.rfl' _ _,⟨[],rfl,.nil,ae⟩,aa,ae,λhh=>aa,rfl⟩
  rintro m T2 D U ⟨rfl,u0,u3,u5,u6,u7,u8,u9,M,ts',k,ds,dv,rfl,u10,hM,hKM,hMP,hg,hE,hKd,hk5,hdk,hfd,rfl⟩;have v0:=u0.trans t0;have v3:=u3.trans t3;have v8:=u8.trans t8;have v9:=u9.trans t9;refine jaC ?_;by_cases hlt:k<5
  · have c1:(k:Int)<5:=by omega
    have e1:IntKind.i64.wrap ((k:Int)+1)=((k+1:Nat):Int):=by rw[wrap_i64 aa aa];omega
    -- a column is added
    have add:∀(M1:List AObj),Has M1 b xv xs->Kp2 H M1 b P->M1[P]? = some (.cells [.str s,.bool pb,.int .i64 nn,dv] 38)->∃(cv:Col) (dv':V) (ts2:List Nat) (r:List V),jaw 4 (.row (jaO cs) cs.length q) (.int .i64 k)=some (.rptr (.str (cs.getD k Col.none).name::.int .i64 (cs.getD k Col.none).lo::.int .i64 (cs.getD k Col.none).hi::(cs.getD k Col.none).w::r)) /\
        (∀U,jah env (ev env) 161 [.agg [.str (cs.getD k Col.none).name,.int .i64 (cs.getD k Col.none).lo,.int .i64 (cs.getD k Col.none).hi,(cs.getD k Col.none).w]] U=some (.agg [.str cv.name,.int .i64 cv.lo,.int .i64 cv.hi,cv.w],U)) /\
        appO env false ⟨M1,ts'⟩ 36 36 dv (.row [.str cv.name,.int .i64 cv.lo,.int .i64 cv.hi,cv.w] 1 .full)=some (dv',⟨M1,ts2⟩)/\dv'.cells=[dv']/\dv'.isCell=true/\Has (M1.set P (.cells [.str s,.bool pb,.int .i64 nn,dv'] 38)) b xv xs/\Kp2 H (M1.set P (.cells [.str s,.bool pb,.int .i64 nn,dv'] 38)) b P /\
        (M1.set P (.cells [.str s,.bool pb,.int .i64 nn,dv'] 38))[P]? = some (.cells [.str s,.bool pb,.int .i64 nn,dv'] 38)/\GC ts.length ts2 dv' (ds++[cv])/\Ext ts.length ts ts2/\SubC cs (ds++[cv]) (k+1)/\(ds++[cv]).length<=k+1/\ds++[cv] ≠ []:=by
      intro M1 h1 h2 h3;have hkc:=hA k aa;obtain⟨r,hix⟩:=jfx cs q (show k<cs.length by omega);have hw:=hkc.is;have hcp:=jlX (cs.getD k Col.none) hw.1 aa;obtain⟨dv',ts2,a1,a2,a3⟩:=GC.push (hp:=M1) hg hE.1 ⟨(cs.getD k Col.none).name,(cs.getD k Col.none).lo,(cs.getD k Col.none).hi,rowW (cs.getD k Col.none).ws,(cs.getD k Col.none).ws⟩ rfl .full aa;obtain⟨z1,z2⟩:=a2.cells;refine⟨⟨(cs.getD k Col.none).name,(cs.getD k Col.none).lo,(cs.getD k Col.none).hi,rowW (cs.getD k Col.none).ws,(cs.getD k Col.none).ws⟩,dv',ts2,r,hix,hcp,a1,z1,z2,?_,⟨by have:=h2.1;simp;omega,λx hx hxb hxP=>by rw[Kh (Ne.symm hxP)];exact h2.2 x hx hxb hxP⟩,Km (K4.1 h3).1,a2,hE.trans a3,hKd.add,by simp;omega,ae⟩;obtain⟨a,b1,b2⟩:=h1;exact⟨a,b1,by rw[Kh hPb];exact b2⟩
    have nxt:∀(M':List AObj) (ts2:List Nat) (ds':List Col) (dv':V),Has M' b xv xs->Kp2 H M' b P->M'[P]? = some (.cells [.str s,.bool pb,.int .i64 nn,dv'] 38)->GC ts.length ts2 dv' ds'->Ext ts.length ts ts2->SubC cs ds' (k+1)->ds'.length<=k+1->(f<((k+1:Nat):Int)->ds' ≠ []) ->
        ∃m',m'<5-k/\∃(M:List AObj) (ts':List Nat) (k2:Nat) (ds:List Col) (dv:V),(⟨M',ts2⟩:S)=⟨M,ts'⟩/\V.int .i64 ((k+1:Nat):Int)=.int .i64 k2/\Has M b xv xs/\Kp2 H M b P/\M[P]? = some (.cells [.str s,.bool pb,.int .i64 nn,dv] 38)/\GC ts.length ts' dv ds/\Ext ts.length ts ts'/\SubC cs ds k2/\k2<=5/\ds.length<=k2/\(f<k2->ds ≠ [])/\m'=5-k2 :=
      λM' ts2 ds' dv' h1 h2 h3 h4 h5 h6 h7 h8=>⟨5-(k+1),aa,M',ts2,k+1,ds',dv',rfl,rfl,h1,h2,h3,h4,h5,h6,aa,h7,h8,rfl⟩
    have ld4:=jaM;by_cases hkf:(k:Int)=f
    · have g1:((k:Int)=f)=True:=eq_true hkf
      obtain⟨cv,dv',ts2,r,x1,x2,x3,x4,x5,x6,x7,x8,x9,x10,x11,x12,x13⟩:=add M hM hKM hMP;simp -implicitDefEqProofs only[simprocAttr,yK,K0,jaa,tysc,t0,t3,t8,t9,u5,u6,u7,v0,v3,v8,v9,u10,c1,e1,g1,hMP,x1,ld4,x2,jar,jnx,x3,x4,x5];exact⟨ac,nxt _ _ _ _ x6 x7 x8 x9 x10 x11 x12 (λ_=>x13)⟩
    · have g1:((k:Int)=f)=False:=eq_false hkf
      obtain⟨k1,M1,hT1,hH1,hK1,hl1,p1,p2,_⟩:=jaS K hM 2 (by simp[In64]);have hPl:=(K4.1 hMP).1;have hMP1:M1[P]? = some (.cells [.str s,.bool pb,.int .i64 nn,dv] 38):=by rw[hK1.2 P hPl hPb];exact hMP
      have hKM1:Kp2 H M1 b P:=⟨Jp hKM.1 hK1.1,λx hx hxb hxP=>by rw[hK1.2 x (by have:=hKM.1;omega) hxb];exact hKM.2 x hx hxb hxP⟩;by_cases hk1:k1=1
      · have g2:(k1=1)=True:=eq_true hk1
        obtain⟨cv,dv',ts2,r,x1,x2,x3,x4,x5,x6,x7,x8,x9,x10,x11,x12,x13⟩:=add M1 hH1 hKM1 hMP1;simp -implicitDefEqProofs only[simprocAttr,yK,K0,jaa,tysc,t0,t3,t8,t9,u5,u6,u7,v0,v3,v8,v9,u10,c1,e1,g1,hT1,g2,hMP1,x1,ld4,x2,jar,jnx,x3,x4,x5];exact⟨ac,nxt _ _ _ _ x6 x7 x8 x9 x10 x11 x12 (λ_=>x13)⟩
      · have g2:(k1=1)=False:=eq_false hk1
        simp -implicitDefEqProofs only[simprocAttr,yK,K0,jaa,tysc,t0,t3,t8,t9,u5,u6,u7,v0,v3,v8,v9,u10,c1,e1,g1,hT1,g2];exact nxt _ _ _ _ hH1 hKM1 hMP1 hg hE (hKd.mono aa) aa (λhh=>hfd aa)
  · have hk:k=5:=by omega
    subst hk;have c1:¬((5:Nat):Int)<5:=aa;obtain⟨qd,rfl⟩:=jsa hg (hfd aa);have hne:=hfd aa;simp -implicitDefEqProofs only[simprocAttr,zK,K0,jaa,v0,v3,v8,v9,u10,c1];refine h _ M ts' ds qd ?_ ?_ ?_ ?_ ?_ ?_ hM hKM hMP hKd ?_ hdk hE
    all_goals first
      |assumption
      | (cases ds with
         |nil=>exact absurd rfl hne
         |cons x r=>simp)
end
section
variable {xv:V}{xs:List Int}(K:Tk xv xs)
include K
theorem jtO {Q:Post}{ks:List Kt}{T:Tm}{M:List AObj}{ts:List Nat}{b i:Nat}(hi:i<3)(t0:T 0=.ptr b 0)(t7:T 7=.int .i64 i)(hM:Has M b xv xs)
  (h:∀(T':Tm) (M1:List AObj) (k2:Int),T' 0=T 0->T' 3=T 3->T' 5=T 5->T' 6=T 6->T' 7=T 7->T' 8=.ptr M.length 0->Has M1 b xv xs->Kp M M1 b->M1.length=M.length->0<=k2->k2<4->G env 77 none 78 Q ks .skip T' [] ⟨M1++[.cells [.str (tabs.getD i []),.bool false,.int .i64 (1+k2),.nilsl] 38],ts⟩) :
  G env 77 none 78 Q ks (regB 11 (jaz Tryz.f77)) T [] ⟨M,ts⟩:=by
 simp only[jaz,Tryz.f77,Kr,regB,Option.or,Nat.reduceEqDiff,Kn,Kl,reduceIte];have hN0:=jnE;obtain⟨rt,hit⟩:=jtN hi;obtain⟨k2,M1,hT2,hH1,hK1,hl1,p3,p4,_⟩:=jhZ K hM 4 (by simp[In64]);have hp4:=p4 af;have e3:IntKind.i64.wrap (1+k2)=1+k2:=wrap_i64 aa aa;have b36:=jkM (tabs.getD i []) (1+k2);have hE1:∀o:AObj,(M1++[o])[M.length]? = some o:=λo=>by rw[<- hl1];exact jad _ _
 have hE2:∀o o':AObj,(M1++[o]).set M.length o'=M1++[o']:=λo o'=>by rw[<- hl1];exact jan _ _ _
 obtain⟨St,hSt⟩:∃St:Nat->S,∀c,St c=⟨(if c.testBit 5=true then M1 else M)++[if c.testBit 9=true then AObj.cells [.str (tabs.getD i []),.bool false,.int .i64 (1+k2),.nilsl] 38 else if c.testBit 8=true then AObj.cells [.str [],.bool false,.int .i64 0,.nilsl] 38 else .resv],ts⟩:=⟨_,λc=>rfl⟩
 have hI:∀j,j ≠ 5->j ≠ 8->j ≠ 9->∀c,St (c |||2^j)=St c:=λj h1 h2 h3 c=>by
  rw[hSt,hSt];simp only[jjj,h1,h2,h3,decide_false,Xr]
 refine jwC rfl St (L:=[.cells [.str [],.bool false,.int .i64 0,.nilsl] 38]) (masks:=[0,0,3,7,0,17,49,127,0,511]) ac ac ac ac (by rw[hSt];simp) ?_;have i0:=hI 0 af af af;have i1:=hI 1 af af af;have i2:=hI 2 af af af;have i3:=hI 3 af af af;have i4:=hI 4 af af af;have i6:=hI 6 af af af;have i7:=hI 7 af af af;simp -implicitDefEqProofs only[Nat.reduceGcd,Ka,Nat.reduceLT,Nat.reduceEqDiff,Kl,Kn,reduceIte,Ys,Y0,Int.reduceEq,Int.reduceLT,Int.reduceLE,Int.reduceNeg,mb,Nat.reduceBEq,tys,stb,K0,jaa,Nat.reduceAdd,Nat.reduceLeDiff,tysc,juF,joy,jwD,joz,joA,jrp,joB,Qv,joY,joX,Qp,Qs,QH,QP,t0,t7,-Ys,hN0,hit,jaq,hT2,e3,b36,i0,i1,i2,i3,i4,i6,i7,hE1,hE2];refine⟨λ_ _ _=>trivial,λ_ _ _=>trivial,λ_ _ _=>trivial,λ_ _ _=>trivial,λ_ _ _=>trivial,?_,λ_ _ _=>trivial,λ_ _ _=>trivial,?_,?_,?_,?_⟩
 ·rintro c _ ⟨a1,a2,a3⟩;have b9:c.testBit 9=false:=a3 9 af;rw[hSt,hSt];simp only[jjj,a1,b9,decide_true,Xj,Ku,Kn,Kl,Nat.reduceEqDiff,decide_false,Xr];exact hT2 _ _
 ·rintro c _ ⟨a1,a2,a3⟩;have b9:c.testBit 9=false:=a3 9 af;refine⟨38,_,rfl,tysc.2.2.2.2.2.2.2,?_,?_⟩
  ·rw[hSt];simp only[a1,b9,Ku,Kn];split
   ·rw[<- hl1];exact jad _ _
   ·exact jad _ _
  ·rw[hSt,hSt];simp only[jjj,a1,b9,decide_true,Xj,Ku,Kn,Kl,Nat.reduceEqDiff,decide_false,Xr,S.set];split
   ·rw[<- hl1,jan];rfl
   ·rw[jan];rfl
 ·rfl
 ·rintro c _ ⟨a1,a2,a3⟩;have b5:=a2 5 af af;have b8:=a2 8 af af;rw[hSt,hSt];simp only[jjj,a1,b5,b8,decide_true,Xj,Ku,Kn,Kl,hE1];simp -implicitDefEqProofs only[Nat.reduceGcd,Ka,Nat.reduceLT,Nat.reduceEqDiff,Kl,Kn,reduceIte,Ys,Y0,Int.reduceEq,Int.reduceLT,Int.reduceLE,Int.reduceNeg,mb,Nat.reduceBEq,tys,stb,K0,jaa,Nat.reduceAdd,Nat.reduceLeDiff,hE2];rfl
 ·exact⟨λc hc=>by rw[hSt];simp only[hc 5 af,hc 9 af,Kl],h _ M1 k2 rfl rfl rfl rfl rfl rfl hH1 hK1 hl1 p3 hp4⟩
end
section
variable {xv:V}{xs:List Int}(K:Tk xv xs)
include K
theorem jma {L:List AObj}{b:Nat}(hH:Has L b xv xs)(ts:List Nat) :
  ∃v U',jah env (ev env) 77 [.ptr b 0] ⟨L,ts⟩=some (v,U')/\∃(L':List AObj) (ts':List Nat) (cs:List Col) (ss:List Sch),U'=⟨L',ts'⟩/\GrowV ts.length ts' 4 v ss.length (jaY ss)/\AllC cs/\cs.length=5/\1<=ss.length/\ss.length<=3/\(∀i,i<ss.length->KitS cs i (ss.getD i Sch.none))/\Kp L L' b/\Has L' b xv xs/\Ext ts.length ts ts':=by
 refine jaD at77 rfl ?_;have hN1:=jnF;simp -implicitDefEqProofs only[Tryz.f77,simprocAttr,zK,Vq]
 refine jau (λm T D U=>D=[]/\T 0=.ptr b 0/\∃(M:List AObj) (ts':List Nat) (cs:List Col) (v:V),U=⟨M,ts'⟩/\T 3=v/\GC ts.length ts' v cs/\Ext ts.length ts ts'/\AllC cs/\T 4=.int .i64 cs.length/\Has M b xv xs/\Kp L M b/\cs.length<=5/\m=5-cs.length) ?_ (5-0) _ _ _
  ⟨rfl,rfl,L,ts,[],.nilsl,rfl,rfl,.nil,.rfl' _ _,λj hj=>by simp at hj,rfl,hH,.rfl' _ _,ae,rfl⟩
 rintro m T D U ⟨rfl,t0,M,ts',cs,v,rfl,t3,hg,hE,hA,t4,hM,hKM,hcl,rfl⟩;refine jaC ?_;by_cases hlt:cs.length<5
 ·have c1:(cs.length:Int)<5:=by omega
  have e1:IntKind.i64.wrap ((cs.length:Int)+1)=((cs.length+1:Nat):Int):=by rw[wrap_i64 aa aa];omega
  obtain⟨r,hix⟩:=jtM hlt;obtain⟨cv,_,hC,c,M',rfl,rfl,hM',hK',hkc⟩:=jkT K hM (ages.getD cs.length []) ts';have hcell:=jbf hkc.is.1;obtain⟨v',ts2,hP,hg',hE'⟩:=GC.push (hp:=M') hg hE.1 c hcell .full aa;unfold aggC at hC;simp -implicitDefEqProofs only[simprocAttr,yK,K0,jaa,t0,t3,t4,c1,e1,hN1,hix,jaq,hC,jar,jnx,hP];exact⟨5-(cs.length+1),aa,M',ts2,cs++[c],v',rfl,rfl,hg',hE.trans hE',hA.add hkc,ae,hM',hKM.trans hK',by simp;omega,ae⟩
 ·have h5:cs.length=5:=by omega
  have c1:¬(cs.length:Int)<5:=aa;obtain⟨k1,M1,hT1,hH1,hK1,hl1,p1,p2,_⟩:=jaS K hM 3 (by simp[In64]);have hp2:=p2 af;obtain⟨n,hn⟩:∃n:Nat,1+k1=(n:Int):=⟨(1+k1).toNat,aa⟩;have e1:IntKind.i64.wrap (1+k1)=(n:Int):=by rw[wrap_i64 aa aa];exact hn
  obtain⟨q,rfl⟩:=hg.isrow aa;have hKM1:Kp L M1 b:=hKM.trans hK1;simp -implicitDefEqProofs only[simprocAttr,zK,K0,jaa,t0,t3,t4,c1,hT1,e1]
  refine jau (λm T D U=>D=[]/\T 0=.ptr b 0/\T 3=.row (jaO cs) cs.length q/\T 5=.int .i64 n/\∃(M:List AObj) (ts':List Nat) (i:Nat) (ss:List Sch) (v:V),U=⟨M,ts'⟩/\T 6=v/\GrowV ts.length ts' 4 v i (jaY ss)/\Ext ts.length ts ts'/\T 7=.int .i64 i/\Has M b xv xs/\Kp L M b/\i<=n/\(ss.length=i/\∀j,j<i->KitS cs j (ss.getD j Sch.none))/\m=n-i) ?_ (n-0) _ _ _
   ⟨rfl,t0,t3,rfl,M1,ts',0,[],.nilsl,rfl,rfl,.nil,hE,rfl,hH1,hKM1,Qm _,⟨rfl,λj h=>aa⟩,rfl⟩
  clear hK1 hKM1 hH1 hT1 hl1 M1 hM hKM M t0 t3 t4 T hE hg ts';rintro m T D U ⟨rfl,t0,t3,t5,M,ts',i,ss,v,rfl,t6,hg,hE,t7,hM,hKM,hin,⟨hsl,hss⟩,rfl⟩;refine jaC ?_;by_cases hlt:i<n
  ·have c2:(i:Int)<(n:Int):=by omega
   have e2:IntKind.i64.wrap ((i:Int)+1)=((i+1:Nat):Int):=by rw[wrap_i64 aa aa];omega
   simp -implicitDefEqProofs only[simprocAttr,zK,K0,jaa,t0,t3,t5,t6,t7,c2];refine jtO K (show i<3 by omega) t0 t7 hM λT' M1 k2 u0 u3 u5 u6 u7 u8 hH1 hK1 hl1 q3 q4 => ?_
   have v0:T' 0=.ptr b 0:=u0.trans t0;have v3:T' 3=.row (jaO cs) cs.length q:=u3.trans t3;have v5:T' 5=.int .i64 n:=u5.trans t5;have v6:T' 6=v:=u6.trans t6;have v7:T' 7=.int .i64 i:=u7.trans t7;have hHn:=hH1.app [.cells [.str (tabs.getD i []),.bool false,.int .i64 (1+k2),.nilsl] 38];have hbM:b<M.length:=hM.lt;have hPb:M.length ≠ b:=aa;have hKn:Kp L (M1++[.cells [.str (tabs.getD i []),.bool false,.int .i64 (1+k2),.nilsl] 38]) b:=(hKM.trans hK1).trans (Kp.app _ _);have hPn:(M1++[AObj.cells [.str (tabs.getD i []),.bool false,.int .i64 (1+k2),.nilsl] 38])[M.length]? = some (.cells [.str (tabs.getD i []),.bool false,.int .i64 (1+k2),.nilsl] 38):=by rw[<- hl1];exact jad _ _
   have hLM:=hKM.1;generalize M1++[AObj.cells [.str (tabs.getD i []),.bool false,.int .i64 (1+k2),.nilsl] 38]=H at *;clear hH1 hK1 hl1 t0 t3 t5 t6 t7 u0 u3 u5 u6 u7 M1 T
   -- what follows the loop over the columns
   have fin:∀(H2 H':List AObj) (ts2:List Nat) (ds:List Col) (qd:RCap) (pb:Bool) (nn:Int),Has H' b xv xs->Kp L H2 b->Kp2 H2 H' b M.length->SubC cs ds 5->1<=ds.length->ds.length<=5->Ext ts'.length ts' ts2->((pb=true/\nn=0/\1<=i)\/(pb=false/\1<=nn/\nn<=4)) ->
     ∃v' ts3,appO env false ⟨H',ts2⟩ 24 24 v (.row [.str (tabs.getD i []),.bool pb,.int .i64 nn,.row (jaO ds) ds.length qd] 1 .full)=some (v',⟨H',ts3⟩) /\
      ∃m',m'<n-i/\∃(M:List AObj) (ts':List Nat) (i2:Nat) (ss:List Sch) (v:V),(⟨H',ts3⟩:S)=⟨M,ts'⟩/\v'=v/\GrowV ts.length ts' 4 v i2 (jaY ss)/\Ext ts.length ts ts'/\V.int .i64 ((i+1:Nat):Int)=.int .i64 i2/\Has M b xv xs/\Kp L M b/\i2<=n/\(ss.length=i2/\∀j,j<i2->KitS cs j (ss.getD j Sch.none))/\m'=n-i2:=by
    intro H2 H' ts2 ds qd pb nn f1 f2 f3 f4 f5 f6 f7 f8;have hlim:lim=2^40:=rfl;have hb2:ts.length<=ts2.length:=Jp hE.1 f7.1;obtain⟨v',ts3,a1,a2,a3⟩:=GrowV.push (E:=env) (hp:=H') (q:=.full) (new:=[.str (tabs.getD i []),.bool pb,.int .i64 nn,.row (jaO ds) ds.length qd]) eS ⟨38,eS.slice⟩ (hg.ext f7) hb2 rfl rfl ⟨by rw[hlim];omega,by rw[hlim];omega⟩;have hnew:jaY (ss++[⟨tabs.getD i [],pb,nn,.row (jaO ds) ds.length qd,ds⟩])=jaY ss++[.str (tabs.getD i []),.bool pb,.int .i64 nn,.row (jaO ds) ds.length qd]:=by simp[jaY,Sch.cells]
    rw[<- hnew]at a2;refine⟨v',ts3,a1,n-(i+1),aa,H',ts3,i+1,ss++[⟨tabs.getD i [],pb,nn,.row (jaO ds) ds.length qd,ds⟩],v',rfl,rfl,a2,(hE.trans (f7.mono hE.1)).trans a3,rfl,f1,⟨Jp f2.1 f3.1,λx hx hxb=>by rw[f3.2 x (by have:=f2.1;omega) hxb aa];exact f2.2 x hx hxb⟩,aa,⟨by simp[hsl],λj hj => ?_⟩,rfl⟩
    rcases Ql j i with h|h
    ·rw[show(ss++[(⟨tabs.getD i [],pb,nn,.row (jaO ds) ds.length qd,ds⟩:Sch)]).getD j Sch.none=ss.getD j Sch.none by simp[List.getD,Kj (show j<ss.length by omega)]];exact hss j h
    ·have e:j=i:=by omega
     subst e;rw[show(ss++[(⟨tabs.getD j [],pb,nn,.row (jaO ds) ds.length qd,ds⟩:Sch)]).getD j Sch.none=⟨tabs.getD j [],pb,nn,.row (jaO ds) ds.length qd,ds⟩ by subst hsl;simp[List.getD]];exact⟨rfl,f4,f5,f6,f8,qd,rfl⟩
   by_cases hi0:i=0
   ·have c3:((i:Int)>0)=False:=eq_false aa;obtain⟨k4,H4,hT4,hH4,hK4,hl4,p5,p6,_⟩:=jaS K hHn 5 (by simp[In64]);have hp6:=p6 af;have hP4:H4[M.length]? = _:=(hK4.2 _ (K4.1 hPn).1 hPb).trans hPn;simp -implicitDefEqProofs only[simprocAttr,zK,K0,jaa,tysc,v0,v3,v5,v6,v7,u8,c3,hT4];refine jhl K hPb hA h5 p5 hp6 v0 v3 u8 rfl rfl hH4 hP4 λT2 H' ts2 ds qd w0 w3 w5 w6 w7 w8 f1 f2 f3 f4 f5 f6 f7 => ?_
    have z0:T2 0=.ptr b 0:=w0.trans v0;have z3:T2 3=.row (jaO cs) cs.length q:=w3.trans v3;have z5:T2 5=.int .i64 n:=w5.trans v5;have z6:T2 6=v:=w6.trans v6;have z7:T2 7=.int .i64 i:=w7.trans v7;have z8:T2 8=.ptr M.length 0:=w8.trans u8;obtain⟨v',ts3,a1,a2⟩:=fin H4 H' ts2 ds qd false (1+k2) f1 (hKn.trans hK4) f2 f4 f5 f6 f7 (.inr ⟨rfl,aa,aa⟩);have ld:=jiN f3;simp -implicitDefEqProofs only[simprocAttr,zK,K0,jaa,tysc,z0,z3,z5,z6,z7,z8,e2,ld,jar,jvE,a1];exact a2
   ·have c3:((i:Int)>0)=True:=eq_true aa;obtain⟨k3,H3,hT3,hH3,hK3,hl3,p7,p8,_⟩:=jaS K hHn 3 (by simp[In64]);have hp8:=p8 af;have hP3:H3[M.length]? = _:=(hK3.2 _ (K4.1 hPn).1 hPb).trans hPn;by_cases hk3:k3=1
    ·have g3:(k3=1)=True:=eq_true hk3;have hS1:∀o,(H3.set M.length o)[M.length]? = some o:=λo=>Km (K4.1 hP3).1
     have hHs:∀o,Has (H3.set M.length o) b xv xs:=λo=>by
      obtain⟨a,b1,b2⟩:=hH3;exact⟨a,b1,by rw[Kh hPb];exact b2⟩
     obtain⟨k4,H4,hT4,hH4,hK4,hl4,p5,p6,_⟩:=jaS K (hHs (.cells [.str (tabs.getD i []),.bool true,.int .i64 0,.nilsl] 38)) 5 (by simp[In64]);have hp6:=p6 af;have hP4:H4[M.length]? = _:=(hK4.2 _ (K4.1 (hS1 _)).1 hPb).trans (hS1 _);simp -implicitDefEqProofs only[simprocAttr,zK,K0,jaa,tysc,v0,v3,v5,v6,v7,u8,c3,hT3,g3,hP3,hS1,Xo,jam,jac,jbq,Vs,hT4];refine jhl K hPb hA h5 p5 hp6 v0 v3 u8 rfl rfl hH4 hP4 λT2 H' ts2 ds qd w0 w3 w5 w6 w7 w8 f1 f2 f3 f4 f5 f6 f7 => ?_
     have z0:T2 0=.ptr b 0:=w0.trans v0;have z3:T2 3=.row (jaO cs) cs.length q:=w3.trans v3;have z5:T2 5=.int .i64 n:=w5.trans v5;have z6:T2 6=v:=w6.trans v6;have z7:T2 7=.int .i64 i:=w7.trans v7;have z8:T2 8=.ptr M.length 0:=w8.trans u8
     have hKs:Kp L (H3.set M.length (.cells [.str (tabs.getD i []),.bool true,.int .i64 0,.nilsl] 38)) b:=by
      have hk:=hKn.trans hK3;exact⟨by have:=hk.1;simp;omega,λx hx hxb=>by rw[Kh aa];exact hk.2 x hx hxb⟩
     obtain⟨v',ts3,a1,a2⟩:=fin H4 H' ts2 ds qd true 0 f1 (hKs.trans hK4) f2 f4 f5 f6 f7 (.inl ⟨rfl,rfl,aa⟩);have ld:=jiN f3;simp -implicitDefEqProofs only[simprocAttr,zK,K0,jaa,tysc,z0,z3,z5,z6,z7,z8,e2,ld,jar,jvE,a1];exact a2
    ·have g3:(k3=1)=False:=eq_false hk3;obtain⟨k4,H4,hT4,hH4,hK4,hl4,p5,p6,_⟩:=jaS K hH3 5 (by simp[In64]);have hp6:=p6 af;have hP4:H4[M.length]? = _:=(hK4.2 _ (K4.1 hP3).1 hPb).trans hP3;simp -implicitDefEqProofs only[simprocAttr,zK,K0,jaa,tysc,v0,v3,v5,v6,v7,u8,c3,hT3,g3,hT4];refine jhl K hPb hA h5 p5 hp6 v0 v3 u8 rfl rfl hH4 hP4 λT2 H' ts2 ds qd w0 w3 w5 w6 w7 w8 f1 f2 f3 f4 f5 f6 f7 => ?_
     have z0:T2 0=.ptr b 0:=w0.trans v0;have z3:T2 3=.row (jaO cs) cs.length q:=w3.trans v3;have z5:T2 5=.int .i64 n:=w5.trans v5;have z6:T2 6=v:=w6.trans v6;have z7:T2 7=.int .i64 i:=w7.trans v7;have z8:T2 8=.ptr M.length 0:=w8.trans u8;obtain⟨v',ts3,a1,a2⟩:=fin H4 H' ts2 ds qd false (1+k2) f1 ((hKn.trans hK3).trans hK4) f2 f4 f5 f6 f7 (.inr ⟨rfl,aa,aa⟩);have ld:=jiN f3;simp -implicitDefEqProofs only[simprocAttr,zK,K0,jaa,tysc,z0,z3,z5,z6,z7,z8,e2,ld,jar,jvE,a1];exact a2
  ·have hie:i=n:=by omega
   subst hie;have c2:¬(i:Int)<(i:Int):=aa;simp -implicitDefEqProofs only[simprocAttr,zK,K0,jaa,t0,t3,t5,t6,t7,c2];exact⟨M,ts',cs,ss,rfl,by rw[hsl];exact hg,hA,h5,aa,aa,by rw[hsl];exact hss,hKM,hM,hE⟩
end
section
variable {cs:List Col}(h:Kits cs)
include h
theorem Kits.ok:OkC cs:=λc hc=>(h c hc).2.1
theorem Kits.ws:∀i,i<cs.length->(cs.getD i Col.none).ws.length<=1000:=λi hi=>by
 have hm:cs.getD i Col.none∈cs:=by rw[List.getD,Kz hi];exact J7 hi
 rcases(h _ hm).2.2 with⟨e,_⟩|⟨k,h1,h2,e,_⟩
 ·rw[e];simp
 ·rw[e,Qx];omega
end
theorem jzi:env.P.funcs[163]? = some Tryz.f163:=ac
theorem at81:env.P.funcs[81]? = some Tryz.f81:=ac
theorem jzj(a b c d e:Int):rowO env 22 5 [(0,.int .i64 a),(1,.int .i64 b),(2,.int .i64 c),(3,.int .i64 d),(4,.int .i64 e)]=some (.row [.int .i64 a,.int .i64 b,.int .i64 c,.int .i64 d,.int .i64 e] 5 .full):=ac
theorem jtP {k:Int}(h0:0<=k)(h:k<5):∃(n:Int) (r:List V),0<=n/\n<=1000000000/\jaw 1 (.row [.int .i64 0,.int .i64 1,.int .i64 2,.int .i64 1000000,.int .i64 1000000000] 5 .full) (.int .i64 k)=some (.rptr (.int .i64 n::r)):=by
 have:k=0\/k=1\/k=2\/k=3\/k=4:=aa
 rcases this with rfl|rfl|rfl|rfl|rfl
 ·exact⟨0,_,af,af,rfl⟩
 ·exact⟨1,_,af,af,rfl⟩
 ·exact⟨2,_,af,af,rfl⟩
 ·exact⟨1000000,_,af,af,rfl⟩
 ·exact⟨1000000000,_,af,af,rfl⟩
def bnd:Nat->Nat
 |0=>3
 |d+1=>3*bnd d+1
theorem jiO:∀d,3<=bnd d
 |0=>Kw _
 |d+1=>by have:=jiO d;simp only[bnd];omega
def jhK(f:FuncId)(k:Int)(xv:V)(xs:List Int)(cs:List Col)(q:RCap)(d:Nat):Prop :=
 ∀(L:List AObj) (b:Nat) (ts:List Nat),Has L b xv xs->∃v U',jah env (ev env) f [.ptr b 0,.row (jaO cs) cs.length q,.int .i64 d] ⟨L,ts⟩=some (v,U') /\
  ∃(e:Ex) (L':List AObj) (ts':List Nat),U'=⟨L',ts'⟩/\Has L' b xv xs/\Kp L L' b/\GN ts.length ts' v e.post/\Ext ts.length ts ts'/\WF cs e/\e.kind=k/\e.post.length<=bnd d
theorem jsb {d:Nat}(h:d<=2):bnd d<=31:=by
 have:d=0\/d=1\/d=2:=aa
 rcases this with rfl|rfl|rfl<;>decide
theorem jtQ {f1 f2:FuncId}{ka kb:Int}{xv:V}{xs:List Int}{cs:List Col}{q:RCap}{d:Nat}(D1:jhK f1 ka xv xs cs q d)(D2:jhK f2 kb xv xs cs q d)(hd:d<=2){M:List AObj}{b:Nat}(ts:List Nat)(hM:Has M b xv xs) :
  ∃(v1:V) (L1:List AObj) (ts1:List Nat) (v2:V) (L2:List AObj) (ts2:List Nat) (v3:V) (ts3:List Nat) (e1 e2:Ex),
   jah env (ev env) f1 [.ptr b 0,.row (jaO cs) cs.length q,.int .i64 d] ⟨M,ts⟩=some (v1,⟨L1,ts1⟩)/\jah env (ev env) f2 [.ptr b 0,.row (jaO cs) cs.length q,.int .i64 d] ⟨L1,ts1⟩=some (v2,⟨L2,ts2⟩)/\appO env false ⟨L2,ts2⟩ 26 26 v1 v2=some (v3,⟨L2,ts3⟩) /\
   Has L2 b xv xs/\Kp M L2 b/\GN ts.length ts3 v3 (e1.post++e2.post)/\Ext ts.length ts ts3/\ts.length<=ts3.length/\WF cs e1/\WF cs e2/\e1.kind=ka/\e2.kind=kb/\e1.post.length<=bnd d/\e2.post.length<=bnd d:=by
 obtain⟨v1,_,c1,e1,L1,ts1,rfl,a1,a2,a3,a4,a5,a6,a7⟩:=D1 M b ts hM;obtain⟨v2,_,c2,e2,L2,ts2,rfl,b1,b2,b3,b4,b5,b6,b7⟩:=D2 L1 b ts1 a1;have:=jsb hd;have g1:=a3.ext b4;obtain⟨v3,ts3,c3,g3,x3⟩:=GN.append (hp:=L2) g1 (Jp a4.1 b4.1) b3.vlen (b3.vcells L2) aa aa;have x:Ext ts.length ts ts3:=(a4.trans (b4.mono a4.1)).trans x3;exact⟨v1,L1,ts1,v2,L2,ts2,v3,ts3,e1,e2,c1,c2,c3,b1,a2.trans b2,g3,x,x.1,a5,b5,a6,b6,a7,b7⟩
section
variable {xv:V}{xs:List Int}(K:Tk xv xs){cs:List Col}(q:RCap)(ok:OkC cs)(h1:1<=cs.length)(h2:cs.length<=1000)(hws:∀i,i<cs.length->(cs.getD i Col.none).ws.length<=1000)
include K ok h1 h2 hws
theorem jhA(d:Nat)(hd:d<=3)(ihO:∀d',d=d'+1->jhK 163 0 xv xs cs q d')(ihC:∀d',d=d'+1->jhK 81 1 xv xs cs q d'):jhK 163 0 xv xs cs q d:=by
 intro L b ts hH;have hbl:=hH.lt;obtain⟨k0,M0,hT0,hH0,hK0,hl0,p1,p2,_⟩:=jaS K hH (cs.length:Int) (by unfold In64;omega);have hp2:=p2 aa;obtain⟨i,hi⟩:∃i:Nat,k0=(i:Int):=⟨k0.toNat,aa⟩;subst hi;have hi:i<cs.length:=aa;obtain⟨rr,hix⟩:=jfx cs q hi;have hwc:=jbf (ok.at hi);generalize hc:cs.getD i Col.none=c at *;obtain⟨k1,M1,hT1,hH1,hK1,hl1,p3,p4,_⟩:=jaS K (hH0.app [AObj.cells [V.str c.name,V.int .i64 c.lo,V.int .i64 c.hi,c.w] 41]) 8 (by simp[In64]);have hp4:=p4 af;have hG1:M1[M0.length]? = some (.cells [V.str c.name,V.int .i64 c.lo,V.int .i64 c.hi,c.w] 41):=by rw[hK1.2 _ ae aa];exact jad _ _
 have hKL1:Kp L M1 b:=(hK0.trans (Kp.app _ _)).trans hK1;have ld4:=jaM;refine jaD jzi rfl ?_;by_cases hleaf:d=0\/k1<3
 ·-- a number or a column
  have hleafG:((d:Int)<1)=True\/(((d:Int)<1)=False/\(k1<3)=True):=by
   rcases hleaf with h|h
   ·exact .inl (eq_true aa)
   ·by_cases h0:d=0
    ·exact .inl (eq_true aa)
    ·exact .inr ⟨eq_false aa,eq_true h⟩
  by_cases hk1:k1=1
  ·have g1:(k1=1)=True:=eq_true hk1;obtain⟨k2,M2,hT2,hH2,hK2,hl2,p5,p6,_⟩:=jaS K hH1 12 (by simp[In64]);have hp6:=p6 af;have b52:=jhX 1 k2
   have fin:∃(e:Ex) (L':List AObj) (ts':List Nat),(⟨M2,ts⟩:S)=⟨L',ts'⟩/\Has L' b xv xs/\Kp L L' b/\GN ts.length ts' (.row [.int .i64 1,.int .i64 k2,.str []] 1 .full) e.post/\Ext ts.length ts ts'/\WF cs e/\e.kind=0/\e.post.length<=bnd d :=
    ⟨.num k2,M2,ts,rfl,hH2,hKL1.trans hK2,GN.full _ _ [⟨1,k2,[]⟩],.rfl' _ _,⟨p5,aa⟩,rfl,by have:=jiO d;simp[Ex.post];omega⟩
   rcases hleafG with g0|⟨g0,g3⟩
   ·simp only[Nat.reduceGcd,Tryz.f163,Ka,Nat.reduceLT,Nat.reduceEqDiff,Kl,Kn,reduceIte,Ys,Y0,Int.reduceEq,Int.reduceLT,Int.reduceLE,Int.reduceNeg,mb,Nat.reduceBEq,tys,stb,K0,jaa,Nat.reduceAdd,Nat.reduceLeDiff,-Ys,hT0,hix,ld4,jac,jae,hwc,hT1,jad,jan,g0,g1,hT2,b52,jar,jhJ];exact fin
   ·simp only[Nat.reduceGcd,Tryz.f163,Ka,Nat.reduceLT,Nat.reduceEqDiff,Kl,Kn,reduceIte,Ys,Y0,Int.reduceEq,Int.reduceLT,Int.reduceLE,Int.reduceNeg,mb,Nat.reduceBEq,tys,stb,K0,jaa,Nat.reduceAdd,Nat.reduceLeDiff,-Ys,hT0,hix,ld4,jac,jae,hwc,hT1,jad,jan,g0,g3,g1,hT2,b52,jar,jhJ];exact fin
  ·have g1:(k1=1)=False:=eq_false hk1;have b52:=jhW c.name
   have fin:∃(e:Ex) (L':List AObj) (ts':List Nat),(⟨M1,ts⟩:S)=⟨L',ts'⟩/\Has L' b xv xs/\Kp L L' b/\GN ts.length ts' (.row [.int .i64 2,.int .i64 0,.str c.name] 1 .full) e.post/\Ext ts.length ts ts'/\WF cs e/\e.kind=0/\e.post.length<=bnd d :=
    ⟨.col c.name,M1,ts,rfl,hH1,hKL1,GN.full _ _ [⟨2,0,c.name⟩],.rfl' _ _,by unfold WF;rw[<- hc];exact joV hi,rfl,by have:=jiO d;simp[Ex.post];omega⟩
   rcases hleafG with g0|⟨g0,g3⟩
   ·simp only[Nat.reduceGcd,Tryz.f163,Ka,Nat.reduceLT,Nat.reduceEqDiff,Kl,Kn,reduceIte,Ys,Y0,Int.reduceEq,Int.reduceLT,Int.reduceLE,Int.reduceNeg,mb,Nat.reduceBEq,tys,stb,K0,jaa,Nat.reduceAdd,Nat.reduceLeDiff,-Ys,hT0,hix,ld4,jac,jae,hwc,hT1,jad,jan,g0,g1,hG1,b52,jar,jhJ];exact fin
   ·simp only[Nat.reduceGcd,Tryz.f163,Ka,Nat.reduceLT,Nat.reduceEqDiff,Kl,Kn,reduceIte,Ys,Y0,Int.reduceEq,Int.reduceLT,Int.reduceLE,Int.reduceNeg,mb,Nat.reduceBEq,tys,stb,K0,jaa,Nat.reduceAdd,Nat.reduceLeDiff,-Ys,hT0,hix,ld4,jac,jae,hwc,hT1,jad,jan,g0,g3,g1,hG1,b52,jar,jhJ];exact fin
 -- deeper
 have hd0:d ≠ 0:=λh=>hleaf (.inl h)
 obtain⟨d',rfl⟩:∃d',d=d'+1:=⟨d-1,aa⟩;have g0:(((d'+1:Nat):Int)<1)=False:=eq_false aa;have g3:(k1<3)=False:=eq_false (λh=>hleaf (.inr h));have ed:IntKind.i64.wrap (((d'+1:Nat):Int)-1)=(d':Int):=by rw[wrap_i64 aa aa];omega
 have dO:=ihO d' rfl;have dC:=ihC d' rfl;have hbd:=jsb (show d'<=2 by omega);have hbs:bnd (d'+1)=3*bnd d'+1:=rfl;obtain⟨k3,M2,hT2,hH2,hK2,hl2,p5,p6,_⟩:=jaS K hH1 6 (by simp[In64]);have hp6:=p6 af;have hKL2:Kp L M2 b:=hKL1.trans hK2;by_cases c012:k3=0\/k3=1\/k3=2
 ·obtain⟨v1,L1,ts1,v2,L2,ts2,v3,ts3,e1,e2,r1,r2,r3,a1,a2,a3,a4,a5,a6,a7,a8,a9,a10,a11⟩:=jtQ dO dO aa ts hH2;have e5:IntKind.i64.wrap (4+k3)=4+k3:=wrap_i64 aa aa;have b52:=jej (4+k3);obtain⟨v4,ts4,r4,a12,a13⟩:=GN.push (hp:=L2) a3 a5 (opN (4+k3)) .full (by rw[Kk];omega);simp only at r4;have ho:4+k3=4\/4+k3=5\/4+k3=6:=aa
  have fin:∃(e:Ex) (L':List AObj) (ts':List Nat),(⟨L2,ts4⟩:S)=⟨L',ts'⟩/\Has L' b xv xs/\Kp L L' b/\GN ts.length ts' v4 e.post/\Ext ts.length ts ts'/\WF cs e/\e.kind=0/\e.post.length<=bnd (d'+1) :=
   ⟨.bin (4+k3) e1 e2,L2,ts4,rfl,a1,hKL2.trans a2,by simp only[Ex.post];rw[<- K7];exact a12,a4.trans a13,⟨a6,a7,⟨aa,aa,aa,aa⟩,by rw[a8,a9];rcases ho with h|h|h<;>rw[h]<;>rfl⟩,by unfold Ex.kind;rcases ho with h|h|h<;>rw[h]<;>rfl,by simp only[Ex.post,Kk,Qh,Qr];omega⟩
  rcases c012 with rfl|rfl|rfl
  all_goals
   simp only[Nat.reduceGcd,Tryz.f163,Ka,Nat.reduceLT,Nat.reduceEqDiff,Kl,Kn,reduceIte,Ys,Y0,Int.reduceEq,Int.reduceLT,Int.reduceLE,Int.reduceNeg,mb,Nat.reduceBEq,tys,stb,K0,jaa,Nat.reduceAdd,Nat.reduceLeDiff,-Ys,hT0,hix,ld4,jac,jae,hwc,hT1,jad,jan,g0,g3,hT2,ed,r1,r2,r3,e5,b52,jar,jhJ,r4];exact fin
 have n0:(k3=0)=False:=eq_false aa;have n1:(k3=1)=False:=eq_false aa;have n2:(k3=2)=False:=eq_false aa;by_cases c3:k3=3
 ·have n3:(k3=3)=True:=eq_true c3;obtain⟨v1,_,r1,e1,L1,ts1,rfl,a1,a2,a3,a4,a6,a8,a10⟩:=dO M2 b ts hH2;have b52:=jej 7;obtain⟨v4,ts4,r4,a12,a13⟩:=GN.push (hp:=L1) a3 a4.1 (opN 7) .full aa;simp only at r4;simp only[Nat.reduceGcd,Tryz.f163,Ka,Nat.reduceLT,Nat.reduceEqDiff,Kl,Kn,reduceIte,Ys,Y0,Int.reduceEq,Int.reduceLT,Int.reduceLE,Int.reduceNeg,mb,Nat.reduceBEq,tys,stb,K0,jaa,Nat.reduceAdd,Nat.reduceLeDiff,-Ys,hT0,hix,ld4,jac,jae,hwc,hT1,jad,jan,g0,g3,n0,n1,n2,n3,hT2,ed,r1,b52,jar,jhJ,r4];exact⟨.una 7 e1,L1,ts4,rfl,a1,hKL2.trans a2,a12,a4.trans a13,⟨a6,.inl rfl,by rw[a8];rfl⟩,rfl,by simp only[Ex.post,Kk,Qh,Qr];omega⟩
 have n3:(k3=3)=False:=eq_false c3;by_cases c4:k3=4
 ·have n4:(k3=4)=True:=eq_true c4;obtain⟨k4,M3,hT3,hH3,hK3,hl3,p7,p8,_⟩:=jaS K hH2 5 (by simp[In64]);have hp8:=p8 af;obtain⟨nn,rr2,z1,z2,hin⟩:=jtP p7 hp8;have b52:=jhX 1 nn;simp only[Nat.reduceGcd,Tryz.f163,Ka,Nat.reduceLT,Nat.reduceEqDiff,Kl,Kn,reduceIte,Ys,Y0,Int.reduceEq,Int.reduceLT,Int.reduceLE,Int.reduceNeg,mb,Nat.reduceBEq,tys,stb,K0,jaa,Nat.reduceAdd,Nat.reduceLeDiff,-Ys,hT0,hix,ld4,jac,jae,hwc,hT1,jad,jan,g0,g3,n0,n1,n2,n3,n4,hT2,hT3,jar,jzj,hin,jaq,b52,jhJ];exact⟨.num nn,M3,ts,rfl,hH3,hKL2.trans hK3,GN.full _ _ [⟨1,nn,[]⟩],.rfl' _ _,⟨z1,z2⟩,rfl,by simp[Ex.post];omega⟩
 have n4:(k3=4)=False:=eq_false c4;obtain⟨v1,L1,ts1,v2,L2,ts2,v3,ts3,e1,e2,r1,r2,r3,a1,a2,a3,a4,a5,a6,a7,a8,a9,a10,a11⟩:=jtQ dC dO aa ts hH2;obtain⟨w1,_,s1,e3,L3,ts4,rfl,b1,b2,b3,b4,b5,b6,b7⟩:=dO L2 b ts3 a1;have b52:=jej 8;obtain⟨w2,ts5,s2,b8,b9⟩:=GN.append (hp:=L3) (a3.ext b4) (Jp a5 b4.1) b3.vlen (b3.vcells L3) (by rw[Kk];omega) aa;obtain⟨w3,ts6,s3,b10,b11⟩:=GN.push (hp:=L3) b8 (Jp (Jp a5 b4.1) b9.1) (opN 8) .full (by rw[Kk,Kk];omega);simp only at s3;simp only[Nat.reduceGcd,Tryz.f163,Ka,Nat.reduceLT,Nat.reduceEqDiff,Kl,Kn,reduceIte,Ys,Y0,Int.reduceEq,Int.reduceLT,Int.reduceLE,Int.reduceNeg,mb,Nat.reduceBEq,tys,stb,K0,jaa,Nat.reduceAdd,Nat.reduceLeDiff,-Ys,hT0,hix,ld4,jac,jae,hwc,hT1,jad,jan,g0,g3,n0,n1,n2,n3,n4,hT2,ed,r1,r2,r3,s1,s2,b52,jar,jhJ,s3];exact⟨.ite e1 e2 e3,L3,ts6,rfl,b1,(hKL2.trans a2).trans b2,by simp only[Ex.post];rw[<- K7,<- K7];exact b10,((a4.trans (b4.mono a5)).trans b9).trans b11,⟨a6,a7,b5,a8,a9,b6⟩,rfl,by simp only[Ex.post,Kk,Qh,Qr];omega⟩
end
theorem jxc {w:V}{ws:List (List UInt8)}(h:IsW w ws)(e:TypeId):jbb (some (.slice e)) w=some (.int .i64 ws.length):=by rcases h with⟨rfl,rfl⟩|rfl<;>simp[jbb]
theorem jxd {w:V}{ws:List (List UInt8)}(h:IsW w ws){i:Nat}(hi:i<ws.length):∃r,jaw 1 w (.int .i64 i)=some (.rptr (.str (ws.getD i [])::r)):=by
 rcases h with⟨rfl,rfl⟩|rfl
 ·simp at hi
 ·refine⟨(ws.map V.str).drop (i+1),?_⟩;rw[Ys,Kg aa,Qj,Xc,Qk (by simpa using hi)];simp[List.getD,hi]
theorem jmb {op:Int}(h1:9<=op)(h2:op<=14):jbi op=([0,0],1):=by
 have:op=9\/op=10\/op=11\/op=12\/op=13\/op=14:=aa
 rcases this with rfl|rfl|rfl|rfl|rfl|rfl<;>rfl
theorem jxe {x:Int}(h:0<=x):Int.tmod x 2=x % 2:=Int.tmod_eq_emod_of_nonneg h
section
variable {xv:V}{xs:List Int}(K:Tk xv xs){cs:List Col}(q:RCap)(ok:OkC cs)(h1:1<=cs.length)(h2:cs.length<=1000)(hws:∀i,i<cs.length->(cs.getD i Col.none).ws.length<=1000)
include K ok h1 h2 hws
open Classical in
theorem jgd(d:Nat)(hd:d<=3)(ihO:∀d',d=d'+1->jhK 163 0 xv xs cs q d')(ihC:∀d',d=d'+1->jhK 81 1 xv xs cs q d'):jhK 81 1 xv xs cs q d:=by
 intro L b ts hH;have hbl:=hH.lt;obtain⟨k0,M0,hT0,hH0,hK0,hl0,p1,p2,_⟩:=jaS K hH (cs.length:Int) (by unfold In64;omega);have hp2:=p2 aa;obtain⟨i,hi⟩:∃i:Nat,k0=(i:Int):=⟨k0.toNat,aa⟩;subst hi;have hi:i<cs.length:=aa;obtain⟨k1,M1,hT1,hH1,hK1,hl1,p3,p4,_⟩:=jaS K hH0 8 (by simp[In64]);have hp4:=p4 af;have hKL1:Kp L M1 b:=hK0.trans hK1;refine jaD at81 rfl ?_;by_cases hleaf:d=0\/k1<3
 ·have hleafG:((d:Int)<1)=True\/(((d:Int)<1)=False/\(k1<3)=True):=by
   rcases hleaf with h|h
   ·exact .inl (eq_true aa)
   ·by_cases h0:d=0
    ·exact .inl (eq_true aa)
    ·exact .inr ⟨eq_false aa,eq_true h⟩
  obtain⟨rr,hix⟩:=jfx cs q hi;have hW:=ok.at hi;have hwc:=jbf hW;have hll:=jxc hW;have hF:=jj8 cs ok q i hi h2;have hsk:=joV hi;have hfc:=λh:jci cs i=>jr9 hi h
  generalize hc:cs.getD i Col.none=c at *;obtain⟨k2,M2,hT2,hH2,hK2,hl2,p5,p6,_⟩:=jaS K (hH1.app [AObj.cells [V.str c.name,V.int .i64 c.lo,V.int .i64 c.hi,c.w] 41]) 6 (by simp[In64]);have hp6:=p6 af;have e5:IntKind.i64.wrap (9+k2)=9+k2:=wrap_i64 aa aa;have b52:=jej (9+k2);have hG2:M2[M1.length]? = some (.cells [V.str c.name,V.int .i64 c.lo,V.int .i64 c.hi,c.w] 41):=by rw[hK2.2 _ ae (by have:=hH1.lt;omega)];exact jad _ _
  have hG3:∀o:AObj,(M2++[o])[M1.length]? = some (.cells [V.str c.name,V.int .i64 c.lo,V.int .i64 c.hi,c.w] 41):=λo=>by rw[Kj (K4.1 hG2).1];exact hG2
  have hKL2:Kp L M2 b:=(hKL1.trans (Kp.app _ _)).trans hK2;have ld4:=jaM;by_cases hwd:0<c.ws.length/\jci cs i/\k1 ≠ 1
  ·obtain⟨hw1,hw2,hw3⟩:=hwd;have gw:((c.ws.length:Int)>0)=True:=eq_true aa;have gk:(k1=1)=False:=eq_false hw3;rw[decide_eq_true hw2]at hF;have et:Int.tmod (9+k2) 2=(9+k2) % 2:=jxe aa;obtain⟨op,hop⟩:∃op,op=9+(9+k2) % 2:=⟨_,rfl⟩;have e6:IntKind.i64.wrap (9+(9+k2) % 2)=op:=by rw[hop];exact wrap_i64 aa aa
   have hop2:op=9\/op=10:=aa;obtain⟨k3,M3,hT3,hH3,hK3,hl3,p7,p8,_⟩:=jaS K (hH2.app [AObj.cells [V.int .i64 op,V.int .i64 0,V.str []] 84]) (c.ws.length:Int) (by unfold In64;have:=hws i hi;rw[hc]at this;omega);have hp8:=p8 aa;obtain⟨j,hj⟩:∃j:Nat,k3=(j:Int):=⟨k3.toNat,aa⟩;subst hj;have hj:j<c.ws.length:=aa;obtain⟨rj,hixj⟩:=jxd hW hj;have hG4:M3[M1.length]? = some (.cells [V.str c.name,V.int .i64 c.lo,V.int .i64 c.hi,c.w] 41):=by rw[hK3.2 _ (by have:=(K4.1 hG2).1;simp;omega) (by have:=hH1.lt;omega)];exact hG3 _
   have hG5:M3[M2.length]? = some (.cells [V.int .i64 op,V.int .i64 0,V.str []] 84):=by rw[hK3.2 _ ae (by have:=hH2.lt;omega)];exact jad _ _
   have b52a:=jhW c.name;have b52b:jbD env 84 [(0,.int .i64 3),(2,.str (c.ws.getD j []))]=some (.agg [.int .i64 3,.int .i64 0,.str (c.ws.getD j [])]):=ac;have hld:=jcB hG5;have hld0:jab (M2++[AObj.cells [V.int .i64 op,V.int .i64 0,V.str []] 84]) 3 (.ptr M2.length 0)=some [V.int .i64 op,V.int .i64 0,V.str []]:=jcB (jad _ _)
   have fin:∃(e:Ex) (L':List AObj) (ts':List Nat),(⟨M3,ts⟩:S)=⟨L',ts'⟩/\Has L' b xv xs/\Kp L L' b/\GN ts.length ts' (.row [.int .i64 2,.int .i64 0,.str c.name,.int .i64 3,.int .i64 0,.str (c.ws.getD j []),.int .i64 op,.int .i64 0,.str []] 3 .full) e.post/\Ext ts.length ts ts'/\WF cs e/\e.kind=1/\e.post.length<=bnd d :=
    ⟨.wrd c.name (c.ws.getD j []) op,M3,ts,rfl,hH3,(hKL2.trans (Kp.app _ _)).trans hK3,GN.full _ _ [⟨2,0,c.name⟩,⟨3,0,c.ws.getD j []⟩,⟨op,0,[]⟩],.rfl' _ _,⟨hsk,by rw[hfc hw2];simp[List.getD,hj],hop2⟩,rfl,jiO d⟩
   rcases hleafG with g0|⟨g0,g3⟩
   ·simp only[Nat.reduceGcd,Tryz.f81,Ka,Nat.reduceLT,Nat.reduceEqDiff,Kl,Kn,reduceIte,Ys,Y0,Int.reduceEq,Int.reduceLT,Int.reduceLE,Int.reduceNeg,mb,Nat.reduceBEq,tys,stb,K0,jaa,Nat.reduceAdd,Nat.reduceLeDiff,-Ys,hT0,hix,ld4,jac,jae,hwc,hT1,jad,jan,g0,hT2,e5,b52,hG3,hll,gw,hF,gk,et,e6];refine jcI rfl (λs=>s.heap[M1.length]? = some (.cells [V.str c.name,V.int .i64 c.lo,V.int .i64 c.hi,c.w] 41)/\s.heap[M2.length]? = some (.cells [V.int .i64 op,V.int .i64 0,V.str []] 84)) ⟨hG3 _,jad _ _⟩ ac ?_;simp only[Nat.reduceGcd,Ka,Nat.reduceLT,Nat.reduceEqDiff,Kl,Kn,reduceIte,Ys,Y0,Int.reduceEq,Int.reduceLT,Int.reduceLE,Int.reduceNeg,mb,Nat.reduceBEq,tys,stb,K0,jaa,Nat.reduceAdd,Nat.reduceLeDiff,-Ys,jac,jae,hwc,jad,jan,hG3,hll,hT3,hixj,jaq,b52a,b52b,hld,jar,jkP,jep,jdG,jdH,jbE,jbs,jbt,jdb,jdc,jiF,jc4,jc6,jck,jcl,jc5,jc7,jdI,jdJ,jbF,jdK,jbH];exact⟨λs h=>by rw[h.1];rfl,λs h=>by rw[h.1];rfl,λs h=>by rw[h.1];rfl,λ_=>trivial,⟨hG4,hG5⟩,λ_ _=>trivial,λs h=>by rw[jcB h.2];rfl,λ_=>⟨hG4,hG5⟩,fin⟩
   ·simp only[Nat.reduceGcd,Tryz.f81,Ka,Nat.reduceLT,Nat.reduceEqDiff,Kl,Kn,reduceIte,Ys,Y0,Int.reduceEq,Int.reduceLT,Int.reduceLE,Int.reduceNeg,mb,Nat.reduceBEq,tys,stb,K0,jaa,Nat.reduceAdd,Nat.reduceLeDiff,-Ys,hT0,hix,ld4,jac,jae,hwc,hT1,jad,jan,g0,g3,hT2,e5,b52,hG3,hll,gw,hF,gk,et,e6];refine jcI rfl (λs=>s.heap[M1.length]? = some (.cells [V.str c.name,V.int .i64 c.lo,V.int .i64 c.hi,c.w] 41)/\s.heap[M2.length]? = some (.cells [V.int .i64 op,V.int .i64 0,V.str []] 84)) ⟨hG3 _,jad _ _⟩ ac ?_;simp only[Nat.reduceGcd,Ka,Nat.reduceLT,Nat.reduceEqDiff,Kl,Kn,reduceIte,Ys,Y0,Int.reduceEq,Int.reduceLT,Int.reduceLE,Int.reduceNeg,mb,Nat.reduceBEq,tys,stb,K0,jaa,Nat.reduceAdd,Nat.reduceLeDiff,-Ys,jac,jae,hwc,jad,jan,hG3,hll,hT3,hixj,jaq,b52a,b52b,hld,jar,jkP,jep,jdG,jdH,jbE,jbs,jbt,jdb,jdc,jiF,jc4,jc6,jck,jcl,jc5,jc7,jdI,jdJ,jbF,jdK,jbH];exact⟨λs h=>by rw[h.1];rfl,λs h=>by rw[h.1];rfl,λs h=>by rw[h.1];rfl,λ_=>trivial,⟨hG4,hG5⟩,λ_ _=>trivial,λs h=>by rw[jcB h.2];rfl,λ_=>⟨hG4,hG5⟩,fin⟩
  ·obtain⟨k3,M3,hT3,hH3,hK3,hl3,p7,p8,_⟩:=jaS K (hH2.app [AObj.cells [V.int .i64 (9+k2),V.int .i64 0,V.str []] 84]) 9 (by simp[In64]);have hp8:=p8 aa;have hG4:M3[M1.length]? = some (.cells [V.str c.name,V.int .i64 c.lo,V.int .i64 c.hi,c.w] 41):=by rw[hK3.2 _ (by have:=(K4.1 hG2).1;simp;omega) (by have:=hH1.lt;omega)];exact hG3 _
   have hG5:M3[M2.length]? = some (.cells [V.int .i64 (9+k2),V.int .i64 0,V.str []] 84):=by rw[hK3.2 _ ae (by have:=hH2.lt;omega)];exact jad _ _
   have b52a:=jhW c.name;have b52b:=jhX 1 k3;have hld:=jcB hG5;have htk:=jmb (op:=9+k2) aa aa
   have fin:∃(e:Ex) (L':List AObj) (ts':List Nat),(⟨M3,ts⟩:S)=⟨L',ts'⟩/\Has L' b xv xs/\Kp L L' b/\GN ts.length ts' (.row [.int .i64 2,.int .i64 0,.str c.name,.int .i64 1,.int .i64 k3,.str [],.int .i64 (9+k2),.int .i64 0,.str []] 3 .full) e.post/\Ext ts.length ts ts'/\WF cs e/\e.kind=1/\e.post.length<=bnd d :=
    ⟨.bin (9+k2) (.col c.name) (.num k3),M3,ts,rfl,hH3,(hKL2.trans (Kp.app _ _)).trans hK3,GN.full _ _ [⟨2,0,c.name⟩,⟨1,k3,[]⟩,⟨9+k2,0,[]⟩],.rfl' _ _,⟨hsk,⟨p7,aa⟩,⟨aa,aa,aa,aa⟩,by rw[htk];rfl⟩,by show(jbi (9+k2)).2=1;rw[htk],jiO d⟩
   by_cases w1:0<c.ws.length
   ·have gw:((c.ws.length:Int)>0)=True:=eq_true aa;by_cases w2:jci cs i
    ·have gk:(k1=1)=True:=eq_true (Jo λh=>hwd ⟨w1,w2,h⟩);rw[decide_eq_true w2]at hF
     rcases hleafG with g0|⟨g0,g3⟩
     ·simp only[Nat.reduceGcd,Tryz.f81,Ka,Nat.reduceLT,Nat.reduceEqDiff,Kl,Kn,reduceIte,Ys,Y0,Int.reduceEq,Int.reduceLT,Int.reduceLE,Int.reduceNeg,mb,Nat.reduceBEq,tys,stb,K0,jaa,Nat.reduceAdd,Nat.reduceLeDiff,-Ys,hT0,hix,ld4,jac,jae,hwc,hT1,jad,jan,g0,hT2,e5,b52,hG3,hll,gw,hF,gk];refine jcI rfl (λs=>s.heap[M1.length]? = some (.cells [V.str c.name,V.int .i64 c.lo,V.int .i64 c.hi,c.w] 41)/\s.heap[M2.length]? = some (.cells [V.int .i64 (9+k2),V.int .i64 0,V.str []] 84)) ⟨hG3 _,jad _ _⟩ ac ?_;simp only[Nat.reduceGcd,Ka,Nat.reduceLT,Nat.reduceEqDiff,Kl,Kn,reduceIte,Ys,Y0,Int.reduceEq,Int.reduceLT,Int.reduceLE,Int.reduceNeg,mb,Nat.reduceBEq,tys,stb,K0,jaa,Nat.reduceAdd,Nat.reduceLeDiff,-Ys,jac,jae,hwc,jad,jan,hG3,hll,hT3,jaq,b52a,b52b,hld,jar,jkP,jep,jdG,jdH,jbE,jbs,jbt,jdb,jdc,jiF,jc4,jc6,jck,jcl,jc5,jc7,jdI,jdJ,jbF,jdK,jbH];exact⟨λs h=>by rw[h.1];rfl,⟨hG4,hG5⟩,λs h=>by rw[jcB h.2];rfl,λ_=>⟨hG4,hG5⟩,fin⟩
     ·simp only[Nat.reduceGcd,Tryz.f81,Ka,Nat.reduceLT,Nat.reduceEqDiff,Kl,Kn,reduceIte,Ys,Y0,Int.reduceEq,Int.reduceLT,Int.reduceLE,Int.reduceNeg,mb,Nat.reduceBEq,tys,stb,K0,jaa,Nat.reduceAdd,Nat.reduceLeDiff,-Ys,hT0,hix,ld4,jac,jae,hwc,hT1,jad,jan,g0,g3,hT2,e5,b52,hG3,hll,gw,hF,gk];refine jcI rfl (λs=>s.heap[M1.length]? = some (.cells [V.str c.name,V.int .i64 c.lo,V.int .i64 c.hi,c.w] 41)/\s.heap[M2.length]? = some (.cells [V.int .i64 (9+k2),V.int .i64 0,V.str []] 84)) ⟨hG3 _,jad _ _⟩ ac ?_;simp only[Nat.reduceGcd,Ka,Nat.reduceLT,Nat.reduceEqDiff,Kl,Kn,reduceIte,Ys,Y0,Int.reduceEq,Int.reduceLT,Int.reduceLE,Int.reduceNeg,mb,Nat.reduceBEq,tys,stb,K0,jaa,Nat.reduceAdd,Nat.reduceLeDiff,-Ys,jac,jae,hwc,jad,jan,hG3,hll,hT3,jaq,b52a,b52b,hld,jar,jkP,jep,jdG,jdH,jbE,jbs,jbt,jdb,jdc,jiF,jc4,jc6,jck,jcl,jc5,jc7,jdI,jdJ,jbF,jdK,jbH];exact⟨λs h=>by rw[h.1];rfl,⟨hG4,hG5⟩,λs h=>by rw[jcB h.2];rfl,λ_=>⟨hG4,hG5⟩,fin⟩
    ·rw[decide_eq_false w2]at hF
     rcases hleafG with g0|⟨g0,g3⟩
     ·simp only[Nat.reduceGcd,Tryz.f81,Ka,Nat.reduceLT,Nat.reduceEqDiff,Kl,Kn,reduceIte,Ys,Y0,Int.reduceEq,Int.reduceLT,Int.reduceLE,Int.reduceNeg,mb,Nat.reduceBEq,tys,stb,K0,jaa,Nat.reduceAdd,Nat.reduceLeDiff,-Ys,hT0,hix,ld4,jac,jae,hwc,hT1,jad,jan,g0,hT2,e5,b52,hG3,hll,gw,hF];refine jcI rfl (λs=>s.heap[M1.length]? = some (.cells [V.str c.name,V.int .i64 c.lo,V.int .i64 c.hi,c.w] 41)/\s.heap[M2.length]? = some (.cells [V.int .i64 (9+k2),V.int .i64 0,V.str []] 84)) ⟨hG3 _,jad _ _⟩ ac ?_;simp only[Nat.reduceGcd,Ka,Nat.reduceLT,Nat.reduceEqDiff,Kl,Kn,reduceIte,Ys,Y0,Int.reduceEq,Int.reduceLT,Int.reduceLE,Int.reduceNeg,mb,Nat.reduceBEq,tys,stb,K0,jaa,Nat.reduceAdd,Nat.reduceLeDiff,-Ys,jac,jae,hwc,jad,jan,hG3,hll,hT3,jaq,b52a,b52b,hld,jar,jkP,jep,jdG,jdH,jbE,jbs,jbt,jdb,jdc,jiF,jc4,jc6,jck,jcl,jc5,jc7,jdI,jdJ,jbF,jdK,jbH];exact⟨λs h=>by rw[h.1];rfl,⟨hG4,hG5⟩,λs h=>by rw[jcB h.2];rfl,λ_=>⟨hG4,hG5⟩,fin⟩
     ·simp only[Nat.reduceGcd,Tryz.f81,Ka,Nat.reduceLT,Nat.reduceEqDiff,Kl,Kn,reduceIte,Ys,Y0,Int.reduceEq,Int.reduceLT,Int.reduceLE,Int.reduceNeg,mb,Nat.reduceBEq,tys,stb,K0,jaa,Nat.reduceAdd,Nat.reduceLeDiff,-Ys,hT0,hix,ld4,jac,jae,hwc,hT1,jad,jan,g0,g3,hT2,e5,b52,hG3,hll,gw,hF];refine jcI rfl (λs=>s.heap[M1.length]? = some (.cells [V.str c.name,V.int .i64 c.lo,V.int .i64 c.hi,c.w] 41)/\s.heap[M2.length]? = some (.cells [V.int .i64 (9+k2),V.int .i64 0,V.str []] 84)) ⟨hG3 _,jad _ _⟩ ac ?_;simp only[Nat.reduceGcd,Ka,Nat.reduceLT,Nat.reduceEqDiff,Kl,Kn,reduceIte,Ys,Y0,Int.reduceEq,Int.reduceLT,Int.reduceLE,Int.reduceNeg,mb,Nat.reduceBEq,tys,stb,K0,jaa,Nat.reduceAdd,Nat.reduceLeDiff,-Ys,jac,jae,hwc,jad,jan,hG3,hll,hT3,jaq,b52a,b52b,hld,jar,jkP,jep,jdG,jdH,jbE,jbs,jbt,jdb,jdc,jiF,jc4,jc6,jck,jcl,jc5,jc7,jdI,jdJ,jbF,jdK,jbH];exact⟨λs h=>by rw[h.1];rfl,⟨hG4,hG5⟩,λs h=>by rw[jcB h.2];rfl,λ_=>⟨hG4,hG5⟩,fin⟩
   ·have gw:((c.ws.length:Int)>0)=False:=eq_false aa
    rcases hleafG with g0|⟨g0,g3⟩
    ·simp only[Nat.reduceGcd,Tryz.f81,Ka,Nat.reduceLT,Nat.reduceEqDiff,Kl,Kn,reduceIte,Ys,Y0,Int.reduceEq,Int.reduceLT,Int.reduceLE,Int.reduceNeg,mb,Nat.reduceBEq,tys,stb,K0,jaa,Nat.reduceAdd,Nat.reduceLeDiff,-Ys,hT0,hix,ld4,jac,jae,hwc,hT1,jad,jan,g0,hT2,e5,b52,hG3,hll,gw];refine jcI rfl (λs=>s.heap[M1.length]? = some (.cells [V.str c.name,V.int .i64 c.lo,V.int .i64 c.hi,c.w] 41)/\s.heap[M2.length]? = some (.cells [V.int .i64 (9+k2),V.int .i64 0,V.str []] 84)) ⟨hG3 _,jad _ _⟩ ac ?_;simp only[Nat.reduceGcd,Ka,Nat.reduceLT,Nat.reduceEqDiff,Kl,Kn,reduceIte,Ys,Y0,Int.reduceEq,Int.reduceLT,Int.reduceLE,Int.reduceNeg,mb,Nat.reduceBEq,tys,stb,K0,jaa,Nat.reduceAdd,Nat.reduceLeDiff,-Ys,jac,jae,hwc,jad,jan,hG3,hll,hT3,jaq,b52a,b52b,hld,jar,jkP,jep,jdG,jdH,jbE,jbs,jbt,jdb,jdc,jiF,jc4,jc6,jck,jcl,jc5,jc7,jdI,jdJ,jbF,jdK,jbH];exact⟨λs h=>by rw[h.1];rfl,⟨hG4,hG5⟩,λs h=>by rw[jcB h.2];rfl,λ_=>⟨hG4,hG5⟩,fin⟩
    ·simp only[Nat.reduceGcd,Tryz.f81,Ka,Nat.reduceLT,Nat.reduceEqDiff,Kl,Kn,reduceIte,Ys,Y0,Int.reduceEq,Int.reduceLT,Int.reduceLE,Int.reduceNeg,mb,Nat.reduceBEq,tys,stb,K0,jaa,Nat.reduceAdd,Nat.reduceLeDiff,-Ys,hT0,hix,ld4,jac,jae,hwc,hT1,jad,jan,g0,g3,hT2,e5,b52,hG3,hll,gw];refine jcI rfl (λs=>s.heap[M1.length]? = some (.cells [V.str c.name,V.int .i64 c.lo,V.int .i64 c.hi,c.w] 41)/\s.heap[M2.length]? = some (.cells [V.int .i64 (9+k2),V.int .i64 0,V.str []] 84)) ⟨hG3 _,jad _ _⟩ ac ?_;simp only[Nat.reduceGcd,Ka,Nat.reduceLT,Nat.reduceEqDiff,Kl,Kn,reduceIte,Ys,Y0,Int.reduceEq,Int.reduceLT,Int.reduceLE,Int.reduceNeg,mb,Nat.reduceBEq,tys,stb,K0,jaa,Nat.reduceAdd,Nat.reduceLeDiff,-Ys,jac,jae,hwc,jad,jan,hG3,hll,hT3,jaq,b52a,b52b,hld,jar,jkP,jep,jdG,jdH,jbE,jbs,jbt,jdb,jdc,jiF,jc4,jc6,jck,jcl,jc5,jc7,jdI,jdJ,jbF,jdK,jbH];exact⟨λs h=>by rw[h.1];rfl,⟨hG4,hG5⟩,λs h=>by rw[jcB h.2];rfl,λ_=>⟨hG4,hG5⟩,fin⟩
 -- deeper
 have hd0:d ≠ 0:=λh=>hleaf (.inl h)
 obtain⟨d',rfl⟩:∃d',d=d'+1:=⟨d-1,aa⟩;have g0:(((d'+1:Nat):Int)<1)=False:=eq_false aa;have g3:(k1<3)=False:=eq_false (λh=>hleaf (.inr h));have ed:IntKind.i64.wrap (((d'+1:Nat):Int)-1)=(d':Int):=by rw[wrap_i64 aa aa];omega
 have dO:=ihO d' rfl;have dC:=ihC d' rfl;have hbd:=jsb (show d'<=2 by omega);have hbs:bnd (d'+1)=3*bnd d'+1:=rfl;obtain⟨k2,M2,hT2,hH2,hK2,hl2,p5,p6,_⟩:=jaS K hH1 4 (by simp[In64]);have hp6:=p6 af;have hKL2:Kp L M2 b:=hKL1.trans hK2;by_cases c01:k2=0\/k2=1
 ·obtain⟨v1,L1,ts1,v2,L2,ts2,v3,ts3,e1,e2,r1,r2,r3,a1,a2,a3,a4,a5,a6,a7,a8,a9,a10,a11⟩:=jtQ dC dC aa ts hH2;have e5:IntKind.i64.wrap (15+k2)=15+k2:=wrap_i64 aa aa;have b52:=jej (15+k2);obtain⟨v4,ts4,r4,a12,a13⟩:=GN.push (hp:=L2) a3 a5 (opN (15+k2)) .full (by rw[Kk];omega);simp only at r4;have ho:15+k2=15\/15+k2=16:=aa
  have fin:∃(e:Ex) (L':List AObj) (ts':List Nat),(⟨L2,ts4⟩:S)=⟨L',ts'⟩/\Has L' b xv xs/\Kp L L' b/\GN ts.length ts' v4 e.post/\Ext ts.length ts ts'/\WF cs e/\e.kind=1/\e.post.length<=bnd (d'+1) :=
   ⟨.bin (15+k2) e1 e2,L2,ts4,rfl,a1,hKL2.trans a2,by simp only[Ex.post];rw[<- K7];exact a12,a4.trans a13,⟨a6,a7,⟨aa,aa,aa,aa⟩,by rw[a8,a9];rcases ho with h|h<;>rw[h]<;>rfl⟩,by show(jbi (15+k2)).2=1;rcases ho with h|h<;>rw[h]<;>rfl,by simp only[Ex.post,Kk,Qh,Qr];omega⟩
  rcases c01 with rfl|rfl
  all_goals
   simp only[Nat.reduceGcd,Tryz.f81,Ka,Nat.reduceLT,Nat.reduceEqDiff,Kl,Kn,reduceIte,Ys,Y0,Int.reduceEq,Int.reduceLT,Int.reduceLE,Int.reduceNeg,mb,Nat.reduceBEq,tys,stb,K0,jaa,Nat.reduceAdd,Nat.reduceLeDiff,-Ys,hT0,jac,jae,hT1,jad,jan,g0,g3,hT2,ed,r1,r2,r3,e5,b52,jar,jhJ,r4];exact fin
 have n0:(k2=0)=False:=eq_false aa;have n1:(k2=1)=False:=eq_false aa;by_cases c2:k2=2
 ·have n2:(k2=2)=True:=eq_true c2;obtain⟨v1,_,r1,e1,L1,ts1,rfl,a1,a2,a3,a4,a6,a8,a10⟩:=dC M2 b ts hH2;have b52:=jej 17;obtain⟨v4,ts4,r4,a12,a13⟩:=GN.push (hp:=L1) a3 a4.1 (opN 17) .full aa;simp only at r4;simp only[Nat.reduceGcd,Tryz.f81,Ka,Nat.reduceLT,Nat.reduceEqDiff,Kl,Kn,reduceIte,Ys,Y0,Int.reduceEq,Int.reduceLT,Int.reduceLE,Int.reduceNeg,mb,Nat.reduceBEq,tys,stb,K0,jaa,Nat.reduceAdd,Nat.reduceLeDiff,-Ys,hT0,jac,jae,hT1,jad,jan,g0,g3,n0,n1,n2,hT2,ed,r1,b52,jar,jhJ,r4];exact⟨.una 17 e1,L1,ts4,rfl,a1,hKL2.trans a2,a12,a4.trans a13,⟨a6,.inr rfl,by rw[a8];rfl⟩,rfl,by simp only[Ex.post,Kk,Qh,Qr];omega⟩
 have n2:(k2=2)=False:=eq_false c2;obtain⟨v1,L1,ts1,v2,L2,ts2,v3,ts3,e1,e2,r1,r2,r3,a1,a2,a3,a4,a5,a6,a7,a8,a9,a10,a11⟩:=jtQ dO dO aa ts hH2;obtain⟨k5,L3,hT5,hH5,hK5,hl5,p7,p8,_⟩:=jaS K a1 6 (by simp[In64]);have hp8:=p8 af;have e5:IntKind.i64.wrap (9+k5)=9+k5:=wrap_i64 aa aa;have b52:=jej (9+k5);have htk:=jmb (op:=9+k5) aa aa;obtain⟨w3,ts6,s3,b10,b11⟩:=GN.push (hp:=L3) a3 a5 (opN (9+k5)) .full (by rw[Kk];omega);simp only at s3;simp only[Nat.reduceGcd,Tryz.f81,Ka,Nat.reduceLT,Nat.reduceEqDiff,Kl,Kn,reduceIte,Ys,Y0,Int.reduceEq,Int.reduceLT,Int.reduceLE,Int.reduceNeg,mb,Nat.reduceBEq,tys,stb,K0,jaa,Nat.reduceAdd,Nat.reduceLeDiff,-Ys,hT0,jac,jae,hT1,jad,jan,g0,g3,n0,n1,n2,hT2,ed,r1,r2,r3,hT5,e5,b52,jar,jhJ,s3];exact⟨.bin (9+k5) e1 e2,L3,ts6,rfl,hH5,(hKL2.trans a2).trans hK5,by simp only[Ex.post];rw[<- K7];exact b10,a4.trans b11,⟨a6,a7,⟨aa,aa,aa,aa⟩,by rw[htk,a8,a9]⟩,by show(jbi (9+k5)).2=1;rw[htk],by simp only[Ex.post,Kk,Qh,Qr];omega⟩
theorem jtR(d:Nat)(hd:d<=3):jhK 163 0 xv xs cs q d/\jhK 81 1 xv xs cs q d:=by
 induction d with
 |zero=>exact⟨jhA K q ok h1 h2 hws 0 hd (λd' h=>aa) (λd' h=>aa),jgd K q ok h1 h2 hws 0 hd (λd' h=>aa) (λd' h=>aa)⟩
 | succ d ih =>
  obtain⟨i1,i2⟩:=ih aa
  have j1:∀d',d+1=d'+1->jhK 163 0 xv xs cs q d':=λd' h=>by
   obtain rfl:d'=d:=aa;exact i1
  have j2:∀d',d+1=d'+1->jhK 81 1 xv xs cs q d':=λd' h=>by
   obtain rfl:d'=d:=aa;exact i2
  exact⟨jhA K q ok h1 h2 hws (d+1) hd j1 j2,jgd K q ok h1 h2 hws (d+1) hd j1 j2⟩
end
end Go.Proofs.YtajaampgajieeaaGreatDoor.N
