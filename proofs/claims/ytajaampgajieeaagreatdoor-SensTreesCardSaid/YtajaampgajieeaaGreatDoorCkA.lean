/- Proved here: queries, and what Check finds in them. Conditions: each theorem's own. -/
import Derived.Test.YtajaampgajieeaaGreatDoorCqB
set_option linter.unusedSimpArgs false
set_option maxHeartbeats 16000000
set_option maxRecDepth 1000000
set_option linter.unusedVariables false
set_option linter.unusedSectionVars false
namespace Go.Proofs.YtajaampgajieeaaGreatDoor
open Go.Ab
theorem jrZ {c:Col}(h:IsW c.w c.ws):(aggC c).closed=true:=by
 simp only[aggC,V.closed,V.closed.closedL,jct h];rfl
theorem jnx(a b c d:V):rowO env 36 1 [(0,.agg [a,b,c,d])]=some (.row [a,b,c,d] 1 .full):=ac
theorem jpT(a b c d:V)(t:TypeId)(X:List AObj):jab (.cells [a,b,c,d] t::X) 4 (.ptr 0 0)=some [a,b,c,d]:=rfl
def Ok1(c:Col):Prop:=jaZ c.name/\colE c=0
theorem jw1(c:Col):colX [c] 0=0↔Ok1 c:=by
 unfold colX Ok1;have e:[c].getD 0 Col.none=c:=rfl;rw[e];by_cases h:jaZ c.name
 ·rw[Ke (by simpa using h),Ke (by rintro⟨k,h,_⟩;omega)];simp[h]
 ·rw[Kg h];simp[h]
open Classical in
noncomputable def jcU(c:Col):Int:=if Ok1 c then IntKind.i64.wrap (IntKind.i64.wrap (c.hi-c.lo)+1)else 0
theorem jw2:env.P.funcs[208]? = some Tryz.f208:=ac
theorem jw3:env.P.funcs[133]? = some Tryz.f133:=ac
theorem tysw:(∀h p,jaH env h 41 p=(jab h 4 p).map .agg)/\sz env 41=some 4/\jas env 41 0=some 0/\jas env 41 1=some 1/\jas env 41 2=some 2/\(∀h p,jaH env h 9 p=(jab h 1 p).bind (·[0]?)):=by
 have g:aggT env 41=some true:=ac;have s:sz env 41=some 4:=ac;exact⟨λh p=>by unfold jaH;rw[g,s];rfl,s,ac,ac,ac,λ_ _=>jay ac⟩
open Classical in
theorem jpU(c:Col)(h:IsW c.w c.ws)(hs:jdL c)(U:S):jah env (ev env) 208 [aggC c] U=some (.bool (decide (Ok1 c)),U):=by
 refine jaj (by rw[Ks,jrZ h];rfl) jw2 rfl ?_ U;have ok:OkC [c]:=λx hx=>by rw[J4.1 hx];exact h
 have hC:=jd7 (.row (jaO [c]) 1 .full) [c] (.inr ⟨.full,.inr rfl,rfl⟩) ok ae 0 ae hs;have hC':∀U,jah env (ev env) 238 [.row [.str c.name,.int .i64 c.lo,.int .i64 c.hi,c.w] 1 .full,.int .i64 0] U=some (.int .i64 (colX [c] 0),U):=hC;have hw:=jbf h;by_cases he:Ok1 c
 ·have h0:=eq_true ((jw1 c).2 he);simp only[Tryz.f208,simprocAttr,zK,Vq,tysw,jai,aggC,YW,jpT,jar,jnx,hC',h0];rw[decide_eq_true he];rfl
 ·have h0:=eq_false (λq=>he ((jw1 c).1 q));simp only[Tryz.f208,simprocAttr,zK,Vq,tysw,jai,aggC,YW,jpT,jar,jnx,hC',h0];rw[decide_eq_false he];rfl
open Classical in
theorem width_call(c:Col)(h:IsW c.w c.ws)(hs:jdL c)(U:S):jah env (ev env) 133 [aggC c] U=some (.int .i64 (jcU c),U):=by
 refine jaj (by rw[Ks,jrZ h];rfl) jw3 rfl ?_ U;have hV:=jpU c h hs;unfold jcU;by_cases he:Ok1 c
 ·rw[decide_eq_true he]at hV;simp only[Tryz.f133,simprocAttr,zK,Vq,tysw,jai,aggC,YW,jpT,hV];rw[Kg he];rfl
 ·rw[decide_eq_false he]at hV;simp only[Tryz.f133,simprocAttr,zK,Vq,tysw,jai,aggC,YW,jpT,hV];rw[Ke he];rfl
end Go.Proofs.YtajaampgajieeaaGreatDoor
namespace Go.Proofs.YtajaampgajieeaaGreatDoor.K
open Go.Ab
def IsI(v:V)(xs:List Int):Prop:=(v=.nilsl/\xs=[])\/v=.row (xs.map (V.int .i64)) xs.length .unk\/v=.row (xs.map (V.int .i64)) xs.length .full
theorem len_I {v:V}{xs:List Int}(h:IsI v xs):jbb (some (.slice 3)) v=some (.int .i64 xs.length):=by
 rcases h with⟨rfl,rfl⟩|rfl|rfl<;>rfl
theorem idx_I {v:V}{xs:List Int}(h:IsI v xs){i:Nat}(hi:i<xs.length):jaw 1 v (.int .i64 (i:Int))=some (.rptr (.int .i64 (xs.getD i 0)::(xs.map (V.int .i64)).drop (i+1))):=by
 rcases h with⟨rfl,rfl⟩|rfl|rfl
 ·simp at hi
 ·rw[Ys,Kg aa,Qj,Xc,Qk (by simpa using hi)];simp[List.getD,hi]
 ·rw[Ys,Kg aa,Qj,Xc,Qk (by simpa using hi)];simp[List.getD,hi]
theorem closed_I {v:V}{xs:List Int}(h:IsI v xs):v.closed=true:=by
 rcases h with⟨rfl,rfl⟩|h
 ·rfl
 ·have:∀ws:List Int,V.closed.closedL (ws.map (V.int .i64))=true:=by
   intro ws
   induction ws with
   |nil=>rfl
   |cons w ws ih=>simp only[K6,V.closed.closedL,V.closed,Xh];exact ih
  rcases h with rfl|rfl<;>simp only[V.closed,this,K8]
theorem mb(f:FuncId)(r:Nat):env.mutb f r=false:=rfl
theorem stb(f:FuncId)(r:Nat)(h:(f==81 && r==8 ||f==81 && r==9 ||f==77 && r==11 ||f==159 && r==7 ||f==85 && r==4 ||f==88 && r==7 ||f==88 && r==8 ||f==92 && r==3 ||f==93 && r==8)=false):env.stab f r=false:=h
theorem tys:env.P.underlying 3=some (.int .i64)/\env.P.underlying 4=some .bool/\env.P.underlying 9=some .string/\env.P.underlying 39=some (.slice 9)/\env.P.underlying 26=some (.slice 84)/\env.P.underlying 36=some (.slice 41)/\env.P.underlying 22=some (.slice 3) /\
  sz env 9=some 1/\sz env 39=some 1/\sz env 3=some 1/\sz env 4=some 1/\sz env 26=some 1/\sz env 36=some 1/\sz env 22=some 1/\sz env 41=some 4/\sz env 84=some 3/\sz env 93=some 2 /\
  jas env 93 0=some 0/\jas env 93 1=some 1/\jas env 41 0=some 0/\jas env 41 1=some 1/\jas env 41 2=some 2/\jas env 41 3=some 3/\jas env 84 0=some 0/\jas env 84 1=some 1/\jas env 84 2=some 2 /\
  (∀h p,jaH env h 9 p=(jab h 1 p).bind (·[0]?))/\(∀h p,jaH env h 39 p=(jab h 1 p).bind (·[0]?))/\(∀h p,jaH env h 3 p=(jab h 1 p).bind (·[0]?))/\(∀h p,jaH env h 4 p=(jab h 1 p).bind (·[0]?)) /\
  (∀h p,jaH env h 22 p=(jab h 1 p).bind (·[0]?))/\(∀h p,jaH env h 36 p=(jab h 1 p).bind (·[0]?))/\(∀h p,jaH env h 84 p=(jab h 3 p).map .agg)/\(∀h p,jaH env h 41 p=(jab h 4 p).map .agg) /\
  jba env 84=some (.agg [.int .i64 0,.int .i64 0,.str []])/\jba env 41=some (.agg [.str [],.int .i64 0,.int .i64 0,.nilsl]):=by
 have g9:aggT env 9=some false:=ac;have g44:aggT env 39=some false:=ac;have g3:aggT env 3=some false:=ac;have g4:aggT env 4=some false:=ac;have g24:aggT env 22=some false:=ac;have g23:aggT env 36=some false:=ac;have g52:aggT env 84=some true:=ac;have g46:aggT env 41=some true:=ac;have s52:sz env 84=some 3:=ac;have s46:sz env 41=some 4:=ac
 exact⟨ac,ac,ac,ac,ac,ac,ac,ac,ac,ac,ac,ac,ac,ac,ac,ac,ac,ac,ac,ac,ac,ac,ac,ac,ac,ac,
  λ_ _=>jay g9,λ_ _=>jay g44,λ_ _=>jay g3,λ_ _=>jay g4,λ_ _=>jay g24,λ_ _=>jay g23,λh p=>by unfold jaH;rw[g52,s52];rfl,λh p=>by unfold jaH;rw[g46,s46];rfl,ac,ac⟩
theorem Kc:type_of% (Kd @mb (Kd @stb @tys)):=Kd @mb (Kd @stb @tys)
theorem zK:type_of% (Kd @Ka (Kd @Ys (Kd @Y0 @Kc))):=Kd @Ka (Kd @Ys (Kd @Y0 @Kc))
theorem yK:type_of% (Kd @Ka (Kd @Y0 @Kc)):=Kd @Ka (Kd @Y0 @Kc)
theorem at78:env.P.funcs[78]? = some Tryz.f78:=ac
theorem at20:env.P.funcs[20]? = some Tryz.f20:=ac
theorem pick_call(x n:Int)(hx:In64 x)(hn:In64 n)(h1:1<=n)(U:S):jah env (ev env) 20 [.int .i64 x,.int .i64 n] U=some (.int .i64 (x % n),U):=by
 refine jaj rfl at20 rfl ?_ U;unfold In64 at hx hn;have hne:(n=0)=False:=eq_false aa;have hb1:Int.tmod x n<n:=Int.tmod_lt_of_pos x aa;have hb2 : -n<Int.tmod x n:=Int.lt_tmod_of_pos x aa;have e1:IntKind.i64.wrap (Int.tmod x n)=Int.tmod x n:=wrap_i64 aa aa
 have hem:x % n=if Int.tmod x n<0 then Int.tmod x n+n else Int.tmod x n:=by
  have h2:=Int.tmod_add_mul_tdiv x n;split
  ·rename_i h;have:(Int.tmod x n+n+n*(Int.tdiv x n-1)) % n=Int.tmod x n+n:=by rw[Vu];exact Ug aa aa
   rw[<- this];congr 1;rw[Int.mul_sub];omega
  ·have:(Int.tmod x n+n*Int.tdiv x n) % n=Int.tmod x n:=by rw[Vu];exact Ug aa aa
   rw[<- this];congr 1;omega
 by_cases h:Int.tmod x n<0
 ·rw[Kg h]at hem;have e2:IntKind.i64.wrap (Int.tmod x n+n)=Int.tmod x n+n:=wrap_i64 aa aa;have g:(Int.tmod x n<0)=True:=eq_true h;simp only[Tryz.f20,simprocAttr,zK,Vq,jai,hne,e1,g,e2];rw[hem];rfl
 ·rw[Ke h]at hem;have g:(Int.tmod x n<0)=False:=eq_false h;simp only[Tryz.f20,simprocAttr,zK,Vq,jai,hne,e1,g];rw[hem];rfl
abbrev tk(xv:V)(a:Nat):AObj:=.cells [xv,.int .i64 a] 93
theorem jr0 {v:V}{xs:List Int}(h:IsI v xs)(e:TypeId):jbb (some (.slice e)) v=some (.int .i64 xs.length):=by rcases h with⟨rfl,rfl⟩|rfl|rfl<;>simp[jbb]
theorem jhV(xv:V)(xs:List Int)(hx:IsI xv xs)(hin:∀x∈xs,In64 x)(hxl:xs.length<2^63)(a:Nat)(ha:a<=xs.length)(n:Int)(hn:In64 n) :
  ∃(r:Int) (a':Nat),(∀(L:List AObj) (b:Nat) ts,b<L.length->jah env (ev env) 78 [.ptr b 0,.int .i64 n] ⟨L.set b (tk xv a),ts⟩=some (.int .i64 r,⟨L.set b (tk xv a'),ts⟩))/\a'<=xs.length/\0<=r/\(1<=n->r<n)/\(n<1->r=0):=by
 have hln:=jr0 hx 3;unfold In64 at hn;by_cases h1:xs.length<=a
 ·have g1:((a:Int) >= (xs.length:Int))=True:=eq_true aa;refine⟨0,a,λL b ts hb => ?_,ha,Jt _,λh=>aa,λ_=>rfl⟩;have hg:(L.set b (tk xv a))[b]? = some (tk xv a):=Km hb;refine jaL at78 rfl ?_;simp only[Tryz.f78,simprocAttr,zK,K0,jaa,K3,hg,hln,g1,jaF];exact⟨ac,rfl,trivial⟩
 have g1:((a:Int) >= (xs.length:Int))=False:=eq_false aa;by_cases h2:n<1
 ·have g2:(n<1)=True:=eq_true h2;refine⟨0,a,λL b ts hb => ?_,ha,Jt _,λh=>aa,λ_=>rfl⟩;have hg:(L.set b (tk xv a))[b]? = some (tk xv a):=Km hb;refine jaL at78 rfl ?_;simp only[Tryz.f78,simprocAttr,zK,K0,jaa,K3,hg,hln,g1,g2,jaF];exact⟨ac,rfl,trivial⟩
 have g2:(n<1)=False:=eq_false h2;have hx64:=jkO hin a;have hP:=pick_call (xs.getD a 0) n hx64 hn aa;have e1:IntKind.i64.wrap ((a:Int)+1)=((a+1:Nat):Int):=by rw[wrap_i64 aa aa];omega
 have e2:IntKind.i64.wrap (((a+1:Nat):Int)-1)=(a:Int):=by rw[wrap_i64 aa aa];omega
 have hxv:=idx_I hx (show a<xs.length by omega);refine⟨xs.getD a 0 % n,a+1,λL b ts hb => ?_,aa,Int.emod_nonneg _ aa,λ_=>Int.emod_lt_of_pos _ aa,λh=>absurd h h2⟩;have hg:(L.set b (tk xv a))[b]? = some (tk xv a):=Km hb;have hg2:((L.set b (tk xv a)).set b (tk xv (a+1)))[b]? = some (tk xv (a+1)):=by rw[Xo];exact Km hb
 refine jaL at78 rfl ?_;simp only[Tryz.f78,simprocAttr,zK,K0,jaa,K3,hg,hln,g1,g2,jaF,e1,hg2,e2,hxv,hP,jaq];exact⟨ac,rfl,ac,rfl,by rw[Xo]⟩
theorem jl3(L:List AObj)(b:Nat)(xv:V)(xs:List Int)(hx:IsI xv xs)(hin:∀x∈xs,In64 x)(hxl:xs.length<2^63)(hb:b<L.length)(a:Nat)(ha:a<=xs.length)(n:Int)(hn:In64 n) :
  ∃(r:Int) (a':Nat),(∀ts,jah env (ev env) 78 [.ptr b 0,.int .i64 n] ⟨L.set b (tk xv a),ts⟩=some (.int .i64 r,⟨L.set b (tk xv a'),ts⟩))/\a'<=xs.length/\0<=r/\(1<=n->r<n)/\(n<1->r=0):=by
 obtain⟨r,a',h1,h2⟩:=jhV xv xs hx hin hxl a ha n hn;exact⟨r,a',λts=>h1 L b ts hb,h2⟩
theorem jhW(s:List UInt8):jbD env 84 [(0,.int .i64 2),(2,.str s)]=some (.agg [.int .i64 2,.int .i64 0,.str s]):=ac
theorem jej(x:Int):jbD env 84 [(0,.int .i64 x)]=some (.agg [.int .i64 x,.int .i64 0,.str []]):=ac
theorem jhX(x n:Int):jbD env 84 [(0,.int .i64 x),(1,.int .i64 n)]=some (.agg [.int .i64 x,.int .i64 n,.str []]):=ac
def Nd.v(x:Nd):V:=.agg [.int .i64 x.op,.int .i64 x.n,.str x.col]
theorem eN:Elt env 26 84 3 32:=⟨ac,ac,ac,ac,ac⟩
theorem eC:Elt env 36 41 4 56:=⟨ac,ac,ac,ac,ac⟩
theorem eI:Elt env 22 3 1 8:=⟨ac,ac,ac,ac,ac⟩
theorem jea:∀l:List Nd,(jb9 l).length=l.length*3
 | []=>rfl
 |x::l=>by rw[jbJ];simp only[Qh,jea l];omega
theorem jfw(a b:List Nd):jb9 (a++b)=jb9 a++jb9 b:=by simp[jb9]
theorem jhJ(a b c:V):rowO env 26 1 [(0,.agg [a,b,c])]=some (.row [a,b,c] 1 .full):=ac
theorem jkP(a b c d e f g h i:V):rowO env 26 3 [(0,.agg [a,b,c]),(1,.agg [d,e,f]),(2,.agg [g,h,i])]=some (.row [a,b,c,d,e,f,g,h,i] 3 .full):=ac
theorem jnx(a b c d:V):rowO env 36 1 [(0,.agg [a,b,c,d])]=some (.row [a,b,c,d] 1 .full):=ac
theorem jw4(a:Int):rowO env 22 1 [(0,.int .i64 a)]=some (.row [.int .i64 a] 1 .full):=ac
abbrev GN(base:Nat)(ts:List Nat)(v:V)(l:List Nd):Prop:=GrowV base ts 3 v l.length (jb9 l)
theorem GN.push {base:Nat}{hp:List AObj}{ts:List Nat}{v:V}{l:List Nd}(g:GN base ts v l)(hb:base<=ts.length)(x:Nd)(q:RCap)(hl:l.length<=4000):∃v' ts',appO env false ⟨hp,ts⟩ 26 26 v (.row [.int .i64 x.op,.int .i64 x.n,.str x.col] 1 q)=some (v',⟨hp,ts'⟩)/\GN base ts' v' (l++[x])/\Ext base ts ts':=by
 have hlim:lim=2^40:=rfl;have:=GrowV.push (E:=env) (hp:=hp) (q:=q) (new:=[.int .i64 x.op,.int .i64 x.n,.str x.col]) eN ⟨84,eN.slice⟩ g hb rfl (by simp[V.isCell]) ⟨by rw[hlim];omega,by rw[hlim];omega⟩;obtain⟨v',ts',h1,h2,h3⟩:=this;refine⟨v',ts',h1,?_,h3⟩;unfold GN;rw[Kk,jfw];exact h2
theorem GN.append {base:Nat}{hp:List AObj}{ts:List Nat}{v y:V}{l m:List Nd}(g:GN base ts v l)(hb:base<=ts.length)(hy:vLen y=some m.length)(hc:jaV hp 3 m.length y=some (jb9 m))(hl:l.length<=4000)(hm:m.length<=4000):∃v' ts',appO env false ⟨hp,ts⟩ 26 26 v y=some (v',⟨hp,ts'⟩)/\GN base ts' v' (l++m)/\Ext base ts ts':=by
 have hlim:lim=2^40:=rfl
 have hcell:(jb9 m).all V.isCell=true:=by
  induction m with
  |nil=>rfl
  |cons x m ih=>simp only[Qh]at hm;rw[jbJ];simp only[Ks,V.isCell,Xh];clear hy hc hm ih;induction m with
   |nil=>rfl
   |cons x m ih=>rw[jbJ];simp only[Ks,V.isCell,Xh];exact ih
 have:=GrowV.append (E:=env) eN ⟨84,eN.slice⟩ g hb hy hc (jea m) hcell ⟨by rw[hlim];omega,by rw[hlim];omega⟩;obtain⟨v',ts',h1,h2,h3⟩:=this;refine⟨v',ts',h1,?_,h3⟩;unfold GN;rw[Kk,jfw];exact h2
theorem GN.full(base:Nat)(ts:List Nat)(l:List Nd):GN base ts (.row (jb9 l) l.length .full) l:=GrowV.full _ _ (jea l)
theorem jiG {cs:List Col}{i:Nat}(h:i<cs.length):∃r,(jaO cs).drop (i*4)=.str (cs.getD i Col.none).name::.int .i64 (cs.getD i Col.none).lo::.int .i64 (cs.getD i Col.none).hi::(cs.getD i Col.none).w::r:=by
 induction cs generalizing i with
 |nil=>simp at h
 | cons c cs ih =>
  cases i with
  |zero=>exact⟨jaO cs,by rw[jbI];rfl⟩
  |succ i =>
   obtain⟨r,hr⟩:=ih (i:=i) (by simpa using h);refine⟨r,?_⟩;rw[jbI,show(i+1)*4=i*4+1+1+1+1 by omega];simp only[K5,X7];exact hr
theorem jfx(cs:List Col)(q:RCap){i:Nat}(h:i<cs.length):∃r,jaw 4 (.row (jaO cs) cs.length q) (.int .i64 i)=some (.rptr (.str (cs.getD i Col.none).name::.int .i64 (cs.getD i Col.none).lo::.int .i64 (cs.getD i Col.none).hi::(cs.getD i Col.none).w::r)):=by
 obtain⟨r,hr⟩:=jiG h;exact⟨r,by rw[Ys,Kg aa,Qj,hr]⟩
theorem jjq {E:Env}{f:FuncId}{args:List V}{v:V}(hp:E.pure f=true)(hk:E.hook f=none)(h1:args.all V.closed=true->∀U,jah E (ev E) f args U=some (v,U))
  (h2:(args.map V.weak).all V.closed=true) (h3:∀U,jah E (ev E) f (args.map V.weak) U=some (v,U)) (U:S):jah E (ev E) f args U=some (v,U):=by
 cases h:args.all V.closed with
 |true=>exact h1 h U
 |false=>rw[jgl hp hk h h2 U];exact h3 U
theorem jbo:∀l:List Nd,V.weak.weakL (jb9 l)=jb9 l
 | []=>rfl
 |x::l=>by rw[jbJ];simp only[V.weak.weakL,V.weak,jbo l]
def RN(v:V)(l:List Nd):Prop:=(v.closed=true->IsN v l)/\IsN v.weak l
def RC(v:V)(cs:List Col):Prop:=(v.closed=true->IsC v cs)/\IsC v.weak cs
theorem jfy {l:List Nd}(h:(jb9 l)=[]):l=[]:=by
 cases l with
 |nil=>rfl
 |cons x l=>rw[jbJ]at h;simp at h
theorem RN.grow {base:Nat}{ts:List Nat}{v:V}{l:List Nd}(g:GN base ts v l):RN v l:=by
 unfold GN at g;generalize hc:jb9 l=cs at g;generalize hn:l.length=n at g;cases g with
 |nil=>exact⟨λ_=>.inl ⟨rfl,jfy hc⟩,.inl ⟨rfl,jfy hc⟩⟩
 |full _ _ hl=>subst hc hn;exact⟨λ_=>.inr (.inr rfl),.inr (.inr (by simp only[V.weak,jbo,RCap.weak]))⟩
 |tok _ _ k e hl hb ht=>subst hc hn;exact⟨λh=>by simp[V.closed]at h,.inr (.inl (by simp only[V.weak,jbo,RCap.weak]))⟩
theorem RC.row {cs:List Col}(ok:OkC cs)(q:RCap):RC (.row (jaO cs) cs.length q) cs:=by
 refine⟨λh => ?_,?_⟩
 ·cases q with
  |full=>exact .inr ⟨.full,.inr rfl,rfl⟩
  |unk=>exact .inr ⟨.unk,.inl rfl,rfl⟩
  |tok k e w=>simp[V.closed]at h
 ·have:=jch ok;cases q with
  |full=>exact .inr ⟨.full,.inr rfl,by simp only[V.weak,this,RCap.weak]⟩
  |unk=>exact .inr ⟨.unk,.inl rfl,by simp only[V.weak,this,RCap.weak]⟩
  |tok k e w=>exact .inr ⟨.unk,.inl rfl,by simp only[V.weak,this,RCap.weak]⟩
structure Fit (v:V) (l:List Nd) (cv:V) (cs:List Col):Prop where
 hv:RN v l
 hl:l.length<=1000
 hc:RC cv cs
 ok:OkC cs
 hcl:cs.length<=1000
 hw:∀i,i<cs.length->(cs.getD i Col.none).ws.length<=1000
theorem expr_call {v:V}{l:List Nd}{cv:V}{cs:List Col}(F:Fit v l cv cs)(cond:Bool)(U:S):jah env (ev env) 75 [v,cv,.bool cond] U=some (.int .i64 (jfv l cs cond),U):=by
 have hl:=F.hl;have hcl:=F.hcl;refine jb6 rfl (jjq rfl rfl (λh => ?_) ?_ ?_) _ U
 ·simp only[Ks,Qn,Q5,Qt]at h;exact λU=>YtajaampgajieeaaGreatDoor.expr_call v l (F.hv.1 h.1) aa cv cs (F.hc.1 h.2.1) F.ok aa F.hw cond U
 ·simp only[K6,J5,Ks,Qn,ja9 F.hc.2 F.ok,jei F.hv.2,V.weak,V.closed,K8]
 ·exact λU=>YtajaampgajieeaaGreatDoor.expr_call v.weak l F.hv.2 aa cv.weak cs F.hc.2 F.ok aa F.hw cond U
theorem jdo(f:Nat->Bool):∀m i,jbR f m i = -1->∀k,i<=k->k<i+m->f k=false
 |0,i,_,k,h1,h2=>aa
 | m+1,i,h,k,h1,h2=>by
  simp only[jbR]at h;by_cases hf:f i=true
  ·rw[Kg hf]at h;omega
  ·rw[Ke hf]at h;by_cases hk:k=i
   ·rw[hk];simpa using hf
   ·exact jdo f m (i+1) h k aa aa
end Go.Proofs.YtajaampgajieeaaGreatDoor.K
namespace Go.Proofs.YtajaampgajieeaaGreatDoor
open Go.Ab
structure Qy where
 kind:Int
 ex:List Nd
 lo:Int
 hi:Int
 p:Int
 q:Int
 column:List UInt8
 bound:Int
 rg:List (Int × Int)
 strat:Int
 cons:Bool
 table:List UInt8
 keep:Int
 other:List UInt8
 left:List UInt8
 right:List UInt8
 limit:Int
 wh:List Nd
 factor:List UInt8
 bits:Int
def Qy.cells(Q:Qy)(ev wv rv:V):List V:=[.int .i64 Q.kind,ev,.int .i64 Q.lo,.int .i64 Q.hi,.int .i64 Q.p,.int .i64 Q.q,.str Q.column,.int .i64 Q.bound,rv,.int .i64 Q.strat,.bool Q.cons,.str Q.table,.int .i64 Q.keep,.str Q.other,.str Q.left,.str Q.right,.int .i64 Q.limit,wv,.str Q.factor,.int .i64 Q.bits]
def jeC(l:List (Int × Int)):List V:=(l.map λr=>[V.int .i64 r.1,V.int .i64 r.2]).flatten
def valK(k:Int):Prop:=k=2\/k=4\/k=5
def colK(k:Int):Prop:=¬(k=1\/k=2\/k=5)
instance (k:Int):Decidable (valK k):=by unfold valK;infer_instance
instance (k:Int):Decidable (colK k):=by unfold colK;infer_instance
def far(n:Int):Prop:=n < -1000000\/1000000<n
instance (n:Int):Decidable (far n):=by unfold far;infer_instance
def bad1(Q:Qy):Prop:=¬valK Q.kind/\(0<Q.ex.length\/Q.lo ≠ 0\/Q.hi ≠ 0)
def bad2(Q:Qy):Prop:=¬Q.kind=5/\(Q.p ≠ 0\/Q.q ≠ 0)
def bad3(Q:Qy):Prop:=¬colK Q.kind/\Q.column ≠ []
def bad4(Q:Qy):Prop:=¬Q.kind=7/\Q.bound ≠ 0
def bad5(Q:Qy):Prop:=¬Q.kind=10/\(0<Q.rg.length\/Q.strat ≠ 0)
def bad6(Q:Qy):Prop:=¬Q.kind=3/\Q.cons=true
open Classical in
noncomputable def jjr(Q:Qy):Int:=if Q.kind<1\/10<Q.kind then 2 else if bad1 Q\/bad2 Q\/bad3 Q\/bad4 Q\/bad5 Q\/bad6 Q then 3 else 0
def tabE(Q:Qy)(ss:List Sch):Int:=if 0<=ja3 ss Q.table ss.length 0 then 0 else 7
def schN(ss:List Sch)(nm:List UInt8):Sch:=if 0<=ja3 ss nm ss.length 0 then ss.getD (ja3 ss nm ss.length 0).toNat Sch.none else Sch.none
def jaI(Q:Qy)(ss:List Sch):List Col:=(schN ss Q.table).cs++if Q.other=[]then []else(schN ss Q.other).cs
def jkQ(Q:Qy)(t:Sch):Int:=if Q.keep<0\/50<Q.keep then 2 else if Q.keep ≠ 0/\t.pub=true then 10 else 0
def jiH(Q:Qy)(ss:List Sch)(t o:Sch):Int :=
 if Q.other=[]then(if Q.left ≠ []\/Q.right ≠ []\/Q.limit ≠ 0 then 3 else 0)
 else if ¬0<=ja3 ss Q.other ss.length 0 then 7
 else if t.pub=true/\o.pub=false then 10
 else if ¬0<=jbg t.cs Q.left\/¬0<=jbg o.cs Q.right then 7
 else if(colN t.cs Q.left).ws ≠ (colN o.cs Q.right).ws then 10
 else if Q.limit<1\/50<Q.limit then 2 else 0
noncomputable def jj5(Q:Qy)(cs:List Col):Int:=if Q.wh.length=0 then 0 else jfv Q.wh cs true
noncomputable def expE(Q:Qy)(cs:List Col):Int:=if valK Q.kind then jfv Q.ex cs false else 0
def limE(Q:Qy):Int :=
 if valK Q.kind/\(far Q.lo\/far Q.hi\/Q.hi<Q.lo)then 2
 else if Q.kind=5/\(64<=Q.hi-Q.lo\/Q.p<1\/Q.q<=Q.p\/100<Q.q)then 2
 else if Q.kind=7/\far Q.bound then 2 else 0
noncomputable def jl4(Q:Qy)(cs:List Col):Int:=if ¬colK Q.kind then 0 else if ¬0<=jbg cs Q.column then 7 else if 64<jcU (colN cs Q.column)then 2 else 0
def rgE(Q:Qy)(c:Col):Int :=
 if ¬Q.kind=10 then 0 else if Q.rg.length=0 then 3 else if 64<Q.rg.length then 4
 else if ∃r∈Q.rg,r.1<c.lo\/c.hi<r.2\/r.2<r.1 then 2 else if Q.strat<0\/2<Q.strat then 2 else 0
def bitE(Q:Qy):Int:=if Q.bits<1\/256<Q.bits then 2 else 0
noncomputable def je6(Q:Qy)(ss:List Sch)(fe:Int):List (List UInt8 × Int) :=
  [([115,99,104,101,109,97,115],if(allE ss).1=0 then 0 else 3),([107,105,110,100],jjr Q),([116,97,98,108,101],tabE Q ss),([107,101,101,112],jkQ Q (schN ss Q.table)),
   ([106,111,105,110],jiH Q ss (schN ss Q.table) (schN ss Q.other)),([119,104,101,114,101],jj5 Q (jaI Q ss)),([101,120,112,114,101,115,115,105,111,110],expE Q (jaI Q ss)),
   ([114,97,110,103,101],limE Q),([99,111,108,117,109,110],jl4 Q (jaI Q ss)),([114,97,110,103,101,115],rgE Q (colN (jaI Q ss) Q.column)),([102,97,99,116,111,114],fe),([98,105,116,115],bitE Q)]
def jcf:List (List UInt8 × Int)->Int × List UInt8
 | []=>(0,[])
 |(n,e)::l=>if e=0 then jcf l else(e,n)
noncomputable def jdD(Q:Qy)(ss:List Sch)(fe:Int):Int × List UInt8:=jcf (je6 Q ss fe)
end Go.Proofs.YtajaampgajieeaaGreatDoor
namespace Go.Proofs.YtajaampgajieeaaGreatDoor.K
open Go.Ab
theorem jny {v:V}{xs:List Int}(h:IsI v xs):jbD env 93 [(0,v)]=some (.agg [v,.int .i64 0]):=by
 rcases h with⟨rfl,rfl⟩|rfl|rfl<;>kernel_rfl
theorem jcv {v:V}{xs:List Int}(h:IsI v xs):v.isCell=true:=by rcases h with⟨rfl,_⟩|rfl|rfl<;>rfl
theorem jep(ag:Array Operand)(ts:Array TypeId):scOp env (.call ⟨.value (.func 78),ag,ts⟩)=true:=rfl
theorem jd6(a b:List Col):jaO (a++b)=jaO a++jaO b:=by simp[jaO]
abbrev GC(base:Nat)(ts:List Nat)(v:V)(cs:List Col):Prop:=GrowV base ts 4 v cs.length (jaO cs)
abbrev GI(base:Nat)(ts:List Nat)(v:V)(xs:List Int):Prop:=GrowV base ts 1 v xs.length (xs.map (V.int .i64))
theorem GC.push {base:Nat}{hp:List AObj}{ts:List Nat}{v:V}{cs:List Col}(g:GC base ts v cs)(hb:base<=ts.length)(c:Col)(hc:c.w.isCell=true)(q:RCap)(hl:cs.length<=4000):∃v' ts',appO env false ⟨hp,ts⟩ 36 36 v (.row [.str c.name,.int .i64 c.lo,.int .i64 c.hi,c.w] 1 q)=some (v',⟨hp,ts'⟩)/\GC base ts' v' (cs++[c])/\Ext base ts ts':=by
 have hlim:lim=2^40:=rfl;have:=GrowV.push (E:=env) (hp:=hp) (q:=q) (new:=[.str c.name,.int .i64 c.lo,.int .i64 c.hi,c.w]) eC ⟨41,eC.slice⟩ g hb rfl (by simp only[Ks,Qn,hc];rfl) ⟨by rw[hlim];omega,by rw[hlim];omega⟩;obtain⟨v',ts',h1,h2,h3⟩:=this;refine⟨v',ts',h1,?_,h3⟩;unfold GC;rw[Kk,jd6];exact h2
theorem GI.push {base:Nat}{hp:List AObj}{ts:List Nat}{v:V}{xs:List Int}(g:GI base ts v xs)(hb:base<=ts.length)(x:Int)(q:RCap)(hl:xs.length<=4000):∃v' ts',appO env false ⟨hp,ts⟩ 22 22 v (.row [.int .i64 x] 1 q)=some (v',⟨hp,ts'⟩)/\GI base ts' v' (xs++[x])/\Ext base ts ts':=by
 have hlim:lim=2^40:=rfl;have:=GrowV.push (E:=env) (hp:=hp) (q:=q) (new:=[.int .i64 x]) eI ⟨3,eI.slice⟩ g hb rfl (by simp[V.isCell]) ⟨by rw[hlim];omega,by rw[hlim];omega⟩;obtain⟨v',ts',h1,h2,h3⟩:=this;refine⟨v',ts',h1,?_,h3⟩;unfold GI;rw[Kk,Js];exact h2
theorem al1:(∀h p,jaH env h 24 p=(jab h 1 p).bind (·[0]?))/\(∀h p,jaH env h 26 p=(jab h 1 p).bind (·[0]?))/\(∀h p,jaH env h 27 p=(jab h 1 p).bind (·[0]?))/\(∀h p,jaH env h 28 p=(jab h 1 p).bind (·[0]?))/\(∀h p,jaH env h 32 p=(jab h 1 p).bind (·[0]?))/\(∀h p,jaH env h 103 p=(jab h 1 p).bind (·[0]?)) /\
  (∀h p,jaH env h 30 p=(jab h 20 p).map .agg)/\(∀h p,jaH env h 38 p=(jab h 4 p).map .agg)/\(∀h p,jaH env h 104 p=(jab h 2 p).map .agg)/\(∀h p,jaH env h 86 p=(jab h 2 p).map .agg):=by
 have g30:aggT env 30=some true:=ac;have g38:aggT env 38=some true:=ac;have g104:aggT env 104=some true:=ac;have g86:aggT env 86=some true:=ac;have s30:sz env 30=some 20:=ac;have s38:sz env 38=some 4:=ac;have s104:sz env 104=some 2:=ac;have s86:sz env 86=some 2:=ac
 exact⟨λ_ _=>jay ac,λ_ _=>jay ac,λ_ _=>jay ac,λ_ _=>jay ac,λ_ _=>jay ac,λ_ _=>jay ac,
  λh p=>by unfold jaH;rw[g30,s30];rfl,λh p=>by unfold jaH;rw[g38,s38];rfl,λh p=>by unfold jaH;rw[g104,s104];rfl,λh p=>by unfold jaH;rw[g86,s86];rfl⟩
theorem uq:env.P.underlying 24=some (.slice 38)/\env.P.underlying 27=some (.slice 86)/\env.P.underlying 28=some .string/\env.P.underlying 32=some (.int .i64)/\env.P.underlying 105=some (.slice 104)/\env.P.underlying 180=some (.slice 4)/\env.P.underlying 86=some (.array 2 3) /\
  sz env 24=some 1/\sz env 27=some 1/\sz env 28=some 1/\sz env 32=some 1/\sz env 38=some 4/\sz env 30=some 20/\sz env 104=some 2/\sz env 86=some 2/\sz env 103=some 1/\sz env 117=some 30 :=
 ⟨ac,ac,ac,ac,ac,ac,ac,ac,ac,ac,ac,ac,ac,ac,ac,ac,ac⟩
theorem fo30:jas env 30 0=some 0/\jas env 30 1=some 1/\jas env 30 2=some 2/\jas env 30 3=some 3/\jas env 30 4=some 4/\jas env 30 5=some 5/\jas env 30 6=some 6/\jas env 30 7=some 7/\jas env 30 8=some 8/\jas env 30 9=some 9/\jas env 30 10=some 10/\jas env 30 11=some 11/\jas env 30 12=some 12/\jas env 30 13=some 13/\jas env 30 14=some 14/\jas env 30 15=some 15/\jas env 30 16=some 16/\jas env 30 17=some 17/\jas env 30 18=some 18/\jas env 30 19=some 19 :=
 ⟨ac,ac,ac,ac,ac,ac,ac,ac,ac,ac,ac,ac,ac,ac,ac,ac,ac,ac,ac,ac⟩
theorem jaJ:jas env 117 0=some 0/\jas env 117 1=some 20/\jas env 117 2=some 21/\jas env 117 3=some 25/\jas env 117 4=some 29/\jas env 38 0=some 0/\jas env 38 1=some 1/\jas env 38 2=some 2/\jas env 38 3=some 3/\jas env 104 0=some 0/\jas env 104 1=some 1 :=
 ⟨ac,ac,ac,ac,ac,ac,ac,ac,ac,ac,ac⟩
theorem jyM:env.P.funcs[191]? = some Tryz.f191:=ac
theorem jyN:env.P.funcs[114]? = some Tryz.f114:=ac
theorem jyO:env.P.funcs[165]? = some Tryz.f165:=ac
theorem jyP:env.P.funcs[164]? = some Tryz.f164:=ac
theorem jyQ:env.P.funcs[168]? = some Tryz.f168:=ac
def jiI(ks:List Int)(x:Int):Nat->Nat->Int:=jbR λi=>decide (ks.getD i 0=x)
theorem jj6(ks:List Int)(x:Int):0<=jiI ks x ks.length 0↔x∈ks:=by
 unfold jiI;rw[jdn];constructor
 ·rintro⟨j,_,h,e⟩;have hj:j<ks.length:=aa;rw[Jq,List.getD,Kz hj]at e;rw[<- e];exact J7 hj
 ·intro h;obtain⟨j,hj,e⟩:=Jr h;exact⟨j,Qm _,aa,by rw[Jq,List.getD,Kz hj];exact e⟩
theorem jnz {v:V}{ks:List Int}(h:IsI v ks)(hl:ks.length<=1000)(x:Int)(U:S):jah env (ev env) 191 [v,.int .i64 x] U=some (.int .i64 (jiI ks x ks.length 0),U):=by
 refine jaj (by simp[closed_I h,V.closed]) jyM rfl ?_ U;simp only[Tryz.f191,simprocAttr,zK,Vq,jai,len_I h];refine jau (λm T D U=>D=[]/\U=⟨[],[]⟩/\T 0=v/\T 1=.int .i64 x/\T 7=.int .i64 ks.length/\∃i:Nat,T 8=.int .i64 i/\i<=ks.length/\m=ks.length-i/\jiI ks x ks.length 0=jiI ks x (ks.length-i) i) ?_ (ks.length-0) _ _ _ ⟨rfl,rfl,rfl,rfl,rfl,0,rfl,aa,rfl,rfl⟩;rintro m T D U ⟨rfl,rfl,t0,t1,t7,i,t8,hi,rfl,hf⟩;refine jaC ?_;by_cases hlt:i<ks.length
 ·have c1:(i:Int)<(ks.length:Int):=by omega
  have e1:IntKind.i64.wrap ((i:Int)+1)=((i+1:Nat):Int):=by rw[wrap_i64 aa aa];omega
  have hx:=idx_I h hlt;unfold jiI at hf;rw[jd9 hlt]at hf;by_cases hn:x=ks.getD i 0
  ·rw[Kg (decide_eq_true hn.symm)]at hf;have hn1:=eq_true hn;simp only[simprocAttr,zK,Vq,t0,t1,t7,t8,c1,e1,hx,jaq,hn1];rw[jiI,hf];rfl
  ·rw[Ke (by simp only[Jq];exact λe=>hn e.symm)]at hf;have hn1:=eq_false hn;simp only[simprocAttr,zK,Vq,t0,t1,t7,t8,c1,e1,hx,jaq,hn1];exact⟨ks.length-(i+1),aa,i+1,rfl,aa,rfl,hf⟩
 ·have hi2:i=ks.length:=by omega
  subst hi2;have c1:¬(ks.length:Int)<(ks.length:Int):=aa;rw[Xn]at hf;simp only[simprocAttr,zK,Vq,t0,t1,t7,t8,c1];rw[hf];rfl
theorem jjs {v:V}{ks:List Int}(h:IsI v ks)(hl:ks.length<=1000)(x:Int)(U:S):jah env (ev env) 114 [v,.int .i64 x] U=some (.bool (decide (x∈ks)),U):=by
 refine jaj (by simp[closed_I h,V.closed]) jyN rfl ?_ U;have hx:=jnz h hl x;by_cases hm:x∈ks
 ·have h0:=eq_true ((jj6 ks x).2 hm);simp only[Tryz.f114,simprocAttr,zK,Vq,jai,hx,h0];rw[decide_eq_true hm];rfl
 ·have h0:=eq_false (λq=>hm ((jj6 ks x).1 q));simp only[Tryz.f114,simprocAttr,zK,Vq,jai,hx,h0];rw[decide_eq_false hm];rfl
theorem jaT(n:Int)(U:S):jah env (ev env) 168 [.int .i64 n] U=some (.bool (decide (far n)),U):=by
 refine jaj rfl jyQ rfl ?_ U;by_cases h1:n < -1000000
 ·simp only[Tryz.f168,simprocAttr,zK,Vq,h1];rw[decide_eq_true (show far n from .inl h1)];rfl
 ·by_cases h2:1000000<n
  ·simp only[Tryz.f168,simprocAttr,zK,Vq,h1,h2];rw[decide_eq_true (show far n from .inr h2)];rfl
  ·simp only[Tryz.f168,simprocAttr,zK,Vq,h1,h2];rw[decide_eq_false (show ¬far n from λq=>q.elim h1 h2)];rfl
abbrev qobj(Q:Qy)(ev wv rv lv:V)(t o:Sch)(cv:V):AObj:=.cells [.int .i64 Q.kind,ev,.int .i64 Q.lo,.int .i64 Q.hi,.int .i64 Q.p,.int .i64 Q.q,.str Q.column,.int .i64 Q.bound,rv,.int .i64 Q.strat,.bool Q.cons,.str Q.table,.int .i64 Q.keep,.str Q.other,.str Q.left,.str Q.right,.int .i64 Q.limit,wv,.str Q.factor,.int .i64 Q.bits,
 lv,.str t.name,.bool t.pub,.int .i64 t.many,t.cv,.str o.name,.bool o.pub,.int .i64 o.many,o.cv,cv] 117
def QO(Q:Qy)(ev wv rv lv:V)(t o:Sch)(cv:V)(L:List AObj)(p:Nat):Prop:=L[p]? = some (qobj Q ev wv rv lv t o cv)
section
variable {Q:Qy}{ev wv rv lv cv:V}{t o:Sch}{L:List AObj}{p:Nat}
theorem QO.has(h:QO Q ev wv rv lv t o cv L p):L[p]? = some (qobj Q ev wv rv lv t o cv):=h
theorem QO.app(h:QO Q ev wv rv lv t o cv L p)(X:List AObj):QO Q ev wv rv lv t o cv (L++X) p:=jaE h X
theorem QO.ldq(h:QO Q ev wv rv lv t o cv L p):jab L 20 (.ptr p 0)=some (Q.cells ev wv rv):=by
 simp[jab,h.has,Qy.cells]
theorem Q2(h:QO Q ev wv rv lv t o cv L p){v:V}{ks:List Int}(hv:IsI v ks)(hl:ks.length<=1000)(ts:List Nat):jah env (Go.Ab.ev env) 165 [.ptr p 0,v] ⟨L,ts⟩=some (.bool (decide (Q.kind∈ks)),⟨L,ts⟩):=by
 refine jaL jyO rfl ?_;have hc:=jjs hv hl Q.kind;have hh:=h.has;simp only[Tryz.f165,simprocAttr,zK,K0,jaa,K3,fo30,jaJ,hh,hc];exact⟨rfl,trivial⟩
theorem jdM(a b c:Int):rowO env 22 3 [(0,.int .i64 a),(1,.int .i64 b),(2,.int .i64 c)]=some (.row ([a,b,c].map (V.int .i64)) 3 .full):=ac
theorem jbu(a:Int):rowO env 22 1 [(0,.int .i64 a)]=some (.row ([a].map (V.int .i64)) 1 .full):=ac
theorem joS(h:QO Q ev wv rv lv t o cv L p)(a b c:Int)(ts:List Nat):jah env (Go.Ab.ev env) 165 [.ptr p 0,.row ([a,b,c].map (V.int .i64)) 3 .full] ⟨L,ts⟩=some (.bool (decide (Q.kind∈[a,b,c])),⟨L,ts⟩):=Q2 h (ks:=[a,b,c]) (.inr (.inr rfl)) ae ts
theorem ja2(h:QO Q ev wv rv lv t o cv L p)(a:Int)(ts:List Nat):jah env (Go.Ab.ev env) 165 [.ptr p 0,.row ([a].map (V.int .i64)) 1 .full] ⟨L,ts⟩=some (.bool (decide (Q.kind=a)),⟨L,ts⟩):=by
 have:=Q2 h (ks:=[a]) (.inr (.inr rfl)) ae ts;rw[show decide (Q.kind=a)=decide (Q.kind∈[a]) by simp];exact this
theorem jbp(h:QO Q ev wv rv lv t o cv L p)(ts:List Nat):jah env (Go.Ab.ev env) 164 [.ptr p 0] ⟨L,ts⟩=some (.bool (decide (valK Q.kind)),⟨L,ts⟩):=by
 refine jaL jyP rfl ?_;have hc:=joS h 2 4 5 ts;have e:decide (Q.kind∈[2,4,5])=decide (valK Q.kind):=decide_eq_decide.2 (by simp[valK]);rw[e]at hc;simp only[Tryz.f164,simprocAttr,zK,K0,jaa,jar,jdM,hc];exact⟨rfl,trivial⟩
end
theorem at84:env.P.funcs[84]? = some Tryz.f84:=ac
theorem at86:env.P.funcs[86]? = some Tryz.f86:=ac
theorem at87:env.P.funcs[87]? = some Tryz.f87:=ac
theorem at89:env.P.funcs[89]? = some Tryz.f89:=ac
theorem at90:env.P.funcs[90]? = some Tryz.f90:=ac
theorem at94:env.P.funcs[94]? = some Tryz.f94:=ac
theorem at95:env.P.funcs[95]? = some Tryz.f95:=ac
structure SS (lv:V) (ss:List Sch):Prop where
 v:IsS lv ss
 ok:OkS ss
 l:ss.length<=1000
 sh:∀i,i<ss.length->jj1 (ss.getD i Sch.none)
theorem hk96:env.hook 96=some (jbU YtajaampgajieeaaGreatDoor.env 96):=rfl
theorem hk97:env.hook 97=some (jbU YtajaampgajieeaaGreatDoor.env 97):=rfl
theorem jyR:env.hook 166=some (jbU YtajaampgajieeaaGreatDoor.env 166):=rfl
theorem jtD:env.hook 133=some (jbU YtajaampgajieeaaGreatDoor.env 133):=rfl
theorem jkR {lv:V}{ss:List Sch}(h:SS lv ss)(U:S):jah env (ev env) 96 [lv] U=some (tri (allE ss),U):=jb6 hk96 (jgI lv ss h.v h.ok h.l h.sh) _ U
theorem find_call {lv:V}{ss:List Sch}(h:SS lv ss)(nm:List UInt8)(U:S):jah env (ev env) 97 [lv,.str nm] U=some (jcn (ja3 ss nm ss.length 0),U):=jb6 hk97 (YtajaampgajieeaaGreatDoor.find_call nm lv ss h.v h.ok h.l) _ U
structure Fac (f:List UInt8) (fe:Int):Prop where
 ck:∃c lo hi x y,(∀U,jah env (ev env) 169 [.str f] U=some (.int .i64 c,U))/\(c=0->(∀U,jah env (ev env) 170 [.str f,.str [49]] U=some (.tup [.int .i64 lo,.int .i64 x],U))/\∀U,jah env (ev env) 170 [.str f,.str [49,48,48,48,48,48,48]] U=some (.tup [.int .i64 hi,.int .i64 y],U)) /\
  fe=if c ≠ 0 then 3 else if 40<f.length\/lo<=0\/0<hi then 2 else 0
section
variable {Q:Qy}{ev wv rv lv cv:V}{t o:Sch}{L:List AObj}{p:Nat}
theorem jcC(h:QO Q ev wv rv lv t o cv L p){ss:List Sch}(hs:SS lv ss)(ts:List Nat):jah env (Go.Ab.ev env) 84 [.ptr p 0] ⟨L,ts⟩=some (.int .i64 (if(allE ss).1=0 then 0 else 3),⟨L,ts⟩):=by
 refine jaL at84 rfl ?_;have hh:=h.has;have hA:=jkR hs;unfold tri at hA;by_cases h0:(allE ss).1=0
 ·simp only[Tryz.f84,simprocAttr,zK,K0,jaa,K3,fo30,jaJ,al1,uq,hh,hA,h0];exact⟨rfl,trivial⟩
 ·have h1:=eq_false h0;simp only[Tryz.f84,simprocAttr,zK,K0,jaa,K3,fo30,jaJ,al1,uq,hh,hA,h1];exact⟨rfl,trivial⟩
theorem jiJ(h:QO Q ev wv rv lv t o cv L p){ss:List Sch}(hs:SS lv ss)(ts:List Nat):jah env (Go.Ab.ev env) 86 [.ptr p 0] ⟨L,ts⟩=some (.int .i64 (tabE Q ss),⟨L,ts⟩):=by
 refine jaL at86 rfl ?_;have hh:=h.has;have hF:=find_call hs Q.table;unfold jcn at hF;unfold tabE;by_cases h0:0<=ja3 ss Q.table ss.length 0
 ·have h1:=eq_true h0;simp only[h1,Kl,decide_true]at hF;simp only[Tryz.f86,simprocAttr,zK,K0,jaa,K3,fo30,jaJ,al1,uq,hh,hF];exact⟨ac,by rw[Kg h0];rfl,trivial⟩
 ·have h1:=eq_false h0;simp only[h1,Kn,decide_false]at hF;simp only[Tryz.f86,simprocAttr,zK,K0,jaa,K3,fo30,jaJ,al1,uq,hh,hF];exact⟨ac,by rw[Ke h0];rfl,trivial⟩
theorem jr1(h:QO Q ev wv rv lv t o cv L p)(ts:List Nat):jah env (Go.Ab.ev env) 87 [.ptr p 0] ⟨L,ts⟩=some (.int .i64 (jkQ Q t),⟨L,ts⟩):=by
 refine jaL at87 rfl ?_;have hh:=h.has;unfold jkQ;by_cases h1:Q.keep<0
 ·simp only[Tryz.f87,simprocAttr,zK,K0,jaa,K3,fo30,jaJ,al1,uq,hh,h1];exact⟨by rw[Kg (.inl trivial)];rfl,trivial⟩
 by_cases h2:50<Q.keep
 ·simp only[Tryz.f87,simprocAttr,zK,K0,jaa,K3,fo30,jaJ,al1,uq,hh,h1,h2];exact⟨by rw[Kg (.inr trivial)];rfl,trivial⟩
 by_cases h3:Q.keep=0
 ·simp only[Tryz.f87,simprocAttr,zK,K0,jaa,K3,fo30,jaJ,al1,uq,hh,h3];exact⟨rfl,trivial⟩
 have h3':=eq_false h3;cases hp:t.pub
 ·simp only[Tryz.f87,simprocAttr,zK,K0,jaa,K3,fo30,jaJ,al1,uq,hh,h1,h2,h3',hp];exact⟨by simp[h3,jaB],trivial⟩
 ·simp only[Tryz.f87,simprocAttr,zK,K0,jaa,K3,fo30,jaJ,al1,uq,hh,h1,h2,h3',hp];exact⟨by simp[h3,jaB],trivial⟩
theorem jr2(h:QO Q ev wv rv lv t o cv L p)(ts:List Nat):jah env (Go.Ab.ev env) 95 [.ptr p 0] ⟨L,ts⟩=some (.int .i64 (bitE Q),⟨L,ts⟩):=by
 refine jaL at95 rfl ?_;have hh:=h.has;unfold bitE;by_cases h1:Q.bits<1
 ·simp only[Tryz.f95,simprocAttr,zK,K0,jaa,K3,fo30,jaJ,al1,uq,hh,h1];exact⟨by rw[Kg (.inl trivial)];rfl,trivial⟩
 by_cases h2:256<Q.bits
 ·simp only[Tryz.f95,simprocAttr,zK,K0,jaa,K3,fo30,jaJ,al1,uq,hh,h1,h2];exact⟨by rw[Kg (.inr trivial)];rfl,trivial⟩
 simp only[Tryz.f95,simprocAttr,zK,K0,jaa,K3,fo30,jaJ,al1,uq,hh,h1,h2];exact⟨by simp[jaB],trivial⟩
theorem jnA(h:QO Q ev wv rv lv t o cv L p){fe:Int}(hf:Fac Q.factor fe)(hl:Q.factor.length<2^40)(ts:List Nat):jah env (Go.Ab.ev env) 94 [.ptr p 0] ⟨L,ts⟩=some (.int .i64 fe,⟨L,ts⟩):=by
 refine jaL at94 rfl ?_;have hh:=h.has;obtain⟨c,lo,hi,x,y,f1,f23,rfl⟩:=hf.ck;by_cases h1:c=0
 ·obtain⟨f2,f3⟩:=f23 h1;subst h1;rw[Ke ae];by_cases h2:40<Q.factor.length
  ·have c2:(40:Int)<(Q.factor.length:Int):=by omega
   simp only[Tryz.f94,simprocAttr,zK,K0,jaa,K3,fo30,jaJ,al1,uq,jaX,hh,f1,f2,f3,c2];exact⟨by rw[Kg (.inl h2)];rfl,trivial⟩
  have c2:¬(40:Int)<(Q.factor.length:Int):=aa;by_cases h3:lo<=0
  ·simp only[Tryz.f94,simprocAttr,zK,K0,jaa,K3,fo30,jaJ,al1,uq,jaX,hh,f1,f2,f3,c2,h3];exact⟨by rw[Kg (.inr (.inl trivial))];rfl,trivial⟩
  by_cases h4:0<hi
  ·simp only[Tryz.f94,simprocAttr,zK,K0,jaa,K3,fo30,jaJ,al1,uq,jaX,hh,f1,f2,f3,c2,h3,h4];exact⟨by rw[Kg (.inr (.inr trivial))];rfl,trivial⟩
  simp only[Tryz.f94,simprocAttr,zK,K0,jaa,K3,fo30,jaJ,al1,uq,jaX,hh,f1,f2,f3,c2,h3,h4];exact⟨by simp[jaB,h2],trivial⟩
 ·have h1':=eq_false h1;simp only[Tryz.f94,simprocAttr,zK,K0,jaa,K3,fo30,jaJ,al1,uq,jaX,hh,f1,h1'];exact⟨by simp[jaB,h1],trivial⟩
end
structure NV (v:V) (l:List Nd):Prop where
 rn:RN v l
 len:jbb (some (.slice 84)) v=some (.int .i64 l.length)
 cell:v.cells=[v]/\v.isCell=true
 le:l.length<=400
structure CV (v:V) (cs:List Col):Prop where
 rc:RC v cs
 ok:OkC cs
 cell:v.cells=[v]/\v.isCell=true
 le:cs.length<=400
 sh:∀i,i<cs.length->jdL (cs.getD i Col.none)
theorem CV.w {v:V}{cs:List Col}(h:CV v cs):∀i,i<cs.length->(cs.getD i Col.none).ws.length<=1000:=λi hi=>(h.sh i hi).2.1
theorem fit {v:V}{l:List Nd}(h:NV v l){cv:V}{cs:List Col}(c:CV cv cs):Fit v l cv cs:=⟨h.rn,by have:=h.le;omega,c.rc,c.ok,by have:=c.le;omega,c.w⟩
theorem jhY {cv:V}{cs:List Col}(c:CV cv cs)(nm:List UInt8)(U:S):jah env (ev env) 166 [cv,.str nm] U=some (.tup [.agg [.str (colN cs nm).name,.int .i64 (colN cs nm).lo,.int .i64 (colN cs nm).hi,(colN cs nm).w],.bool (decide (0<=jbg cs nm))],U):=by
 have hl:=c.le;refine jb6 jyR (jjq rfl rfl (λh => ?_) ?_ ?_) _ U
 ·simp only[Ks,Qn,Q5,Qt]at h;exact jfT cv cs (c.rc.1 h.1) c.ok aa nm
 ·simp only[K6,J5,Ks,Qn,ja9 c.rc.2 c.ok,V.weak,V.closed,K8]
 ·exact jfT cv.weak cs c.rc.2 c.ok aa nm
theorem jhk {cs:List Col}(h:∀i,i<cs.length->jdL (cs.getD i Col.none))(nm:List UInt8):jdL (colN cs nm):=by
 unfold colN
 rcases jca cs nm with e|⟨j,e,hj,_⟩
 ·rw[e,Ke aa];exact⟨by simp[Col.none],by simp[Col.none],λi hi=>by simp[Col.none]at hi⟩
 ·rw[e,Kg aa,Qj];exact h j hj
theorem jtE {c:Col}(h:IsW c.w c.ws)(hs:jdL c)(U:S):jah env (ev env) 133 [.agg [.str c.name,.int .i64 c.lo,.int .i64 c.hi,c.w]] U=some (.int .i64 (jcU c),U):=jb6 jtD (width_call c h hs) _ U
theorem at91:env.P.funcs[91]? = some Tryz.f91:=ac
theorem at92:env.P.funcs[92]? = some Tryz.f92:=ac
theorem at93:env.P.funcs[93]? = some Tryz.f93:=ac
section
variable {Q:Qy}{ev wv rv lv cv:V}{t o:Sch}{L:List AObj}{p:Nat}
theorem jpV(h:QO Q ev wv rv lv t o cv L p){cs:List Col}(hw:NV wv Q.wh)(hc:CV cv cs)(ts:List Nat):jah env (Go.Ab.ev env) 89 [.ptr p 0] ⟨L,ts⟩=some (.int .i64 (jj5 Q cs),⟨L,ts⟩):=by
 refine jaL at89 rfl ?_;have hh:=h.has;have hE:=expr_call (fit hw hc) true;have hl:=hw.len;unfold jj5;by_cases h0:Q.wh.length=0
 ·have c0:((Q.wh.length:Int)=0)=True:=eq_true aa;simp only[Tryz.f89,simprocAttr,zK,K0,jaa,K3,fo30,jaJ,al1,uq,hh,hl,c0];exact⟨by rw[Kg h0];rfl,trivial⟩
 ·have c0:((Q.wh.length:Int)=0)=False:=eq_false aa;simp only[Tryz.f89,simprocAttr,zK,K0,jaa,K3,fo30,jaJ,al1,uq,hh,hl,c0,hE];exact⟨ac,by rw[Ke h0];rfl,trivial⟩
theorem jtF(h:QO Q ev wv rv lv t o cv L p){cs:List Col}(he:NV ev Q.ex)(hc:CV cv cs)(ts:List Nat):jah env (Go.Ab.ev env) 90 [.ptr p 0] ⟨L,ts⟩=some (.int .i64 (expE Q cs),⟨L,ts⟩):=by
 refine jaL at90 rfl ?_;have hh:=h.has;have hE:=expr_call (fit he hc) false;have hV:=jbp h ts;unfold expE;by_cases h0:valK Q.kind
 ·rw[decide_eq_true h0]at hV;simp only[Tryz.f90,simprocAttr,zK,K0,jaa,K3,fo30,jaJ,al1,uq,hh,hV,hE];exact⟨ac,by rw[Kg h0];rfl,trivial⟩
 ·rw[decide_eq_false h0]at hV;simp only[Tryz.f90,simprocAttr,zK,K0,jaa,K3,fo30,jaJ,al1,uq,hh,hV];exact⟨by rw[Ke h0];rfl,trivial⟩
theorem jl5(h:QO Q ev wv rv lv t o cv L p)(ts:List Nat):jah env (Go.Ab.ev env) 165 [.ptr p 0,.row ([1,2,5].map (V.int .i64)) 3 .full] ⟨L,ts⟩=some (.bool (decide (¬colK Q.kind)),⟨L,ts⟩):=by
 have:=joS h 1 2 5 ts;rw[show decide (¬colK Q.kind)=decide (Q.kind∈[1,2,5])from decide_eq_decide.2 (by unfold colK;simp only[Ux,Jg,V4,or_false])];exact this
theorem zv41:jba env 41=some (.agg [.str [],.int .i64 0,.int .i64 0,.nilsl]):=ac
theorem jd7(h:QO Q ev wv rv lv t o cv L p){cs:List Col}(hc:CV cv cs)(ts:List Nat):∃v U',jah env (Go.Ab.ev env) 92 [.ptr p 0] ⟨L,ts⟩=some (v,U')/\v=.int .i64 (jl4 Q cs)/\∃X,U'=⟨L++X,ts⟩:=by
 refine jaD at92 rfl ?_;have hh:=h.has;have hI:=jl5 h ts;unfold jl4;by_cases h0:colK Q.kind
 ·rw[decide_eq_false (λq=>q h0)]at hI;have hC:=jhY hc Q.column;have hW:=jtE (jgK hc.ok Q.column) (jhk hc.sh Q.column);have hic:=jbf (jgK hc.ok Q.column);rw[Ke (λq=>q h0)];simp only[Tryz.f92,simprocAttr,zK,K0,jaa,jar,jdM,hI];refine jcI rfl (λs=>s.heap[p]? = some (qobj Q ev wv rv lv t o cv)) hh ac ?_;have hH:∀a:AObj,(L++[a])[p]? = some (qobj Q ev wv rv lv t o cv):=λa=>(h.app [a]).has
  generalize colN cs Q.column=c at *;simp only[simprocAttr,zK,K0,jaa,Kf,K3,fo30,jaJ,al1,uq,hh,hC,zv41,K2,jae,jac,hic,hH,jdA,hW];refine⟨λs h=>by rw[h];rfl,λs h=>by rw[h];rfl,λ_=>trivial,λh1=>⟨by rw[Kg h1];rfl,_,rfl⟩,λh1=>⟨λh2=>⟨by rw[Ke h1,Kg h2];rfl,_,rfl⟩,λh2=>⟨by rw[Ke h1,Ke h2];rfl,_,rfl⟩⟩⟩
 ·rw[decide_eq_true h0]at hI;rw[Kg h0];simp only[Tryz.f92,simprocAttr,zK,K0,jaa,jar,jdM,hI];exact⟨rfl,[],ae⟩
theorem zq:jba env 30=some (.agg [.int .i64 0,.nilsl,.int .i64 0,.int .i64 0,.int .i64 0,.int .i64 0,.str [],.int .i64 0,.nilsl,.int .i64 0,.bool false,.str [],.int .i64 0,.str [],.str [],.str [],.int .i64 0,.nilsl,.str [],.int .i64 0]):=ac
theorem jyS(h:QO Q ev wv rv lv t o cv L p)(hx:ev.isCell=true/\wv.isCell=true/\rv.isCell=true)(ts:List Nat)(gV:valK Q.kind)(gL:far Q.lo):∃v U',jah env (Go.Ab.ev env) 91 [.ptr p 0] ⟨L,ts⟩=some (v,U')/\v=.int .i64 2/\∃X,U'=⟨L++X,ts⟩:=by
 refine jaD at91 rfl ?_;have hh:=h.has;have hq:=h.ldq;have hP:=(h.app [.cells (Q.cells ev wv rv) 30]);have cV:=jbp hP ts;have h5:=ja2 hP 5 ts;have h7:=ja2 hP 7 ts;have fL:=jaT Q.lo;have fH:=jaT Q.hi;have fB:=jaT Q.bound;obtain⟨x1,x2,x3⟩:=hx;rw[decide_eq_true gV]at cV;rw[decide_eq_true gL]at fL;unfold Qy.cells at *;simp only[Tryz.f91,simprocAttr,zK,K0,jaa,K3,fo30,jaJ,al1,uq,hh,hq,zq,K2,Qf,x1,x2,x3,Q5,K8,jar,jbu,cV,h5,h7,fL,fH,fB,cV];exact⟨rfl,_,rfl⟩
theorem jyT(h:QO Q ev wv rv lv t o cv L p)(hx:ev.isCell=true/\wv.isCell=true/\rv.isCell=true)(ts:List Nat)(gV:valK Q.kind)(gL:¬(far Q.lo))(gH:far Q.hi):∃v U',jah env (Go.Ab.ev env) 91 [.ptr p 0] ⟨L,ts⟩=some (v,U')/\v=.int .i64 2/\∃X,U'=⟨L++X,ts⟩:=by
 refine jaD at91 rfl ?_;have hh:=h.has;have hq:=h.ldq;have hP:=(h.app [.cells (Q.cells ev wv rv) 30]);have cV:=jbp hP ts;have h5:=ja2 hP 5 ts;have h7:=ja2 hP 7 ts;have fL:=jaT Q.lo;have fH:=jaT Q.hi;have fB:=jaT Q.bound;obtain⟨x1,x2,x3⟩:=hx;rw[decide_eq_true gV]at cV;rw[decide_eq_false gL]at fL;rw[decide_eq_true gH]at fH;unfold Qy.cells at *;simp only[Tryz.f91,simprocAttr,zK,K0,jaa,K3,fo30,jaJ,al1,uq,hh,hq,zq,K2,Qf,x1,x2,x3,Q5,K8,jar,jbu,cV,h5,h7,fL,fH,fB,cV];exact⟨rfl,_,rfl⟩
theorem jyU(h:QO Q ev wv rv lv t o cv L p)(hx:ev.isCell=true/\wv.isCell=true/\rv.isCell=true)(ts:List Nat)(gV:valK Q.kind)(gL:¬(far Q.lo))(gH:¬(far Q.hi))(gG:Q.hi<Q.lo):∃v U',jah env (Go.Ab.ev env) 91 [.ptr p 0] ⟨L,ts⟩=some (v,U')/\v=.int .i64 2/\∃X,U'=⟨L++X,ts⟩:=by
 refine jaD at91 rfl ?_;have hh:=h.has;have hq:=h.ldq;have hP:=(h.app [.cells (Q.cells ev wv rv) 30]);have cV:=jbp hP ts;have h5:=ja2 hP 5 ts;have h7:=ja2 hP 7 ts;have fL:=jaT Q.lo;have fH:=jaT Q.hi;have fB:=jaT Q.bound;obtain⟨x1,x2,x3⟩:=hx;rw[decide_eq_true gV]at cV;rw[decide_eq_false gL]at fL;rw[decide_eq_false gH]at fH;have eG:=eq_true gG;unfold Qy.cells at *;simp only[Tryz.f91,simprocAttr,zK,K0,jaa,K3,fo30,jaJ,al1,uq,hh,hq,zq,K2,Qf,x1,x2,x3,Q5,K8,jar,jbu,cV,h5,h7,fL,fH,fB,eG];exact⟨rfl,_,rfl⟩
theorem jyV(h:QO Q ev wv rv lv t o cv L p)(hx:ev.isCell=true/\wv.isCell=true/\rv.isCell=true)(ts:List Nat)(gV:¬(valK Q.kind))(gK5:¬(Q.kind=5))(gK7:Q.kind=7)(gB:far Q.bound):∃v U',jah env (Go.Ab.ev env) 91 [.ptr p 0] ⟨L,ts⟩=some (v,U')/\v=.int .i64 2/\∃X,U'=⟨L++X,ts⟩:=by
 refine jaD at91 rfl ?_;have hh:=h.has;have hq:=h.ldq;have hP:=(h.app [.cells (Q.cells ev wv rv) 30]);have cV:=jbp hP ts;have h5:=ja2 hP 5 ts;have h7:=ja2 hP 7 ts;have fL:=jaT Q.lo;have fH:=jaT Q.hi;have fB:=jaT Q.bound;obtain⟨x1,x2,x3⟩:=hx;rw[decide_eq_false gV]at cV;rw[decide_eq_false gK5]at h5;rw[decide_eq_true gK7]at h7;rw[decide_eq_true gB]at fB;unfold Qy.cells at *;simp only[Tryz.f91,simprocAttr,zK,K0,jaa,K3,fo30,jaJ,al1,uq,hh,hq,zq,K2,Qf,x1,x2,x3,Q5,K8,jar,jbu,cV,h5,h7,fL,fH,fB,cV];exact⟨rfl,_,rfl⟩
theorem jyW(h:QO Q ev wv rv lv t o cv L p)(hx:ev.isCell=true/\wv.isCell=true/\rv.isCell=true)(ts:List Nat)(gV:¬(valK Q.kind))(gK5:¬(Q.kind=5))(gK7:Q.kind=7)(gB:¬(far Q.bound)):∃v U',jah env (Go.Ab.ev env) 91 [.ptr p 0] ⟨L,ts⟩=some (v,U')/\v=.int .i64 0/\∃X,U'=⟨L++X,ts⟩:=by
 refine jaD at91 rfl ?_;have hh:=h.has;have hq:=h.ldq;have hP:=(h.app [.cells (Q.cells ev wv rv) 30]);have cV:=jbp hP ts;have h5:=ja2 hP 5 ts;have h7:=ja2 hP 7 ts;have fL:=jaT Q.lo;have fH:=jaT Q.hi;have fB:=jaT Q.bound;obtain⟨x1,x2,x3⟩:=hx;rw[decide_eq_false gV]at cV;rw[decide_eq_false gK5]at h5;rw[decide_eq_true gK7]at h7;rw[decide_eq_false gB]at fB;unfold Qy.cells at *;simp only[Tryz.f91,simprocAttr,zK,K0,jaa,K3,fo30,jaJ,al1,uq,hh,hq,zq,K2,Qf,x1,x2,x3,Q5,K8,jar,jbu,cV,h5,h7,fL,fH,fB,cV];exact⟨rfl,_,rfl⟩
theorem jyX(h:QO Q ev wv rv lv t o cv L p)(hx:ev.isCell=true/\wv.isCell=true/\rv.isCell=true)(ts:List Nat)(gV:¬(valK Q.kind))(gK5:¬(Q.kind=5))(gK7:¬(Q.kind=7)):∃v U',jah env (Go.Ab.ev env) 91 [.ptr p 0] ⟨L,ts⟩=some (v,U')/\v=.int .i64 0/\∃X,U'=⟨L++X,ts⟩:=by
 refine jaD at91 rfl ?_;have hh:=h.has;have hq:=h.ldq;have hP:=(h.app [.cells (Q.cells ev wv rv) 30]);have cV:=jbp hP ts;have h5:=ja2 hP 5 ts;have h7:=ja2 hP 7 ts;have fL:=jaT Q.lo;have fH:=jaT Q.hi;have fB:=jaT Q.bound;obtain⟨x1,x2,x3⟩:=hx;rw[decide_eq_false gV]at cV;rw[decide_eq_false gK5]at h5;rw[decide_eq_false gK7]at h7;unfold Qy.cells at *;simp only[Tryz.f91,simprocAttr,zK,K0,jaa,K3,fo30,jaJ,al1,uq,hh,hq,zq,K2,Qf,x1,x2,x3,Q5,K8,jar,jbu,cV,h5,h7,fL,fH,fB,cV];exact⟨rfl,_,rfl⟩
theorem jyY(h:QO Q ev wv rv lv t o cv L p)(hx:ev.isCell=true/\wv.isCell=true/\rv.isCell=true)(ts:List Nat)(gV:valK Q.kind)(gL:¬(far Q.lo))(gH:¬(far Q.hi))(gG:¬(Q.hi<Q.lo))(gK5:Q.kind=5)(gD:64<=Q.hi-Q.lo):∃v U',jah env (Go.Ab.ev env) 91 [.ptr p 0] ⟨L,ts⟩=some (v,U')/\v=.int .i64 2/\∃X,U'=⟨L++X,ts⟩:=by
 refine jaD at91 rfl ?_;have hh:=h.has;have hq:=h.ldq;have hP:=(h.app [.cells (Q.cells ev wv rv) 30]);have cV:=jbp hP ts;have h5:=ja2 hP 5 ts;have h7:=ja2 hP 7 ts;have fL:=jaT Q.lo;have fH:=jaT Q.hi;have fB:=jaT Q.bound;obtain⟨x1,x2,x3⟩:=hx;rw[decide_eq_true gV]at cV;rw[decide_eq_false gL]at fL;rw[decide_eq_false gH]at fH;have eG:=eq_false gG;rw[decide_eq_true gK5]at h5;have eD:=eq_true gD;have ew:IntKind.i64.wrap (Q.hi-Q.lo)=Q.hi-Q.lo:=wrap_i64 (by unfold far at gL gH;omega) (by unfold far at gL gH;omega);unfold Qy.cells at *;simp only[Tryz.f91,simprocAttr,zK,K0,jaa,K3,fo30,jaJ,al1,uq,hh,hq,zq,K2,Qf,x1,x2,x3,Q5,K8,jar,jbu,cV,h5,h7,fL,fH,fB,eG,eD,ew];exact⟨rfl,_,rfl⟩
theorem jyZ(h:QO Q ev wv rv lv t o cv L p)(hx:ev.isCell=true/\wv.isCell=true/\rv.isCell=true)(ts:List Nat)(gV:valK Q.kind)(gL:¬(far Q.lo))(gH:¬(far Q.hi))(gG:¬(Q.hi<Q.lo))(gK5:Q.kind=5)(gD:¬(64<=Q.hi-Q.lo))(gP:Q.p<1):∃v U',jah env (Go.Ab.ev env) 91 [.ptr p 0] ⟨L,ts⟩=some (v,U')/\v=.int .i64 2/\∃X,U'=⟨L++X,ts⟩:=by
 refine jaD at91 rfl ?_;have hh:=h.has;have hq:=h.ldq;have hP:=(h.app [.cells (Q.cells ev wv rv) 30]);have cV:=jbp hP ts;have h5:=ja2 hP 5 ts;have h7:=ja2 hP 7 ts;have fL:=jaT Q.lo;have fH:=jaT Q.hi;have fB:=jaT Q.bound;obtain⟨x1,x2,x3⟩:=hx;rw[decide_eq_true gV]at cV;rw[decide_eq_false gL]at fL;rw[decide_eq_false gH]at fH;have eG:=eq_false gG;rw[decide_eq_true gK5]at h5;have eD:=eq_false gD;have eP:=eq_true gP;have ew:IntKind.i64.wrap (Q.hi-Q.lo)=Q.hi-Q.lo:=wrap_i64 (by unfold far at gL gH;omega) (by unfold far at gL gH;omega);unfold Qy.cells at *;simp only[Tryz.f91,simprocAttr,zK,K0,jaa,K3,fo30,jaJ,al1,uq,hh,hq,zq,K2,Qf,x1,x2,x3,Q5,K8,jar,jbu,cV,h5,h7,fL,fH,fB,eG,eD,eP,ew];exact⟨rfl,_,rfl⟩
theorem jy0(h:QO Q ev wv rv lv t o cv L p)(hx:ev.isCell=true/\wv.isCell=true/\rv.isCell=true)(ts:List Nat)(gV:valK Q.kind)(gL:¬(far Q.lo))(gH:¬(far Q.hi))(gG:¬(Q.hi<Q.lo))(gK5:Q.kind=5)(gD:¬(64<=Q.hi-Q.lo))(gP:¬(Q.p<1))(gQ:Q.q<=Q.p):∃v U',jah env (Go.Ab.ev env) 91 [.ptr p 0] ⟨L,ts⟩=some (v,U')/\v=.int .i64 2/\∃X,U'=⟨L++X,ts⟩:=by
 refine jaD at91 rfl ?_;have hh:=h.has;have hq:=h.ldq;have hP:=(h.app [.cells (Q.cells ev wv rv) 30]);have cV:=jbp hP ts;have h5:=ja2 hP 5 ts;have h7:=ja2 hP 7 ts;have fL:=jaT Q.lo;have fH:=jaT Q.hi;have fB:=jaT Q.bound;obtain⟨x1,x2,x3⟩:=hx;rw[decide_eq_true gV]at cV;rw[decide_eq_false gL]at fL;rw[decide_eq_false gH]at fH;have eG:=eq_false gG;rw[decide_eq_true gK5]at h5;have eD:=eq_false gD;have eP:=eq_false gP;have eQ:=eq_true gQ;have ew:IntKind.i64.wrap (Q.hi-Q.lo)=Q.hi-Q.lo:=wrap_i64 (by unfold far at gL gH;omega) (by unfold far at gL gH;omega);unfold Qy.cells at *;simp only[Tryz.f91,simprocAttr,zK,K0,jaa,K3,fo30,jaJ,al1,uq,hh,hq,zq,K2,Qf,x1,x2,x3,Q5,K8,jar,jbu,cV,h5,h7,fL,fH,fB,eG,eD,eP,eQ,ew];exact⟨rfl,_,rfl⟩
theorem jy1(h:QO Q ev wv rv lv t o cv L p)(hx:ev.isCell=true/\wv.isCell=true/\rv.isCell=true)(ts:List Nat)(gV:valK Q.kind)(gL:¬(far Q.lo))(gH:¬(far Q.hi))(gG:¬(Q.hi<Q.lo))(gK5:Q.kind=5)(gD:¬(64<=Q.hi-Q.lo))(gP:¬(Q.p<1))(gQ:¬(Q.q<=Q.p))(gR:100<Q.q):∃v U',jah env (Go.Ab.ev env) 91 [.ptr p 0] ⟨L,ts⟩=some (v,U')/\v=.int .i64 2/\∃X,U'=⟨L++X,ts⟩:=by
 refine jaD at91 rfl ?_;have hh:=h.has;have hq:=h.ldq;have hP:=(h.app [.cells (Q.cells ev wv rv) 30]);have cV:=jbp hP ts;have h5:=ja2 hP 5 ts;have h7:=ja2 hP 7 ts;have fL:=jaT Q.lo;have fH:=jaT Q.hi;have fB:=jaT Q.bound;obtain⟨x1,x2,x3⟩:=hx;rw[decide_eq_true gV]at cV;rw[decide_eq_false gL]at fL;rw[decide_eq_false gH]at fH;have eG:=eq_false gG;rw[decide_eq_true gK5]at h5;have eD:=eq_false gD;have eP:=eq_false gP;have eQ:=eq_false gQ;have eR:=eq_true gR;have ew:IntKind.i64.wrap (Q.hi-Q.lo)=Q.hi-Q.lo:=wrap_i64 (by unfold far at gL gH;omega) (by unfold far at gL gH;omega);unfold Qy.cells at *;simp only[Tryz.f91,simprocAttr,zK,K0,jaa,K3,fo30,jaJ,al1,uq,hh,hq,zq,K2,Qf,x1,x2,x3,Q5,K8,jar,jbu,cV,h5,h7,fL,fH,fB,eG,eD,eP,eQ,eR,ew];exact⟨rfl,_,rfl⟩
theorem jw5(h:QO Q ev wv rv lv t o cv L p)(hx:ev.isCell=true/\wv.isCell=true/\rv.isCell=true)(ts:List Nat)(gV:valK Q.kind)(gL:¬(far Q.lo))(gH:¬(far Q.hi))(gG:¬(Q.hi<Q.lo))(gK5:Q.kind=5)(gD:¬(64<=Q.hi-Q.lo))(gP:¬(Q.p<1))(gQ:¬(Q.q<=Q.p))(gR:¬(100<Q.q))(gK7:¬(Q.kind=7)):∃v U',jah env (Go.Ab.ev env) 91 [.ptr p 0] ⟨L,ts⟩=some (v,U')/\v=.int .i64 0/\∃X,U'=⟨L++X,ts⟩:=by
 refine jaD at91 rfl ?_;have hh:=h.has;have hq:=h.ldq;have hP:=(h.app [.cells (Q.cells ev wv rv) 30]);have cV:=jbp hP ts;have h5:=ja2 hP 5 ts;have h7:=ja2 hP 7 ts;have fL:=jaT Q.lo;have fH:=jaT Q.hi;have fB:=jaT Q.bound;obtain⟨x1,x2,x3⟩:=hx;rw[decide_eq_true gV]at cV;rw[decide_eq_false gL]at fL;rw[decide_eq_false gH]at fH;have eG:=eq_false gG;rw[decide_eq_true gK5]at h5;have eD:=eq_false gD;have eP:=eq_false gP;have eQ:=eq_false gQ;have eR:=eq_false gR;rw[decide_eq_false gK7]at h7;have ew:IntKind.i64.wrap (Q.hi-Q.lo)=Q.hi-Q.lo:=wrap_i64 (by unfold far at gL gH;omega) (by unfold far at gL gH;omega);unfold Qy.cells at *;simp only[Tryz.f91,simprocAttr,zK,K0,jaa,K3,fo30,jaJ,al1,uq,hh,hq,zq,K2,Qf,x1,x2,x3,Q5,K8,jar,jbu,cV,h5,h7,fL,fH,fB,eG,eD,eP,eQ,eR,ew];exact⟨rfl,_,rfl⟩
theorem jw6(h:QO Q ev wv rv lv t o cv L p)(hx:ev.isCell=true/\wv.isCell=true/\rv.isCell=true)(ts:List Nat)(gV:valK Q.kind)(gL:¬(far Q.lo))(gH:¬(far Q.hi))(gG:¬(Q.hi<Q.lo))(gK5:¬(Q.kind=5))(gK7:¬(Q.kind=7)):∃v U',jah env (Go.Ab.ev env) 91 [.ptr p 0] ⟨L,ts⟩=some (v,U')/\v=.int .i64 0/\∃X,U'=⟨L++X,ts⟩:=by
 refine jaD at91 rfl ?_;have hh:=h.has;have hq:=h.ldq;have hP:=(h.app [.cells (Q.cells ev wv rv) 30]);have cV:=jbp hP ts;have h5:=ja2 hP 5 ts;have h7:=ja2 hP 7 ts;have fL:=jaT Q.lo;have fH:=jaT Q.hi;have fB:=jaT Q.bound;obtain⟨x1,x2,x3⟩:=hx;rw[decide_eq_true gV]at cV;rw[decide_eq_false gL]at fL;rw[decide_eq_false gH]at fH;have eG:=eq_false gG;rw[decide_eq_false gK5]at h5;rw[decide_eq_false gK7]at h7;unfold Qy.cells at *;simp only[Tryz.f91,simprocAttr,zK,K0,jaa,K3,fo30,jaJ,al1,uq,hh,hq,zq,K2,Qf,x1,x2,x3,Q5,K8,jar,jbu,cV,h5,h7,fL,fH,fB,eG];exact⟨rfl,_,rfl⟩
end
structure RgV (v:V) (l:List (Int × Int)):Prop where
 len:jbb (some (.slice 86)) v=some (.int .i64 l.length)
 at':∀i,i<l.length->∃r,jaw 2 v (.int .i64 (i:Int))=some (.rptr (.int .i64 (l.getD i (0,0)).1::.int .i64 (l.getD i (0,0)).2::r))
 cell:v.cells=[v]/\v.isCell=true
 le:l.length<=400
section
variable {Q:Qy}{ev wv rv lv cv:V}{t o:Sch}{L:List AObj}{p:Nat}
theorem jnB(h:QO Q ev wv rv lv t o cv L p)(hx:ev.isCell=true/\wv.isCell=true/\rv.isCell=true)(ts:List Nat):∃v U',jah env (Go.Ab.ev env) 91 [.ptr p 0] ⟨L,ts⟩=some (v,U')/\v=.int .i64 (limE Q)/\∃X,U'=⟨L++X,ts⟩:=by
 unfold limE;by_cases hV:valK Q.kind
 ·by_cases hL:far Q.lo
  ·rw[Kg ⟨hV,.inl hL⟩];exact jyS h hx ts hV hL
  by_cases hH:far Q.hi
  ·rw[Kg ⟨hV,.inr (.inl hH)⟩];exact jyT h hx ts hV hL hH
  by_cases hG:Q.hi<Q.lo
  ·rw[Kg ⟨hV,.inr (.inr hG)⟩];exact jyU h hx ts hV hL hH hG
  rw[Ke (λq=>q.2.elim hL λq=>q.elim hH hG)];by_cases h5:Q.kind=5
  ·by_cases hD:64<=Q.hi-Q.lo
   ·rw[Kg ⟨h5,.inl hD⟩];exact jyY h hx ts hV hL hH hG h5 hD
   by_cases hP:Q.p<1
   ·rw[Kg ⟨h5,.inr (.inl hP)⟩];exact jyZ h hx ts hV hL hH hG h5 hD hP
   by_cases hQ:Q.q<=Q.p
   ·rw[Kg ⟨h5,.inr (.inr (.inl hQ))⟩];exact jy0 h hx ts hV hL hH hG h5 hD hP hQ
   by_cases hR:100<Q.q
   ·rw[Kg ⟨h5,.inr (.inr (.inr hR))⟩];exact jy1 h hx ts hV hL hH hG h5 hD hP hQ hR
   rw[Ke (λq=>q.2.elim hD λq=>q.elim hP λq=>q.elim hQ hR),Ke (λq=>aa)];exact jw5 h hx ts hV hL hH hG h5 hD hP hQ hR aa
  ·have h7:¬Q.kind=7:=λq=>by unfold valK at hV;omega
   rw[Ke (λq=>h5 q.1),Ke (λq=>h7 q.1)];exact jw6 h hx ts hV hL hH hG h5 h7
 ·have h5:¬Q.kind=5:=λq=>by unfold valK at hV;omega
  rw[Ke (λq=>hV q.1),Ke (λq=>h5 q.1)];by_cases h7:Q.kind=7
  ·by_cases hB:far Q.bound
   ·rw[Kg ⟨h7,hB⟩];exact jyV h hx ts hV h5 h7 hB
   ·rw[Ke (λq=>hB q.2)];exact jyW h hx ts hV h5 h7 hB
  ·rw[Ke (λq=>h7 q.1)];exact jyX h hx ts hV h5 h7
theorem zv86:jba env 86=some (.agg [.int .i64 0,.int .i64 0]):=ac
theorem jgN(h:List AObj)(a b:V)(r:List V):jab h 2 (.rptr (a::b::r))=some [a,b]:=by simp[jab]
theorem jr3(cs:List Col)(ok:OkC cs)(nm:List UInt8):(colN cs nm).w.isCell=true:=jbf (jgK ok nm)
theorem ixa(b:Nat):idxO (some (.array 2 3)) (sz env) (some (.ptr b 0)) (some (.int .i64 0))=some (.ptr b 0)/\idxO (some (.array 2 3)) (sz env) (some (.ptr b 0)) (some (.int .i64 1))=some (.ptr b 1):=⟨ac,ac⟩
theorem je1(h:QO Q ev wv rv lv t o cv L p){cs:List Col}(hc:CV cv cs)(hr:RgV rv Q.rg)(ts:List Nat):∃v U',jah env (Go.Ab.ev env) 93 [.ptr p 0] ⟨L,ts⟩=some (v,U')/\v=.int .i64 (rgE Q (colN cs Q.column))/\∃X,U'=⟨L++X,ts⟩:=by
 refine jaD at93 rfl ?_;have hh:=h.has;have hI:=ja2 h 10 ts;have hl:=hr.len;have hle:=hr.le;unfold rgE;by_cases h0:Q.kind=10
 case neg =>
  rw[decide_eq_false h0]at hI;rw[Kg h0];simp only[Tryz.f93,simprocAttr,zK,K0,jaa,K3,fo30,jaJ,al1,uq,hh,jar,jbu,hI];exact⟨rfl,[],ae⟩
 rw[decide_eq_true h0]at hI;rw[Ke (λq=>q h0)];by_cases h1:Q.rg.length=0
 ·have c1:((Q.rg.length:Int)=0)=True:=eq_true aa;rw[Kg h1];simp only[Tryz.f93,simprocAttr,zK,K0,jaa,K3,fo30,jaJ,al1,uq,hh,jar,jbu,hI,hl,c1];exact⟨rfl,[],ae⟩
 have c1:((Q.rg.length:Int)=0)=False:=eq_false aa;rw[Ke h1];by_cases h2:64<Q.rg.length
 ·have c2:((64:Int)<(Q.rg.length:Int))=True:=eq_true aa;rw[Kg h2];simp only[Tryz.f93,simprocAttr,zK,K0,jaa,K3,fo30,jaJ,al1,uq,hh,jar,jbu,hI,hl,c1,c2];exact⟨rfl,[],ae⟩
 have c2:((64:Int)<(Q.rg.length:Int))=False:=eq_false aa;rw[Ke h2];have hC:=jhY hc Q.column;have hic:=jr3 cs hc.ok Q.column;have hH:∀a:AObj,(L++[a])[p]? = some (qobj Q ev wv rv lv t o cv):=λa=>(h.app [a]).has
 generalize colN cs Q.column=c at *;simp only[Tryz.f93,simprocAttr,zK,K0,jaa,K3,fo30,jaJ,al1,uq,hh,jar,jbu,hI,hl,c1,c2];refine jcI rfl (λs=>s.heap[p]? = some (qobj Q ev wv rv lv t o cv)) hh ac ?_;simp only[simprocAttr,zK,K0,jaa,Kf,K3,fo30,jaJ,al1,uq,hh,hC,zv41,K2,jae,jac,hic,hH,hl];refine⟨λs h=>by rw[h];rfl,λs h=>by rw[h];rfl,λ_=>trivial,?_⟩;have hPc:=h.app [.cells [.str c.name,.int .i64 c.lo,.int .i64 c.hi,c.w] 41];have hcc:(L++[AObj.cells [.str c.name,.int .i64 c.lo,.int .i64 c.hi,c.w] 41])[L.length]? = some (.cells [.str c.name,.int .i64 c.lo,.int .i64 c.hi,c.w] 41):=jad _ _;refine jau (λm T D U=>D=[]/\T 0=.ptr p 0/\T 4=.ptr L.length 0/\T 40=rv/\T 41=.int .i64 Q.rg.length/\∃(i:Nat) (X:List AObj),U=⟨(L++[AObj.cells [.str c.name,.int .i64 c.lo,.int .i64 c.hi,c.w] 41])++X,ts⟩/\T 42=.int .i64 i/\i<=Q.rg.length/\m=Q.rg.length-i/\∀j,j<i->¬((Q.rg.getD j (0,0)).1<c.lo\/c.hi<(Q.rg.getD j (0,0)).2\/(Q.rg.getD j (0,0)).2<(Q.rg.getD j (0,0)).1)) ?_ (Q.rg.length-0) _ _ _ ⟨rfl,rfl,rfl,rfl,rfl,0,[],ae,rfl,aa,rfl,λj hj=>aa⟩;clear hI hh hH;rintro m T D U ⟨rfl,t0,t4,t40,t41,i,X,rfl,t42,hi,rfl,hno⟩;refine jaC ?_;have hex:∀{i},i<Q.rg.length->Q.rg.getD i (0,0)∈Q.rg:=λh=>by rw[List.getD,Kz h];exact J7 h
 have hP2:=hPc.app X;have hc2:=jaE hcc X;obtain⟨L2,hL2⟩:∃L2,(L++[AObj.cells [.str c.name,.int .i64 c.lo,.int .i64 c.hi,c.w] 41])++X=L2:=⟨_,rfl⟩;rw[hL2]at hP2 hc2;have hfin:∀Y,∃X':List AObj,(⟨L2++Y,ts⟩:S)=⟨L++X',ts⟩:=λY=>⟨[AObj.cells [.str c.name,.int .i64 c.lo,.int .i64 c.hi,c.w] 41]++X++Y,by rw[<- hL2];simp⟩
 have hnx:∀o,∃X':List AObj,(⟨L2++[o],ts⟩:S)=⟨(L++[AObj.cells [.str c.name,.int .i64 c.lo,.int .i64 c.hi,c.w] 41])++X',ts⟩:=λo=>⟨X++[o],by rw[<- hL2];simp⟩
 rw[hL2];by_cases hlt:i<Q.rg.length
 ·have k1:(i:Int)<(Q.rg.length:Int):=by omega
  have e1:IntKind.i64.wrap ((i:Int)+1)=((i+1:Nat):Int):=by rw[wrap_i64 aa aa];omega
  obtain⟨r,hx⟩:=hr.at' i hlt;have hm:=hex hlt
  have hstep:∀{a b:Int},(a,b)=Q.rg.getD i (0,0)->¬(a<c.lo\/c.hi<b\/b<a)->∀j,j<i+1->¬((Q.rg.getD j (0,0)).1<c.lo\/c.hi<(Q.rg.getD j (0,0)).2\/(Q.rg.getD j (0,0)).2<(Q.rg.getD j (0,0)).1):=λhab h j hj=>by
   rcases Ql j i with q|q
   ·exact hno j q
   ·obtain rfl:j=i:=by omega
    rw[<- hab];exact h
  have hc3:∀o,(L2++[o])[L.length]? = some (.cells [.str c.name,.int .i64 c.lo,.int .i64 c.hi,c.w] 41):=λo=>jaE hc2 _
  have hbad:∀{a b:Int},(a,b)=Q.rg.getD i (0,0)->(a<c.lo\/c.hi<b\/b<a)->(if ∃r∈Q.rg,r.1<c.lo\/c.hi<r.2\/r.2<r.1 then(2:Int)else if Q.strat<0\/2<Q.strat then 2 else 0)=2:=λhab h=>by
   rw[Kg];rw[<- hab]at hm;exact⟨_,hm,h⟩
  generalize hab:Q.rg.getD i (0,0)=ab at *;obtain⟨a,b⟩:=ab;have SX:=hab;by_cases b1:a<c.lo
  ·simp only[simprocAttr,zK,K0,jaa,t0,t4,t40,t41,t42,k1,e1,hx,jgN,al1,uq,zv86,K2,jac,fo30,jaJ,ixa,hc3,b1];exact⟨by rw[hbad rfl (.inl b1)];rfl,hfin _⟩
  by_cases b2:c.hi<b
  ·simp only[simprocAttr,zK,K0,jaa,t0,t4,t40,t41,t42,k1,e1,hx,jgN,al1,uq,zv86,K2,jac,fo30,jaJ,ixa,hc3,b1,b2];exact⟨by rw[hbad rfl (.inr (.inl b2))];rfl,hfin _⟩
  by_cases b3:b<a
  ·simp only[simprocAttr,zK,K0,jaa,t0,t4,t40,t41,t42,k1,e1,hx,jgN,al1,uq,zv86,K2,jac,fo30,jaJ,ixa,hc3,b1,b2,b3];exact⟨by rw[hbad rfl (.inr (.inr b3))];rfl,hfin _⟩
  simp only[simprocAttr,zK,K0,jaa,t0,t4,t40,t41,t42,k1,e1,hx,jgN,al1,uq,zv86,K2,jac,fo30,jaJ,ixa,hc3,b1,b2,b3];obtain⟨X',hX'⟩:=hnx (.cells [.int .i64 a,.int .i64 b] 86);exact⟨Q.rg.length-(i+1),aa,i+1,X',hX',rfl,aa,rfl,hstep rfl (λq=>q.elim b1 λq=>q.elim b2 b3)⟩
 ·have hi2:i=Q.rg.length:=by omega
  have k1:¬(i:Int)<(Q.rg.length:Int):=aa;have hh:=hP2.has
  have hg:¬∃r∈Q.rg,r.1<c.lo\/c.hi<r.2\/r.2<r.1:=by
   rintro⟨r,hr,h⟩;obtain⟨j,hj,e⟩:=Jr hr;refine hno j aa ?_;rw[List.getD,Kz hj,Kr,e];exact h
  rw[Ke hg];have hfin:=hfin [];rw[Jb]at hfin;by_cases s1:Q.strat<0
  ·simp only[simprocAttr,zK,K0,jaa,t0,t4,t40,t41,t42,k1,K3,al1,uq,fo30,jaJ,hh,s1];exact⟨by rw[Kg (.inl trivial)];rfl,hfin⟩
  by_cases s2:2<Q.strat
  ·simp only[simprocAttr,zK,K0,jaa,t0,t4,t40,t41,t42,k1,K3,al1,uq,fo30,jaJ,hh,s1,s2];exact⟨by rw[Kg (.inr trivial)];rfl,hfin⟩
  simp only[simprocAttr,zK,K0,jaa,t0,t4,t40,t41,t42,k1,K3,al1,uq,fo30,jaJ,hh,s1,s2];exact⟨by simp[jaB],hfin⟩
end
end Go.Proofs.YtajaampgajieeaaGreatDoor.K
