/- Proved here: the parser's parts. Conditions: those of each theorem; no statement of the seat is proved in this text. -/
import Derived.Test.YtpclebdkhpapjaaGreatDoorEnvP
set_option linter.unusedSimpArgs false
set_option linter.unusedVariables false
set_option linter.unusedSectionVars false
namespace Go.Proofs.YtpclebdkhpapjaaGreatDoor
open Go.Ab
open Go.Ab.PP
set_option maxHeartbeats 8000000
set_option maxRecDepth 100000
theorem u3:env.P.underlying 3=some (.int .i64):=by kernel_rfl
theorem u4:env.P.underlying 4=some .bool:=by kernel_rfl
theorem u9:env.P.underlying 9=some .string:=by kernel_rfl
theorem u25:env.P.underlying 25=some (.slice 71):=by kernel_rfl
theorem u30:env.P.underlying 30=some (.int .i64):=by kernel_rfl
theorem u37:env.P.underlying 37=some (.slice 3):=by kernel_rfl
theorem u43:env.P.underlying 43=some (.slice 47):=by kernel_rfl
theorem u116:env.P.underlying 116=some (.slice 150):=by kernel_rfl
theorem s3:sz env 3=some 1:=by kernel_rfl
theorem s4:sz env 4=some 1:=by kernel_rfl
theorem s9:sz env 9=some 1:=by kernel_rfl
theorem s25:sz env 25=some 1:=by kernel_rfl
theorem s47:sz env 47=some 4:=by kernel_rfl
theorem s53:sz env 53=some 1:=by kernel_rfl
theorem s150:sz env 150=some 1:=by kernel_rfl
theorem s71:sz env 71=some 3:=by kernel_rfl
theorem fo55:ja5 env 55 0=some 0/\ja5 env 55 1=some 1/\ja5 env 55 2=some 2/\ja5 env 55 3=some 3/\ja5 env 55 4=some 4:=⟨by kernel_rfl,by kernel_rfl,by kernel_rfl,by kernel_rfl,by kernel_rfl⟩
theorem fo47:ja5 env 47 0=some 0/\ja5 env 47 1=some 1/\ja5 env 47 2=some 2/\ja5 env 47 3=some 3:=⟨by kernel_rfl,by kernel_rfl,by kernel_rfl,by kernel_rfl⟩
theorem al1:(∀h p,jbi env h 3 p=(jai h 1 p).bind (·[0]?))/\(∀h p,jbi env h 9 p=(jai h 1 p).bind (·[0]?))/\(∀h p,jbi env h 25 p=(jai h 1 p).bind (·[0]?))/\(∀h p,jbi env h 43 p=(jai h 1 p).bind (·[0]?))/\(∀h p,jbi env h 53 p=(jai h 1 p).bind (·[0]?))/\(∀h p,jbi env h 30 p=(jai h 1 p).bind (·[0]?))/\(∀h p,jbi env h 150 p=(jai h 1 p).bind (·[0]?)) :=
 ⟨λ_ _=>jaY (by kernel_rfl),λ_ _=>jaY (by kernel_rfl),λ_ _=>jaY (by kernel_rfl),λ_ _=>jaY (by kernel_rfl),λ_ _=>jaY (by kernel_rfl),λ_ _=>jaY (by kernel_rfl),λ_ _=>jaY (by kernel_rfl)⟩
theorem al47(h:List AObj)(p:V):jbi env h 47 p=(jai h 4 p).map .agg:=by
 have g:Go.Ab.aggT env 47=some true:=by kernel_rfl
 unfold jbi;simp only[g,s47,Kn]
theorem tys:env.P.underlying 3=some (.int .i64)/\env.P.underlying 4=some .bool/\env.P.underlying 9=some .string/\env.P.underlying 25=some (.slice 71)/\env.P.underlying 30=some (.int .i64)/\env.P.underlying 37=some (.slice 3)/\env.P.underlying 43=some (.slice 47)/\env.P.underlying 116=some (.slice 150)/\sz env 3=some 1/\sz env 4=some 1/\sz env 9=some 1/\sz env 25=some 1/\sz env 47=some 4/\sz env 53=some 1/\sz env 71=some 3/\sz env 150=some 1 :=
 ⟨u3,u4,u9,u25,u30,u37,u43,u116,s3,s4,s9,s25,s47,s53,s71,s150⟩
theorem mb(f:FuncId)(r:Nat):env.mutb f r=false:=rfl
theorem stb(f:FuncId)(r:Nat)(h:((f==10 && (r==7 ||r==3)) ||(f==22 && r==3) ||(f==23 && r==3) ||(f==28 && r==9) ||(f==57 && r==5) ||(f==161 && (r==2 ||r==4)))=false):env.stab f r=false:=h
theorem Ke:type_of% (Kf @mb (Kf @stb @tys)):=Kf @mb (Kf @stb @tys)
theorem ic:(∀(k:IntKind) (n:Int),(V.int k n).isCell=true)/\(∀s:List UInt8,(V.str s).isCell=true)/\(∀b:Bool,(V.bool b).isCell=true)/\(∀b o:Nat,(V.ptr b o).isCell=true)/\V.nilsl.isCell=true/\(∀b:Nat,(V.map b).isCell=true)/\(∀(s:List UInt8),(V.str s).cells=[V.str s])/\(∀b:Bool,(V.bool b).cells=[V.bool b])/\(∀b o:Nat,(V.ptr b o).cells=[V.ptr b o]) :=
 ⟨λ_ _=>rfl,λ_=>rfl,λ_=>rfl,λ_ _=>rfl,rfl,λ_=>rfl,λ_=>rfl,λ_=>rfl,λ_ _=>rfl⟩
theorem Uv:type_of% (And.intro @al47 (And.intro @ic (And.intro @fo55 (And.intro @fo47 (And.intro @jaa (@jae)))))):=And.intro @al47 (And.intro @ic (And.intro @fo55 (And.intro @fo47 (And.intro @jaa (@jae)))))
def jak(t:Tk):List V:=[.int .i64 t.kind,.str t.text,.int .i64 t.n,.int .i64 t.pos]
def jkT(l:List Tk):List V:=(l.map jak).flatten
def IsK(v:V)(l:List Tk):Prop:=(v=.nilsl/\l=[])\/∃q,v=.row (jkT l) l.length q
theorem jlR:∀(l:List Tk) (i:Nat),(jkT l).drop (i*4)=jkT (l.drop i)
 | [],i=>by simp[jkT]
 |c::cs,0=>by simp
 |c::cs,i+1=>by
  have:=jlR cs i;have e:jkT (c::cs)=jak c++jkT cs:=rfl;rw[e,Xi,<- this,show(i+1)*4=4+i*4 by omega,<- Xf];rfl
theorem jvw {v:V}{l:List Tk}(h:IsK v l)(e:TypeId):jes (some (.slice e)) v=some (.int .i64 l.length):=by
 rcases h with⟨rfl,rfl⟩|⟨q,rfl⟩<;>rfl
theorem jjA {α:Type}{l:List α}{i:Nat}{t:α}(h:l[i]? = some t):l.drop i=t::l.drop (i+1):=by
 obtain⟨hl,rfl⟩:=Kz.1 h;exact Q8 hl
theorem jxt {v:V}{l:List Tk}(h:IsK v l){i:Nat}{t:Tk}(ht:l[i]? = some t):jaJ 4 v (.int .i64 i)=some (.rptr (jak t++jkT (l.drop (i+1)))):=by
 have hi:=(Kz.1 ht).1
 rcases h with⟨rfl,rfl⟩|⟨q,rfl⟩
 ·simp at ht
 ·simp only[jaJ];rw[Ki (by omega),K3,jlR,jjA ht];rfl
theorem ld4(h:List AObj)(a b c d:V)(r:List V):jai h 4 (.rptr (a::b::c::d::r))=some [a,b,c,d]:=by simp[jai]
theorem ld1(h:List AObj)(a:V)(r:List V):(jai h 1 (.rptr (a::r))).bind (·[0]?)=some a:=by simp[jai]
theorem ldp4 {L:List AObj}{b:Nat}{x y z w:V}{t:TypeId}(h:L[b]? = some (.cells [x,y,z,w] t)):jai L 4 (.ptr b 0)=some [x,y,z,w]:=by simp[jai,h]
def Fr(p:Nat)(L L':List AObj):Prop:=L.length<=L'.length/\∀b,b<L.length->b ≠ p->L'[b]? = L[b]?
def pcL(lv:V)(en:Int)(q:List V)(i o:Nat):AObj:=.cells (lv::.int .i64 i::.int .i64 en::.int .i64 o::q) 55
def Pc(lv:V)(en:Int)(q:List V)(p:Nat)(L:List AObj)(i o:Nat):Prop:=L[p]? = some (pcL lv en q i o)
theorem Fr.rf(p:Nat)(L:List AObj):Fr p L L:=⟨Kw _,λ_ _ _=>rfl⟩
theorem Fr.tr {p:Nat}{L L1 L2:List AObj}(h:Fr p L L1)(g:Fr p L1 L2):Fr p L L2:=⟨Qs h.1 g.1,λb hb hp=>by rw[g.2 b (Vn hb h.1) hp,h.2 b hb hp]⟩
theorem Fr.app(p:Nat)(L X:List AObj):Fr p L (L++X):=⟨by simp,λb hb _=>K2 hb⟩
theorem Fr.set(p:Nat)(L:List AObj)(o:AObj):Fr p L (L.set p o):=⟨by simp,λb _ hb=>by rw[Kk (λe=>hb e.symm)]⟩
theorem Fr.setge {p:Nat}{L L1:List AObj}(h:Fr p L L1){b:Nat}(hb:L.length<=b)(o:AObj):Fr p L (L1.set b o):=⟨by simpa using h.1,λc hc hp=>by rw[Kk (by omega)];exact h.2 c hc hp⟩
theorem Fr.has {p:Nat}{L L1:List AObj}(h:Fr p L L1){b:Nat}{o:AObj}(hb:L[b]? = some o)(hp:b ≠ p):L1[b]? = some o:=by rw[h.2 b (jaT hb) hp];exact hb
section
variable {lv:V}{en:Int}{q:List V}{p:Nat}{L:List AObj}{i o:Nat}
theorem Pc.app(h:Pc lv en q p L i o)(X:List AObj):Pc lv en q p (L++X) i o:=jbX h X
theorem Pc.lt(h:Pc lv en q p L i o):p<L.length:=jaT h
theorem Pc.set(h:Pc lv en q p L i o)(i' o':Nat):Pc lv en q p (L.set p (pcL lv en q i' o')) i' o':=Kl h.lt
theorem Pc.has(h:Pc lv en q p L i o):L[p]? = some (.cells (lv::.int .i64 i::.int .i64 en::.int .i64 o::q) 55):=h
end
theorem at23:env.P.funcs[23]? = some Tryz.f23:=by kernel_rfl
theorem at25:env.P.funcs[25]? = some Tryz.f25:=by kernel_rfl
theorem at26:env.P.funcs[26]? = some Tryz.f26:=by kernel_rfl
theorem jeG {lv:V}{en:Int}{q:List V}{p:Nat}{L:List AObj}{i o:Nat}{l:List Tk}(hv:IsK lv l)(hl:l.length<=4000)(h:Pc lv en q p L i o)(ts:List Nat):jas env (ev env) 26 [.ptr p 0] ⟨L,ts⟩=some (.int .i64 (atP l en i),⟨L,ts⟩):=by
 have hc:=h.has;have hlen:=jvw hv 47;refine jbk rfl rfl at26 rfl (by simp[Tryz.f26]) (U4 rfl) (jar ?_);cases ht:l[i]? with
 |some t =>
  have hi:=(Kz.1 ht).1;have c1:(i:Int)<(l.length:Int):=by omega
  have hx:=jxt hv ht;simp only[Tryz.f26,Ka,simprocAttr,Uy,Ke,Vq,al1,fo55,fo47,jaa,jae,hc,hlen,c1,hx,jak];refine⟨by kernel_rfl,by kernel_rfl,?_⟩;simp[jaW,atP,ht,ld1]
 | none =>
  have c1:¬(i:Int)<(l.length:Int):=by
   have:=Vg.1 ht;omega
  simp only[Tryz.f26,Ka,simprocAttr,Uy,Ke,Vq,al1,fo55,fo47,jaa,jae,hc,hlen,c1];refine⟨by kernel_rfl,?_⟩;simp[jaW,atP,ht]
def tk0:Tk:=⟨0,[],0,0⟩
def pkT(l:List Tk)(ks:List Int)(i:Nat):Tk × Bool:=match l[i]? with|some t=>if t.kind∈ks then(t,true)else(tk0,false)|none=>(tk0,false)
theorem zv47:jbG env 47=some (.agg [.int .i64 0,.str [],.int .i64 0,.int .i64 0]):=by kernel_rfl
theorem bd47:jci env 47 []=some (.agg [.int .i64 0,.str [],.int .i64 0,.int .i64 0]):=by kernel_rfl
theorem jal(L:List AObj)(a:AObj):(L++[a])[L.length]? = some a:=by simp
theorem jah(L:List AObj)(a o:AObj):(L++[a]).set L.length o=L++[o]:=by simp
theorem len1(L:List AObj)(a:AObj):(L++[a]).length=L.length+1:=by simp
theorem app2(L:List AObj)(a b:AObj):(L++[a])++[b]=L++[a,b]:=by simp
theorem jkC {lv:V}{en:Int}{q:List V}{p:Nat}{L:List AObj}{i o:Nat}{l:List Tk}(hv:IsK lv l)(hl:l.length<=4000)(h:Pc lv en q p L i o)(ts:List Nat)(ks:List Int)(cap:RCap)(hk:ks.length<=100) :
  ∃v O',jas env (ev env) 23 [.ptr p 0,.row (ks.map (V.int .i64)) ks.length cap] ⟨L,ts⟩=some (v,O')/\v=.tup [.agg (jak (pkT l ks i).1),.bool (pkT l ks i).2]/\∃X,O'=⟨L++X,ts⟩:=by
 have hlen:=jvw hv 47;have hc:=λX=>(h.app X).has
 refine jcv rfl rfl at23 rfl (by simp[Tryz.f23]) (U4 rfl) (jar ?_);cases ht:l[i]? with
 | none =>
  have c1:(l.length:Int)<=(i:Int):=by
   have:=Vg.1 ht;omega
  simp only[Tryz.f23,Ka,simprocAttr,Uy,Ke,Uz,jab,al1,Uv,hc,hlen,c1,zv47,bd47,jal,jah,len1,app2];refine⟨by kernel_rfl,?_⟩;simp[ldp4 (jal _ _),jaW,pkT,ht,jak,tk0,Yy,V.isCell]
 | some t =>
  have hi:=(Kz.1 ht).1;have c1:¬(l.length:Int)<=(i:Int):=by omega
  have hx:=jxt hv ht;simp only[Tryz.f23,Ka,simprocAttr,Uy,Ke,Uz,jab,al1,Uv,hc,hlen,c1,hx,zv47,bd47,jal,jah,jam,jan,jao,jaq,len1,app2,jak,ld4];refine⟨by kernel_rfl,?_⟩;refine jli rfl (λs=>s.heap[p]? = L[p]?) ((h.app _).has.trans h.has.symm) (by kernel_rfl) ?_;simp only[Tryz.f23,Ka,simprocAttr,Uy,Ke,Uz,jab,hhWa,hhWb,hhWc,hhWd,al1,Uv,hc,hlen,c1,hx,zv47,bd47,jal,jah,jam,jan,jao,jaq,len1,app2,jak,ld4];have hc0:=h.has;refine⟨λs h2=>by rw[h2,hc0];rfl,λs h2=>by rw[h2,hc0];rfl,λ_ _=>trivial,hc0.symm,hc0.symm,?_⟩;have hz0:(L++[AObj.cells [V.int IntKind.i64 0,V.str [],V.int IntKind.i64 0,V.int IntKind.i64 0] 47,AObj.cells [V.int IntKind.i64 t.kind,V.str t.text,V.int IntKind.i64 t.n,V.int IntKind.i64 t.pos] 47])[L.length]? = some (.cells [V.int IntKind.i64 0,V.str [],V.int IntKind.i64 0,V.int IntKind.i64 0] 47):=by simp
  have hz1:(L++[AObj.cells [V.int IntKind.i64 0,V.str [],V.int IntKind.i64 0,V.int IntKind.i64 0] 47,AObj.cells [V.int IntKind.i64 t.kind,V.str t.text,V.int IntKind.i64 t.n,V.int IntKind.i64 t.pos] 47])[L.length+1]? = some (.cells [V.int IntKind.i64 t.kind,V.str t.text,V.int IntKind.i64 t.n,V.int IntKind.i64 t.pos] 47):=by
   rw[Q6 (by omega)];simp
  refine jbo (λm T D O=>D=[]/\O=⟨L++[AObj.cells [V.int IntKind.i64 0,V.str [],V.int IntKind.i64 0,V.int IntKind.i64 0] 47,AObj.cells [V.int IntKind.i64 t.kind,V.str t.text,V.int IntKind.i64 t.n,V.int IntKind.i64 t.pos] 47],ts⟩/\T 4=.ptr L.length 0/\T 6=.ptr (L.length+1) 0/\T 30=V.row (List.map (V.int IntKind.i64) ks) ks.length cap/\T 31=.int .i64 ks.length /\
   ∃k:Nat,T 32=.int .i64 k/\k<=ks.length/\m=ks.length-k/\∀j,j<k->ks.getD j 0 ≠ t.kind) ?_ (ks.length-0) _ _ _ ⟨rfl,rfl,rfl,rfl,rfl,rfl,0,rfl,by omega,rfl,by omega⟩
  rintro m T D O ⟨rfl,rfl,t4,t6,t30,t31,k,t32,hkl,rfl,hno⟩;refine jar ?_;by_cases hlt:k<ks.length
  ·have c2:(k:Int)<(ks.length:Int):=by omega
   have c0:(0:Int)<=(k:Int):=by omega
   have e1:IntKind.i64.wrap ((k:Int)+1)=((k+1:Nat):Int):=by rw[wrap_i64 (by omega) (by omega)];omega
   have hm:ks.getD k 0∈ks:=by rw[List.getD,K5 hlt];exact J3 hlt
   by_cases hk2:t.kind=ks.getD k 0
   ·have hg:pkT l ks i=(t,true):=by unfold pkT;rw[ht];simp only;rw[Ki (by rw[hk2];exact hm)]
    have hk3:=eq_true hk2;simp only[Ka,simprocAttr,Uy,Ke,Uz,jab,al1,al47,ic,fo47,t4,t6,t30,t31,t32,c0,c2,hlt,e1,hz0,hz1,hk3,ldp4 hz1,jao,Ys,Qm,hg];simp only[ldp4 (jam _ _ _),jaW,Yy,Kx,Kn];exact⟨trivial,_,rfl⟩
   ·have hk3:=eq_false hk2;simp only[Ka,simprocAttr,Uy,Ke,Uz,jab,al1,al47,ic,fo47,t4,t6,t30,t31,t32,c0,c2,hlt,e1,hz0,hz1,hk3,ldp4 hz1,jao,Ys,Qm];refine⟨ks.length-(k+1),by omega,k+1,rfl,by omega,rfl,λj hj => ?_⟩
    rcases K4 j k with h1|h1
    ·exact hno j h1
    ·rw[show j=k by omega];exact λe=>hk2 e.symm
  ·have c2:¬(k:Int)<(ks.length:Int):=by omega
   have hg:pkT l ks i=(tk0,false):=by
    unfold pkT;rw[ht];simp only;rw[Kj];intro hm;obtain⟨j,hj,e⟩:=List.getElem_of_mem hm;exact hno j (by omega) (by rw[List.getD,K5 hj];exact e)
   simp only[Ka,simprocAttr,Uy,Ke,Uz,jab,al1,al47,ic,fo47,t4,t6,t30,t31,t32,c2,hz0,hz1,bd47,jao,hg,YW];simp only[ldp4 (jam _ _ _),jaW,Yy,Kx,Kn];exact⟨rfl,_,rfl⟩
def Stp(lv:V)(en:Int)(q:List V)(p:Nat)(L:List AObj)(ts:List Nat)(i o:Nat)(O:S):Prop:=Fr p L O.heap/\Pc lv en q p O.heap i o/\O.toks=ts
theorem Stp.tr {lv:V}{en:Int}{q:List V}{p:Nat}{L L1:List AObj}{ts:List Nat}{i o:Nat}{O:S}(h:Fr p L L1)(g:Stp lv en q p L1 ts i o O):Stp lv en q p L ts i o O:=⟨h.tr g.1,g.2⟩
theorem jaC:rowO env 37 2 [(0,.int .i64 2),(1,.int .i64 5)]=some (.row (([2,5]:List Int).map (V.int .i64)) 2 .full):=by kernel_rfl
theorem Uu:type_of% (And.intro @bd47 (And.intro @YW (And.intro @YI (And.intro @jal (And.intro @jah (And.intro @jam (And.intro @jan (And.intro @jao (And.intro @jaq (And.intro @len1 (And.intro @app2 (And.intro @jac (And.intro @jad (And.intro @jag (@jaC))))))))))))))):=And.intro @bd47 (And.intro @YW (And.intro @YI (And.intro @jal (And.intro @jah (And.intro @jam (And.intro @jan (And.intro @jao (And.intro @jaq (And.intro @len1 (And.intro @app2 (And.intro @jac (And.intro @jad (And.intro @jag (@jaC))))))))))))))
theorem row1(k:Int):rowO env 37 1 [(0,.int .i64 k)]=some (.row (([k]:List Int).map (V.int .i64)) 1 .full):=by kernel_rfl
theorem U3:type_of% (Kf @Uy (Kf @Ke (Kf @Uz (Kf @al1 (Kf @Uv (Kf @zv47 (Kf @Uu (@row1)))))))):=Kf @Uy (Kf @Ke (Kf @Uz (Kf @al1 (Kf @Uv (Kf @zv47 (Kf @Uu (@row1)))))))
theorem at93:env.P.funcs[93]? = some Tryz.f93:=by kernel_rfl
theorem at60:env.P.funcs[60]? = some Tryz.f60:=by kernel_rfl
theorem at58:env.P.funcs[58]? = some Tryz.f58:=by kernel_rfl
theorem at92:env.P.funcs[92]? = some Tryz.f92:=by kernel_rfl
section
variable {lv:V}{en:Int}{q:List V}{p:Nat}{L:List AObj}{i o:Nat}{l:List Tk}
theorem jxu(s:List UInt8)(i:Nat):sees l s i=((pkT l [2,5] i).2 && decide ((pkT l [2,5] i).1.text=s)):=by
 unfold sees pkT;cases l[i]? with
 |none=>rfl
 |some t =>
  simp only[Qv,Jj,or_false];by_cases h:t.kind=2\/t.kind=5
  ·simp[h]
  ·simp[h]
theorem jlS(hv:IsK lv l)(hl:l.length<=4000)(h:Pc lv en q p L i o)(ts:List Nat)(s:List UInt8) :
  ∃v O',jas env (ev env) 93 [.ptr p 0,.str s] ⟨L,ts⟩=some (v,O')/\v=.bool (sees l s i)/\Stp lv en q p L ts i o O':=by
 refine jcv rfl rfl at93 rfl (by simp[Tryz.f93]) (U4 rfl) (jar ?_);simp only[Tryz.f93,Ka,simprocAttr,Uy,Ke,Vq,jag,jaC];refine js4 (jkC hv hl h ts [2,5] .full (by decide)) ?_;rintro _ _ ⟨rfl,X,rfl⟩;rw[jxu];generalize pkT l [2,5] i=r;obtain⟨t,b⟩:=r;have hz:∀o:AObj,(L++X++[o])[(L++X).length]? = some o:=λo=>by simp
 cases b<;>simp only[Ka,simprocAttr,U3,jab,jak,hz]
 ·exact⟨rfl,(Fr.app _ _ _).tr (Fr.app _ _ _),(h.app _).app _,rfl⟩
 ·exact⟨rfl,(Fr.app _ _ _).tr (Fr.app _ _ _),(h.app _).app _,rfl⟩
theorem jfQ(hv:IsK lv l)(hl:l.length<=4000)(hi:i<=l.length)(h:Pc lv en q p L i o)(ts:List Nat)(s:List UInt8) :
  ∃v O',jas env (ev env) 60 [.ptr p 0,.str s] ⟨L,ts⟩=some (v,O')/\v=.bool (sees l s i)/\Stp lv en q p L ts (if sees l s i then i+1 else i) o O':=by
 refine jcv rfl rfl at60 rfl (by simp[Tryz.f60]) (U4 rfl) (jar ?_);simp only[Tryz.f60,Ka,simprocAttr,Uy,Ke,Vq,al1,Uv,zv47,Uu,row1,jak];refine js4 (jlS hv hl h ts s) ?_;rintro _ ⟨L1,ts⟩ ⟨rfl,hF,hP,rfl⟩;have e1:IntKind.i64.wrap ((i:Int)+1)=((i+1:Nat):Int):=by rw[wrap_i64 (by omega) (by omega)];omega
 have hc:=Pc.has hP;cases hb:sees l s i<;>simp only[Ka,simprocAttr,U3,jab,jak,hc,e1]
 ·exact⟨rfl,hF,hP,rfl⟩
 ·exact⟨rfl,hF.tr (.set _ _ _),hP.set (i+1) o,rfl⟩
end
def flt(e:Fl):V:=.iface 51 (.agg [.int .i64 e.1,.int .i64 e.2])
def RX {α:Type}(lv:V)(en:Int)(q:List V)(p:Nat)(L:List AObj)(ts:List Nat)(o:Nat)(enc:α->V)(r:R α)(x:Sum V V)(O:S):Prop :=
 match r with
 | .ok (a,j)=>x=.inl (enc a)/\Stp lv en q p L ts j o O
 | .error e=>x=.inr (flt e)/\Fr p L O.heap/\O.toks=ts
theorem RX.tr {α:Type}{lv:V}{en:Int}{q:List V}{p:Nat}{L L1:List AObj}{ts:List Nat}{o:Nat}{enc:α->V}{r:R α}{x:Sum V V}{O:S}(h:Fr p L L1)(g:RX lv en q p L1 ts o enc r x O):RX lv en q p L ts o enc r x O:=by
 match r,g with
 | .ok (a,j),g=>exact⟨g.1,g.2.tr h⟩
 | .error e,g=>exact⟨g.1,h.tr g.2.1,g.2.2⟩
theorem bd51(a b:Int):jci env 51 [(0,.int .i64 a),(1,.int .i64 b)]=some (.agg [.int .i64 a,.int .i64 b]):=by kernel_rfl
theorem mk51(v:V):jrg env 51 v=some (.iface 51 v):=by kernel_rfl
theorem jgu(e a:Int)(O:S):∃r O',jbP env 25 [.int .i64 e,.int .i64 a] O=some (r,O')/\r=.inr (flt (e,a))/\O'=O:=by
 refine jaZ rfl rfl rfl rfl at25 rfl (by simp[Tryz.f25]) (U4 rfl) (jbq ?_);simp only[Tryz.f25,Ux,simprocAttr,Uy,Ke,Vq,bd51,jeV,mk51,jo5];exact⟨rfl,trivial⟩
section
variable {lv:V}{en:Int}{q:List V}{p:Nat}{L:List AObj}{i o:Nat}{l:List Tk}
theorem jdH(hv:IsK lv l)(hl:l.length<=4000)(hi:i<=l.length)(h:Pc lv en q p L i o)(ts:List Nat)(s:List UInt8) :
  ∃r O',jbP env 58 [.ptr p 0,.str s] ⟨L,ts⟩=some (r,O')/\RX lv en q p L ts o (λ_=>.tup []) (must l en s i) r O':=by
 refine jaZ rfl rfl rfl rfl at58 rfl (by simp[Tryz.f58]) (U4 rfl) (jbq ?_);simp only[Tryz.f58,Ux,simprocAttr,Uy,Ke,Vq,al1,Uv,zv47,Uu,row1,jak];refine jcw (jfQ hv hl hi h ts s) ?_;rintro _ ⟨L1,ts⟩ ⟨rfl,hF,hP,rfl⟩;have ha:=λj (hP:Pc lv en q p L1 j o)=>jcC (jeG hv hl hP ts)
 unfold must;cases hb:sees l s i
 ·rw[hb]at hP;simp only[Km,Ks]at hP;simp only[Ux,simprocAttr,U3,jab,jak,ha _ hP];refine jaU (jgu _ _ _) ?_ ?_
  ·rintro v O' ⟨h,_⟩;cases h
  ·rintro v O' ⟨h,rfl⟩;cases h;exact⟨rfl,hF,rfl⟩
 ·rw[hb]at hP;simp only[Ku]at hP;simp only[Ux,simprocAttr,U3,jab,jak];exact⟨rfl,hF,hP,rfl⟩
theorem pk1(l:List Tk)(en k:Int)(i:Nat):(pkT l [k] i=(tk0,false)/\jfJ l en k i=syn l en i)\/∃t,l[i]? = some t/\t.kind=k/\pkT l [k] i=(t,true)/\jfJ l en k i=.ok (t,i+1):=by
 unfold pkT jfJ;cases ht:l[i]? with
 |none=>exact .inl ⟨rfl,rfl⟩
 |some t =>
  simp only[X9];by_cases e:t.kind=k
  ·exact .inr ⟨t,rfl,e,by rw[Ki e],by rw[Ki e]⟩
  ·exact .inl ⟨by rw[Kj e],by rw[Kj e]⟩
theorem jwp(hv:IsK lv l)(hl:l.length<=4000)(h:Pc lv en q p L i o)(ts:List Nat)(k:Int) :
  ∃r O',jbP env 92 [.ptr p 0,.int .i64 k] ⟨L,ts⟩=some (r,O')/\RX lv en q p L ts o (λt=>.agg (jak t)) (jfJ l en k i) r O':=by
 refine jaZ rfl rfl rfl rfl at92 rfl (by simp[Tryz.f92]) (U4 rfl) (jbq ?_);simp only[Tryz.f92,Ux,simprocAttr,U3,jab,jak];refine jcw (jkC hv hl (h.app _) ts [k] .full (by simp)) ?_;rintro _ _ ⟨rfl,X,rfl⟩;have h4:(L++[AObj.cells [V.int IntKind.i64 0,V.str [],V.int IntKind.i64 0,V.int IntKind.i64 0] 47]++X)[L.length]? = some (.cells [V.int IntKind.i64 0,V.str [],V.int IntKind.i64 0,V.int IntKind.i64 0] 47):=by simp
 have hF:Fr p L (L++[AObj.cells [V.int IntKind.i64 0,V.str [],V.int IntKind.i64 0,V.int IntKind.i64 0] 47]++X):=(Fr.app _ _ _).tr (Fr.app _ _ _);have hP:=(h.app [AObj.cells [V.int IntKind.i64 0,V.str [],V.int IntKind.i64 0,V.int IntKind.i64 0] 47]).app X;have hn:L.length ≠ p:=by have:=h.lt;omega
 generalize L++[AObj.cells [V.int IntKind.i64 0,V.str [],V.int IntKind.i64 0,V.int IntKind.i64 0] 47]++X=L2 at *;have hll:=jaT h4;have hz:∀o:AObj,(L2++[o])[L2.length]? = some o:=λo=>by simp
 rcases pk1 l en k i with⟨b1,b2⟩|⟨t,ht,e,b1,b2⟩
 ·rw[b2];simp only[b1];have hP3:=hP.app [AObj.cells [V.int IntKind.i64 0,V.str [],V.int IntKind.i64 0,V.int IntKind.i64 0] 47];have ha:=jcC (jeG hv hl hP3 ts);simp only[Ux,simprocAttr,U3,jab,jak,hz,tk0,ha];refine jaU (jgu _ _ _) ?_ ?_
  ·rintro v O' ⟨h,_⟩;cases h
  ·rintro v O' ⟨h,rfl⟩;cases h;exact⟨rfl,hF.tr (Fr.app _ _ _),rfl⟩
 ·rw[b2];simp only[b1];have hi:=(Kz.1 ht).1;have e1:IntKind.i64.wrap ((i:Int)+1)=((i+1:Nat):Int):=by rw[wrap_i64 (by omega) (by omega)];omega
  have hP3:=hP.app [AObj.cells [V.int IntKind.i64 t.kind,V.str t.text,V.int IntKind.i64 t.n,V.int IntKind.i64 t.pos] 47];have hc:=Pc.has hP3;have n5:L2.length ≠ p:=by have:=hP.lt;omega
  have h5:((L2++[AObj.cells [V.int IntKind.i64 t.kind,V.str t.text,V.int IntKind.i64 t.n,V.int IntKind.i64 t.pos] 47]).set p (AObj.cells (lv::V.int IntKind.i64 ↑(i+1)::V.int IntKind.i64 en::V.int IntKind.i64 ↑o::q) 55))[L2.length]? = some (.cells [V.int IntKind.i64 t.kind,V.str t.text,V.int IntKind.i64 t.n,V.int IntKind.i64 t.pos] 47):=by
   rw[Kk (λe=>n5 e.symm)];simp
  have h6:((L2++[AObj.cells [V.int IntKind.i64 t.kind,V.str t.text,V.int IntKind.i64 t.n,V.int IntKind.i64 t.pos] 47]).set p (AObj.cells (lv::V.int IntKind.i64 ↑(i+1)::V.int IntKind.i64 en::V.int IntKind.i64 ↑o::q) 55))[L.length]? = some (.cells [V.int IntKind.i64 0,V.str [],V.int IntKind.i64 0,V.int IntKind.i64 0] 47):=by
   rw[Kk (λe=>hn e.symm),K2 hll];exact h4
  simp only[Ux,simprocAttr,U3,jab,jak,hz,hc,e1,ldp4 h5,h6];rw[ldp4 (Kl (by simp only[Jh,Kr];omega))];simp only[Yy,Kx,Kn,jaW];exact⟨rfl,((hF.tr (Fr.app _ _ _)).tr (Fr.set _ _ _)).setge (Kw _) _,(Kk hn).trans (hP3.set (i+1) o),rfl⟩
theorem at59:env.P.funcs[59]? = some Tryz.f59:=by kernel_rfl
theorem at66:env.P.funcs[66]? = some Tryz.f66:=by kernel_rfl
theorem at91:env.P.funcs[91]? = some Tryz.f91:=by kernel_rfl
theorem at61:env.P.funcs[61]? = some Tryz.f61:=by kernel_rfl
theorem fd47(a b c d:V):jsE env 47 1 (.agg [a,b,c,d])=some b/\jsE env 47 2 (.agg [a,b,c,d])=some c:=⟨by kernel_rfl,by kernel_rfl⟩
theorem jkD(hv:IsK lv l)(hl:l.length<=4000)(h:Pc lv en q p L i o)(ts:List Nat) :
  ∃r O',jbP env 59 [.ptr p 0] ⟨L,ts⟩=some (r,O')/\RX lv en q p L ts o V.str (jeA l en i) r O':=by
 refine jaZ rfl rfl rfl rfl at59 rfl (by simp[Tryz.f59]) (U4 rfl) (jbq ?_);simp only[Tryz.f59,Ux,simprocAttr,U3,jab,jak];unfold jeA;have hk:=jwp hv hl h ts 1;generalize jfJ l en 1 i=r at *;cases r with
 |error e =>
  refine jaU hk ?_ ?_
  ·rintro v O' ⟨h,_⟩;cases h
  ·rintro v O' ⟨h,h2⟩;cases h;exact⟨rfl,h2⟩
 | ok x =>
  obtain⟨t,j⟩:=x;refine jaU hk ?_ ?_
  ·rintro v O' ⟨h,h2⟩;cases h;simp only[Ux,simprocAttr,U3,jab,jak,jnl,fd47];exact⟨rfl,h2⟩
  ·rintro v O' ⟨h,h2⟩;cases h
theorem jfR(hv:IsK lv l)(hl:l.length<=4000)(h:Pc lv en q p L i o)(ts:List Nat) :
  ∃r O',jbP env 66 [.ptr p 0] ⟨L,ts⟩=some (r,O')/\RX lv en q p L ts o (V.int .i64) (numP l en i) r O':=by
 refine jaZ rfl rfl rfl rfl at66 rfl (by simp[Tryz.f66]) (U4 rfl) (jbq ?_);simp only[Tryz.f66,Ux,simprocAttr,U3,jab,jak];unfold numP;have hk:=jwp hv hl h ts 3;generalize jfJ l en 3 i=r at *;cases r with
 |error e =>
  refine jaU hk ?_ ?_
  ·rintro v O' ⟨h,_⟩;cases h
  ·rintro v O' ⟨h,h2⟩;cases h;exact⟨rfl,h2⟩
 | ok x =>
  obtain⟨t,j⟩:=x;refine jaU hk ?_ ?_
  ·rintro v O' ⟨h,h2⟩;cases h;simp only[Ux,simprocAttr,U3,jab,jak,jnl,fd47];exact⟨rfl,h2⟩
  ·rintro v O' ⟨h,h2⟩;cases h
def jek(l:List Tk):Prop:=∀t∈l,0<=t.n/\t.n<=1000000000
theorem jkE(hs:jek l){n:Int}{j:Nat}(h:numP l en i=.ok (n,j)):0<=n/\n<=1000000000:=by
 unfold numP jfJ at h;split at h
 ·rename_i t j' he;split at he
  ·rename_i t' ht;split at he
   ·simp only[Except.ok.injEq,Kh]at he h;obtain⟨rfl,rfl⟩:=he;obtain⟨rfl,rfl⟩:=h;exact hs _ (J5 ht)
   ·simp[syn]at he
  ·simp[syn]at he
 ·cases h
theorem jtU(hv:IsK lv l)(hl:l.length<=4000)(hs:jek l)(hi:i<=l.length)(h:Pc lv en q p L i o)(ts:List Nat) :
  ∃r O',jbP env 91 [.ptr p 0] ⟨L,ts⟩=some (r,O')/\RX lv en q p L ts o (V.int .i64) (intP l en i) r O':=by
 refine jaZ rfl rfl rfl rfl at91 rfl (by simp[Tryz.f91]) (U4 rfl) (jbq ?_);simp only[Tryz.f91,Ux,simprocAttr,U3,jab,jak];refine jcw (jfQ hv hl hi h ts [45]) ?_;rintro _ ⟨L1,ts⟩ ⟨rfl,hF,hP,rfl⟩;unfold intP;cases hb:sees l [45] i
 ·rw[hb]at hP;simp only[Km,Ks]at hP;simp only[Ux,simprocAttr,U3,jab,jak];have hk:=jfR hv hl hP ts;generalize numP l en i=r at *;cases r with
  |error e =>
   refine jaU hk ?_ ?_
   ·rintro v O' ⟨h,_⟩;cases h
   ·rintro v O' ⟨h,h2⟩;cases h;exact⟨rfl,hF.tr h2.1,h2.2⟩
  | ok x =>
   obtain⟨t,j⟩:=x;refine jaU hk ?_ ?_
   ·rintro v O' ⟨h,h2⟩;cases h;simp only[Ux,simprocAttr,U3,jab,jak];exact⟨rfl,h2.tr hF⟩
   ·rintro v O' ⟨h,h2⟩;cases h
 ·rw[hb]at hP;simp only[Ku]at hP;simp only[Ux,simprocAttr,U3,jab,jak];have hk:=jfR hv hl hP ts;generalize hr:numP l en (i+1)=r at *;cases r with
  |error e =>
   refine jaU hk ?_ ?_
   ·rintro v O' ⟨h,_⟩;cases h
   ·rintro v O' ⟨h,h2⟩;cases h;exact⟨rfl,hF.tr h2.1,h2.2⟩
  | ok x =>
   obtain⟨t,j⟩:=x;have hn:=jkE hs hr;have e1:IntKind.i64.wrap (0-t) = -t:=by rw[wrap_i64 (by omega) (by omega)];omega
   refine jaU hk ?_ ?_
   ·rintro v O' ⟨h,h2⟩;cases h;simp only[Ux,simprocAttr,U3,jab,jak,e1];exact⟨rfl,h2.tr hF⟩
   ·rintro v O' ⟨h,h2⟩;cases h
theorem jiQ(hv:IsK lv l)(hl:l.length<=4000)(h:Pc lv en q p L i o)(ts:List Nat) :
  ∃r O',jbP env 61 [.ptr p 0] ⟨L,ts⟩=some (r,O')/\RX lv en q p L ts o (V.int .i64) (posP l en i) r O':=by
 refine jaZ rfl rfl rfl rfl at61 rfl (by simp[Tryz.f61]) (U4 rfl) (jbq ?_);have ha:=jcC (jeG hv hl h ts);simp only[Tryz.f61,Ux,simprocAttr,U3,jab,jak,ha];unfold posP;have hk:=jfR hv hl h ts;generalize hr:numP l en i=r at *;cases r with
 |error e =>
  refine jaU hk ?_ ?_
  ·rintro v O' ⟨h,_⟩;cases h
  ·rintro v O' ⟨h,h2⟩;cases h;exact⟨rfl,h2⟩
 | ok x =>
  obtain⟨t,j⟩:=x;refine jaU hk ?_ ?_
  ·rintro v O' ⟨h,h2⟩;cases h;by_cases ht:t=0
   ·have ht2:=eq_true ht;simp only[Ux,simprocAttr,U3,jab,jak,ht2];refine jaU (jgu _ _ _) ?_ ?_
    ·rintro v O' ⟨h,_⟩;cases h
    ·rintro v O' ⟨h,rfl⟩;cases h;exact⟨rfl,h2.1,h2.2.2⟩
   ·have ht2:=eq_false ht;simp only[Ux,simprocAttr,U3,jab,jak,ht2];exact⟨rfl,h2⟩
  ·rintro v O' ⟨h,h2⟩;cases h
end
def jbO(x:Nd):List V:=[.int .i64 x.op,.int .i64 x.n,.str x.col]
def jbS(l:List Nd):List V:=(l.map jbO).flatten
theorem jc9(a b:List Nd):jbS (a++b)=jbS a++jbS b:=by simp[jbS]
theorem jrC(a:Nd)(b:List Nd):jbS (a::b)=jbO a++jbS b:=rfl
theorem jh9:∀l:List Nd,(jbS l).length=l.length*3
 | []=>rfl
 |c::cs=>by
  rw[jrC,Kr,jh9 cs];simp only[jbO,K0,K6];omega
theorem jiR(l:List Nd):(jbS l).all V.isCell=true:=by
 rw[K1];intro v hv;simp only[jbS,List.mem_flatten,Xc]at hv;obtain⟨_,⟨x,_,rfl⟩,h⟩:=hv;simp only[jbO,Qv,Jj,or_false]at h
 rcases h with rfl|rfl|rfl<;>rfl
theorem jtV:Elt env 25 71 3 32:=⟨by kernel_rfl,by kernel_rfl,by kernel_rfl,by kernel_rfl,by kernel_rfl⟩
def GoX(lv:V)(en:Int)(q:List V)(p:Nat)(L:List AObj)(ts:List Nat)(o:Nat)(r:R (List Nd))(x:Sum V V)(O:S):Prop :=
 match r with
 | .ok (out,j)=>∃v,x=.inl v/\Fr p L O.heap/\Pc lv en q p O.heap j o/\GrowV ts.length O.toks 3 v out.length (jbS out)/\Ext ts.length ts O.toks
 | .error e=>x=.inr (flt e)/\Fr p L O.heap/\Ext ts.length ts O.toks
theorem GoX.tr {lv:V}{en:Int}{q:List V}{p:Nat}{L L1:List AObj}{ts:List Nat}{o:Nat}{r:R (List Nd)}{x:Sum V V}{O:S}(h:Fr p L L1)(g:GoX lv en q p L1 ts o r x O):GoX lv en q p L ts o r x O:=by
 match r,g with
 | .ok (a,j),⟨v,g1,g2,g3⟩=>exact⟨v,g1,h.tr g2,g3⟩
 | .error e,⟨g1,g2,g3⟩=>exact⟨g1,h.tr g2,g3⟩
def CX(l:List Tk)(lv:V)(en:Int)(q:List V)(p:Nat)(fn:FuncId)(g:Nat->Nat->Option (R (List Nd))):Prop :=
 ∀o i r,g o i=some r->o<=50->i<=l.length->∀L ts,Pc lv en q p L i o->∃x O',jbP env fn [.ptr p 0] ⟨L,ts⟩=some (x,O')/\GoX lv en q p L ts o r x O'
def Fr2(p b:Nat)(L L':List AObj):Prop:=L.length<=L'.length/\∀c,c<L.length->c ≠ p->c ≠ b->L'[c]? = L[c]?
theorem Fr.two {p:Nat}{L L':List AObj}(h:Fr p L L')(b:Nat):Fr2 p b L L':=⟨h.1,λc hc hp _=>h.2 c hc hp⟩
theorem Fr2.tr {p b:Nat}{L L1 L2:List AObj}(h:Fr2 p b L L1)(g:Fr2 p b L1 L2):Fr2 p b L L2:=⟨Qs h.1 g.1,λc hc hp hb=>by rw[g.2 c (Vn hc h.1) hp hb,h.2 c hc hp hb]⟩
theorem Fr2.setb(p b:Nat)(L:List AObj)(o:AObj):Fr2 p b L (L.set b o):=⟨by simp,λc _ _ hb=>by rw[Kk (λe=>hb e.symm)]⟩
theorem Fr2.has {p b:Nat}{L L1:List AObj}(h:Fr2 p b L L1){c:Nat}{o:AObj}(hc:L[c]? = some o)(hp:c ≠ p)(hb:c ≠ b):L1[c]? = some o:=by rw[h.2 c (jaT hc) hp hb];exact hc
theorem Fr2.one {p b:Nat}{L0 L L1:List AObj}(h0:Fr p L0 L)(h:Fr2 p b L L1)(hb:L0.length<=b):Fr p L0 L1:=⟨Qs h0.1 h.1,λc hc hp=>by rw[h.2 c (Vn hc h0.1) hp (by omega),h0.2 c hc hp]⟩
def KC(lv:V)(en:Int)(q:List V)(p b:Nat)(L:List AObj)(ts:List Nat)(o:Nat)(r:R (List Nd))(x:Sum V V)(O:S):Prop :=
 match r with
 | .ok (out,j)=>x=.inl (.tup [])/\Fr2 p b L O.heap/\Pc lv en q p O.heap j o/\∃v,O.heap[b]? = some (.cells [v] 25)/\GrowV ts.length O.toks 3 v out.length (jbS out)/\Ext ts.length ts O.toks
 | .error e=>x=.inr (flt e)/\Fr2 p b L O.heap/\Ext ts.length ts O.toks
theorem KC.tr {lv:V}{en:Int}{q:List V}{p b:Nat}{L L1:List AObj}{ts:List Nat}{o:Nat}{r:R (List Nd)}{x:Sum V V}{O:S}(h:Fr p L L1)(g:KC lv en q p b L1 ts o r x O):KC lv en q p b L ts o r x O:=by
 match r,g with
 | .ok (a,j),⟨g1,g2,g3⟩=>exact⟨g1,(h.two b).tr g2,g3⟩
 | .error e,⟨g1,g2,g3⟩=>exact⟨g1,(h.two b).tr g2,g3⟩
theorem KC.inl {lv:V}{en:Int}{q:List V}{p b:Nat}{L:List AObj}{ts:List Nat}{o:Nat}{r:R (List Nd)}{w:V}{O:S}(g:KC lv en q p b L ts o r (.inl w) O):KC lv en q p b L ts o r (.inl (.tup [])) O:=by
 match r,g with
 | .ok (a,j),⟨g1,g2⟩=>exact⟨rfl,g2⟩
 | .error e,⟨g1,_⟩=>cases g1
theorem jy7:env.P.funcs[129]? = some Tryz.f129:=by kernel_rfl
section
variable {lv:V}{en:Int}{q:List V}{p b:Nat}{L:List AObj}{i o:Nat}{l:List Tk}
theorem jeH(hv:IsK lv l)(hl:l.length<=4000)(h:Pc lv en q p L i o)(ho:50<=o)(ts:List Nat)(s:List UInt8)(f:V) :
  ∃x O',jbP env 129 [.ptr p 0,.str s,f] ⟨L,ts⟩=some (x,O')/\x=.inr (flt (4,atP l en i))/\O'=⟨L,ts⟩:=by
 refine jaZ rfl rfl rfl rfl jy7 rfl (by simp[Tryz.f129]) (U4 rfl) (jbq ?_);have hc:=h.has;have c1:(50:Int)<=(o:Int):=by omega
 have ha:=jcC (jeG hv hl h ts);simp only[Tryz.f129,Ux,simprocAttr,U3,jab,jak,hc,c1,ha];refine jaU (jgu _ _ _) ?_ ?_
 ·rintro v O' ⟨h,_⟩;cases h
 ·rintro v O' ⟨h,rfl⟩;cases h;exact⟨rfl,rfl⟩
theorem jdT(hv:IsK lv l)(hl:l.length<=4000)(h:Pc lv en q p L i o)(hi:i<=l.length)(ho:o<50)(ts:List Nat)(s:List UInt8)(hs:sees l s i=true)(fc:FuncId)(caps:List V)(hbp:b ≠ p){r:R (List Nd)}
  (hc:∀L',Fr p L L'->Pc lv en q p L' (i+1) (o+1)->∃x O',jbP env fc caps ⟨L',ts⟩=some (x,O')/\KC lv en q p b L' ts (o+1) r x O') :
  ∃x O',jbP env 129 [.ptr p 0,.str s,.func fc [] caps] ⟨L,ts⟩=some (x,O')/\KC lv en q p b L ts o r x O':=by
 refine jaZ rfl rfl rfl rfl jy7 rfl (by simp[Tryz.f129]) (U4 rfl) (jbq ?_);have hcl:=h.has;have c1:¬(50:Int)<=(o:Int):=by omega
 have e1:IntKind.i64.wrap ((o:Int)+1)=((o+1:Nat):Int):=by rw[wrap_i64 (by omega) (by omega)];omega
 have e2:IntKind.i64.wrap (((o+1:Nat):Int)-1)=(o:Int):=by rw[wrap_i64 (by omega) (by omega)];omega
 simp only[Tryz.f129,Ux,simprocAttr,U3,jab,jak,hcl,c1,e1];have hm:=jdH hv hl hi (h.set i (o+1)) ts s;have hmo:must l en s i=.ok ((),i+1):=by unfold must;rw[Ki hs]
 rw[hmo]at hm;refine jaU hm ?_ ?_
 ·rintro v ⟨L1,ts⟩ ⟨h1,hF,hP,rfl⟩;cases h1;simp only[Ux,simprocAttr,U3,jab,jak];refine jaU (hc L1 ((Fr.set _ _ _).tr hF) hP) ?_ ?_
  ·rintro v ⟨L2,t2⟩ hk
   match r,hk with
   | .ok (out,j),⟨k1,k2,k3,u,k4,k5,k6⟩ =>
    cases k1;have hg:=Pc.has k3;simp only[Ux,simprocAttr,U3,jab,jak,hg,e2];exact⟨rfl,((((Fr.set _ _ _).tr hF).two b).tr k2).tr ((Fr.set _ _ _).two b),k3.set j o,u,(Kk (λe=>hbp e.symm)).trans k4,k5,k6⟩
   | .error e,⟨k1,k2,k3⟩=>cases k1
  ·rintro v ⟨L2,t2⟩ hk
   match r,hk with
   | .ok (out,j),⟨k1,_⟩=>cases k1
   | .error e,⟨k1,k2,k3⟩ =>
    cases k1;exact⟨rfl,((Fr.set _ _ _).tr hF |>.two b).tr k2,k3⟩
 ·rintro v O' ⟨h1,_⟩;cases h1
theorem jA2:env.P.funcs[187]? = some Tryz.f187:=by kernel_rfl
theorem jA3:env.P.funcs[188]? = some Tryz.f188:=by kernel_rfl
theorem jA4:env.P.funcs[130]? = some Tryz.f130:=by kernel_rfl
theorem jA5:env.P.funcs[131]? = some Tryz.f131:=by kernel_rfl
theorem clo1 {fc fn:FuncId}{g:Nat->Nat->Option (R (List Nd))}(hg:CX l lv en q p fn g){r:R (List Nd)}(hr:g o i=some r)(ho:o<=50)(hi:i<=l.length){a:Nat}{u:V}(h:Pc lv en q p L i o)(ha:L[a]? = some (.cells [.ptr p 0] 53))(hb:L[b]? = some (.cells [u] 25))(hap:a ≠ p)(hbp:b ≠ p)(ts:List Nat)
  (hf:fc=187/\fn=160\/fc=130/\fn=96):∃x O',jbP env fc [.ptr a 0,.ptr b 0] ⟨L,ts⟩=some (x,O')/\KC lv en q p b L ts o r x O':=by
 have hk:=hg o i r hr ho hi L ts h
 rcases hf with⟨rfl,rfl⟩|⟨rfl,rfl⟩
 ·refine jaZ rfl rfl rfl rfl jA2 rfl (by simp[Tryz.f187]) (U4 rfl) (jbq ?_);simp only[Tryz.f187,Ux,simprocAttr,U3,jab,jak,ha];refine jaU hk ?_ ?_
  ·rintro v ⟨L2,t2⟩ hk
   match r,hk with
   | .ok (out,j),⟨u',k1,k2,k3,k4,k5⟩ =>
    cases k1;have hb2:=k2.has hb hbp;have hv:=k4.cells;simp only[Ux,simprocAttr,U3,jab,jak,hb2,hv.1,hv.2];exact⟨rfl,(k2.two b).tr (Fr2.setb _ _ _ _),(Kk hbp).trans k3,_,Kl (jaT hb2),k4,k5⟩
   | .error e,⟨k1,_⟩=>cases k1
  ·rintro v ⟨L2,t2⟩ hk
   match r,hk with
   | .ok (out,j),⟨u',k1,_⟩=>cases k1
   | .error e,⟨k1,k2,k3⟩=>cases k1;exact⟨rfl,k2.two b,k3⟩
 ·refine jaZ rfl rfl rfl rfl jA4 rfl (by simp[Tryz.f130]) (U4 rfl) (jbq ?_);simp only[Tryz.f130,Ux,simprocAttr,U3,jab,jak,ha];refine jaU hk ?_ ?_
  ·rintro v ⟨L2,t2⟩ hk
   match r,hk with
   | .ok (out,j),⟨u',k1,k2,k3,k4,k5⟩ =>
    cases k1;have hb2:=k2.has hb hbp;have hv:=k4.cells;simp only[Ux,simprocAttr,U3,jab,jak,hb2,hv.1,hv.2];exact⟨rfl,(k2.two b).tr (Fr2.setb _ _ _ _),(Kk hbp).trans k3,_,Kl (jaT hb2),k4,k5⟩
   | .error e,⟨k1,_⟩=>cases k1
  ·rintro v ⟨L2,t2⟩ hk
   match r,hk with
   | .ok (out,j),⟨u',k1,_⟩=>cases k1
   | .error e,⟨k1,k2,k3⟩=>cases k1;exact⟨rfl,k2.two b,k3⟩
def jpx(l:List Tk)(en:Int)(s:List UInt8)(r:R (List Nd)):R (List Nd) :=
 match r with
 | .error e=>.error e
 | .ok (a,j)=>match must l en s j with
  | .error e=>.error e
  | .ok (_,j)=>.ok (a,j)
theorem jmC {L1:List AObj}{ts t1:List Nat}{u:V}{out:List Nd}{j:Nat}{s:List UInt8}(k2:Fr2 p b L L1)(k3:Pc lv en q p L1 j o)(k4:L1[b]? = some (.cells [u] 25))(k5:GrowV ts.length t1 3 u out.length (jbS out))(k6:Ext ts.length ts t1)(hbp:b ≠ p){x:Sum V V}{O:S}
  (hm:RX lv en q p L1 t1 o (λ_=>V.tup []) (must l en s j) x O):KC lv en q p b L ts o (jpx l en s (.ok (out,j))) x O:=by
 obtain⟨L2,t2⟩:=O;unfold jpx;simp only;cases hr:must l en s j with
 |error e =>
  rw[hr]at hm;obtain⟨m1,m2,m3⟩:=hm;simp only at m3;subst m3;exact⟨m1,k2.tr (m2.two b),k6⟩
 |ok y =>
  obtain⟨w,j2⟩:=y;rw[hr]at hm;obtain⟨m1,m2,m3,m4⟩:=hm;simp only at m4;subst m4;exact⟨m1,k2.tr (m2.two b),m3,u,m2.has k4 hbp,k5,k6⟩
theorem clo2 {fc fn:FuncId}{s:List UInt8}{g:Nat->Nat->Option (R (List Nd))}(hv:IsK lv l)(hl:l.length<=4000)(hg:CX l lv en q p fn g){r:R (List Nd)}(hr:g o i=some r)(hj:∀out j,r=.ok (out,j)->j<=l.length)(ho:o<=50)(hi:i<=l.length){a:Nat}{u:V}(h:Pc lv en q p L i o)(ha:L[a]? = some (.cells [.ptr p 0] 53))(hb:L[b]? = some (.cells [u] 25))(hap:a ≠ p)(hbp:b ≠ p)(hab:a ≠ b)(ts:List Nat)
  (hf:(fc=188/\fn=128/\s=[41])\/(fc=131/\fn=63/\s=[93])):∃x O',jbP env fc [.ptr a 0,.ptr b 0] ⟨L,ts⟩=some (x,O')/\KC lv en q p b L ts o (jpx l en s r) x O':=by
 have hk:=hg o i r hr ho hi L ts h
 rcases hf with⟨rfl,rfl,rfl⟩|⟨rfl,rfl,rfl⟩
 ·refine jaZ rfl rfl rfl rfl jA3 rfl (by simp[Tryz.f188]) (U4 rfl) (jbq ?_);simp only[Tryz.f188,Ux,simprocAttr,U3,jab,jak,ha];refine jaU hk ?_ ?_
  ·rintro v ⟨L2,t2⟩ hk
   match r,hj,hk with
   | .ok (out,j),hj,⟨u',k1,k2,k3,k4,k5⟩ =>
    cases k1;have hb2:=k2.has hb hbp;have ha2:=(Fr2.setb p b L2 (.cells [v] 25)).has (k2.has ha hap) hap hab;have hv2:=k4.cells;have hP2:Pc lv en q p (L2.set b (.cells [v] 25)) j o:=(Kk hbp).trans k3;simp only[Ux,simprocAttr,U3,jab,jak,hb2,hv2.1,hv2.2,ha2];refine jaU (jdH hv hl (hj _ _ rfl) hP2 t2 [41]) ?_ ?_
    ·rintro w ⟨L3,t3⟩ hm;have:=jmC (L:=L) (ts:=ts) ((k2.two b).tr (Fr2.setb _ _ _ _)) hP2 (Kl (jaT hb2)) k4 k5 hbp hm;simp only[Ux,simprocAttr,U3,jab,jak];exact this.inl
    ·rintro w ⟨L3,t3⟩ hm;exact jmC (L:=L) (ts:=ts) ((k2.two b).tr (Fr2.setb _ _ _ _)) hP2 (Kl (jaT hb2)) k4 k5 hbp hm
   | .error e,_,⟨k1,_⟩=>cases k1
  ·rintro v ⟨L2,t2⟩ hk
   match r,hk with
   | .ok (out,j),⟨u',k1,_⟩=>cases k1
   | .error e,⟨k1,k2,k3⟩=>cases k1;exact⟨rfl,k2.two b,k3⟩
 ·refine jaZ rfl rfl rfl rfl jA5 rfl (by simp[Tryz.f131]) (U4 rfl) (jbq ?_);simp only[Tryz.f131,Ux,simprocAttr,U3,jab,jak,ha];refine jaU hk ?_ ?_
  ·rintro v ⟨L2,t2⟩ hk
   match r,hj,hk with
   | .ok (out,j),hj,⟨u',k1,k2,k3,k4,k5⟩ =>
    cases k1;have hb2:=k2.has hb hbp;have ha2:=(Fr2.setb p b L2 (.cells [v] 25)).has (k2.has ha hap) hap hab;have hv2:=k4.cells;have hP2:Pc lv en q p (L2.set b (.cells [v] 25)) j o:=(Kk hbp).trans k3;simp only[Ux,simprocAttr,U3,jab,jak,hb2,hv2.1,hv2.2,ha2];refine jaU (jdH hv hl (hj _ _ rfl) hP2 t2 [93]) ?_ ?_
    ·rintro w ⟨L3,t3⟩ hm;have:=jmC (L:=L) (ts:=ts) ((k2.two b).tr (Fr2.setb _ _ _ _)) hP2 (Kl (jaT hb2)) k4 k5 hbp hm;simp only[Ux,simprocAttr,U3,jab,jak];exact this.inl
    ·rintro w ⟨L3,t3⟩ hm;exact jmC (L:=L) (ts:=ts) ((k2.two b).tr (Fr2.setb _ _ _ _)) hP2 (Kl (jaT hb2)) k4 k5 hbp hm
   | .error e,_,⟨k1,_⟩=>cases k1
  ·rintro v ⟨L2,t2⟩ hk
   match r,hk with
   | .ok (out,j),⟨u',k1,_⟩=>cases k1
   | .error e,⟨k1,k2,k3⟩=>cases k1;exact⟨rfl,k2.two b,k3⟩
end
theorem jA6:env.P.funcs[161]? = some Tryz.f161:=by kernel_rfl
section
variable {lv:V}{en:Int}{q:List V}{p b:Nat}{L:List AObj}{i o:Nat}{l:List Tk}
theorem d161 {X:V->List DE->S->Prop}{Q:Post}{ks:List Kt}{T:Tm}{D:List DE}{ts:List Nat}{a base n:Nat}{u:V}{cs:List V}{r:R (List Nd)}{rid:Nat}(hrid:rid=2\/rid=4)(t0:T 0=.ptr a 0)(t1:T 1=.ptr b 0)(ha:L[a]? = some (.cells [.ptr p 0] 53))(hb:L[b]? = some (.cells [u] 25))(hbp:b ≠ p)
  (hu:GrowV base ts 3 u n cs) (hbase:base<=ts.length) (hk:∃x O',jbP env 128 [.ptr p 0] ⟨L,ts⟩=some (x,O')/\GoX lv en q p L ts o r x O') (hlen:∀out j,r=.ok (out,j)->n+out.length<=100000)
  (hok:∀out j,r=.ok (out,j)->∀T' L2 t2 w,T' 0=T 0->T' 1=T 1->Fr2 p b L L2->Pc lv en q p L2 j o->L2[b]? = some (.cells [w] 25)->GrowV base t2 3 w (n+out.length) (cs++jbS out)->Ext base ts t2->H env 161 none 16 X Q ks .skip T' D ⟨L2,t2⟩)
  (hbad:∀e,r=.error e->∀O',Fr p L O'.heap->Ext ts.length ts O'.toks->X (flt e) D O') :
  H env 161 none 16 X Q ks (regB rid (jaz Tryz.f161)) T D ⟨L,ts⟩:=by
 obtain⟨x,⟨L1,t1'⟩,hc,hK⟩:=hk
 match r,hK with
 | .ok (out,j),⟨w,k1,k2,k3,k4,k5⟩ =>
  subst k1;have hcf:=jgm hc;have hb1:=k2.has hb hbp;have hl1:=jaT hb1;have hu1:=hu.ext k5
  obtain⟨w',t3,h1,h2,h3⟩:=hu1.append jtV ⟨71,u25⟩ (hp:=L1) (Qs hbase k5.1) k4.vlen (k4.vcells L1) (jh9 out) (jiR out) (by
   have:=hlen _ _ rfl;have hlim:lim=2^40:=rfl;rw[hlim];omega)
  simp only at h1;have hwc:=h2.cells;have hfin:=hok out j rfl
  rcases hrid with rfl|rfl
  ·refine jkb rfl (jrj ?_);refine jsJ rfl [(false,[1]),(false,[]),(true,[]),(true,[]),(true,[])] (λm s0=>m<=1->s0.heap[b]? = some (.cells [u] 25)) (λ_=>hb) (by kernel_rfl) (by kernel_rfl) ?_;simp only[regB,regO,jaz,Tryz.f161,Kv,Ka,simprocAttr,U3,jab,jak,hhWa,hhWb,hhWc,hhWd,jhK,jmi,jmj,jhL,jmk,jhM,jml,jfI,jei,jdD,jdE,t0,t1,ha,hb,hcf,h1,hb1,hwc.1,hwc.2];exact⟨⟨λs hs=>by rw[hs];rfl,trivial⟩,hfin _ _ _ w' rfl rfl ((k2.two b).tr (Fr2.setb _ _ _ _)) ((Kk hbp).trans k3) (Kl hl1) h2 ((k5.mono hbase).trans h3)⟩
  ·refine jkb rfl (jrj ?_);refine jsJ rfl [(false,[1]),(false,[]),(true,[]),(true,[]),(true,[])] (λm s0=>m<=1->s0.heap[b]? = some (.cells [u] 25)) (λ_=>hb) (by kernel_rfl) (by kernel_rfl) ?_;simp only[regB,regO,jaz,Tryz.f161,Kv,Ka,simprocAttr,U3,jab,jak,hhWa,hhWb,hhWc,hhWd,jhK,jmi,jmj,jhL,jmk,jhM,jml,jfI,jei,jdD,jdE,t0,t1,ha,hb,hcf,h1,hb1,hwc.1,hwc.2];exact⟨⟨λs hs=>by rw[hs];rfl,trivial⟩,hfin _ _ _ w' rfl rfl ((k2.two b).tr (Fr2.setb _ _ _ _)) ((Kk hbp).trans k3) (Kl hl1) h2 ((k5.mono hbase).trans h3)⟩
 | .error e,⟨k1,k2,k3⟩ =>
  subst k1;obtain⟨p1,p2,p3,p4,p5⟩:=jfk hc
  rcases hrid with rfl|rfl
  ·refine jkb rfl ?_;simp only[regB,regO,jaz,Tryz.f161,Kv];refine jmm 2 _ _ [(false,[]),(false,[])] (λm s0=>True) rfl rfl rfl trivial (by kernel_rfl) (by kernel_rfl) (by kernel_rfl) (by kernel_rfl) rfl ?_;simp only[Q7,Jl,Ka,simprocAttr,U3,jab,jak,hhWa,hhWb,hhWc,hhWd,jhK,jmi,jmj,jhL,jmk,jhM,jml,jfI,jei,jdD,jdE,t0,t1,ha,hb];exact⟨_,[],[],[.ptr p 0],_,_,rfl,rfl,p1,p2,p3,p4,p5,λvals _=>hbad e rfl ⟨L1,t1'⟩ k2 k3⟩
  ·refine jkb rfl ?_;simp only[regB,regO,jaz,Tryz.f161,Kv];refine jmm 2 _ _ [(false,[]),(false,[])] (λm s0=>True) rfl rfl rfl trivial (by kernel_rfl) (by kernel_rfl) (by kernel_rfl) (by kernel_rfl) rfl ?_;simp only[Q7,Jl,Ka,simprocAttr,U3,jab,jak,hhWa,hhWb,hhWc,hhWd,jhK,jmi,jmj,jhL,jmk,jhM,jml,jfI,jei,jdD,jdE,t0,t1,ha,hb];exact⟨_,[],[],[.ptr p 0],_,_,rfl,rfl,p1,p2,p3,p4,p5,λvals _=>hbad e rfl ⟨L1,t1'⟩ k2 k3⟩
def ifB (l:List Tk)(en:Int)(gc ge:Nat->Nat->Option (R (List Nd)))(o i:Nat):Option (R (List Nd)) :=
  match gc o i with
  |none=>none
  |some (.error e)=>some (.error e)
  | some (.ok (c,j))=>match must l en js5 j with
    | .error e=>some (.error e)
    | .ok (_,j)=>match ge o j with
      |none=>none
      |some (.error e)=>some (.error e)
      | some (.ok (a,j))=>match must l en js6 j with
        | .error e=>some (.error e)
        | .ok (_,j)=>match ge o j with
          |none=>none
          |some (.error e)=>some (.error e)
          |some (.ok (b,j))=>some (.ok (c++a++b,j))
def Adv2(l:List Tk)(g:Nat->Nat->Option (R (List Nd))):Prop:=∀o i out j,g o i=some (.ok (out,j))->i<j/\j<=l.length/\out.length<=j-i
theorem jwq(hv:IsK lv l)(hl:l.length<=4000){gc ge:Nat->Nat->Option (R (List Nd))}(hgc:CX l lv en q p 63 gc)(hge:CX l lv en q p 128 ge)(ac:Adv2 l gc)(ae:Adv2 l ge){r:R (List Nd)}(hr:ifB l en gc ge o i=some r)(ho:o<=50)(hi:i<=l.length){a:Nat}{u:V}
  (h:Pc lv en q p L i o) (ha:L[a]? = some (.cells [.ptr p 0] 53)) (hb:L[b]? = some (.cells [u] 25)) (hap:a ≠ p) (hbp:b ≠ p) (hab:a ≠ b) (ts:List Nat) :
  ∃x O',jbP env 161 [.ptr a 0,.ptr b 0] ⟨L,ts⟩=some (x,O')/\KC lv en q p b L ts o r x O':=by
 refine jaZ rfl rfl rfl rfl jA6 rfl (by simp[Tryz.f161]) (U4 rfl) (jbq ?_);simp only[Tryz.f161,Kc,jaj,Kb,simprocAttr,U3,jab,jak,ha];unfold ifB at hr;split at hr
 ·cases hr
 ·rename_i e he;simp only[Kg]at hr;subst hr;refine jaU (hgc o i _ he ho hi L ts h) ?_ ?_
  ·rintro v ⟨L2,t2⟩ ⟨k1,_⟩;cases k1
  ·rintro v ⟨L2,t2⟩ ⟨k1,k2,k3⟩;cases k1;exact⟨rfl,k2.two b,k3⟩
 rename_i c j hc;have a1:=ac _ _ _ _ hc;refine jaU (hgc o i _ hc ho hi L ts h) ?_ ?_
 rotate_left
 ·rintro v ⟨L2,t2⟩ ⟨u',k1,_⟩;cases k1
 rintro v ⟨L2,t2⟩ ⟨u',k1,k2,k3,k4,k5⟩;cases k1;have hb2:=k2.has hb hbp;have ha2:=(Fr2.setb p b L2 (.cells [v] 25)).has (k2.has ha hap) hap hab;have hv2:=k4.cells;have hP2:Pc lv en q p (L2.set b (.cells [v] 25)) j o:=(Kk hbp).trans k3;have hF2:Fr2 p b L (L2.set b (.cells [v] 25)):=(k2.two b).tr (Fr2.setb _ _ _ _);have hB2:(L2.set b (.cells [v] 25))[b]? = some (.cells [v] 25):=Kl (jaT hb2);simp only[Kc,jaj,Kb,simprocAttr,U3,jab,jak,hb2,hv2.1,hv2.2,ha2];generalize L2.set b (.cells [v] 25)=L2 at *;have hm:=jdH hv hl a1.2.1 hP2 t2 js5;split at hr
 ·rename_i e he;simp only[Kg]at hr;subst hr;rw[he]at hm;refine jaU hm ?_ ?_
  ·rintro w ⟨L3,t3⟩ ⟨m1,_⟩;cases m1
  ·rintro w ⟨L3,t3⟩ ⟨m1,m2,rfl⟩;cases m1;exact⟨rfl,hF2.tr (m2.two b),k5⟩
 rename_i j1 he1;have b1:=jco he1;have b1l:=jcb b1.2;rw[he1]at hm;refine jaU hm ?_ ?_
 rotate_left
 ·rintro w ⟨L3,t3⟩ ⟨m1,_⟩;cases m1
 rintro w ⟨L3,t2⟩ ⟨m1,m2,m3,rfl⟩;cases m1;simp only[Kc,jaj,Kb,simprocAttr,U3,jab,jak];have hb3:=m2.has hB2 hbp;have ha3:=m2.has ha2 hap;have hF3:=hF2.tr (m2.two b);clear hb2 ha2 hP2 hF2 hB2 hm k2 k3;split at hr
 ·cases hr
 ·rename_i e he;simp only[Kg]at hr;subst hr;refine d161 (.inl rfl) rfl rfl ha3 hb3 hbp k4 k5.1 (hge o j1 _ he ho (by omega) L3 t2 m3) (λ_ _ h=>by cases h) (λ_ _ h=>by cases h) ?_;rintro e' he' ⟨L4,t4⟩ f1 f2;cases he';exact⟨rfl,rfl,hF3.tr (f1.two b),k5.trans (f2.mono k5.1)⟩
 rename_i a' j2 he2;have a2:=ae _ _ _ _ he2;refine d161 (.inl rfl) rfl rfl ha3 hb3 hbp k4 k5.1 (hge o j1 _ he2 ho (by omega) L3 t2 m3) ?_ ?_ ?_
 ·intro out j' h';cases h';omega
 rotate_left
 ·intro e' he';cases he'
 rintro out j' h' T' L4 t4 w' T0 T1 f1 f2 f3 f4 f5;cases h';have t0':T' 0=.ptr a 0:=T0;have t1':T' 1=.ptr b 0:=T1;have ha4:=f1.has ha3 hap hab;have hF4:=hF3.tr f1;have hE4:=k5.trans f5;simp only[Kc,jaj,Kb,simprocAttr,U3,jab,jak,t0',t1',ha4];have hm:=jdH hv hl a2.2.1 f2 t4 js6;split at hr
 ·rename_i e he;simp only[Kg]at hr;subst hr;rw[he]at hm;refine jaU hm ?_ ?_
  ·rintro w ⟨L5,t5⟩ ⟨m1,_⟩;cases m1
  ·rintro w ⟨L5,t5⟩ ⟨m1,m2,rfl⟩;cases m1;exact⟨rfl,hF4.tr (m2.two b),hE4⟩
 rename_i j3 he3;have b3:=jco he3;have b3l:=jcb b3.2;rw[he3]at hm;refine jaU hm ?_ ?_
 rotate_left
 ·rintro w ⟨L5,t5⟩ ⟨m1,_⟩;cases m1
 rintro w ⟨L5,t4⟩ ⟨m1,m2,m3,rfl⟩;cases m1;simp only[Kc,jaj,Kb,simprocAttr,U3,jab,jak];have hb5:=m2.has f3 hbp;have ha5:=m2.has ha4 hap;have hF5:=hF4.tr (m2.two b);split at hr
 ·cases hr
 ·rename_i e he;simp only[Kg]at hr;subst hr;refine d161 (.inr rfl) t0' t1' ha5 hb5 hbp f4 hE4.1 (hge o j3 _ he ho (by omega) L5 t4 m3) (λ_ _ h=>by cases h) (λ_ _ h=>by cases h) ?_;rintro e' he' ⟨L6,t6⟩ g1 g2;cases he';exact⟨rfl,rfl,hF5.tr (g1.two b),hE4.trans (g2.mono hE4.1)⟩
 rename_i b' j4 he4;have a4:=ae _ _ _ _ he4;simp only[Kg]at hr;subst hr;refine d161 (.inr rfl) t0' t1' ha5 hb5 hbp f4 hE4.1 (hge o j3 _ he4 ho (by omega) L5 t4 m3) ?_ ?_ ?_
 ·intro out j' h';cases h';omega
 rotate_left
 ·intro e' he';cases he'
 rintro out j' h' T2 L6 t6 w2 T20 T21 g1 g2 g3 g4 g5;cases h';simp only[Kc,jaj,Kb,simprocAttr,U3,jab,jak];refine⟨rfl,hF5.tr g1,g2,w2,g3,?_,hE4.trans g5⟩;rw[Kr,Kr,jc9,jc9];exact g4
end
theorem u150:env.P.underlying 150=some (.map 9 3):=by kernel_rfl
theorem at94:env.P.funcs[94]? = some Tryz.f94:=by kernel_rfl
theorem jy8(L:List AObj)(ts:List Nat):newO env 150 ⟨L,ts⟩=some (.map L.length,⟨L++[.map [] 0],ts⟩):=by unfold newO;rw[u150];rfl
theorem insE {L:List AObj}{ts:List Nat}{k:List UInt8}{v:V}{es:List (V × V × Nat)}{c:Nat}(hf:jcR env 9 (.str k) es 0=some none) :
  insO env 150 (.map L.length) (.str k) v ⟨L++[.map es c],ts⟩=some (.tup [],⟨L++[.map (es++[(.str k,v,c)]) (c+1)],ts⟩):=by
 unfold insO;simp only[u150,jal,jhN u9,Ku,hf,S.set,jah]
theorem jy9:jcR env 9 (.str [43]) [] 0=some none:=rfl
theorem jxv:jcR env 9 (.str [45]) [(.str [43],.int .i64 4,0)] 0=some none:=by kernel_rfl
theorem jA7:jcR env 9 (.str [42]) [] 0=some none:=rfl
theorem f_or:jcR env 9 (.str [111,114]) [] 0=some none:=rfl
theorem jA8:jcR env 9 (.str [97,110,100]) [] 0=some none:=rfl
theorem jza(a b:Nat):rowO env 116 2 [(0,.map a),(1,.map b)]=some (.row [.map a,.map b] 2 .full):=by kernel_rfl
def lvlM(lv:Lvl):AObj:=.map (mapS (lv.map λp=>(p.1,.int .i64 p.2)) 0) lv.length
theorem jkF(L:List AObj)(ts:List Nat):jas env (ev env) 94 [] ⟨L,ts⟩=some (.tup [.row [.map L.length,.map (L.length+1)] 2 .full,.row [.map (L.length+2),.map (L.length+3)] 2 .full],⟨L++(sumL.map lvlM++jeB.map lvlM),ts⟩):=by
 refine jbk rfl rfl at94 rfl (by simp[Tryz.f94]) (U4 rfl) (jar ?_);simp only[Tryz.f94,Ka,simprocAttr,Uy,Ke,Uz,jab,jgJ,jgK,jy8,insE jy9,insE jxv,insE jA7,insE f_or,insE jA8,jag,jza];exact⟨by simp[jaW],by simp[lvlM,sumL,jeB,mapS]⟩
theorem jA9:env.P.funcs[162]? = some Tryz.f162:=by kernel_rfl
section
variable {lv:V}{en:Int}{q:List V}{p:Nat}{L:List AObj}{i o:Nat}{l:List Tk}
theorem jvx(hv:IsK lv l)(hl:l.length<=4000)(h:Pc lv en q p L i o)(ts:List Nat)(n:Nat)(k:Int) :
  ∃v O',jas env (ev env) 162 [.ptr p 0,.int .i64 n,.int .i64 k] ⟨L,ts⟩=some (v,O')/\(∃t:Tk,v=.tup [.agg (jak t),.bool (isK l k n)])/\Stp lv en q p L ts i o O':=by
 refine jcv rfl rfl jA9 rfl (by simp[Tryz.f162]) (U4 rfl) (jar ?_);have hlen:=jvw hv 47;have hc:=λX=>(h.app X).has
 unfold isK;cases ht:l[n]? with
 | none =>
  have c1:¬(n:Int)<(l.length:Int):=by
   have:=Vg.1 ht;omega
  have c2:=eq_false c1;simp only[Tryz.f162,Ka,simprocAttr,U3,jab,jak,hc,hlen,c2];simp only[ldp4 (jal _ _),Yy,Kx,Kn,jaW];exact⟨⟨tk0,rfl⟩,Fr.app _ _ _,h.app _,rfl⟩
 | some t =>
  have hi:=(Kz.1 ht).1;have c1:(n:Int)<(l.length:Int):=by omega
  have c2:=eq_true c1;have hx:=jxt hv ht;by_cases hk:t.kind=k
  ·have hk2:=eq_true hk;simp only[Tryz.f162,Ka,simprocAttr,U3,jab,jak,hc,hlen,c2,hx,ld1,hk2,ld4];simp only[ldp4 (jal _ _),Yy,Kx,Kn,jaW];exact⟨⟨t,rfl⟩,Fr.app _ _ _,h.app _,rfl⟩
  ·have hk2:=eq_false hk;simp only[Tryz.f162,Ka,simprocAttr,U3,jab,jak,hc,hlen,c2,hx,ld1,hk2];simp only[ldp4 (jal _ _),Yy,Kx,Kn,jaW];exact⟨⟨tk0,rfl⟩,Fr.app _ _ _,h.app _,rfl⟩
end
theorem at95:env.P.funcs[95]? = some Tryz.f95:=by kernel_rfl
theorem z3:jbG env 3=some (.int .i64 0):=by kernel_rfl
theorem jn9(lv:Lvl)(s:List UInt8):((lv.map λp=>(p.1,V.int .i64 p.2)).find? λp=>p.1==s)=(lv.find? λp=>p.1=s).map λp=>(p.1,V.int .i64 p.2):=by
 induction lv with
 |nil=>rfl
 | cons a r ih =>
  simp only[Jf,List.find?_cons];by_cases h:a.1=s
  ·simp[h]
  ·have:(a.1==s)=false:=by simpa using h
   simp[h,this,ih]
theorem jvy {L:List AObj}{ts:List Nat}{b:Nat}{lv:Lvl}(h:L[b]? = some (lvlM lv))(s:List UInt8) :
  jnp env 150 true (.map b) (.str s) ⟨L,ts⟩=some (match PP.look lv s with|some v=>.tup [.int .i64 v,.bool true]|none=>.tup [.int .i64 0,.bool false]):=by
 have h':L[b]? = some (.map (mapS (lv.map λp=>(p.1,V.int .i64 p.2)) 0) lv.length):=h;rw[jmn u9 u150 z3 h' s,jn9];unfold PP.look;cases lv.find? λp=>p.1=s<;>rfl
def LvV(p:Nat)(L:List AObj):List Nat->List Lvl->Prop
 | [],[]=>True
 |b::bs,lv::ls=>L[b]? = some (lvlM lv)/\b ≠ p/\LvV p L bs ls
 |_,_=>False
theorem LvV.mv {p:Nat}{L L':List AObj}(hF:Fr p L L'):∀{bs:List Nat} {ls:List Lvl},LvV p L bs ls->LvV p L' bs ls
 | [],[],h=>trivial
 |b::bs,lv::ls,⟨h1,h2,h3⟩=>⟨hF.has h1 h2,h2,LvV.mv hF h3⟩
 | [],_::_,h=>h.elim
 |_::_,[],h=>h.elim
theorem LvV.len {p:Nat}{L:List AObj}:∀{bs:List Nat} {ls:List Lvl},LvV p L bs ls->bs.length=ls.length
 | [],[],h=>rfl
 |b::bs,lv::ls,⟨h1,h2,h3⟩=>by simp[LvV.len h3]
 | [],_::_,h=>h.elim
 |_::_,[],h=>h.elim
theorem jzb(l:List Tk)(i:Nat):txt l i=(pkT l [2,5] i).1.text:=by
 unfold txt pkT;cases l[i]? with
 |none=>rfl
 |some t =>
  simp only[Qv,Jj,or_false];by_cases h:t.kind=2\/t.kind=5
  ·simp[h]
  ·simp[h,tk0]
theorem bd71(n:Int):jci env 71 [(0,.int .i64 n)]=some (.agg (jbO (opN n))):=by kernel_rfl
theorem jpy(x:Nd):rowO env 25 1 [(0,.agg (jbO x))]=some (.row (jbO x) 1 .full):=by kernel_rfl
def CX'(l:List Tk)(lv:V)(en:Int)(q:List V)(p:Nat)(ls:List Lvl)(bs:List Nat)(cap:RCap)(f:V)(g:Nat->Nat->Option (R (List Nd))):Prop :=
 ∀o i r,jcK l (g o) ls i=some r->o<=50->i<=l.length->∀L ts,Pc lv en q p L i o->LvV p L bs ls->∃x O',jbP env 95 [.ptr p 0,.row (bs.map V.map) ls.length cap,f] ⟨L,ts⟩=some (x,O')/\GoX lv en q p L ts o r x O'
section
variable {lv:V}{en:Int}{q:List V}{p b:Nat}{L:List AObj}{i o:Nat}{l:List Tk}
theorem joa {base n:Nat}{hp:List AObj}{ts:List Nat}{v:V}{cs:List V}(g:GrowV base ts 3 v n cs)(hb:base<=ts.length)(hn:n<=100000)(x:Nd):∃v' ts',appO env false ⟨hp,ts⟩ 25 25 v (.row (jbO x) 1 .full)=some (v',⟨hp,ts'⟩)/\GrowV base ts' 3 v' (n+1) (cs++jbO x)/\Ext base ts ts' :=
 GrowV.push jtV ⟨71,u25⟩ g hb rfl rfl (by
  have hlim:lim=2^40:=rfl;rw[hlim];omega)
theorem jvz(bs:List Nat)(b:Nat)(n:Nat)(cap:RCap)(hn:bs.length=n):jb0 env 116 (.row ((b::bs).map V.map) (n+1) cap) (some (.int .i64 1)) none none=some (.row (bs.map V.map) n (jhq 1 cap)):=by
 have h1:(bs.map V.map).take n=bs.map V.map:=Qi (by simp[hn]);simp only[jb0,u116,s150,Kn,jcT,jbl,Qm];rw[Ki ⟨by omega,by omega⟩];simp only[Int.toNat_one,Jf,Xi,Jn,Nat.add_sub_cancel,Ku,h1]
theorem jtW(hv:IsK lv l)(hl:l.length<=4000){fo:FuncId}{fi ca:List V}(hfa:fi++ca=[.ptr p 0]){g:Nat->Nat->Option (R (List Nd))}(hg:CX l lv en q p fo g)(ag:∀o,Len l (g o)):∀(ls:List Lvl) (bs:List Nat) (cap:RCap),ls.length<=10->(∀lev∈ls,PP.look lev []=none)->CX' l lv en q p ls bs cap (.func fo fi ca) g:=by
 intro ls
 induction ls with
 | nil =>
  intro bs cap _ _ o i r hr ho hi L ts hP hL;refine jaZ rfl rfl rfl rfl at95 rfl (by simp[Tryz.f95]) (U4 rfl) (jbq ?_);have hk:=hg o i r hr ho hi L ts hP;rw[<- hfa]at hk;simp only[Tryz.f95,Ux,simprocAttr,U3,jab,jak,tys,Int.natCast_zero];refine jaU hk ?_ ?_
  ·rintro v ⟨L2,t2⟩ hk
   match r,hr,hk with
   | .ok (out,j),hr,⟨u',k1,k2,k3,k4,k5⟩ =>
    cases k1;simp only[Ux,simprocAttr,U3,jab,jak];exact⟨v,rfl,k2,k3,k4,k5⟩
   | .error e,_,⟨k1,_⟩=>cases k1
  ·rintro v ⟨L2,t2⟩ hk;exact hk
 | cons lev ls ih =>
  intro bs0 cap hlen hno o i r hr ho hi L ts hP hL;cases bs0 with
  |nil=>exact hL.elim
  |cons b bs =>
  obtain⟨hb,hbp,hL⟩:=hL;have hll:=hL.len;simp only[K0]at hlen;have ih:=ih bs (jhq 1 cap) (by omega) λlev h=>hno lev (by simp[h])
  have hsl:=jvz bs b ls.length cap hll;have hsl2:jb0 env 116 (.row (V.map b::bs.map V.map) (ls.length+1) cap) (some (.int .i64 1)) none none=some (.row (bs.map V.map) ls.length (jhq 1 cap)):=hsl;have c0:(((ls.length+1:Nat):Int)=0)=False:=eq_false (by omega);have c1:(0:Int)<((ls.length+1:Nat):Int):=by omega
  unfold jcK at hr;refine jaZ rfl rfl rfl rfl at95 rfl (by simp[Tryz.f95]) (U4 rfl) (jbq ?_);simp only[Tryz.f95,Ux,simprocAttr,U3,jab,jak,tys,c0,jbb,jbc,jbg,hsl];have al:=jfn (ag o) ls;split at hr
  ·cases hr
  ·rename_i e he;simp only[Kg]at hr;subst hr;refine jaU (ih o i _ he ho hi L ts hP hL) ?_ ?_
   ·rintro v ⟨L2,t2⟩ ⟨k1,_⟩;cases k1
   ·rintro v ⟨L2,t2⟩ hk;exact hk
  rename_i out0 j0 h0;have a0:=al _ _ _ h0;refine jaU (ih o i _ h0 ho hi L ts hP hL) ?_ ?_
  rotate_left
  ·rintro v ⟨L2,t2⟩ ⟨u',k1,_⟩;cases k1
  rintro v ⟨L2,t2⟩ ⟨u',k1,k2,k3,k4,k5⟩;cases k1;simp only[Ux,simprocAttr,U3,jab,jak]
  refine jiD (λm T D O=>D=[]/\T 0=.ptr p 0/\T 1=.row ((b::bs).map V.map) (ls.length+1) cap/\T 2=.func fo fi ca/\∃(out:List Nd) (i':Nat) (L':List AObj) (ts':List Nat) (v:V),O=⟨L',ts'⟩/\T 7=v/\Fr p L L'/\Pc lv en q p L' i' o /\
   GrowV ts.length ts' 3 v out.length (jbS out)/\Ext ts.length ts ts'/\i<i'/\i'<=l.length/\out.length<=i'-i/\jd7 l (jcK l (g o) ls) lev m out i'=some r) ?_ (l.length+1) _ _ _ ⟨rfl,rfl,rfl,rfl,out0,j0,L2,t2,v,rfl,rfl,k2,k3,k4,k5,a0.1,a0.2.1,a0.2.2,hr⟩
  clear hr h0 a0 k2 k3 k4 k5;rintro m T D O ⟨rfl,t0,t1,t2,out,i',L',ts',v,rfl,t7,hF,hP',hG,hE,hi1,hi2,hol,hr⟩;cases m with
  |zero=>cases hr
  |succ m =>
  unfold jd7 at hr;simp only[Ux,simprocAttr,U3,jab,jak,t0];refine jcw (jkC hv hl hP' ts' [2,5] .full (by decide)) ?_;rintro _ _ ⟨rfl,X,rfl⟩;have hlt:∀op,PP.look lev (txt l i')=some op->i'<l.length:=λop h=>jqr (hno lev (by simp)) h
  rw[jzb]at hr hlt;generalize pkT l [2,5] i'=pk at *;obtain⟨tk,pb⟩:=pk;simp only at hr;have hF3:=hF.tr (Fr.app p L' X);have hP3:=hP'.app X;generalize L'++X=L3 at *;have hz:∀o:AObj,(L3++[o])[L3.length]? = some o:=λo=>by simp
  have hF4:=hF3.tr (Fr.app p L3 [AObj.cells [V.int IntKind.i64 tk.kind,V.str tk.text,V.int IntKind.i64 tk.n,V.int IntKind.i64 tk.pos] 47]);have hP4:=hP3.app [AObj.cells [V.int IntKind.i64 tk.kind,V.str tk.text,V.int IntKind.i64 tk.n,V.int IntKind.i64 tk.pos] 47];have hlk:=jvy (ts:=ts') (hF4.has hb hbp) tk.text;cases ho2:PP.look lev tk.text with
  |none =>
   rw[ho2]at hr hlk;simp only[Kg]at hr hlk;subst hr;simp only[Ux,simprocAttr,U3,jab,jak,hz,t0,t1,t2,t7,jep,Jf,ld1,c1,Xg,hlk];exact⟨by kernel_rfl,v,rfl,hF4,hP4,hG,hE⟩
  | some op =>
   rw[ho2]at hr hlk;simp only at hr hlk;have e1:IntKind.i64.wrap ((i':Int)+1)=((i'+1:Nat):Int):=by rw[wrap_i64 (by omega) (by omega)];omega
   have hc4:=Pc.has hP4;simp only[Ux,simprocAttr,U3,jab,jak,hz,t0,t1,t2,t7,jep,Jf,ld1,c1,Xg,hlk,e1,hc4,jbb,jbc,jbg,hsl2];refine⟨by kernel_rfl,?_⟩;have hP5:=hP4.set (i'+1) o;have hF5:=hF4.tr (Fr.set p _ (pcL lv en q (i'+1) o));have hi3:=hlt op ho2;split at hr
   ·cases hr
   ·rename_i e he;simp only[Kg]at hr;subst hr;refine jaU (ih o (i'+1) _ he ho hi3 _ ts' hP5 (hL.mv hF5)) ?_ ?_
    ·rintro v ⟨L6,t6⟩ ⟨k1,_⟩;cases k1
    ·rintro v ⟨L6,t6⟩ ⟨k1,k2,k3⟩;exact⟨k1,hF5.tr k2,hE.trans (k3.mono hE.1)⟩
   rename_i r1 j1 h1;have a1:=al _ _ _ h1;refine jaU (ih o (i'+1) _ h1 ho hi3 _ ts' hP5 (hL.mv hF5)) ?_ ?_
   rotate_left
   ·rintro v ⟨L6,t6⟩ ⟨u',k1,_⟩;cases k1
   rintro w ⟨L6,t6⟩ ⟨u',k1,k2,k3,k4,k5⟩;cases k1;have hlim:lim=2^40:=rfl;obtain⟨v2,t7',n1,n2,n3⟩:=(hG.ext k5).append jtV ⟨71,u25⟩ (hp:=L6) (Qs hE.1 k5.1) k4.vlen (k4.vcells L6) (jh9 r1) (jiR r1) (by rw[hlim];omega);obtain⟨v3,t8,n4,n5,n6⟩:=joa (hp:=L6) n2 (Qs (Qs hE.1 k5.1) n3.1) (by omega) (opN op);simp only at n1;have hfl:jbS (out++r1++[opN op])=jbS out++jbS r1++jbO (opN op):=by rw[jc9,jc9];simp[jbS]
   have hln:(out++r1++[opN op]).length=out.length+r1.length+1:=by simp only[Kr,K0,K6]
   simp only[Ux,simprocAttr,U3,jab,jak,n1,n4,bd71,jpy];refine⟨m,by omega,t0,t1,t2,out++r1++[opN op],j1,L6,t8,v3,rfl,rfl,hF5.tr k2,k3,?_,((hE.trans (k5.mono hE.1)).trans n3).trans n6,by omega,a1.2.1,by omega,hr⟩;rw[hfl,hln];exact n5
end
theorem jBa:env.P.funcs[160]? = some Tryz.f160:=by kernel_rfl
theorem at96:env.P.funcs[96]? = some Tryz.f96:=by kernel_rfl
theorem zv25:jbG env 25=some .nilsl:=by kernel_rfl
section
variable {lv:V}{en:Int}{q:List V}{p:Nat}{l:List Tk}
theorem GoX.inl {L:List AObj}{ts:List Nat}{o:Nat}{out:List Nd}{j:Nat}{L2:List AObj}{t2:List Nat}{v:V}(h1:Fr p L L2)(h2:Pc lv en q p L2 j o){n:Nat}{cs:List V}(h3:GrowV ts.length t2 3 v n cs)(hn:out.length=n)(hcs:jbS out=cs)(h4:Ext ts.length ts t2):GoX lv en q p L ts o (.ok (out,j)) (.inl v) ⟨L2,t2⟩:=by
 subst hn hcs;exact⟨v,rfl,h1,h2,h3,h4⟩
theorem jvA {i:Nat}{r:R (List Nd)}(h:pkT l [3] i=(tk0,false))(hr:(match l[i]? with
      |some t=>if t.kind=3 then some (.ok ([⟨1,t.n,[]⟩],i+1))else if t.kind=1 then some (.ok ([⟨2,0,t.text⟩],i+1))else some (syn l en i)
      |none=>some (syn l en i))=some r):(∃s j,jeA l en i=.ok (s,j)/\r=.ok ([⟨2,0,s⟩],j))\/∃e,jeA l en i=.error e/\r=.error e:=by
  unfold jeA jfJ;unfold pkT at h;cases ht:l[i]? with
  | none =>
    rw[ht]at hr;simp only[Kg]at hr;exact .inr ⟨_,rfl,hr.symm⟩
  | some t =>
    rw[ht]at hr h;simp only[X9]at h hr;by_cases h3:t.kind=3
    · rw[Ki h3]at h;cases h
    rw[Kj h3]at hr;by_cases h1:t.kind=1
    · rw[Ki h1]at hr
      simp only[Kg]at hr;exact .inl ⟨_,_,by simp only[Ki h1],hr.symm⟩
    · rw[Kj h1]at hr
      simp only[Kg]at hr;exact .inr ⟨_,by simp only[Kj h1];rfl,hr.symm⟩
theorem jBb(n:Int):jci env 71 [(0,.int .i64 1),(1,.int .i64 n)]=some (.agg (jbO ⟨1,n,[]⟩)):=by kernel_rfl
theorem jBc(s:List UInt8):jci env 71 [(0,.int .i64 2),(2,.str s)]=some (.agg (jbO ⟨2,0,s⟩)):=by kernel_rfl
theorem GrowV.one71(base:Nat)(ts:List Nat)(x:Nd):GrowV base ts 3 (.row (jbO x) 1 .full) 1 (jbO x):=.full _ _ rfl
theorem jxw(hv:IsK lv l)(hl:l.length<=4000){f:Nat}(hu:CX l lv en q p 160 (go l en f .unary))(he:CX l lv en q p 128 (go l en f .expr)):CX l lv en q p 160 (go l en (f+1) .unary):=by
 intro o i r hr ho hi L ts hP;unfold go at hr;have hap:L.length ≠ p:=by have:=hP.lt;omega
 have hbp:L.length+1 ≠ p:=by have:=hP.lt;omega
 refine jaZ rfl rfl rfl rfl jBa rfl (by simp[Tryz.f160]) (U4 rfl) (jbq ?_);simp only[Tryz.f160,Ux,simprocAttr,U3,jab,jak,zv25];refine jcw (jlS hv hl (hP.app _) ts [45]) ?_;rintro _ ⟨L1,ts⟩ ⟨rfl,hF,hP1,rfl⟩;have ha:=hF.has (jam _ _ _) hap;have hb:=hF.has (jan _ _ _) hbp;have hF1:Fr p L L1:=(Fr.app _ _ _).tr hF;clear hF;cases hs:sees l [45] i
 ·rw [hs]at hr;simp only[Km,Ks]at hr;simp only[Ux,simprocAttr,U3,jab,jak,ha];refine jcw (jlS hv hl hP1 ts [40]) ?_;rintro _ ⟨L1',ts⟩ ⟨rfl,hF9,hP9,rfl⟩
  replace ha:=hF9.has ha hap
  replace hb:=hF9.has hb hbp
  replace hF1:=hF1.tr hF9
  replace hP1:=hP9
  clear hF9 hP9;simp only at ha hb hF1 hP1;cases hs2:sees l [40] i
  ·rw [hs2]at hr;simp only[Km,Ks]at hr;simp only[Ux,simprocAttr,U3,jab,jak,ha];refine jcw (jkC hv hl hP1 ts [3] .full (by decide)) ?_;rintro _ _ ⟨rfl,X,rfl⟩
   replace ha:=(Fr.app p _ X).has ha hap
   replace hb:=(Fr.app p _ X).has hb hbp
   replace hF1:=hF1.tr (Fr.app p _ X)
   replace hP1:=hP1.app X
   generalize L1'++X=L3 at *;have hz:∀o:AObj,(L3++[o])[L3.length]? = some o:=λo=>by simp
   have hl3:=jaT hb;have hb4:∀o:AObj,(L3++[o])[L.length+1]? = some (.cells [.nilsl] 25):=λo=>jbX hb _
   have ha4:∀o:AObj,(L3++[o])[L.length]? = some (.cells [.ptr p 0] 53):=λo=>jbX ha _
   rcases pk1 l en 3 i with⟨b1,b2⟩|⟨t,ht,e,b1,b2⟩
   ·rw[b1];simp only[Ux,simprocAttr,U3,jab,jak,tk0,hz,ha4];have hP4:=hP1.app [AObj.cells [V.int IntKind.i64 0,V.str [],V.int IntKind.i64 0,V.int IntKind.i64 0] 47];have hn:=jkD hv hl hP4 ts
    rcases jvA b1 hr with⟨s,j,h1,rfl⟩|⟨e,h1,rfl⟩
    ·rw[h1]at hn;refine jaU hn ?_ ?_
     ·rintro v ⟨L5,t5⟩ ⟨k1,k2,k3,rfl⟩;cases k1;have hb5:=k2.has (hb4 _) hbp;have hbs:∀o:AObj,(L5.set (L.length+1) o)[L.length+1]? = some o:=λo=>Kl (jaT hb5)
      simp only[Ux,simprocAttr,U3,jab,jak,jBc,jpy,hb5,hbs];exact GoX.inl (((hF1.tr (Fr.app _ _ _)).tr k2).setge (by omega) _) ((Kk hbp).trans k3) (GrowV.one71 _ _ _) rfl (by simp[jbS]) (.rfl' _ _)
     ·rintro v ⟨L5,t5⟩ ⟨k1,_⟩;cases k1
    ·rw[h1]at hn;refine jaU hn ?_ ?_
     ·rintro v ⟨L5,t5⟩ ⟨k1,_⟩;cases k1
     ·rintro v ⟨L5,t5⟩ ⟨k1,k2,rfl⟩;cases k1;exact⟨rfl,(hF1.tr (Fr.app _ _ _)).tr k2,.rfl' _ _⟩
   ·rw[b1];rw[ht]at hr;simp only[Ki e,Kg]at hr;subst hr;have hi1:=(Kz.1 ht).1;have e1:IntKind.i64.wrap ((i:Int)+1)=((i+1:Nat):Int):=by rw[wrap_i64 (by omega) (by omega)];omega
    have hP4:=hP1.app [AObj.cells [V.int IntKind.i64 t.kind,V.str t.text,V.int IntKind.i64 t.n,V.int IntKind.i64 t.pos] 47];have hc4:=Pc.has hP4;have hnp:L3.length ≠ p:=by have:=hP1.lt;omega
    have h37:((L3++[AObj.cells [V.int IntKind.i64 t.kind,V.str t.text,V.int IntKind.i64 t.n,V.int IntKind.i64 t.pos] 47]).set p (AObj.cells (lv::V.int IntKind.i64 ↑(i+1)::V.int IntKind.i64 en::V.int IntKind.i64 ↑o::q) 55))[L3.length]? = some (.cells [V.int IntKind.i64 t.kind,V.str t.text,V.int IntKind.i64 t.n,V.int IntKind.i64 t.pos] 47):=by
     rw[Kk (λe=>hnp e.symm)];exact hz _
    have h38:((L3++[AObj.cells [V.int IntKind.i64 t.kind,V.str t.text,V.int IntKind.i64 t.n,V.int IntKind.i64 t.pos] 47]).set p (AObj.cells (lv::V.int IntKind.i64 ↑(i+1)::V.int IntKind.i64 en::V.int IntKind.i64 ↑o::q) 55))[L.length+1]? = some (.cells [.nilsl] 25):=by
     rw[Kk (λe=>hbp e.symm)];exact hb4 _
    have hbs:∀x:AObj,(((L3++[AObj.cells [V.int IntKind.i64 t.kind,V.str t.text,V.int IntKind.i64 t.n,V.int IntKind.i64 t.pos] 47]).set p (AObj.cells (lv::V.int IntKind.i64 ↑(i+1)::V.int IntKind.i64 en::V.int IntKind.i64 ↑o::q) 55)).set (L.length+1) x)[L.length+1]? = some x:=λx=>Kl (jaT h38)
    simp only[Ux,simprocAttr,U3,jab,jak,hz,ha4,hc4,e1,h37,h38,hbs,jBb,jpy];exact GoX.inl (((hF1.tr (Fr.app _ _ _)).tr (Fr.set p _ _)).setge (by omega) _) ((Kk hbp).trans (hP4.set (i+1) o)) (GrowV.one71 _ _ _) rfl (by simp[jbS]) (.rfl' _ _)
  ·rw[hs2]at hr;simp only[Ku]at hr;simp only[Ux,simprocAttr,U3,jab,jak,ha,YP];by_cases h50:50<=o
   ·rw[Ki h50]at hr;simp only[Kg]at hr;subst hr;refine jaU (jeH hv hl hP1 h50 ts [40] _) ?_ ?_
    ·rintro v O' ⟨h,_⟩;cases h
    ·rintro v O' ⟨h,rfl⟩;cases h;exact⟨rfl,hF1,.rfl' _ _⟩
   ·rw[Kj h50]at hr;have hi1:=jcb hs2;split at hr
    ·cases hr
    ·rename_i e hg;simp only[Kg]at hr;subst hr;refine jaU (jdT hv hl hP1 hi (by omega) ts [40] hs2 188 [.ptr L.length 0,.ptr (L.length+1) 0] hbp (r:=.error e) λL' hF' hP'=>clo2 hv hl he hg (λ_ _ h=>by cases h) (by omega) (by omega) hP' (hF'.has ha hap) (hF'.has hb hbp) hap hbp (by omega) ts (.inl ⟨rfl,rfl,rfl⟩)) ?_ ?_
     ·rintro v O' ⟨k1,_⟩;cases k1
     ·rintro v O' ⟨k1,k2,k3⟩;cases k1;exact⟨rfl,Fr2.one hF1 k2 (by omega),k3⟩
    rename_i a j hg;have hgl:=jcl f .expr (o+1) _ _ _ hg;have hw:=jdT hv hl hP1 hi (by omega) ts [40] hs2 188 [.ptr L.length 0,.ptr (L.length+1) 0] hbp (r:=jpx l en [41] (.ok (a,j))) λL' hF' hP'=>clo2 hv hl he hg (λ_ _ h=>by cases h;exact hgl.2.1) (by omega) (by omega) hP' (hF'.has ha hap) (hF'.has hb hbp) hap hbp (by omega) ts (.inl ⟨rfl,rfl,rfl⟩)
    unfold jpx at hw;simp only at hw;split at hr
    ·rename_i e hm;simp only[Kg]at hr;subst hr;rw[hm]at hw;refine jaU hw ?_ ?_
     ·rintro v O' ⟨k1,_⟩;cases k1
     ·rintro v O' ⟨k1,k2,k3⟩;cases k1;exact⟨rfl,Fr2.one hF1 k2 (by omega),k3⟩
    rename_i j2 hm;simp only[Kg]at hr;subst hr;rw[hm]at hw;refine jaU hw ?_ ?_
    rotate_left
    ·rintro v O' ⟨k1,_⟩;cases k1
    rintro v ⟨L2,t2⟩ ⟨k1,k2,k3,w,k4,k5,k6⟩;cases k1;have hbs:∀o:AObj,(L2.set (L.length+1) o)[L.length+1]? = some o:=λo=>Kl (jaT k4)
    have hwc:=k5.cells;simp only[Ux,simprocAttr,U3,jab,jak,k4,hwc.1,hwc.2,hbs];exact GoX.inl ((Fr2.one hF1 k2 (by omega)).setge (by omega) _) ((Kk hbp).trans k3) k5 rfl rfl k6
 ·rw[hs]at hr;simp only[Ku]at hr;simp only[Ux,simprocAttr,U3,jab,jak,ha,YP];by_cases h50:50<=o
  ·rw[Ki h50]at hr;simp only[Kg]at hr;subst hr;refine jaU (jeH hv hl hP1 h50 ts [45] _) ?_ ?_
   ·rintro v O' ⟨h,_⟩;cases h
   ·rintro v O' ⟨h,rfl⟩;cases h;exact⟨rfl,hF1,.rfl' _ _⟩
  ·rw[Kj h50]at hr;have hi1:=jcb hs;split at hr
   ·cases hr
   ·rename_i e hg;simp only[Kg]at hr;subst hr;refine jaU (jdT hv hl hP1 hi (by omega) ts [45] hs 187 [.ptr L.length 0,.ptr (L.length+1) 0] hbp (r:=.error e) λL' hF' hP'=>clo1 hu hg (by omega) (by omega) hP' (hF'.has ha hap) (hF'.has hb hbp) hap hbp ts (.inl ⟨rfl,rfl⟩)) ?_ ?_
    ·rintro v O' ⟨k1,_⟩;cases k1
    ·rintro v O' ⟨k1,k2,k3⟩;cases k1;exact⟨rfl,Fr2.one hF1 k2 (by omega),k3⟩
   rename_i a j hg;simp only[Kg]at hr;subst hr;have hgl:=jcl f .unary (o+1) _ _ _ hg;refine jaU (jdT hv hl hP1 hi (by omega) ts [45] hs 187 [.ptr L.length 0,.ptr (L.length+1) 0] hbp (r:=.ok (a,j)) λL' hF' hP'=>clo1 hu hg (by omega) (by omega) hP' (hF'.has ha hap) (hF'.has hb hbp) hap hbp ts (.inl ⟨rfl,rfl⟩)) ?_ ?_
   rotate_left
   ·rintro v O' ⟨k1,_⟩;cases k1
   rintro v ⟨L2,t2⟩ ⟨k1,k2,k3,w,k4,k5,k6⟩;cases k1;obtain⟨w2,t3,n1,n2,n3⟩:=joa (hp:=L2) k5 k6.1 (by omega) (opN 7);simp only at n1;have hbs:∀o:AObj,(L2.set (L.length+1) o)[L.length+1]? = some o:=λo=>Kl (jaT k4)
   have hwc:=n2.cells;simp only[Ux,simprocAttr,U3,jab,jak,k4,bd71,jpy,n1,hwc.1,hwc.2,hbs];exact GoX.inl ((Fr2.one hF1 k2 (by omega)).setge (by omega) _) ((Kk hbp).trans k3) n2 (by simp) (by rw[jc9];simp[jbS]) (k6.trans n3)
end
theorem at63:env.P.funcs[63]? = some Tryz.f63:=by kernel_rfl
theorem jBd:env.P.funcs[128]? = some Tryz.f128:=by kernel_rfl
section
variable {lv:V}{en:Int}{q:List V}{p:Nat}{l:List Tk}
theorem jBe(hv:IsK lv l)(hl:l.length<=4000){f:Nat}(hu:CX l lv en q p 96 (go l en f .neg))(he:CX l lv en q p 63 (go l en f .cond))(hcm:CX l lv en q p 132 (go l en f .compare)):CX l lv en q p 96 (go l en (f+1) .neg):=by
 intro o i r hr ho hi L ts hP;unfold go at hr;have hap:L.length ≠ p:=by have:=hP.lt;omega
 have hbp:L.length+1 ≠ p:=by have:=hP.lt;omega
 refine jaZ rfl rfl rfl rfl at96 rfl (by simp[Tryz.f96]) (U4 rfl) (jbq ?_);simp only[Tryz.f96,Ux,simprocAttr,U3,jab,jak,zv25];refine jcw (jlS hv hl (hP.app _) ts [110,111,116]) ?_;rintro _ ⟨L1,ts⟩ ⟨rfl,hF,hP1,rfl⟩;have ha:=hF.has (jam _ _ _) hap;have hb:=hF.has (jan _ _ _) hbp;have hF1:Fr p L L1:=(Fr.app _ _ _).tr hF;clear hF;cases hs:sees l [110,111,116] i
 ·have hs':sees l wNot i=false:=hs;rw[hs']at hr;simp only[Km,Ks]at hr;simp only[Ux,simprocAttr,U3,jab,jak,ha];refine jcw (jlS hv hl hP1 ts [91]) ?_;rintro _ ⟨L1',ts⟩ ⟨rfl,hF9,hP9,rfl⟩
  replace ha:=hF9.has ha hap
  replace hb:=hF9.has hb hbp
  replace hF1:=hF1.tr hF9
  replace hP1:=hP9
  clear hF9 hP9;simp only at ha hb hF1 hP1;cases hs2:sees l [91] i
  ·rw[hs2]at hr;simp only[Km,Ks]at hr;simp only[Ux,simprocAttr,U3,jab,jak,ha];have hk:=hcm o i _ hr ho hi L1' ts hP1;refine jaU hk ?_ ?_
   ·rintro v ⟨L2,t2⟩ hk
    match r,hk with
    | .ok (out,j),⟨u',k1,k2,k3,k4,k5⟩ =>
     cases k1;have hb5:=k2.has hb hbp;have hbs:∀o:AObj,(L2.set (L.length+1) o)[L.length+1]? = some o:=λo=>Kl (jaT hb5)
     have hwc:=k4.cells;simp only[Ux,simprocAttr,U3,jab,jak,hb5,hbs,hwc.1,hwc.2];exact GoX.inl ((hF1.tr k2).setge (by omega) _) ((Kk hbp).trans k3) k4 rfl rfl k5
    | .error e,⟨k1,_⟩=>cases k1
   ·rintro v ⟨L2,t2⟩ hk;exact hk.tr hF1
  ·rw[hs2]at hr;simp only[Ku]at hr;simp only[Ux,simprocAttr,U3,jab,jak,ha,YP];by_cases h50:50<=o
   ·rw[Ki h50]at hr;simp only[Kg]at hr;subst hr;refine jaU (jeH hv hl hP1 h50 ts [91] _) ?_ ?_
    ·rintro v O' ⟨h,_⟩;cases h
    ·rintro v O' ⟨h,rfl⟩;cases h;exact⟨rfl,hF1,.rfl' _ _⟩
   ·rw[Kj h50]at hr;have hi1:=jcb hs2;split at hr
    ·cases hr
    ·rename_i e hg;simp only[Kg]at hr;subst hr;refine jaU (jdT hv hl hP1 hi (by omega) ts [91] hs2 131 [.ptr L.length 0,.ptr (L.length+1) 0] hbp (r:=.error e) λL' hF' hP'=>clo2 hv hl he hg (λ_ _ h=>by cases h) (by omega) (by omega) hP' (hF'.has ha hap) (hF'.has hb hbp) hap hbp (by omega) ts (.inr ⟨rfl,rfl,rfl⟩)) ?_ ?_
     ·rintro v O' ⟨k1,_⟩;cases k1
     ·rintro v O' ⟨k1,k2,k3⟩;cases k1;exact⟨rfl,Fr2.one hF1 k2 (by omega),k3⟩
    rename_i a j hg;have hgl:=jcl f .cond (o+1) _ _ _ hg;have hw:=jdT hv hl hP1 hi (by omega) ts [91] hs2 131 [.ptr L.length 0,.ptr (L.length+1) 0] hbp (r:=jpx l en [93] (.ok (a,j))) λL' hF' hP'=>clo2 hv hl he hg (λ_ _ h=>by cases h;exact hgl.2.1) (by omega) (by omega) hP' (hF'.has ha hap) (hF'.has hb hbp) hap hbp (by omega) ts (.inr ⟨rfl,rfl,rfl⟩)
    unfold jpx at hw;simp only at hw;split at hr
    ·rename_i e hm;simp only[Kg]at hr;subst hr;rw[hm]at hw;refine jaU hw ?_ ?_
     ·rintro v O' ⟨k1,_⟩;cases k1
     ·rintro v O' ⟨k1,k2,k3⟩;cases k1;exact⟨rfl,Fr2.one hF1 k2 (by omega),k3⟩
    rename_i j2 hm;simp only[Kg]at hr;subst hr;rw[hm]at hw;refine jaU hw ?_ ?_
    rotate_left
    ·rintro v O' ⟨k1,_⟩;cases k1
    rintro v ⟨L2,t2⟩ ⟨k1,k2,k3,w,k4,k5,k6⟩;cases k1;have hbs:∀o:AObj,(L2.set (L.length+1) o)[L.length+1]? = some o:=λo=>Kl (jaT k4)
    have hwc:=k5.cells;simp only[Ux,simprocAttr,U3,jab,jak,k4,hwc.1,hwc.2,hbs];exact GoX.inl ((Fr2.one hF1 k2 (by omega)).setge (by omega) _) ((Kk hbp).trans k3) k5 rfl rfl k6
 ·have hs':sees l wNot i=true:=hs;rw[hs']at hr;simp only[Ku]at hr;simp only[Ux,simprocAttr,U3,jab,jak,ha,YP];by_cases h50:50<=o
  ·rw[Ki h50]at hr;simp only[Kg]at hr;subst hr;refine jaU (jeH hv hl hP1 h50 ts [110,111,116] _) ?_ ?_
   ·rintro v O' ⟨h,_⟩;cases h
   ·rintro v O' ⟨h,rfl⟩;cases h;exact⟨rfl,hF1,.rfl' _ _⟩
  ·rw[Kj h50]at hr;have hi1:=jcb hs;split at hr
   ·cases hr
   ·rename_i e hg;simp only[Kg]at hr;subst hr;refine jaU (jdT hv hl hP1 hi (by omega) ts [110,111,116] hs 130 [.ptr L.length 0,.ptr (L.length+1) 0] hbp (r:=.error e) λL' hF' hP'=>clo1 hu hg (by omega) (by omega) hP' (hF'.has ha hap) (hF'.has hb hbp) hap hbp ts (.inr ⟨rfl,rfl⟩)) ?_ ?_
    ·rintro v O' ⟨k1,_⟩;cases k1
    ·rintro v O' ⟨k1,k2,k3⟩;cases k1;exact⟨rfl,Fr2.one hF1 k2 (by omega),k3⟩
   rename_i a j hg;simp only[Kg]at hr;subst hr;have hgl:=jcl f .neg (o+1) _ _ _ hg;refine jaU (jdT hv hl hP1 hi (by omega) ts [110,111,116] hs 130 [.ptr L.length 0,.ptr (L.length+1) 0] hbp (r:=.ok (a,j)) λL' hF' hP'=>clo1 hu hg (by omega) (by omega) hP' (hF'.has ha hap) (hF'.has hb hbp) hap hbp ts (.inr ⟨rfl,rfl⟩)) ?_ ?_
   rotate_left
   ·rintro v O' ⟨k1,_⟩;cases k1
   rintro v ⟨L2,t2⟩ ⟨k1,k2,k3,w,k4,k5,k6⟩;cases k1;obtain⟨w2,t3,n1,n2,n3⟩:=joa (hp:=L2) k5 k6.1 (by omega) (opN 17);simp only at n1;have hbs:∀o:AObj,(L2.set (L.length+1) o)[L.length+1]? = some o:=λo=>Kl (jaT k4)
   have hwc:=n2.cells;simp only[Ux,simprocAttr,U3,jab,jak,k4,bd71,jpy,n1,hwc.1,hwc.2,hbs];exact GoX.inl ((Fr2.one hF1 k2 (by omega)).setge (by omega) _) ((Kk hbp).trans k3) n2 (by simp) (by rw[jc9];simp[jbS]) (k6.trans n3)
theorem jzc(L:List AObj):(L++(sumL.map lvlM++jeB.map lvlM))[L.length]? = some (lvlM [([43],4),([45],5)])/\(L++(sumL.map lvlM++jeB.map lvlM))[L.length+1]? = some (lvlM [([42],6)])/\(L++(sumL.map lvlM++jeB.map lvlM))[L.length+2]? = some (lvlM [([111,114],16)])/\(L++(sumL.map lvlM++jeB.map lvlM))[L.length+3]? = some (lvlM [([97,110,100],15)]):=by
 refine⟨?_,?_,?_,?_⟩<;>rw[Q6 (by omega)]<;>simp[sumL,jeB]
theorem jzd(hv:IsK lv l)(hl:l.length<=4000){f:Nat}(hn:CX l lv en q p 96 (go l en f .neg)):CX l lv en q p 63 (go l en (f+1) .cond):=by
 intro o i r hr ho hi L ts hP;unfold go at hr;obtain⟨m0,m1,m2,m3⟩:=jzc L;have hlt:=hP.lt;refine jaZ rfl rfl rfl rfl at63 rfl (by simp[Tryz.f63]) (U4 rfl) (jbq ?_);have hlv:=jcC (jkF L ts);simp only[Tryz.f63,Ux,simprocAttr,U3,jab,jak,hlv,YP];have hc:=jtW hv hl (fo:=96) (fi:=[.ptr p 0]) (ca:=[]) (p:=p) rfl hn (λo=>jcl f .neg o) jeB [L.length+2,L.length+3] .full (by decide) jmo o i r hr ho hi _ ts (hP.app _) ⟨m2,by omega,m3,by omega,trivial⟩;refine jaU hc ?_ ?_
 ·rintro v ⟨L2,t2⟩ hk
  match r,hk with
  | .ok (out,j),⟨u',k1,k2,k3,k4,k5⟩ =>
   cases k1;simp only[Ux,simprocAttr,U3,jab,jak];exact⟨v,rfl,(Fr.app _ _ _).tr k2,k3,k4,k5⟩
  | .error e,⟨k1,_⟩=>cases k1
 ·rintro v ⟨L2,t2⟩ hk;exact hk.tr (Fr.app _ _ _)
end
section
variable {lv:V}{en:Int}{q:List V}{p:Nat}{l:List Tk}
theorem jBf {f o i:Nat}(hs:sees l wIf i=true)(ho:¬50<=o):go l en (f+1) .expr o i=match ifB l en (go l en f .cond) (go l en f .expr) (o+1) (i+1)with
  |none=>none
  |some (.error e)=>some (.error e)
  |some (.ok (out,j))=>some (.ok (out++[opN 8],j)):=by
 conv=>lhs;unfold go
 unfold ifB;rw[Ki hs,Kj ho];cases go l en f .cond (o+1) (i+1)with
 |none=>rfl
 | some r =>
  cases r with
  |error e=>rfl
  | ok x =>
   obtain⟨c,j⟩:=x;simp only;cases must l en js5 j with
   |error e=>rfl
   | ok y =>
    obtain⟨_,j⟩:=y;simp only;cases go l en f .expr (o+1) j with
    |none=>rfl
    | some r =>
     cases r with
     |error e=>rfl
     | ok x =>
      obtain⟨a,j⟩:=x;simp only;cases must l en js6 j with
      |error e=>rfl
      | ok y =>
       obtain⟨_,j⟩:=y;simp only;cases go l en f .expr (o+1) j with
       |none=>rfl
       |some r =>
        cases r with
        |error e=>rfl
        |ok x=>rfl
theorem jxx {f o i:Nat}{out:List Nd}{j:Nat}(h:ifB l en (go l en f .cond) (go l en f .expr) o i=some (.ok (out,j))):out.length<=l.length:=by
 unfold ifB at h;split at h
 ·cases h
 ·cases h
 rename_i c j1 h1;have a1:=jcl f .cond o _ _ _ h1;split at h
 ·cases h
 rename_i j2 h2;have a2:=jco h2;split at h
 ·cases h
 ·cases h
 rename_i a j3 h3;have a3:=jcl f .expr o _ _ _ h3;split at h
 ·cases h
 rename_i j4 h4;have a4:=jco h4;split at h
 ·cases h
 ·cases h
 rename_i b j5 h5;have a5:=jcl f .expr o _ _ _ h5;simp only[Kg,Except.ok.injEq,Kh]at h;obtain⟨h8,h9⟩:=h;have h8:=congrArg List.length h8;simp only[Kr]at h8;omega
theorem jze(hv:IsK lv l)(hl:l.length<=4000){f:Nat}(hu:CX l lv en q p 160 (go l en f .unary))(hc:CX l lv en q p 63 (go l en f .cond))(he:CX l lv en q p 128 (go l en f .expr)):CX l lv en q p 128 (go l en (f+1) .expr):=by
 intro o i r hr ho hi L ts hP;have hap:L.length ≠ p:=by have:=hP.lt;omega
 have hbp:L.length+1 ≠ p:=by have:=hP.lt;omega
 refine jaZ rfl rfl rfl rfl jBd rfl (by simp[Tryz.f128]) (U4 rfl) (jbq ?_);simp only[Tryz.f128,Ux,simprocAttr,U3,jab,jak,zv25];refine jcw (jlS hv hl (hP.app _) ts wIf) ?_;rintro _ ⟨L1,ts⟩ ⟨rfl,hF,hP1,rfl⟩;have ha:=hF.has (jam _ _ _) hap;have hb:=hF.has (jan _ _ _) hbp;have hF1:Fr p L L1:=(Fr.app _ _ _).tr hF;clear hF;simp only at ha hb hF1 hP1;cases hs:sees l wIf i
 ·unfold go at hr;rw[hs]at hr;simp only[Km,Ks]at hr;have hlv:=jcC (jkF L1 ts);obtain⟨m0,m1,m2,m3⟩:=jzc L1;have hlt:=hP1.lt;have hll:=jaT hb;have ha2:=jbX ha (sumL.map lvlM++jeB.map lvlM);simp only[Ux,simprocAttr,U3,jab,jak,hlv,YP,ha2];have hch:=jtW hv hl (fo:=160) (fi:=[.ptr p 0]) (ca:=[]) (p:=p) rfl hu (λo=>jcl f .unary o) sumL [L1.length,L1.length+1] .full (by decide) jo6 o i r hr ho hi _ ts (hP1.app _) ⟨m0,by omega,m1,by omega,trivial⟩;refine jaU hch ?_ ?_
  ·rintro v ⟨L2,t2⟩ hk
   match r,hk with
   | .ok (out,j),⟨u',k1,k2,k3,k4,k5⟩ =>
    cases k1;have hb5:=k2.has (jbX hb (sumL.map lvlM++jeB.map lvlM)) hbp;have hbs:∀o:AObj,(L2.set (L.length+1) o)[L.length+1]? = some o:=λo=>Kl (jaT hb5)
    have hwc:=k4.cells;simp only[Ux,simprocAttr,U3,jab,jak,hb5,hbs,hwc.1,hwc.2];exact GoX.inl (((hF1.tr (Fr.app _ _ _)).tr k2).setge (by omega) _) ((Kk hbp).trans k3) k4 rfl rfl k5
   | .error e,⟨k1,_⟩=>cases k1
  ·rintro v ⟨L2,t2⟩ hk;exact hk.tr (hF1.tr (Fr.app _ _ _))
 ·simp only[Ux,simprocAttr,U3,jab,jak,ha,YP];by_cases h50:50<=o
  ·unfold go at hr;rw[Ki hs,Ki h50]at hr;simp only[Kg]at hr;subst hr;refine jaU (jeH hv hl hP1 h50 ts wIf _) ?_ ?_
   ·rintro v O' ⟨h,_⟩;cases h
   ·rintro v O' ⟨h,rfl⟩;cases h;exact⟨rfl,hF1,.rfl' _ _⟩
  ·rw[jBf hs h50]at hr;have hi1:=jcb hs;have ac:Adv2 l (go l en f .cond):=λo i out j h=>jcl f .cond o i out j h
   have ae:Adv2 l (go l en f .expr):=λo i out j h=>jcl f .expr o i out j h
   split at hr
   ·cases hr
   ·rename_i e hg;simp only[Kg]at hr;subst hr;refine jaU (jdT hv hl hP1 hi (by omega) ts wIf hs 161 [.ptr L.length 0,.ptr (L.length+1) 0] hbp (r:=.error e) λL' hF' hP'=>jwq hv hl hc he ac ae hg (by omega) (by omega) hP' (hF'.has ha hap) (hF'.has hb hbp) hap hbp (by omega) ts) ?_ ?_
    ·rintro v O' ⟨k1,_⟩;cases k1
    ·rintro v O' ⟨k1,k2,k3⟩;cases k1;exact⟨rfl,Fr2.one hF1 k2 (by omega),k3⟩
   rename_i a j hg;simp only[Kg]at hr;subst hr;have hgl:=jxx hg;refine jaU (jdT hv hl hP1 hi (by omega) ts wIf hs 161 [.ptr L.length 0,.ptr (L.length+1) 0] hbp (r:=.ok (a,j)) λL' hF' hP'=>jwq hv hl hc he ac ae hg (by omega) (by omega) hP' (hF'.has ha hap) (hF'.has hb hbp) hap hbp (by omega) ts) ?_ ?_
   rotate_left
   ·rintro v O' ⟨k1,_⟩;cases k1
   rintro v ⟨L2,t2⟩ ⟨k1,k2,k3,w,k4,k5,k6⟩;cases k1;obtain⟨w2,t3,n1,n2,n3⟩:=joa (hp:=L2) k5 k6.1 (by omega) (opN 8);simp only at n1;have hbs:∀o:AObj,(L2.set (L.length+1) o)[L.length+1]? = some o:=λo=>Kl (jaT k4)
   have hwc:=n2.cells;simp only[Ux,simprocAttr,U3,jab,jak,k4,bd71,jpy,n1,hwc.1,hwc.2,hbs];exact GoX.inl ((Fr2.one hF1 k2 (by omega)).setge (by omega) _) ((Kk hbp).trans k3) n2 (by simp) (by rw[jc9];simp[jbS]) (k6.trans n3)
end
def cmpE(ge:Nat->Nat->Option (R (List Nd)))(o j:Nat)(a:List Nd)(op:Int):Option (R (List Nd)) :=
 match ge o (j+1)with
 |none=>none
 |some (.error e)=>some (.error e)
 |some (.ok (b,k))=>some (.ok (a++b++[opN op],k))
def cmpT(l:List Tk)(ge:Nat->Nat->Option (R (List Nd)))(o j:Nat)(a:List Nd)(sg:Bool)(op:Int):Option (R (List Nd)) :=
 match l[j+1]? with
 |some t=>if t.kind=4/\sg=true/\(op=9\/op=10)then some (.ok (a++[⟨3,0,t.text⟩,opN op],j+2))else cmpE ge o j a op
 |none=>cmpE ge o j a op
theorem jzf {l:List Tk}{en:Int}{f o i:Nat}:go l en (f+1) .compare o i=match go l en f .expr o i with
  |none=>none
  |some (.error e)=>some (.error e)
  |some (.ok (a,j))=>match PP.look cmpL (sgn l j)with
   |none=>some (syn l en j)
   |some op=>cmpT l (go l en f .expr) o j a (decide (isK l 1 i=true/\j=i+1)) op:=by
 conv=>lhs;unfold go
 cases go l en f .expr o i with
 |none=>rfl
 | some r =>
  cases r with
  |error e=>rfl
  | ok x =>
   obtain⟨a,j⟩:=x;simp only;cases PP.look cmpL (sgn l j)with
   |none=>rfl
   |some op =>
    simp only[cmpT,cmpE,Qn];cases l[j+1]? with
    |none=>rfl
    |some t=>rfl
abbrev QK(rs:List ResultVar)(K:Sum V V->S->Prop):Post:=⟨wpR env rs λv O'=>K (.inl v) O',λ_ _ _ _=>False,wpR env rs λv O'=>K (.inl v) O'⟩
section
variable {lv:V}{en:Int}{q:List V}{p:Nat}{l:List Tk}{L:List AObj}{ts:List Nat}{i o j:Nat}{r:R (List Nd)}
theorem jzg(x y:Nd):rowO env 25 2 [(0,.agg (jbO x)),(1,.agg (jbO y))]=some (.row (jbO x++jbO y) 2 .full):=by kernel_rfl
theorem jzh(s:List UInt8):jci env 71 [(0,.int .i64 3),(2,.str s)]=some (.agg (jbO ⟨3,0,s⟩)):=by kernel_rfl
theorem cmpC(hv:IsK lv l)(hl:l.length<=4000){ge:Nat->Nat->Option (R (List Nd))}(he:CX l lv en q p 128 ge)(ae:∀o,Len l (ge o)){a:List Nd}{sg:Bool}{op:Int}(hr:cmpT l ge o j a sg op=some r)(ho:o<=50)(hj:j<l.length){T:Tm}{L2:List AObj}{t2:List Nat}{v:V}
  (t0:T 0=.ptr p 0) (t4:T 4=v) (t7:T 7=.bool sg) (t10:T 10=.int .i64 op) (hP:Pc lv en q p L2 j o) (hF:Fr p L L2) (hG:GrowV ts.length t2 3 v a.length (jbS a)) (hE:Ext ts.length ts t2) (hal:a.length<=4000) :
  H env 132 none 103 (λv D O'=>D=[]/\GoX lv en q p L ts o r (.inr v) O') (QK [.tmp 2] (GoX lv en q p L ts o r)) [.code (jbr 9 (jaz Tryz.f132))] (regZ 9 (jaz Tryz.f132)) T [] ⟨L2,t2⟩:=by
 have e1:IntKind.i64.wrap ((j:Int)+1)=((j+1:Nat):Int):=by rw[wrap_i64 (by omega) (by omega)];omega
 have hc:=Pc.has hP;simp only[regZ,regA,jbr,jaz,Tryz.f132,Kv,simprocAttr,Option.or,Ux,U3,jab,jak,t0,hc,e1];have hP3:=hP.set (j+1) o;have hF3:Fr p L (L2.set p (pcL lv en q (j+1) o)):=hF.tr (Fr.set _ _ _);refine jcw (jkC hv hl hP3 t2 [4] .full (by decide)) ?_;rintro _ _ ⟨rfl,X,rfl⟩;have hP4:=hP3.app X;have hF4:=hF3.tr (Fr.app p _ X);generalize L2.set p (pcL lv en q (j+1) o)++X=L4 at *;have hz:∀o:AObj,(L4++[o])[L4.length]? = some o:=λo=>by simp
 have hnp:L4.length ≠ p:=by have:=hP4.lt;omega
 -- another expr
 have hlast:∀(T':Tm) (c:AObj),T' 0=.ptr p 0->T' 4=v->T' 10=.int .i64 op->cmpE ge o j a op=some r->H env 132 none 103 (λv D O'=>D=[]/\GoX lv en q p L ts o r (.inr v) O') (QK [.tmp 2] (GoX lv en q p L ts o r)) [.code .ret] (regZ 14 (jaz Tryz.f132)) T' [] ⟨L4++[c],t2⟩:=by
  intro T' c t0' t4' t10' hr';have hP5:=hP4.app [c];have hF5:=hF4.tr (Fr.app p _ [c]);simp only[regZ,regA,jbr,jaz,Tryz.f132,Kv,simprocAttr,Option.or,Ux,U3,jab,jak,t0',t4'];unfold cmpE at hr';split at hr'
  ·cases hr'
  ·rename_i e hg;simp only[Kg]at hr';subst hr';refine jaU (he o (j+1) _ hg ho hj _ t2 hP5) ?_ ?_
   ·rintro w ⟨L6,t6⟩ ⟨k1,_⟩;cases k1
   ·rintro w ⟨L6,t6⟩ ⟨k1,k2,k3⟩;exact⟨k1,hF5.tr k2,hE.trans (k3.mono hE.1)⟩
  rename_i b k hg;simp only[Kg]at hr';subst hr';have a1:=ae o _ _ _ hg;refine jaU (he o (j+1) _ hg ho hj _ t2 hP5) ?_ ?_
  rotate_left
  ·rintro w ⟨L6,t6⟩ ⟨u',k1,_⟩;cases k1
  rintro w ⟨L6,t6⟩ ⟨u',k1,k2,k3,k4,k5⟩;cases k1;have hlim:lim=2^40:=rfl;obtain⟨v2,t7',n1,n2,n3⟩:=(hG.ext k5).append jtV ⟨71,u25⟩ (hp:=L6) (Qs hE.1 k5.1) k4.vlen (k4.vcells L6) (jh9 b) (jiR b) (by rw[hlim];omega);obtain⟨v3,t8,n4,n5,n6⟩:=joa (hp:=L6) n2 (Qs (Qs hE.1 k5.1) n3.1) (by omega) (opN op);simp only at n1;simp only[Ux,simprocAttr,U3,jab,jak,n1,n4,bd71,jpy,t10'];exact GoX.inl (hF5.tr k2) k3 n5 (by simp only[Kr,K0,K6]) (by rw[jc9,jc9];simp[jbS]) (((hE.trans (k5.mono hE.1)).trans n3).trans n6)
 unfold cmpT at hr
 rcases pk1 l en 4 (j+1)with⟨b1,b2⟩|⟨t,ht,e,b1,b2⟩
 ·have hr':cmpE ge o j a op=some r:=by
   cases ht:l[j+1]? with
   |none=>rw[ht]at hr;exact hr
   | some t =>
    rw[ht]at hr;simp only at hr;rw[Kj]at hr
    ·exact hr
    ·rintro⟨h4,_⟩;unfold pkT at b1;rw[ht]at b1;simp only[X9]at b1;rw[Ki h4]at b1;cases b1
  rw[b1];simp only[Kc,jcj 14,jax,Kb,simprocAttr,U3,jab,jak,t0,t4,t7,t10,tk0,hz];exact hlast _ _ t0 t4 t10 hr'
 ·rw [ht]at hr;simp only at hr;rw[b1]
  have htake:sg=true->(op=9\/op=10)->r=.ok (a++[⟨3,0,t.text⟩,opN op],j+2):=λh1 h2=>by
   rw[Ki ⟨e,h1,h2⟩]at hr;simp only[Kg]at hr;exact hr.symm
  have hmiss:¬(sg=true/\(op=9\/op=10))->cmpE ge o j a op=some r:=λh=>by
   rw[Kj λh2=>h h2.2]at hr;exact hr
  clear hr;have hj1:=(Kz.1 ht).1;have hP5:=hP4.app [AObj.cells [V.int IntKind.i64 t.kind,V.str t.text,V.int IntKind.i64 t.n,V.int IntKind.i64 t.pos] 47];have hF5:=hF4.tr (Fr.app p _ [AObj.cells [V.int IntKind.i64 t.kind,V.str t.text,V.int IntKind.i64 t.n,V.int IntKind.i64 t.pos] 47]);have hc5:=Pc.has hP5;have e2:IntKind.i64.wrap (((j+1:Nat):Int)+1)=((j+2:Nat):Int):=by rw[wrap_i64 (by omega) (by omega)];omega
  have h5:((L4++[AObj.cells [V.int IntKind.i64 t.kind,V.str t.text,V.int IntKind.i64 t.n,V.int IntKind.i64 t.pos] 47]).set p (AObj.cells (lv::V.int IntKind.i64 ↑(j+2)::V.int IntKind.i64 en::V.int IntKind.i64 ↑o::q) 55))[L4.length]? = some (.cells [V.int IntKind.i64 t.kind,V.str t.text,V.int IntKind.i64 t.n,V.int IntKind.i64 t.pos] 47):=by
   rw[Kk (λe=>hnp e.symm)];exact hz _
  have hlim:lim=2^40:=rfl
  have happ:∀hp:List AObj,∃v' ts',appO env false ⟨hp,t2⟩ 25 25 v (.row (jbO ⟨3,0,t.text⟩++jbO (opN op)) 2 .full)=some (v',⟨hp,ts'⟩)/\GrowV ts.length ts' 3 v' (a.length+2) (jbS a++(jbO ⟨3,0,t.text⟩++jbO (opN op)))/\Ext ts.length t2 ts':=λhp =>
   hG.append jtV ⟨71,u25⟩ hE.1 rfl (by simp[jbv,jbO,opN]) rfl rfl (by rw[hlim];omega)
  obtain⟨v3,t8,n4,n5,n6⟩:=happ ((L4++[AObj.cells [V.int IntKind.i64 t.kind,V.str t.text,V.int IntKind.i64 t.n,V.int IntKind.i64 t.pos] 47]).set p (AObj.cells (lv::V.int IntKind.i64 ↑(j+2)::V.int IntKind.i64 en::V.int IntKind.i64 ↑o::q) 55))
  have hfin:r=.ok (a++[⟨3,0,t.text⟩,opN op],j+2)->GoX lv en q p L ts o r (.inl v3) ⟨(L4++[AObj.cells [V.int IntKind.i64 t.kind,V.str t.text,V.int IntKind.i64 t.n,V.int IntKind.i64 t.pos] 47]).set p (AObj.cells (lv::V.int IntKind.i64 ↑(j+2)::V.int IntKind.i64 en::V.int IntKind.i64 ↑o::q) 55),t8⟩:=λh=>by
   rw[h];exact GoX.inl (hF5.tr (Fr.set _ _ _)) (hP5.set (j+2) o) n5 (by simp) (by rw[jc9];simp[jbS]) (hE.trans n6)
  cases sg with
  |false =>
   simp only[Kc,jcj 14,jax,Kb,simprocAttr,U3,jab,jak,t0,t4,t7,t10,hz];exact hlast _ _ t0 t4 t10 (hmiss (by simp))
  | true =>
   by_cases h9:op=9
   ·have h9':=eq_true h9;simp only[Kc,jcj 14,jax,Kb,simprocAttr,U3,jab,jak,t0,t4,t7,t10,hz,h9',hc5,e2,h5,jzh,bd71,jzg,n4];exact hfin (htake rfl (.inl h9))
   ·have h9':=eq_false h9;by_cases h10:op=10
    ·have h10':=eq_true h10;simp only[Kc,jcj 14,jax,Kb,simprocAttr,U3,jab,jak,t0,t4,t7,t10,hz,h9',h10',hc5,e2,h5,jzh,bd71,jzg,n4];exact hfin (htake rfl (.inr h10))
    ·have h10':=eq_false h10;simp only[Kc,jcj 14,jax,Kb,simprocAttr,U3,jab,jak,t0,t4,t7,t10,hz,h9',h10'];exact hlast _ _ t0 t4 t10 (hmiss (by rintro⟨_,h|h⟩<;>contradiction))
end
theorem jBg:env.P.funcs[132]? = some Tryz.f132:=by kernel_rfl
theorem u149:env.P.underlying 149=some (.map 9 3):=by kernel_rfl
theorem jwr(L:List AObj)(ts:List Nat):newO env 149 ⟨L,ts⟩=some (.map L.length,⟨L++[.map [] 0],ts⟩):=by unfold newO;rw[u149];rfl
theorem jjh {L:List AObj}{ts:List Nat}{k:List UInt8}{v:V}{x:AObj}{es:List (V × V × Nat)}{c:Nat}(hf:jcR env 9 (.str k) es 0=some none) :
  insO env 149 (.map (L.length+1)) (.str k) v ⟨L++[x,.map es c],ts⟩=some (.tup [],⟨L++[x,.map (es++[(.str k,v,c)]) (c+1)],ts⟩):=by
 unfold insO;simp only[u149,jan,jhN u9,Ku,hf,S.set,jaq]
theorem g1:jcR env 9 (.str [61]) [] 0=some none:=rfl
theorem g2:jcR env 9 (.str [33,61]) [(.str [61],.int .i64 9,0)] 0=some none:=by kernel_rfl
theorem g3:jcR env 9 (.str [60]) [(.str [61],.int .i64 9,0),(.str [33,61],.int .i64 10,1)] 0=some none:=by kernel_rfl
theorem g4:jcR env 9 (.str [60,61]) [(.str [61],.int .i64 9,0),(.str [33,61],.int .i64 10,1),(.str [60],.int .i64 11,2)] 0=some none:=by kernel_rfl
theorem g5:jcR env 9 (.str [62]) [(.str [61],.int .i64 9,0),(.str [33,61],.int .i64 10,1),(.str [60],.int .i64 11,2),(.str [60,61],.int .i64 12,3)] 0=some none:=by kernel_rfl
theorem g6:jcR env 9 (.str [62,61]) [(.str [61],.int .i64 9,0),(.str [33,61],.int .i64 10,1),(.str [60],.int .i64 11,2),(.str [60,61],.int .i64 12,3),(.str [62],.int .i64 13,4)] 0=some none:=by kernel_rfl
theorem jvB {L:List AObj}{ts:List Nat}{x:AObj}(s:List UInt8) :
  jnp env 149 true (.map (L.length+1)) (.str s) ⟨L++[x,.map [(.str [61],.int .i64 9,0),(.str [33,61],.int .i64 10,1),(.str [60],.int .i64 11,2),(.str [60,61],.int .i64 12,3),(.str [62],.int .i64 13,4),(.str [62,61],.int .i64 14,5)] 6],ts⟩=some (match PP.look cmpL s with|some v=>.tup [.int .i64 v,.bool true]|none=>.tup [.int .i64 0,.bool false]):=by
 have h':(L++[x,AObj.map [(.str [61],.int .i64 9,0),(.str [33,61],.int .i64 10,1),(.str [60],.int .i64 11,2),(.str [60,61],.int .i64 12,3),(.str [62],.int .i64 13,4),(.str [62,61],.int .i64 14,5)] 6])[L.length+1]? = some (.map (mapS (cmpL.map λp=>(p.1,V.int .i64 p.2)) 0) 6):=jan _ _ _;rw[jmn u9 u149 z3 h' s,jn9];unfold PP.look;cases cmpL.find? λp=>p.1=s<;>rfl
theorem jzi(l:List Tk)(i:Nat):sgn l i=(pkT l [5] i).1.text:=by
 unfold sgn pkT;cases l[i]? with
 |none=>rfl
 |some t =>
  simp only[X9];by_cases h:t.kind=5
  ·simp[h]
  ·simp[h,tk0]
section
variable {lv:V}{en:Int}{q:List V}{p:Nat}{l:List Tk}{L:List AObj}{ts:List Nat}{i o j:Nat}{r:R (List Nd)}
theorem jvC {l:List Tk}{lv:Lvl}{i:Nat}{o:Int}(hl:PP.look lv []=none)(h:PP.look lv (sgn l i)=some o):i<l.length:=by
 unfold sgn at h;split at h
 ·rename_i t ht;exact jhf ht
 ·rw[hl]at h;cases h
theorem cmpB(hv:IsK lv l)(hl:l.length<=4000){ge:Nat->Nat->Option (R (List Nd))}(he:CX l lv en q p 128 ge)(ae:∀o,Len l (ge o)){a:List Nd}{sg:Bool} (hr:(match PP.look cmpL (sgn l j)with
      |none=>some (syn l en j)
      |some op=>cmpT l ge o j a sg op)=some r) (ho:o<=50) (hj:j<=l.length) {T:Tm} {L2:List AObj} {t2:List Nat} {v:V}
    (t0:T 0=.ptr p 0) (t4:T 4=v) (t7:T 7=.bool sg) (hP:Pc lv en q p L2 j o) (hF:Fr p L L2) (hG:GrowV ts.length t2 3 v a.length (jbS a)) (hE:Ext ts.length ts t2) (hal:a.length<=4000) :
    H env 132 none 103 (λv D O'=>D=[]/\GoX lv en q p L ts o r (.inr v) O') (QK [.tmp 2] (GoX lv en q p L ts o r)) [.code (jbr 6 (jaz Tryz.f132))] (regZ 5 (jaz Tryz.f132)) T [] ⟨L2,t2⟩:=by
  have hjl:∀op,PP.look cmpL (sgn l j)=some op->j<l.length:=λop h=>jvC (by decide) h
  rw[jzi]at hr hjl;simp only[regZ,regA,jbr,jaz,Tryz.f132,Kv,simprocAttr,Option.or,Kc,jcj 9,jax,Kb,U3,jab,jak,t0];refine jcw (jkC hv hl hP t2 [5] .full (by decide)) ?_;rintro _ _ ⟨rfl,X,rfl⟩;have hP4:=hP.app X;have hF4:=hF.tr (Fr.app p _ X);generalize L2++X=L4 at *;generalize pkT l [5] j=pk at *;obtain⟨tk,pb⟩:=pk;simp only at hr hjl;have hz:∀o:AObj,(L4++[o])[L4.length]? = some o:=λo=>by simp
  have hlk:=jvB (L:=L4) (ts:=t2) (x:=AObj.cells [V.int IntKind.i64 tk.kind,V.str tk.text,V.int IntKind.i64 tk.n,V.int IntKind.i64 tk.pos] 47) tk.text;have hF5:=hF4.tr (Fr.app p L4 [AObj.cells [V.int IntKind.i64 tk.kind,V.str tk.text,V.int IntKind.i64 tk.n,V.int IntKind.i64 tk.pos] 47,AObj.map [(V.str [61],V.int IntKind.i64 9,0),(V.str [33,61],V.int IntKind.i64 10,1),(V.str [60],V.int IntKind.i64 11,2),(V.str [60,61],V.int IntKind.i64 12,3),(V.str [62],V.int IntKind.i64 13,4),(V.str [62,61],V.int IntKind.i64 14,5)] 6]);have hP5:=hP4.app [AObj.cells [V.int IntKind.i64 tk.kind,V.str tk.text,V.int IntKind.i64 tk.n,V.int IntKind.i64 tk.pos] 47,AObj.map [(V.str [61],V.int IntKind.i64 9,0),(V.str [33,61],V.int IntKind.i64 10,1),(V.str [60],V.int IntKind.i64 11,2),(V.str [60,61],V.int IntKind.i64 12,3),(V.str [62],V.int IntKind.i64 13,4),(V.str [62,61],V.int IntKind.i64 14,5)] 6];have ha:=jcC (jeG hv hl hP5 t2);cases hk:PP.look cmpL tk.text with
  | none =>
    rw[hk]at hr hlk;simp only[Kg]at hr hlk;subst hr;simp only[Kc,jcj 9,jax,Kb,simprocAttr,U3,jab,jak,t0,hz,jgK,jwr,jgJ,jjh g1,jjh g2,jjh g3,jjh g4,jjh g5,jjh g6,jep,hlk,ha];refine jaU (jgu _ _ _) ?_ ?_
    · rintro v O' ⟨h,_⟩;cases h
    · rintro v O' ⟨h,rfl⟩;cases h;exact⟨rfl,hF5,hE⟩
  | some op =>
    rw[hk]at hr hlk;simp only at hr hlk;simp only[Kc,jcj 9,jax,Kb,simprocAttr,U3,jab,jak,t0,hz,jgK,jwr,jgJ,jjh g1,jjh g2,jjh g3,jjh g4,jjh g5,jjh g6,jep,hlk];exact cmpC hv hl he ae hr ho (hjl _ hk) t0 t4 t7 rfl hP5 hF5 hG hE hal
theorem jtX(hv:IsK lv l)(hl:l.length<=4000){f:Nat}(he:CX l lv en q p 128 (go l en f .expr)):CX l lv en q p 132 (go l en (f+1) .compare):=by
 intro o i r hr ho hi L ts hP;rw[jzf]at hr;refine jaZ rfl rfl rfl rfl jBg rfl (by simp[Tryz.f132]) (U4 rfl) (jbq ?_);have hc:=hP.has;simp only[Tryz.f132,Kc,jcj 5,jax,Kb,simprocAttr,U3,jab,jak,hc];split at hr
 ·cases hr
 ·rename_i e hg;simp only[Kg]at hr;subst hr;refine jaU (he o i _ hg ho hi L ts hP) ?_ ?_
  ·rintro v ⟨L2,t2⟩ ⟨k1,_⟩;cases k1
  ·rintro v ⟨L2,t2⟩ hk;exact hk
 rename_i a j hg;have a1:=jcl f .expr o _ _ _ hg;refine jaU (he o i _ hg ho hi L ts hP) ?_ ?_
 rotate_left
 ·rintro v ⟨L2,t2⟩ ⟨u',k1,_⟩;cases k1
 rintro v ⟨L2,t2⟩ ⟨u',k1,k2,k3,k4,k5⟩;cases k1;simp only[Kc,jcj 5,jax,Kb,simprocAttr,U3,jab,jak];refine jcw (jvx hv hl k3 t2 i 1) ?_;rintro _ ⟨L3,t2⟩ ⟨⟨tk,rfl⟩,hF,hP3,rfl⟩;have hF3:=k2.tr hF;simp only at hF3 hP3;have hP4:=hP3.app [AObj.cells [V.int IntKind.i64 tk.kind,V.str tk.text,V.int IntKind.i64 tk.n,V.int IntKind.i64 tk.pos] 47];have hF4:=hF3.tr (Fr.app p _ [AObj.cells [V.int IntKind.i64 tk.kind,V.str tk.text,V.int IntKind.i64 tk.n,V.int IntKind.i64 tk.pos] 47]);have hz:∀o:AObj,(L3++[o])[L3.length]? = some o:=λo=>by simp
 have hc4:=Pc.has hP4;have e1:IntKind.i64.wrap ((i:Int)+1)=((i+1:Nat):Int):=by rw[wrap_i64 (by omega) (by omega)];omega
 cases hb:isK l 1 i with
 |false =>
  rw[hb]at hr;simp only[Km,false_and,decide_false]at hr;simp only[Kc,jcj 5,jax,Kb,simprocAttr,U3,jab,jak,hz,hc4,e1];exact cmpB hv hl he (λo=>jcl f .expr o) (sg:=false) hr ho (by omega) rfl rfl rfl hP4 hF4 k4 k5 (by omega)
 | true =>
  rw[hb]at hr;by_cases hj:j=i+1
  ·subst hj;have hj:i+1=i+1:=rfl;have hj2:=eq_true (show((i+1:Nat):Int)=((i+1:Nat):Int) by rfl);simp only[true_and,decide_true]at hr;simp only[Kc,jcj 5,jax,Kb,simprocAttr,U3,jab,jak,hz,hc4,e1,hj2];exact cmpB hv hl he (λo=>jcl f .expr o) (sg:=true) hr ho (by omega) rfl rfl rfl hP4 hF4 k4 k5 (by omega)
  ·have hj2:=eq_false (show ¬(j:Int)=((i+1:Nat):Int) by omega);simp only[hj,and_false,decide_false]at hr;simp only[Kc,jcj 5,jax,Kb,simprocAttr,U3,jab,jak,hz,hc4,e1,hj2];exact cmpB hv hl he (λo=>jcl f .expr o) (sg:=false) hr ho (by omega) rfl rfl rfl hP4 hF4 k4 k5 (by omega)
theorem go_x(hv:IsK lv l)(hl:l.length<=4000):∀f,CX l lv en q p 128 (go l en f .expr)/\CX l lv en q p 160 (go l en f .unary)/\CX l lv en q p 63 (go l en f .cond)/\CX l lv en q p 96 (go l en f .neg)/\CX l lv en q p 132 (go l en f .compare)
 |0=>by
  refine⟨?_,?_,?_,?_,?_⟩<;>intro o i r hr<;>simp[go]at hr
 |f+1=>by
  obtain⟨h1,h2,h3,h4,h5⟩:=go_x hv hl f;exact⟨jze hv hl h2 h3 h1,jxw hv hl h2 h1,jzd hv hl h4,jBe hv hl h4 h3 h5,jtX hv hl h1⟩
end
end Go.Proofs.YtpclebdkhpapjaaGreatDoor
