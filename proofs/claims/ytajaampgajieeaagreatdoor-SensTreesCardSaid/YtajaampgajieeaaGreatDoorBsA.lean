/- Proved here: a base is drawn. Conditions: each theorem's own. -/
import Derived.Test.YtajaampgajieeaaGreatDoorGnB
import Derived.Test.YtajaampgajieeaaGreatDoorTbA
set_option linter.unusedSimpArgs false
set_option maxHeartbeats 16000000
set_option maxRecDepth 1000000
set_option linter.unusedVariables false
set_option linter.unusedSectionVars false
namespace Go.Proofs.YtajaampgajieeaaGreatDoor.N
open Go.Ab
theorem ty7:env.P.underlying 51=some (.slice 79)/\env.P.underlying 60=some (.slice 70)/\sz env 51=some 1/\sz env 60=some 1/\sz env 70=some 2/\sz env 79=some 5/\jas env 70 0=some 0/\jas env 70 1=some 1/\jas env 79 0=some 0/\jas env 79 1=some 4/\(∀h p,jaH env h 51 p=(jab h 1 p).bind (·[0]?))/\(∀h p,jaH env h 60 p=(jab h 1 p).bind (·[0]?))/\(∀h p,jaH env h 70 p=(jab h 2 p).map .agg)/\(∀h p,jaH env h 79 p=(jab h 5 p).map .agg)/\jba env 70=some (.agg [.int .i64 0,.nilsl])/\jba env 79=some (.agg [.str [],.bool false,.int .i64 0,.nilsl,.nilsl])/\jba env 3=some (.int .i64 0) :=
 ⟨ac,ac,ac,ac,ac,ac,ac,ac,ac,ac,λ_ _=>jay ac,λ_ _=>jay ac,λh p=>by unfold jaH;rw[show aggT env 70=some true by kernel_rfl,show sz env 70=some 2 by kernel_rfl];rfl,λh p=>by unfold jaH;rw[show aggT env 79=some true by kernel_rfl,show sz env 79=some 5 by kernel_rfl];rfl,ac,ac,ac⟩
theorem at32:env.P.funcs[32]? = some Tryz.f32:=ac
theorem at34:env.P.funcs[34]? = some Tryz.f34:=ac
def InN(cs:List Col)(vs:List Int)(n:Nat):Prop:=∀k,k<n->(cs.getD k Col.none).lo<=vs.getD k 0/\vs.getD k 0<=(cs.getD k Col.none).hi
section
variable {xv:V}{xs:List Int}(K:Tk xv xs){Q:Post}{ks:List Kt}{ss:List Sch}{q:RCap}{i:Nat}
include K
theorem jmx(hk:Kits (ss.getD i Sch.none).cs)(hi:i<ss.length)(hcv:∃qc,(ss.getD i Sch.none).cv=.row (jaO (ss.getD i Sch.none).cs) (ss.getD i Sch.none).cs.length qc)(hcl:(ss.getD i Sch.none).cs.length<=100){M:List AObj}{ts:List Nat}{bt p:Nat}{o:Int}{T:Tm}(hne:p ≠ bt)(hH:Has M bt xv xs)(hp:M[p]? = some (.cells [.int .i64 o,.nilsl] 70))
  (t3:T 3=.ptr bt 0) (t4:T 4=.row (jaY ss) ss.length q) (t6:T 6=.int .i64 i) (t11:T 11=.ptr p 0) (t12:T 12=.int .i64 0)
  (h:∀(T':Tm) (M':List AObj) (ts':List Nat) (u:V) (vs:List Int),(∀j,j<=11->T' j=T j)->Has M' bt xv xs->M'[p]? = some (.cells [.int .i64 o,u] 70)->GI ts.length ts' u vs->vs.length=(ss.getD i Sch.none).cs.length->InN (ss.getD i Sch.none).cs vs vs.length->Kp2 M M' bt p->Ext ts.length ts ts'->G env 32 none 118 Q ks .skip T' [] ⟨M',ts'⟩) :
  jdx env 32 none 118 (jcK 4 (jaz Tryz.f32)) T [] ⟨M,ts⟩ (Kt.post env 32 none 118 Q (.blk 4::ks)):=by
 simp only[jaz,Tryz.f32,Kr,jcK,blkC,Option.or,Nat.reduceEqDiff,Kn,Kl,reduceIte];obtain⟨rr,hxs⟩:=jiP ss q hi;obtain⟨qc,hcv⟩:=hcv;rw[hcv]at hxs
 refine jau (λm T' D U=>D=[]/\(∀j,j<=11->T' j=T j)/\∃(M':List AObj) (ts':List Nat) (n:Nat) (u:V) (vs:List Int),U=⟨M',ts'⟩/\T' 12=.int .i64 n/\n<=(ss.getD i Sch.none).cs.length/\m=(ss.getD i Sch.none).cs.length-n/\Has M' bt xv xs/\M'[p]? = some (.cells [.int .i64 o,u] 70)/\GI ts.length ts' u vs/\vs.length=n/\InN (ss.getD i Sch.none).cs vs n/\Kp2 M M' bt p/\Ext ts.length ts ts') ?_ ((ss.getD i Sch.none).cs.length-0) _ _ _
  ⟨rfl,λ_ _=>rfl,M,ts,0,.nilsl,[],rfl,t12,Qm _,rfl,hH,hp,.nil,rfl,λk hk=>absurd hk aa,⟨Kw _,λ_ _ _ _=>rfl⟩,.rfl' _ _⟩
 rintro m T' D U ⟨rfl,hT,M',ts',n,u,vs,rfl,u12,hn,rfl,hH',hp',g,hvl,hin,hK,xE⟩;have u3:T' 3=.ptr bt 0:=(hT 3 aa).trans t3;have u4:T' 4=.row (jaY ss) ss.length q:=(hT 4 aa).trans t4;have u6:T' 6=.int .i64 i:=(hT 6 aa).trans t6;have u11:T' 11=.ptr p 0:=(hT 11 aa).trans t11;refine jaC ?_;by_cases hlt:n<(ss.getD i Sch.none).cs.length
 ·have c1:(n:Int)<((ss.getD i Sch.none).cs.length:Int):=by omega
  have e1:IntKind.i64.wrap ((n:Int)+1)=((n+1:Nat):Int):=by rw[wrap_i64 aa aa];omega
  obtain⟨okc,_,b1,b2,b3⟩:=hk.bound hlt;obtain⟨r4,hx4⟩:=jfx (ss.getD i Sch.none).cs qc hlt;have hic:=jbf (okc.at hlt);generalize hcs:(ss.getD i Sch.none).cs=cs at *;generalize hc:cs.getD n Col.none=c at *;have pl:=jao hp';have bl:=hH'.lt;have hHc:=hH'.app [AObj.cells [.str c.name,.int .i64 c.lo,.int .i64 c.hi,c.w] 41];have pc:(M'++[AObj.cells [.str c.name,.int .i64 c.lo,.int .i64 c.hi,c.w] 41])[p]? = some (.cells [.int .i64 o,u] 70):=jaE hp' _;have cc:(M'++[AObj.cells [.str c.name,.int .i64 c.lo,.int .i64 c.hi,c.w] 41])[M'.length]? = some (.cells [.str c.name,.int .i64 c.lo,.int .i64 c.hi,c.w] 41):=jad _ _;obtain⟨r,M2,hT2,hH2,hK2,hl2,a0,a1,_⟩:=jaS K hHc (c.hi-c.lo+1) (by simp[In64];omega);have a2:=a1 aa;have hT2:=hT2 ts';have hl3:M2.length=M'.length+1:=by rw[hl2];simp
  have pc2:=(hK2.2 p (jao pc) hne).trans pc;have cc2:=(hK2.2 M'.length (jao cc) aa).trans cc;have w1:IntKind.i64.wrap (c.hi-c.lo)=c.hi-c.lo:=wrap_i64 aa aa;have w2:IntKind.i64.wrap (c.hi-c.lo+1)=c.hi-c.lo+1:=wrap_i64 aa aa;have w3:IntKind.i64.wrap (c.lo+r)=c.lo+r:=wrap_i64 aa aa;obtain⟨u',ts3,hA,gA,xA⟩:=GI.push (hp:=M2) g xE.1 (c.lo+r) .full aa;obtain⟨gc1,gc2⟩:=gA.cells;have sP:∀x,(M2.set p x)[p]? = some x:=λx=>Km (jao pc2)
  have hrow:∀(a:Int),rowO env 22 1 [(0,.int .i64 a)]=some (.row [.int .i64 a] 1 .full):=jw4;simp only[simprocAttr,yK,K0,jaa,Kf,ty7,al1,uq,fo30,jaJ,u3,u4,u6,u11,u12,c1,e1,hxs,jaq,Yt,hx4,jaM,K2,jae,jac,hic];refine jrr rfl (λs=>jce s.heap[p]? 1=some u/\s.heap[M'.length]? = some (.cells [.str c.name,.int .i64 c.lo,.int .i64 c.hi,c.w] 41)) 3 (λ_=>⟨by show jce (M'++[AObj.cells [.str c.name,.int .i64 c.lo,.int .i64 c.hi,c.w] 41])[p]? 1=_;rw[pc];rfl,cc⟩) ac ac ?_;simp only[simprocAttr,zK,K0,jaa,Kf,juX,p78,jrs,jvk,jkG,jkH,jnj,jkI,ty7,al1,uq,fo30,jaJ,u3,u4,u6,u11,u12,pc,cc,w1,w2,w3,hT2,jar,hrow,hA,pc2,cc2,gc1,gc2,e1];refine⟨λs h=>h.1,λs h=>by rw[h.2];rfl,λs h=>by rw[h.2];rfl,λs h=>by rw[h.2];rfl,cs.length-(n+1),aa,λj hj => ?_,M2.set p (.cells [.int .i64 o,u'] 70),ts3,n+1,u',vs++[c.lo+r],rfl,rfl,aa,rfl,?_,sP _,gA,by simp[hvl],?_,?_,xE.trans xA⟩
  ·repeat rw[Ke aa]
   exact hT j hj
  ·obtain⟨a,h1,h2⟩:=hH2;exact⟨a,h1,by rw[Kh hne];exact h2⟩
  ·intro k hk
   rcases Ql k n with h|h
   ·have:=hin k h;rw[show(vs++[c.lo+r]).getD k 0=vs.getD k 0 by simp[List.getD,Kj (show k<vs.length by omega)]];exact this
   ·obtain rfl:k=n:=by omega
    rw[hc,show(vs++[c.lo+r]).getD k 0=c.lo+r by rw[<- hvl];simp[List.getD]];exact⟨aa,aa⟩
  ·exact⟨by have:=hK.1;rw[V8,hl3];omega,λy hy h1 h2=>by rw[Kh (Ne.symm h2),hK2.2 y (by have:=hK.1;simp;omega) h1,Kj (by have:=hK.1;omega)];exact hK.2 y hy h1 h2⟩
 ·have hne':n=(ss.getD i Sch.none).cs.length:=by omega
  have c1:((n:Int)<((ss.getD i Sch.none).cs.length:Int))=False:=eq_false aa;simp only[simprocAttr,yK,K0,jaa,ty7,al1,uq,fo30,jaJ,u3,u4,u6,u11,u12,c1,hxs,jaq,Yt];exact h _ M' ts' u vs (λj hj=>by rw[<- hT j hj];simp only[Z7];repeat rw[Ke aa]) hH' hp' g aa (by rw[hvl];exact hin) hK xE
end
def RowG(s:Sch)(r:PR):Prop:=(s.pub=true->r.1=0)/\(s.pub=false->1<=r.1/\r.1<=5)/\r.2.length=s.cs.length/\InN s.cs r.2 s.cs.length
structure RowsG (s:Sch) (ws:List Rw):Prop where
 v:∀r∈ws,∃q,r.vv=.row (r.vs.map (V.int .i64)) r.vs.length q
 g:∀r∈ws,RowG s r.pl
 m:s.pub=false->∀o,(cnt o (ws.map Rw.pl):Int)<=s.many
theorem eRw:Elt env 60 70 2 32:=⟨ac,ac,ac,ac,ac⟩
theorem eTb:Elt env 51 79 5 80:=⟨ac,ac,ac,ac,ac⟩
theorem jqd(a b:V):rowO env 60 1 [(0,.agg [a,b])]=some (.row [a,b] 1 .full):=ac
theorem bd70(o:Int):jbD env 70 [(0,.int .i64 o)]=some (.agg [.int .i64 o,.nilsl]):=ac
theorem jsH(b:Nat){o:Nat}(h:o<6):jaw 1 (.hsl b 0 6 6 .exact) (.int .i64 (o:Int))=some (.ptr b o):=by
 simp only[jaw];rw[Kg aa];simp
theorem jk7 {l:List Int}{n:Nat}(h:n<l.length)(t:TypeId):jce (some (AObj.cells (l.map (V.int .i64)) t)) n=some (.int .i64 (l.getD n 0)):=by
 simp[jce,List.getD,h]
theorem jua {l:List Int}{n:Nat}(h:n<l.length)(x:Int):jaa (l.map (V.int .i64)) n [.int .i64 x]=(l.set n x).map (V.int .i64):=by
 rw[List.map_set,Vz,Kg (by simpa using h)];simp[jaa]
theorem jmy {l:List Int}{n:Nat}(h:n<l.length)(x:Int):(l.map (V.int .i64)).take n++[.int .i64 x]++(l.map (V.int .i64)).drop (n+1)=(l.set n x).map (V.int .i64):=by
 rw[<- jua h];simp[jaa]
theorem ld2n {h:List AObj}{n:Nat}{a b:V}{t:TypeId}(hh:h[n]? = some (.cells [a,b] t)):jab h 2 (.ptr n 0)=some [a,b]:=by simp[jab,hh]
def Kp3(L L':List AObj)(b p w:Nat):Prop:=L.length<=L'.length/\∀j,j<L.length->j ≠ b->j ≠ p->j ≠ w->L'[j]? = L[j]?
section
variable {xv:V}{xs:List Int}(K:Tk xv xs){Q:Post}{ks:List Kt}{ss:List Sch}{q:RCap}{i:Nat}
include K
theorem jsI(hk:Kits (ss.getD i Sch.none).cs)(hi:i<ss.length)(hcv:∃qc,(ss.getD i Sch.none).cv=.row (jaO (ss.getD i Sch.none).cs) (ss.getD i Sch.none).cs.length qc)(hcl:1<=(ss.getD i Sch.none).cs.length/\(ss.getD i Sch.none).cs.length<=100)
  (hpb:((ss.getD i Sch.none).pub=true/\(ss.getD i Sch.none).many=0)\/((ss.getD i Sch.none).pub=false/\1<=(ss.getD i Sch.none).many/\(ss.getD i Sch.none).many<=4)) {M:List AObj} {ts:List Nat} {bt p w:Nat} {many:Nat} (hmany:many<=12) {T:Tm} (hne:p ≠ bt/\w ≠ bt/\p ≠ w) (hH:Has M bt xv xs)
  (hp:M[p]? = some (.cells [.str (ss.getD i Sch.none).name,.bool (ss.getD i Sch.none).pub,.int .i64 (ss.getD i Sch.none).many,(ss.getD i Sch.none).cv,.nilsl] 79)) (hw:M[w]? = some (.cells (([0,0,0,0,0,0]:List Int).map (V.int .i64)) 3))
  (t3:T 3=.ptr bt 0) (t4:T 4=.row (jaY ss) ss.length q) (t6:T 6=.int .i64 i) (t7:T 7=.ptr p 0) (t8:T 8=.hsl w 0 6 6 .exact) (t9:T 9=.int .i64 many) (t10:T 10=.int .i64 0)
  (h:∀(T':Tm) (M':List AObj) (ts':List Nat) (u:V) (ws:List Rw),(∀j,j<=7->T' j=T j)->Has M' bt xv xs->M'[p]? = some (.cells [.str (ss.getD i Sch.none).name,.bool (ss.getD i Sch.none).pub,.int .i64 (ss.getD i Sch.none).many,(ss.getD i Sch.none).cv,u] 79)->GrowV ts.length ts' 2 u ws.length (jcr ws)->ws.length<=12->RowsG (ss.getD i Sch.none) ws->(ws=[]->u=.nilsl)->Kp3 M M' bt p w->Ext ts.length ts ts'->G env 32 none 118 Q ks .skip T' [] ⟨M',ts'⟩) :
  jdx env 32 none 118 (jcK 2 (jaz Tryz.f32)) T [] ⟨M,ts⟩ (Kt.post env 32 none 118 Q (.blk 2::ks)):=by
 have l4:jcK 4 (jaz Tryz.f32)=jcK 4 (jcK 2 (jaz Tryz.f32)):=rfl;simp only[jaz,Tryz.f32,Kr,jcK,blkC,Option.or,Nat.reduceEqDiff,Kn,Kl,reduceIte];obtain⟨rr,hxs⟩:=jiP ss q hi;obtain⟨qc,hcv'⟩:=hcv
 refine jau (λm T' D U=>D=[]/\(∀j,j<=9->T' j=T j)/\∃(M':List AObj) (ts':List Nat) (k:Nat) (u:V) (ws:List Rw) (os:List Int),U=⟨M',ts'⟩/\T' 10=.int .i64 k/\k<=many/\m=many-k/\Has M' bt xv xs/\M'[p]? = some (.cells [.str (ss.getD i Sch.none).name,.bool (ss.getD i Sch.none).pub,.int .i64 (ss.getD i Sch.none).many,(ss.getD i Sch.none).cv,u] 79)/\M'[w]? = some (.cells (os.map (V.int .i64)) 3)/\os.length=6 /\
   (∀o:Nat,o<6->(cnt o (ws.map Rw.pl):Int)<=os.getD o 0/\os.getD o 0<=k)/\GrowV ts.length ts' 2 u ws.length (jcr ws)/\ws.length<=k/\RowsG (ss.getD i Sch.none) ws/\(ws=[]->u=.nilsl)/\Kp3 M M' bt p w/\Ext ts.length ts ts') ?_ (many-0) _ _ _
  ⟨rfl,λ_ _=>rfl,M,ts,0,.nilsl,[],[0,0,0,0,0,0],rfl,t10,Qm _,rfl,hH,hp,hw,rfl,λo ho=>by
   match o,ho with
   |0,_=>exact⟨Jt _,Jt _⟩
   |1,_=>exact⟨Jt _,Jt _⟩
   |2,_=>exact⟨Jt _,Jt _⟩
   |3,_=>exact⟨Jt _,Jt _⟩
   |4,_=>exact⟨Jt _,Jt _⟩
   |5,_=>exact⟨Jt _,Jt _⟩,.nil,Kw _,⟨λr h=>(by cases h),λr h=>(by cases h),λhp o=>by rcases hpb with⟨a,_⟩|⟨_,a,_⟩<;>simp_all[cnt];omega⟩,λ_=>rfl,⟨Kw _,λ_ _ _ _ _=>rfl⟩,.rfl' _ _⟩
 rintro m T' D U ⟨rfl,hT,M',ts',k,u,ws,os,rfl,u10,hkm,rfl,hH',hp',hw',hos,hcn,g,hwl,hG,hu0,hK,xE⟩;have u3:T' 3=.ptr bt 0:=(hT 3 aa).trans t3;have u4:T' 4=.row (jaY ss) ss.length q:=(hT 4 aa).trans t4;have u6:T' 6=.int .i64 i:=(hT 6 aa).trans t6;have u7:T' 7=.ptr p 0:=(hT 7 aa).trans t7;have u8:T' 8=.hsl w 0 6 6 .exact:=(hT 8 aa).trans t8;have u9:T' 9=.int .i64 many:=(hT 9 aa).trans t9;refine jaC ?_;by_cases hlt:k<many
 case neg =>
  have c1:((k:Int)<(many:Int))=False:=eq_false aa;simp only[simprocAttr,zK,K0,jaa,ty7,al1,uq,fo30,jaJ,u9,u10,c1];exact h _ M' ts' u ws (λj hj=>by rw[<- hT j aa];simp only[Z7];repeat rw[Ke aa]) hH' hp' g aa hG hu0 hK xE
 have c1:((k:Int)<(many:Int))=True:=eq_true aa;have e1:IntKind.i64.wrap ((k:Int)+1)=((k+1:Nat):Int):=by rw[wrap_i64 aa aa];omega
 obtain⟨r,M2,hT2,hH2,hK2,hl2,a0,a1,_⟩:=jaS K hH' 5 (by simp[In64]);have a2:=a1 af;have hT2:=hT2 ts';have w1:IntKind.i64.wrap (1+r)=1+r:=wrap_i64 aa aa;have p2:=(hK2.2 p (jao hp') hne.1).trans hp';have w2:=(hK2.2 w (jao hw') hne.2.1).trans hw';have ha1:V.nilsl.isCell=true:=rfl;have ha2:V.nilsl.cells=[.nilsl]:=rfl;have M2c:M'.length=M2.length:=hl2.symm;cases hpub:(ss.getD i Sch.none).pub
 ·have hxs':=hxs;rw[hpub]at hxs';obtain⟨oN,hoN⟩:∃oN:Nat,1+r=(oN:Int):=⟨(1+r).toNat,aa⟩;have hHr:Has (M2++[AObj.cells [.int .i64 (1+r),.nilsl] 70]) bt xv xs:=hH2.app _;have hPr:(M2++[AObj.cells [.int .i64 (1+r),.nilsl] 70])[M2.length]? = some (.cells [.int .i64 (1+r),.nilsl] 70):=jad _ _;have hPp:(M2++[AObj.cells [.int .i64 (1+r),.nilsl] 70])[p]? = _:=jaE p2 _;have hPw:(M2++[AObj.cells [.int .i64 (1+r),.nilsl] 70])[w]? = _:=jaE w2 _;have hKr:∀j,j<M'.length->j ≠ bt->(M2++[AObj.cells [.int .i64 (1+r),.nilsl] 70])[j]? = M'[j]? := λj hj h1=>by rw[Kj aa];exact hK2.2 j hj h1
  simp only[simprocAttr,yK,K0,jaa,ty7,al1,uq,fo30,jaJ,u3,u4,u6,u7,u8,u9,u10,c1,hT2,w1,bd70,YW,jad,jan,jac,hxs',jaq,ha1,ha2];refine jmx K hk hi ⟨qc,hcv'⟩ hcl.2 (p:=M2.length) (o:=(1+r)) (by have:=hH2.lt;omega) hHr hPr u3 u4 u6 rfl rfl λT2 M3 ts3 uu vs v0 v1 v2 v3 v4 v5 v6 v7 => ?_
  have x3:T2 3=.ptr bt 0:=(v0 3 aa).trans u3;have x4:T2 4=.row (jaY ss) ss.length q:=(v0 4 aa).trans u4;have x6:T2 6=.int .i64 i:=(v0 6 aa).trans u6;have x7:T2 7=.ptr p 0:=(v0 7 aa).trans u7;have x8:T2 8=.hsl w 0 6 6 .exact:=(v0 8 aa).trans u8;have x9:T2 9=.int .i64 many:=(v0 9 aa).trans u9;have x10:T2 10=.int .i64 k:=(v0 10 aa).trans u10;have x11:T2 11=.ptr M2.length 0:=v0 11 aa;have pl:=jao p2;have wl:=jao w2
  have p3:M3[p]? = some (.cells [.str (ss.getD i Sch.none).name,.bool (ss.getD i Sch.none).pub,.int .i64 (ss.getD i Sch.none).many,(ss.getD i Sch.none).cv,u] 79):=by
   rw[v6.2 p (by simp;omega) hne.1 aa];exact hPp
  have w3:M3[w]? = some (.cells (os.map (V.int .i64)) 3):=by
   rw[v6.2 w (by simp;omega) hne.2.1 aa];exact hPw
  have ho6:oN<os.length:=aa;have hix:=jsH w (show oN<6 by omega);rw[<- hoN]at hix;have hat:=jk7 ho6 3;have hst:=jmy ho6 (os.getD oN 0+1);have hb:=hcn oN aa;have hb0:(0:Int)<=os.getD oN 0:=aa;have e2:IntKind.i64.wrap (os.getD oN 0+1)=os.getD oN 0+1:=wrap_i64 aa aa;have hpn:M2.length ≠ w:=aa;have sW:∀x,(M3.set w x)[w]? = some x:=λx=>Km (jao w3)
  have sR:∀x,(M3.set w x)[M2.length]? = some (.cells [.int .i64 (1+r),uu] 70):=λx=>by rw[Kh (Ne.symm hpn)];exact v2
  have sP:∀x,(M3.set w x)[p]? = some (.cells [.str (ss.getD i Sch.none).name,.bool (ss.getD i Sch.none).pub,.int .i64 (ss.getD i Sch.none).many,(ss.getD i Sch.none).cv,u] 79):=λx=>by rw[Kh (Ne.symm hne.2.2)];exact p3
  have lw:os.length<=6:=aa;have fits:oN+1<=(os.map (V.int .i64)).length:=by simp;omega
  have hat2:=jk7 (l:=os.set oN (os.getD oN 0+1)) (n:=oN) (by simp;omega) 3;rw[show(os.set oN (os.getD oN 0+1)).getD oN 0=os.getD oN 0+1 by simp[List.getD,ho6]]at hat2;obtain⟨qu,huu⟩:=v3.isrow aa;have ld:=ld2n (sR (.cells ((os.set oN (os.getD oN 0+1)).map (V.int .i64)) 3));have guu:=v3.cells
  obtain⟨u',ts4,hA,gA,xA⟩:=GrowV.push (E:=env) (hp:=M3.set w (.cells ((os.set oN (os.getD oN 0+1)).map (V.int .i64)) 3)) (q:=.full) (new:=[.int .i64 (1+r),uu]) eRw ⟨70,eRw.slice⟩ (g.ext v7) (Jp xE.1 v7.1) rfl (by simp only[Ks,Qn,jac,guu.2,K8]) (by
   have hlim:lim=2^40:=rfl;exact⟨by rw[hlim];omega,by rw[hlim];omega⟩)
  obtain⟨ga1,ga2⟩:=gA.cells;have hrow:RowG (ss.getD i Sch.none) ((1+r),vs):=⟨(λhp=>by rw[hpub]at hp;cases hp),λ_=>⟨by simp only;omega,by simp only;omega⟩,v4,by rw[<- v4];exact v5⟩
  have kp3:∀x y:AObj,Kp3 M ((M3.set w x).set p y) bt p w:=λx y=>⟨by have:=v6.1;have:=hK.1;simp at *;omega,λj hj h1 h2 h3=>by
   rw[Kh (Ne.symm h2),Kh (Ne.symm h3),v6.2 j (by have:=hK.1;simp;omega) h1 (by have:=hK.1;omega),hKr j (by have:=hK.1;omega) h1];exact hK.2 j hj h1 h2 h3⟩
  have kp3':∀x:AObj,Kp3 M (M3.set w x) bt p w:=λx=>⟨by have:=v6.1;have:=hK.1;simp at *;omega,λj hj h1 h2 h3=>by
   rw[Kh (Ne.symm h3),v6.2 j (by have:=hK.1;simp;omega) h1 (by have:=hK.1;omega),hKr j (by have:=hK.1;omega) h1];exact hK.2 j hj h1 h2 h3⟩
  have hHw:∀x,Has (M3.set w x) bt xv xs:=λx=>by
   obtain⟨a,h1,h2⟩:=v1;exact⟨a,h1,by rw[Kh hne.2.1];exact h2⟩
  have hHp:∀x y,Has ((M3.set w x).set p y) bt xv xs:=λx y=>by
   obtain⟨a,h1,h2⟩:=hHw x;exact⟨a,h1,by rw[Kh hne.1];exact h2⟩
  have hcnt:∀o':Nat,o'<6->(os.set oN (os.getD oN 0+1)).getD o' 0=os.getD o' 0+(if o'=oN then 1 else 0):=λo' h'=>by
   by_cases e:o'=oN
   ·rw[Kg e,e];simp[List.getD,ho6]
   ·rw[Ke e];simp[List.getD,Kh (Ne.symm e)]
  have hcn1:∀o':Nat,o'<6->(cnt (o':Int) (ws.map Rw.pl):Int)<=(os.set oN (os.getD oN 0+1)).getD o' 0/\(os.set oN (os.getD oN 0+1)).getD o' 0<=((k+1:Nat):Int):=λo' h'=>by
   have:=hcn o' h';rw[hcnt o' h'];split<;>omega
  have hpl:((ws++[(⟨(1+r),uu,vs⟩:Rw)]).map Rw.pl)=ws.map Rw.pl++[((1+r),vs)]:=by simp[Rw.pl]
  have hcn2:∀o':Nat,o'<6->(cnt (o':Int) ((ws++[(⟨(1+r),uu,vs⟩:Rw)]).map Rw.pl):Int)<=(os.set oN (os.getD oN 0+1)).getD o' 0/\(os.set oN (os.getD oN 0+1)).getD o' 0<=((k+1:Nat):Int):=λo' h'=>by
   have:=hcn o' h';rw[hcnt o' h',hpl,jiU]
   have e3:cnt (o':Int) [(((1+r),vs):PR)]=if o'=oN then 1 else 0:=by
    by_cases e:o'=oN
    ·rw[Kg e,hoN,e];simp[cnt]
    ·rw[Ke e,hoN];simp only[cnt];rw[Vl (by simp;omega)];rfl
   rw[e3];split<;>(simp only[Vh]at *;omega)
  have rG:((ss.getD i Sch.none).pub=false->os.getD oN 0+1<=(ss.getD i Sch.none).many)->RowsG (ss.getD i Sch.none) (ws++[(⟨(1+r),uu,vs⟩:Rw)]):=λhle=>by
   refine⟨λr hr => ?_,λr hr => ?_,λhp o' => ?_⟩
   ·rcases Jl.1 hr with h|h
    ·exact hG.v r h
    ·rw[J4.1 h];exact⟨qu,huu⟩
   ·rcases Jl.1 hr with h|h
    ·exact hG.g r h
    ·rw[J4.1 h];exact hrow
   ·rw[hpl,jiU];have hm:=hG.m hp o';have h1:=hle hp;have hb:=hb.1;by_cases e:o'=((oN:Nat):Int)
    ·subst e;have e3:cnt ((oN:Nat):Int) [(((1+r),vs):PR)]=1:=by rw[hoN];simp[cnt]
     rw[e3];omega
    ·have e3:cnt o' [(((1+r),vs):PR)]=0:=by
      rw[hoN];simp only[cnt];rw[Vl (by simp;exact λh=>e h.symm)];rfl
     rw[e3];omega
  by_cases hle:os.getD oN 0+1<=(ss.getD i Sch.none).many
  ·have d1:=eq_true hle;simp only[simprocAttr,yK,K0,jaa,jac,YW,jaq,ty7,al1,uq,fo30,jaJ,x3,x4,x6,x7,x8,x9,x10,x11,v2,w3,hix,hat,e2,hst,fits,sR,sW,sP,hat2,ld,hxs',jar,jqd,hA,ga1,ga2,e1,ha1,ha2,d1];refine⟨ac,many-(k+1),aa,λj hj => ?_,_,ts4,k+1,u',ws++[(⟨(1+r),uu,vs⟩:Rw)],os.set oN (os.getD oN 0+1),rfl,rfl,aa,rfl,hHp _ _,(by rw[Km (jao (sP _)),hpub]),by rw[Kh hne.2.2];exact sW _,by simp;omega,hcn2,?_,by simp;omega,rG (λ_=>hle),λh=>absurd h ae,kp3 _ _,xE.trans ((v7.mono xE.1).trans xA)⟩
   ·rw[<- hT j hj];repeat rw[Ke aa]
    exact(v0 j aa).trans (by simp only[Z7];repeat rw[Ke aa])
   ·rw[Kk,Ju,jfA];exact gA
  ·have d1:=eq_false hle;simp only[simprocAttr,yK,K0,jaa,jac,YW,jaq,ty7,al1,uq,fo30,jaJ,x3,x4,x6,x7,x8,x9,x10,x11,v2,w3,hix,hat,e2,hst,fits,sR,sW,sP,hat2,ld,hxs',jar,jqd,hA,ga1,ga2,e1,ha1,ha2,d1];refine⟨ac,many-(k+1),aa,λj hj => ?_,_,ts3,k+1,u,ws,os.set oN (os.getD oN 0+1),rfl,rfl,aa,rfl,hHw _,(by rw[sP,hpub]),sW _,by simp;omega,hcn1,g.ext v7,aa,hG,hu0,kp3' _,xE.trans (v7.mono xE.1)⟩;rw[<- hT j hj];repeat rw[Ke aa]
   exact(v0 j aa).trans (by simp only[Z7];repeat rw[Ke aa])
 ·have hxs':=hxs;rw[hpub]at hxs';obtain⟨oN,hoN⟩:∃oN:Nat,(0:Int)=(oN:Int):=⟨0,rfl⟩;have hHr:Has (M2++[AObj.cells [.int .i64 0,.nilsl] 70]) bt xv xs:=hH2.app _;have hPr:(M2++[AObj.cells [.int .i64 0,.nilsl] 70])[M2.length]? = some (.cells [.int .i64 0,.nilsl] 70):=jad _ _;have hPp:(M2++[AObj.cells [.int .i64 0,.nilsl] 70])[p]? = _:=jaE p2 _;have hPw:(M2++[AObj.cells [.int .i64 0,.nilsl] 70])[w]? = _:=jaE w2 _;have hKr:∀j,j<M'.length->j ≠ bt->(M2++[AObj.cells [.int .i64 0,.nilsl] 70])[j]? = M'[j]? := λj hj h1=>by rw[Kj aa];exact hK2.2 j hj h1
  simp only[simprocAttr,yK,K0,jaa,ty7,al1,uq,fo30,jaJ,u3,u4,u6,u7,u8,u9,u10,c1,hT2,w1,bd70,YW,jad,jan,jac,hxs',jaq,ha1,ha2];refine jmx K hk hi ⟨qc,hcv'⟩ hcl.2 (p:=M2.length) (o:=(0:Int)) (by have:=hH2.lt;omega) hHr hPr u3 u4 u6 rfl rfl λT2 M3 ts3 uu vs v0 v1 v2 v3 v4 v5 v6 v7 => ?_
  have x3:T2 3=.ptr bt 0:=(v0 3 aa).trans u3;have x4:T2 4=.row (jaY ss) ss.length q:=(v0 4 aa).trans u4;have x6:T2 6=.int .i64 i:=(v0 6 aa).trans u6;have x7:T2 7=.ptr p 0:=(v0 7 aa).trans u7;have x8:T2 8=.hsl w 0 6 6 .exact:=(v0 8 aa).trans u8;have x9:T2 9=.int .i64 many:=(v0 9 aa).trans u9;have x10:T2 10=.int .i64 k:=(v0 10 aa).trans u10;have x11:T2 11=.ptr M2.length 0:=v0 11 aa;have pl:=jao p2;have wl:=jao w2
  have p3:M3[p]? = some (.cells [.str (ss.getD i Sch.none).name,.bool (ss.getD i Sch.none).pub,.int .i64 (ss.getD i Sch.none).many,(ss.getD i Sch.none).cv,u] 79):=by
   rw[v6.2 p (by simp;omega) hne.1 aa];exact hPp
  have w3:M3[w]? = some (.cells (os.map (V.int .i64)) 3):=by
   rw[v6.2 w (by simp;omega) hne.2.1 aa];exact hPw
  have ho6:oN<os.length:=aa;have hix:=jsH w (show oN<6 by omega);rw[<- hoN]at hix;have hat:=jk7 ho6 3;have hst:=jmy ho6 (os.getD oN 0+1);have hb:=hcn oN aa;have hb0:(0:Int)<=os.getD oN 0:=aa;have e2:IntKind.i64.wrap (os.getD oN 0+1)=os.getD oN 0+1:=wrap_i64 aa aa;have hpn:M2.length ≠ w:=aa;have sW:∀x,(M3.set w x)[w]? = some x:=λx=>Km (jao w3)
  have sR:∀x,(M3.set w x)[M2.length]? = some (.cells [.int .i64 (0:Int),uu] 70):=λx=>by rw[Kh (Ne.symm hpn)];exact v2
  have sP:∀x,(M3.set w x)[p]? = some (.cells [.str (ss.getD i Sch.none).name,.bool (ss.getD i Sch.none).pub,.int .i64 (ss.getD i Sch.none).many,(ss.getD i Sch.none).cv,u] 79):=λx=>by rw[Kh (Ne.symm hne.2.2)];exact p3
  have lw:os.length<=6:=aa;have fits:oN+1<=(os.map (V.int .i64)).length:=by simp;omega
  have hat2:=jk7 (l:=os.set oN (os.getD oN 0+1)) (n:=oN) (by simp;omega) 3;rw[show(os.set oN (os.getD oN 0+1)).getD oN 0=os.getD oN 0+1 by simp[List.getD,ho6]]at hat2;obtain⟨qu,huu⟩:=v3.isrow aa;have ld:=ld2n (sR (.cells ((os.set oN (os.getD oN 0+1)).map (V.int .i64)) 3));have guu:=v3.cells
  obtain⟨u',ts4,hA,gA,xA⟩:=GrowV.push (E:=env) (hp:=M3.set w (.cells ((os.set oN (os.getD oN 0+1)).map (V.int .i64)) 3)) (q:=.full) (new:=[.int .i64 (0:Int),uu]) eRw ⟨70,eRw.slice⟩ (g.ext v7) (Jp xE.1 v7.1) rfl (by simp only[Ks,Qn,jac,guu.2,K8]) (by
   have hlim:lim=2^40:=rfl;exact⟨by rw[hlim];omega,by rw[hlim];omega⟩)
  obtain⟨ga1,ga2⟩:=gA.cells;have hrow:RowG (ss.getD i Sch.none) ((0:Int),vs):=⟨λ_=>rfl,(λhp=>by rw[hpub]at hp;cases hp),v4,by rw[<- v4];exact v5⟩
  have kp3:∀x y:AObj,Kp3 M ((M3.set w x).set p y) bt p w:=λx y=>⟨by have:=v6.1;have:=hK.1;simp at *;omega,λj hj h1 h2 h3=>by
   rw[Kh (Ne.symm h2),Kh (Ne.symm h3),v6.2 j (by have:=hK.1;simp;omega) h1 (by have:=hK.1;omega),hKr j (by have:=hK.1;omega) h1];exact hK.2 j hj h1 h2 h3⟩
  have kp3':∀x:AObj,Kp3 M (M3.set w x) bt p w:=λx=>⟨by have:=v6.1;have:=hK.1;simp at *;omega,λj hj h1 h2 h3=>by
   rw[Kh (Ne.symm h3),v6.2 j (by have:=hK.1;simp;omega) h1 (by have:=hK.1;omega),hKr j (by have:=hK.1;omega) h1];exact hK.2 j hj h1 h2 h3⟩
  have hHw:∀x,Has (M3.set w x) bt xv xs:=λx=>by
   obtain⟨a,h1,h2⟩:=v1;exact⟨a,h1,by rw[Kh hne.2.1];exact h2⟩
  have hHp:∀x y,Has ((M3.set w x).set p y) bt xv xs:=λx y=>by
   obtain⟨a,h1,h2⟩:=hHw x;exact⟨a,h1,by rw[Kh hne.1];exact h2⟩
  have hcnt:∀o':Nat,o'<6->(os.set oN (os.getD oN 0+1)).getD o' 0=os.getD o' 0+(if o'=oN then 1 else 0):=λo' h'=>by
   by_cases e:o'=oN
   ·rw[Kg e,e];simp[List.getD,ho6]
   ·rw[Ke e];simp[List.getD,Kh (Ne.symm e)]
  have hcn1:∀o':Nat,o'<6->(cnt (o':Int) (ws.map Rw.pl):Int)<=(os.set oN (os.getD oN 0+1)).getD o' 0/\(os.set oN (os.getD oN 0+1)).getD o' 0<=((k+1:Nat):Int):=λo' h'=>by
   have:=hcn o' h';rw[hcnt o' h'];split<;>omega
  have hpl:((ws++[(⟨(0:Int),uu,vs⟩:Rw)]).map Rw.pl)=ws.map Rw.pl++[((0:Int),vs)]:=by simp[Rw.pl]
  have hcn2:∀o':Nat,o'<6->(cnt (o':Int) ((ws++[(⟨(0:Int),uu,vs⟩:Rw)]).map Rw.pl):Int)<=(os.set oN (os.getD oN 0+1)).getD o' 0/\(os.set oN (os.getD oN 0+1)).getD o' 0<=((k+1:Nat):Int):=λo' h'=>by
   have:=hcn o' h';rw[hcnt o' h',hpl,jiU]
   have e3:cnt (o':Int) [(((0:Int),vs):PR)]=if o'=oN then 1 else 0:=by
    by_cases e:o'=oN
    ·rw[Kg e,hoN,e];simp[cnt]
    ·rw[Ke e,hoN];simp only[cnt];rw[Vl (by simp;omega)];rfl
   rw[e3];split<;>(simp only[Vh]at *;omega)
  have rG:((ss.getD i Sch.none).pub=false->os.getD oN 0+1<=(ss.getD i Sch.none).many)->RowsG (ss.getD i Sch.none) (ws++[(⟨(0:Int),uu,vs⟩:Rw)]):=λhle=>by
   refine⟨λr hr => ?_,λr hr => ?_,λhp o' => ?_⟩
   ·rcases Jl.1 hr with h|h
    ·exact hG.v r h
    ·rw[J4.1 h];exact⟨qu,huu⟩
   ·rcases Jl.1 hr with h|h
    ·exact hG.g r h
    ·rw[J4.1 h];exact hrow
   ·rw[hpl,jiU];have hm:=hG.m hp o';have h1:=hle hp;have hb:=hb.1;by_cases e:o'=((oN:Nat):Int)
    ·subst e;have e3:cnt ((oN:Nat):Int) [(((0:Int),vs):PR)]=1:=by rw[hoN];simp[cnt]
     rw[e3];omega
    ·have e3:cnt o' [(((0:Int),vs):PR)]=0:=by
      rw[hoN];simp only[cnt];rw[Vl (by simp;exact λh=>e h.symm)];rfl
     rw[e3];omega
  simp only[simprocAttr,yK,K0,jaa,jac,YW,jaq,ty7,al1,uq,fo30,jaJ,x3,x4,x6,x7,x8,x9,x10,x11,v2,w3,hix,hat,e2,hst,fits,sR,sW,sP,hat2,ld,hxs',jar,jqd,hA,ga1,ga2,e1,ha1,ha2];refine⟨ac,many-(k+1),aa,λj hj => ?_,_,ts4,k+1,u',ws++[(⟨(0:Int),uu,vs⟩:Rw)],os.set oN (os.getD oN 0+1),rfl,rfl,aa,rfl,hHp _ _,(by rw[Km (jao (sP _)),hpub]),by rw[Kh hne.2.2];exact sW _,by simp;omega,hcn2,?_,by simp;omega,rG (λh=>(by rw[hpub]at h;cases h)),λh=>absurd h ae,kp3 _ _,xE.trans ((v7.mono xE.1).trans xA)⟩
  ·rw[<- hT j hj];repeat rw[Ke aa]
   exact(v0 j aa).trans (by simp only[Z7];repeat rw[Ke aa])
  ·rw[Kk,Ju,jfA];exact gA
end
structure BaseG (cs:List Col) (tbs:List Tb):Prop where
 k:KitL cs (tbs.map (·.s))
 r:∀t∈tbs,RowsG t.s t.rows/\t.rows.length<=12
 v:∀t∈tbs,(t.rv=.nilsl/\t.rows=[])\/∃q,t.rv=.row (jcr t.rows) t.rows.length q
theorem bd79(a:List UInt8)(b:Bool)(c:Int)(cs:List V)(n:Nat)(q:RCap):jbD env 79 [(0,.agg [.str a,.bool b,.int .i64 c,.row cs n q])]=some (.agg [.str a,.bool b,.int .i64 c,.row cs n q,.nilsl]):=ac
theorem mk6(L:List AObj)(ts:List Nat):jrg env true ⟨L,ts⟩ 22 (.int .i64 6) (.int .i64 6)=some (.hsl L.length 0 6 6 .exact,⟨L++[.cells (([0,0,0,0,0,0]:List Int).map (V.int .i64)) 3],ts⟩):=by
 have z3:jba env 3=some (.int .i64 0):=ac;have hl:(6:Int)<=(lim:Int)/\(6:Int)*((8:Nat):Int)<=(lim:Int):=af;simp only[jrg,eI.elem,eI.size,eI.bytes,Kq,z3];simp[hl,S.push,V.cells];decide
theorem ld5n {h:List AObj}{n:Nat}{a b c d e:V}{t:TypeId}(hh:h[n]? = some (.cells [a,b,c,d,e] t)):jab h 5 (.ptr n 0)=some [a,b,c,d,e]:=by simp[jab,hh]
theorem jub(a b c d e:V):rowO env 51 1 [(0,.agg [a,b,c,d,e])]=some (.row [a,b,c,d,e] 1 .full):=ac
theorem jsJ {xv:V}{xs:List Int}(K:Tk xv xs)(L:List AObj)(ts:List Nat) :
  ∃v U',jah env (ev env) 32 [xv] ⟨L,ts⟩=some (v,U')/\∃L' ts' cs tbs q,U'=⟨L',ts'⟩/\v=.row (jbc tbs) tbs.length q/\BaseG cs tbs/\Ext ts.length ts ts'/\L.length<=L'.length/\∀j,j<L.length->L'[j]? = L[j]? := by
 have hH:Has (L++[tk xv 0]) L.length xv xs:=⟨0,Qm _,jad _ _⟩;obtain⟨v,_,hc,L1,ts1,cs,ss,rfl,g,g1,g2,g3,g4,g5,g6,g7,g8⟩:=jma K hH ts;obtain⟨q,rfl⟩:=g.isrow g3;have hc:jah env (ev env) 77 [.ptr L.length 0] ⟨L++[.cells [xv,.int .i64 0] 93],ts⟩=some (.row (jaY ss) ss.length q,⟨L1,ts1⟩):=hc;have b39:=jny K.hx;have cx:=jcv K.hx;have hlim:lim=2^40:=rfl;refine jaD at32 rfl ?_;simp only[Tryz.f32,simprocAttr,zK,K0,jaa,ty7,al1,uq,b39,cx,hc]
 refine jau (λm T D U=>D=[]/\T 3=.ptr L.length 0/\T 4=.row (jaY ss) ss.length q/\∃(M:List AObj) (ts':List Nat) (i:Nat) (u:V) (tbs:List Tb),U=⟨M,ts'⟩/\T 6=.int .i64 i/\T 5=u/\i<=ss.length/\m=ss.length-i/\Has M L.length xv xs/\GrowV ts.length ts' 5 u i (jbc tbs)/\tbs.map (·.s)=ss.take i /\
   (∀t∈tbs,RowsG t.s t.rows/\t.rows.length<=12)/\(∀t∈tbs,(t.rv=.nilsl/\t.rows=[])\/∃q,t.rv=.row (jcr t.rows) t.rows.length q)/\Ext ts.length ts ts'/\Kp L M L.length) ?_ (ss.length-0) _ _ _
  ⟨rfl,rfl,rfl,L1,ts1,0,.nilsl,[],rfl,rfl,rfl,Qm _,rfl,g7,.nil,rfl,(λt h=>by cases h),(λt h=>by cases h),g8,(Kp.app [tk xv 0] L.length).trans g6⟩
 rintro m T D U ⟨rfl,t3,t4,M,ts',i,u,tbs,rfl,t6,t5,hi,rfl,hHM,g,hss,hrw,hrv,xE,hK⟩;refine jaC ?_;by_cases hlt:i<ss.length
 ·have c1:(i:Int)<(ss.length:Int):=by omega
  have e1:IntKind.i64.wrap ((i:Int)+1)=((i+1:Nat):Int):=by rw[wrap_i64 aa aa];omega
  have hS:=g5 i hlt;have hkits:=hS.sub.kits g1 g2;obtain⟨qc,hcv⟩:=hS.row;obtain⟨rr,hxs⟩:=jiP ss q hlt;rw[hcv]at hxs;have b79:=bd79 (ss.getD i Sch.none).name (ss.getD i Sch.none).pub (ss.getD i Sch.none).many (jaO (ss.getD i Sch.none).cs) (ss.getD i Sch.none).cs.length qc;have ir:∀(a:List V) (n:Nat) (c:RCap),(V.row a n c).isCell=true:=λ_ _ _=>rfl
  have inl:V.nilsl.isCell=true:=rfl;obtain⟨P,hP⟩:∃P,P=AObj.cells [.str (ss.getD i Sch.none).name,.bool (ss.getD i Sch.none).pub,.int .i64 (ss.getD i Sch.none).many,.row (jaO (ss.getD i Sch.none).cs) (ss.getD i Sch.none).cs.length qc,.nilsl] 79:=⟨_,rfl⟩;obtain⟨W,hW⟩:∃W,W=AObj.cells (([0,0,0,0,0,0]:List Int).map (V.int .i64)) 3:=⟨_,rfl⟩;have hH2:Has (M++[P]++[W]) L.length xv xs:=(hHM.app _).app _;have hp1:(M++[P]++[W])[M.length]? = some P:=jaE (jad _ _) _;have hw1:(M++[P]++[W])[(M++[P]).length]? = some W:=jad _ _;have hbl:=hHM.lt;obtain⟨r,M2,hT2,hH3,hK2,hl2,a0,a1,_⟩:=jaS K hH2 13 (by simp[In64]);have a2:=a1 af;have hT2:=hT2 ts';obtain⟨mn,hmn⟩:∃mn:Nat,r=(mn:Int):=⟨r.toNat,aa⟩;subst hmn;have hp2:=(hK2.2 M.length ae aa).trans hp1;have hw2:=(hK2.2 (M++[P]).length ae (by simp;omega)).trans hw1;have mk:=mk6 (M++[P]) ts';rw[<- hW]at mk;have mbt:env.mutb 32 8=true:=rfl;simp only[simprocAttr,yK,K0,jaa,ty7,al1,uq,fo30,jaJ,t3,t4,t5,t6,c1,hxs,Yt,jaM,b79,YW,jad,jan,jae,jam,jac,ir,inl,<- hP,jgE,mbt,mk,hT2];rw[hP,<- hcv]at hp2;rw[hW]at hw2;refine jsI K hkits hlt ⟨qc,hcv⟩ ⟨hS.ne,by have:=hS.le;omega⟩ (by rcases hS.pb with⟨a,b,_⟩|h;exact .inl ⟨a,b⟩;exact .inr h) (p:=M.length) (w:=(M++[P]).length) (many:=mn) aa ⟨aa,by simp;omega,ae⟩ hH3 hp2 hw2 t3 t4 t6 rfl rfl rfl rfl λT' M' ts2 u2 ws v0 v1 v2 v3 v4 v5 v6 v7 v8 => ?_
  have x3:T' 3=.ptr L.length 0:=(v0 3 aa).trans t3;have x4:T' 4=.row (jaY ss) ss.length q:=(v0 4 aa).trans t4;have x5:T' 5=u:=(v0 5 aa).trans t5;have x6:T' 6=.int .i64 i:=(v0 6 aa).trans t6;have x7:T' 7=.ptr M.length 0:=v0 7 aa;have ld:=ld5n v2;have gu:=v3.cells;have icv:(ss.getD i Sch.none).cv.isCell=true:=by rw[hcv];rfl
  obtain⟨u',ts3,hA,gA,xA⟩:=GrowV.push (E:=env) (hp:=M') (q:=.full) (new:=[.str (ss.getD i Sch.none).name,.bool (ss.getD i Sch.none).pub,.int .i64 (ss.getD i Sch.none).many,(ss.getD i Sch.none).cv,u2]) eTb ⟨79,eTb.slice⟩ (g.ext v8) (Jp xE.1 v8.1) rfl (by simp only[Ks,Qn,jae,jam,jac,icv,gu.2,K8]) ⟨by rw[hlim];omega,by rw[hlim];omega⟩;simp only[simprocAttr,zK,K0,jaa,ty7,al1,uq,x3,x4,x5,x6,x7,ld,jar,jub,hA,e1]
  have hap:∀{p:Tb->Prop},(∀t∈tbs,p t)->p ⟨ss.getD i Sch.none,u2,ws⟩->∀t∈tbs++[⟨ss.getD i Sch.none,u2,ws⟩],p t:=λh1 h2 t ht=>by
   rcases Jl.1 ht with h|h
   ·exact h1 t h
   ·rw[J4.1 h];exact h2
  refine⟨ss.length-(i+1),aa,M',ts3,i+1,u',tbs++[⟨ss.getD i Sch.none,u2,ws⟩],rfl,rfl,rfl,aa,rfl,v1,?_,?_,hap hrw ⟨v5,v4⟩,hap hrv ?_,xE.trans ((v8.mono xE.1).trans xA),?_⟩
  ·rw[jfC];exact gA
  ·rw[Js,hss,Vw,Kz hlt];simp[List.getD,hlt]
  ·by_cases hw:ws=[]
   ·exact .inl ⟨v6 hw,hw⟩
   ·exact .inr (v3.isrow (Xy.2 hw))
  ·have hkk:=hK;refine⟨by have:=hK.1;have:=v7.1;rw[hl2]at this;simp at this;omega,λy hy hb => ?_⟩;have hyM:y<M.length:=by have:=hK.1;omega
   rw[v7.2 y (by rw[hl2];simp;omega) hb aa (by simp;omega),hK2.2 y (by simp;omega) hb,K7,Kj hyM];exact hK.2 y hy hb
 ·have hie:i=ss.length:=by omega
  subst hie;have c1:((ss.length:Int)<(ss.length:Int))=False:=eq_false aa;simp only[simprocAttr,zK,K0,jaa,ty7,al1,uq,t3,t4,t5,t6,c1,Yt];rw[Jh]at hss;obtain⟨qb,rfl⟩:=g.isrow g3;have hlen:tbs.length=ss.length:=by rw[<- hss];simp
  exact⟨M,ts',cs,tbs,qb,rfl,by rw[hlen];rfl,⟨by rw[hss];exact⟨g1,g2,g3,g4,g5⟩,hrw,hrv⟩,xE,hK.1,λj hj=>hK.2 j hj aa⟩
end Go.Proofs.YtajaampgajieeaaGreatDoor.N
