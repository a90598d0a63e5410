/- Proved here: tables as values, and copies of them. Conditions: each theorem's own. -/
import Derived.Test.YtajaampgajieeaaGreatDoorSpA
set_option linter.unusedSimpArgs false
set_option linter.unusedVariables false
set_option linter.unusedSectionVars false
set_option maxHeartbeats 16000000
set_option maxRecDepth 1000000
namespace Go.Proofs.YtajaampgajieeaaGreatDoor
open Go.Ab
abbrev PR:=Int × List Int
def jl6(n:Int):List Int->List PR->List PR
 |_,[]=>[]
 |seen,r::l=>if((seen.count r.1:Nat):Int)+1<=n then r::jl6 n (r.1::seen) l else jl6 n (r.1::seen) l
def jl7(pub:Bool)(left right:Nat)(r s:PR):Prop:=s.2.getD right 0=r.2.getD left 0/\(pub=true\/s.1=r.1)
instance (pub:Bool) (left right:Nat) (r s:PR):Decidable (jl7 pub left right r s):=inferInstanceAs (Decidable (_/\_))
def jhG(pub:Bool)(left right:Nat)(limit:Int)(r:PR):List PR->Int->List PR
 | [],_=>[]
 |s::o,m=>if m<limit/\jl7 pub left right r s then(r.1,r.2++s.2)::jhG pub left right limit r o (m+1)else jhG pub left right limit r o m
def jjf(pub:Bool)(left right:Nat)(limit:Int)(o:List PR)(l:List PR):List PR:=l.flatMap λr=>jhG pub left right limit r o 0
def cnt(o:Int)(l:List PR):Nat:=l.countP λr=>decide (r.1=o)
theorem jfA(n:Int):∀(l:List PR) (seen:List Int),(jl6 n seen l).Sublist l
 | [],_=>List.Sublist.slnil
 |r::l,seen=>by
  simp only[jl6];split
  ·exact(jfA n l _).cons_cons _
  ·exact(jfA n l _).cons _
theorem jiN(pub:Bool)(left right:Nat)(limit:Int)(r:PR):∀(o:List PR) (m:Int),∀x∈jhG pub left right limit r o m,x.1=r.1/\∃s∈o,x.2=r.2++s.2/\jl7 pub left right r s
 | [],_,x,hx=>by simp[jhG]at hx
 | s::o,m,x,hx=>by
  simp only[jhG]at hx;split at hx
  ·rename_i h
   rcases Ji.1 hx with rfl|hx
   ·exact⟨rfl,s,by simp,rfl,h.2⟩
   ·obtain⟨a,t,ht,b⟩:=jiN pub left right limit r o (m+1) x hx;exact⟨a,t,by simp[ht],b⟩
  ·obtain⟨a,t,ht,b⟩:=jiN pub left right limit r o m x hx;exact⟨a,t,by simp[ht],b⟩
theorem jgL(pub:Bool)(left right:Nat)(limit:Int)(r:PR):∀(o:List PR) (m:Int),((jhG pub left right limit r o m).length:Int)<=max 0 (limit-m)
 | [],m=>by simp[jhG];omega
 | s::o,m=>by
  simp only[jhG];split
  ·have:=jgL pub left right limit r o (m+1);simp only[Qi];omega
  ·exact jgL pub left right limit r o m
theorem jkM(o:Int)(a b:List PR):cnt o (a++b)=cnt o a+cnt o b:=by simp[cnt]
theorem jpX(pub:Bool)(left right:Nat)(limit:Int)(o:List PR)(r:PR)(l:List PR):jjf pub left right limit o (r::l)=jhG pub left right limit r o 0++jjf pub left right limit o l:=by simp[jjf]
structure VP where
 rows:List PR
 keep:Int
 jn:Option (List PR × Bool × Nat × Nat × Int)
 hold:Option (List Int->Bool)
def VP.kept(v:VP):List PR:=if v.keep=0 then v.rows else jl6 v.keep [] v.rows
def VP.joined(v:VP):List PR :=
 match v.jn with
 |none=>v.kept
 |some (o,pub,left,right,limit)=>jjf pub left right limit o v.kept
def VP.view(v:VP):List PR :=
 match v.hold with
 |none=>v.joined
 |some p=>v.joined.filter λr=>p r.2
theorem VP.view_sub(v:VP):v.view.Sublist v.joined:=by
 unfold VP.view;split
 ·exact List.Sublist.refl _
 ·exact List.filter_sublist
def jb7(w:Nat)(l:List (Nat × Int)):List Int:=(List.range w).map λi=>(l.filter λx=>decide (x.1=i)).foldl (λa x=>a+x.2) 0
def sumI(l:List Int):Int:=l.foldl (λa x=>a+x) 0
theorem jl8(l:List (Nat × Int)):∀a:Int,l.foldl (λa x=>a+x.2) a=a+l.foldl (λa x=>a+x.2) 0:=by
 induction l with
 |nil=>intro a;simp
 |cons x l ih=>intro a;rw[Xu,Xu,ih (a+x.2),ih (0+x.2)];omega
theorem jl9(l:List Int):∀a:Int,l.foldl (λa x=>a+x) a=a+sumI l:=by
 unfold sumI
 induction l with
 |nil=>intro a;simp
 |cons x l ih=>intro a;rw[Xu,Xu,ih (a+x),ih (0+x)];omega
theorem jdb(x:Int)(l:List Int):sumI (x::l)=x+sumI l:=by
 show List.foldl _ (0+x) l=_;rw[jl9];omega
theorem joO(a b:List Int):sumI (a++b)=sumI a+sumI b:=by
 unfold sumI;rw[List.foldl_append,jl9];rfl
theorem jcD(w:Nat)(l:List (Nat × Int)):(jb7 w l).length=w:=by simp[jb7]
theorem jhk(w:Nat):jb7 w []=List.replicate w 0:=by
 show(List.range w).map (λ_=>(0:Int))=_;rw[List.map_const',Un]
theorem jgM {w:Nat}{l:List (Nat × Int)}{i:Nat}(h:i<w):(jb7 w l).getD i 0=(l.filter λx=>decide (x.1=i)).foldl (λa x=>a+x.2) 0:=by
 simp[jb7,List.getD,h]
theorem jiO(w:Nat)(l:List (Nat × Int))(x:Nat × Int):jb7 w (l++[x])=(jb7 w l).set x.1 ((jb7 w l).getD x.1 0+x.2):=by
 refine Xt λi => ?_
 rw[J4];by_cases hi:i<w
 ·have e1:(jb7 w (l++[x]))[i]? = some ((jb7 w (l++[x])).getD i 0):=by simp[List.getD,jb7,hi]
  have e2:(jb7 w l)[i]? = some ((jb7 w l).getD i 0):=by simp[List.getD,jb7,hi]
  rw[e1,e2,jgM hi];rw[List.filter_append,List.foldl_append];by_cases h:x.1=i
  ·subst h;rw[Kh rfl,jcD,Kh hi,jgM hi];simp
  ·rw[Ke h,jgM hi];simp[h]
 ·rw[Qk (by rw[jcD];omega),Qk (by rw[jcD];omega)];by_cases h:x.1=i
  ·rw[Kh h,jcD,Ke (by omega)]
  ·rw[Ke h]
theorem jrZ(n:Nat):sumI (List.replicate n 0)=0:=by
 induction n with
 |zero=>rfl
 |succ n ih=>rw[Xv,jdb,ih];rfl
theorem jhz {α:Type}(f g:α->Int):∀l:List α,sumI (l.map λx=>f x+g x)=sumI (l.map f)+sumI (l.map g)
 | []=>rfl
 |x::l=>by rw[K9,K9,K9,jdb,jdb,jdb,jhz f g l];omega
theorem joP(k:Nat)(a:Int):∀n,sumI ((List.range n).map λi=>if k=i then a else 0)=if k<n then a else 0
 |0=>by simp[sumI]
 | n+1=>by
  rw[List.range_succ,J6,joO,joP k a n];simp only[K9,Jz,jdb,show sumI []=0 from rfl];by_cases h:k<n
  ·rw[Kh h,Ke (by omega),Kh (by omega)];omega
  ·by_cases e:k=n
   ·rw[Ke h,Kh e,Kh (by omega)];omega
   ·rw[Ke h,Ke e,Ke (by omega)];omega
theorem jjU {w:Nat}:∀{l:List (Nat × Int)},(∀x∈l,x.1<w)->sumI (jb7 w l)=sumI (l.map (·.2))
 | [],_=>by rw[jhk,jrZ];rfl
 | x::l,h=>by
  have ih:=jjU (w:=w) (l:=l) λy hy=>h y (by simp[hy])
  have hx:=h x (by simp)
  have e:jb7 w (x::l)=(List.range w).map λi=>(if x.1=i then x.2 else 0)+(l.filter λx=>decide (x.1=i)).foldl (λa x=>a+x.2) 0:=List.map_congr_left λi _=>by
   by_cases hi:x.1=i
   ·rw[List.filter_cons_of_pos (by simpa using hi),Xu,jl8,Kh hi];simp
   ·rw[List.filter_cons_of_neg (by simpa using hi),Ke hi];simp
  rw[e,jhz,joP,Kh hx,K9,jdb];rw[<- ih];rfl
structure Rw where
 own:Int
 vv:V
 vs:List Int
def Rw.none:Rw:=⟨0,.nilsl,[]⟩
def Rw.cells(r:Rw):List V:=[.int .i64 r.own,r.vv]
abbrev Rw.pl(r:Rw):PR:=(r.own,r.vs)
def jcw(l:List Rw):List V:=(l.map Rw.cells).flatten
theorem jcE(r:Rw)(l:List Rw):jcw (r::l)=.int .i64 r.own::r.vv::jcw l:=rfl
theorem jgN(a b:List Rw):jcw (a++b)=jcw a++jcw b:=by simp[jcw]
theorem jjV:∀(l:List Rw) (i:Nat),(jcw l).drop (i*2)=jcw (l.drop i)
 |l,0=>by simp
 | [],i+1=>by simp[jcw]
 |r::l,i+1=>by
  rw[jcE,show(i+1)*2=i*2+1+1 by omega,K7,K7,jjV l i,K7]
theorem jtf {l:List Rw}{i:Nat}(hi:i<l.length):jcw (l.drop i)=.int .i64 (l.getD i Rw.none).own::(l.getD i Rw.none).vv::jcw (l.drop (i+1)):=by
 have e:l.drop i=l.getD i Rw.none::l.drop (i+1):=by
  rw[Qn hi];simp[List.getD,hi]
 rw[e,jcE]
def IsR(v:V)(l:List Rw):Prop:=(v=.nilsl/\l=[])\/∃q,(q=RCap.unk\/q=RCap.full)/\v=.row (jcw l) l.length q
def OkR(l:List Rw):Prop:=∀r∈l,W.IsI r.vv r.vs/\(∀x∈r.vs,In64 x)/\In64 r.own
theorem OkR.at {l:List Rw}(h:OkR l){i:Nat}(hi:i<l.length):W.IsI (l.getD i Rw.none).vv (l.getD i Rw.none).vs/\(∀x∈(l.getD i Rw.none).vs,In64 x)/\In64 (l.getD i Rw.none).own:=h _ (by simp[List.getD,hi])
theorem jjg {v:V}{l:List Rw}(h:IsR v l)(e:TypeId):ja9 (some (.slice e)) v=some (.int .i64 l.length):=by
 rcases h with⟨rfl,rfl⟩|⟨q,_,rfl⟩<;>simp[ja9]
theorem jma {v:V}{l:List Rw}(h:IsR v l){i:Nat}(hi:i<l.length):jaw 2 v (.int .i64 (i:Int))=some (.rptr (.int .i64 (l.getD i Rw.none).own::(l.getD i Rw.none).vv::jcw (l.drop (i+1)))):=by
 rcases h with⟨rfl,rfl⟩|⟨q,_,rfl⟩
 ·simp at hi
 ·rw[Ys,Kh (by omega),Qj,jjV,jtf hi]
theorem jfB:∀{l:List Rw},OkR l->V.closed.closedL (jcw l)=true
 | [],_=>rfl
 |r::l,h=>by
  rw[jcE];simp only[V.closed.closedL,V.closed,W.closed_I (h r (by simp)).1,jfB (l:=l) λx hx=>h x (by simp[hx]),K8]
theorem jhX {v:V}{l:List Rw}(h:IsR v l)(ok:OkR l):v.closed=true:=by
 rcases h with⟨rfl,rfl⟩|⟨q,rfl|rfl,rfl⟩
 ·rfl
 ·simp only[V.closed,jfB ok,K8]
 ·simp only[V.closed,jfB ok,K8]
structure Tb where
 s:Sch
 rv:V
 rows:List Rw
def Tb.none:Tb:=⟨Sch.none,.nilsl,[]⟩
def Tb.cells(t:Tb):List V:=[.str t.s.name,.bool t.s.pub,.int .i64 t.s.many,t.s.cv,t.rv]
def jcF(l:List Tb):List V:=(l.map Tb.cells).flatten
theorem jdX(t:Tb)(l:List Tb):jcF (t::l)=.str t.s.name::.bool t.s.pub::.int .i64 t.s.many::t.s.cv::t.rv::jcF l:=rfl
theorem jr0(a b:List Tb):jcF (a++b)=jcF a++jcF b:=by simp[jcF]
theorem jjW:∀(l:List Tb) (i:Nat),(jcF l).drop (i*5)=jcF (l.drop i)
 |l,0=>by simp
 | [],i+1=>by simp[jcF]
 |r::l,i+1=>by
  rw[jdX,show(i+1)*5=i*5+1+1+1+1+1 by omega,K7,K7,K7,K7,K7,jjW l i,K7]
theorem jtg {l:List Tb}{i:Nat}(hi:i<l.length):jcF (l.drop i)=.str (l.getD i Tb.none).s.name::.bool (l.getD i Tb.none).s.pub::.int .i64 (l.getD i Tb.none).s.many::(l.getD i Tb.none).s.cv::(l.getD i Tb.none).rv::jcF (l.drop (i+1)):=by
 have e:l.drop i=l.getD i Tb.none::l.drop (i+1):=by
  rw[Qn hi];simp[List.getD,hi]
 rw[e,jdX]
def IsB(v:V)(l:List Tb):Prop:=(v=.nilsl/\l=[])\/∃q,(q=RCap.unk\/q=RCap.full)/\v=.row (jcF l) l.length q
structure OkB (l:List Tb):Prop where
 cv:∀t∈l,IsC t.s.cv t.s.cs/\OkC t.s.cs
 rv:∀t∈l,IsR t.rv t.rows/\OkR t.rows
theorem Tb.mem {l:List Tb}{i:Nat}(hi:i<l.length):l.getD i Tb.none∈l:=by simp[List.getD,hi]
theorem ju8 {v:V}{l:List Tb}(h:IsB v l)(e:TypeId):ja9 (some (.slice e)) v=some (.int .i64 l.length):=by
 rcases h with⟨rfl,rfl⟩|⟨q,_,rfl⟩<;>simp[ja9]
theorem jnu {v:V}{l:List Tb}(h:IsB v l){i:Nat}(hi:i<l.length):jaw 5 v (.int .i64 (i:Int))=some (.rptr (.str (l.getD i Tb.none).s.name::.bool (l.getD i Tb.none).s.pub::.int .i64 (l.getD i Tb.none).s.many::(l.getD i Tb.none).s.cv::(l.getD i Tb.none).rv::jcF (l.drop (i+1)))):=by
 rcases h with⟨rfl,rfl⟩|⟨q,_,rfl⟩
 ·simp at hi
 ·rw[Ys,Kh (by omega),Qj,jjW,jtg hi]
theorem jfC:∀{l:List Tb},OkB l->V.closed.closedL (jcF l)=true
 | [],_=>rfl
 |t::l,h=>by
  have h1:=h.cv t (by simp);have h2:=h.rv t (by simp);rw[jdX];simp only[V.closed.closedL,V.closed,ja3 h1.1 h1.2,jhX h2.1 h2.2,jfC (l:=l) ⟨λx hx=>h.cv x (by simp[hx]),λx hx=>h.rv x (by simp[hx])⟩,K8]
theorem jth {v:V}{l:List Tb}(h:IsB v l)(ok:OkB l):v.closed=true:=by
 rcases h with⟨rfl,rfl⟩|⟨q,rfl|rfl,rfl⟩
 ·rfl
 ·simp only[V.closed,jfC ok,K8]
 ·simp only[V.closed,jfC ok,K8]
end Go.Proofs.YtajaampgajieeaaGreatDoor
namespace Go.Proofs.YtajaampgajieeaaGreatDoor.B
open Go.Ab
theorem mb(f:FuncId)(r:Nat):env.mutb f r=(f==237 ||f==128 && r==5 ||f==130 && r==5 ||f==69):=rfl
theorem stb(f:FuncId)(r:Nat)(h:(f==41 && r==13 ||f==120 && r==5 ||f==203 && r==9 ||f==37 && r==8 ||f==128 && r==9 ||f==130 && r==9 ||f==216 && r==3 ||f==36 && r==3)=false):env.stab f r=false:=h
theorem tys:env.P.underlying 3=some (.int .i64)/\env.P.underlying 4=some .bool/\env.P.underlying 9=some .string/\env.P.underlying 22=some (.slice 3)/\env.P.underlying 24=some (.slice 38)/\env.P.underlying 26=some (.slice 84)/\env.P.underlying 32=some (.int .i64)/\env.P.underlying 36=some (.slice 41)/\env.P.underlying 51=some (.slice 79)/\env.P.underlying 60=some (.slice 70)/\sz env 3=some 1/\sz env 4=some 1/\sz env 9=some 1/\sz env 22=some 1/\sz env 24=some 1/\sz env 26=some 1/\sz env 30=some 20/\sz env 32=some 1/\sz env 36=some 1/\sz env 38=some 4/\sz env 41=some 4/\sz env 51=some 1/\sz env 60=some 1/\sz env 70=some 2/\sz env 79=some 5/\(∀h p,jaH env h 3 p=(jab h 1 p).bind (·[0]?))/\(∀h p,jaH env h 4 p=(jab h 1 p).bind (·[0]?))/\(∀h p,jaH env h 9 p=(jab h 1 p).bind (·[0]?))/\(∀h p,jaH env h 22 p=(jab h 1 p).bind (·[0]?))/\(∀h p,jaH env h 24 p=(jab h 1 p).bind (·[0]?))/\(∀h p,jaH env h 26 p=(jab h 1 p).bind (·[0]?))/\(∀h p,jaH env h 32 p=(jab h 1 p).bind (·[0]?))/\(∀h p,jaH env h 36 p=(jab h 1 p).bind (·[0]?))/\(∀h p,jaH env h 51 p=(jab h 1 p).bind (·[0]?))/\(∀h p,jaH env h 60 p=(jab h 1 p).bind (·[0]?))/\(∀h p,jaH env h 30 p=(jab h 20 p).map .agg)/\(∀h p,jaH env h 38 p=(jab h 4 p).map .agg)/\(∀h p,jaH env h 41 p=(jab h 4 p).map .agg)/\(∀h p,jaH env h 70 p=(jab h 2 p).map .agg)/\(∀h p,jaH env h 79 p=(jab h 5 p).map .agg) :=
 (by refine ⟨?_,?_,?_,?_,?_,?_,?_,?_,?_,?_,?_,?_,?_,?_,?_,?_,?_,?_,?_,?_,?_,?_,?_,?_,?_,λ_ _=>jav (by kernel_rfl),λ_ _=>jav (by kernel_rfl),λ_ _=>jav (by kernel_rfl),λ_ _=>jav (by kernel_rfl),λ_ _=>jav (by kernel_rfl),λ_ _=>jav (by kernel_rfl),λ_ _=>jav (by kernel_rfl),λ_ _=>jav (by kernel_rfl),λ_ _=>jav (by kernel_rfl),λ_ _=>jav (by kernel_rfl),λh p=>by unfold jaH;rw[show aggT env 30=some true by kernel_rfl,show sz env 30=some 20 by kernel_rfl];rfl,λh p=>by unfold jaH;rw[show aggT env 38=some true by kernel_rfl,show sz env 38=some 4 by kernel_rfl];rfl,λh p=>by unfold jaH;rw[show aggT env 41=some true by kernel_rfl,show sz env 41=some 4 by kernel_rfl];rfl,λh p=>by unfold jaH;rw[show aggT env 70=some true by kernel_rfl,show sz env 70=some 2 by kernel_rfl];rfl,λh p=>by unfold jaH;rw[show aggT env 79=some true by kernel_rfl,show sz env 79=some 5 by kernel_rfl];rfl⟩<;>kernel_rfl)
theorem Kc:type_of% (Kd @mb (Kd @stb @tys)):=Kd @mb (Kd @stb @tys)
theorem zK:type_of% (Kd @Ka (Kd @Ys (Kd @Y0 @Kc))):=Kd @Ka (Kd @Ys (Kd @Y0 @Kc))
theorem yK:type_of% (Kd @Ka (Kd @Y0 @Kc)):=Kd @Ka (Kd @Y0 @Kc)
theorem tyb:env.P.underlying 134=some (.slice 136)/\env.P.underlying 204=some (.map 3 3)/\env.P.underlying 232=some (.slice 22)/\sz env 131=some 1/\sz env 134=some 1/\sz env 136=some 1/\sz env 142=some 1/\sz env 204=some 1/\sz env 232=some 1/\(∀h p,jaH env h 131 p=(jab h 1 p).bind (·[0]?))/\(∀h p,jaH env h 136 p=(jab h 1 p).bind (·[0]?))/\(∀h p,jaH env h 142 p=(jab h 1 p).bind (·[0]?))/\(∀h p,jaH env h 204 p=(jab h 1 p).bind (·[0]?))/\ja4 env 70=some (.agg [.int .i64 0,.nilsl])/\ja4 env 79=some (.agg [.str [],.bool false,.int .i64 0,.nilsl,.nilsl])/\ja4 env 41=some (.agg [.str [],.int .i64 0,.int .i64 0,.nilsl])/\ja4 env 36=some (.nilsl)/\ja4 env 204=some (.nilmap)/\ja4 env 3=some (.int .i64 0) :=
 (by refine ⟨?_,?_,?_,?_,?_,?_,?_,?_,?_,λ_ _=>jav (by kernel_rfl),λ_ _=>jav (by kernel_rfl),λ_ _=>jav (by kernel_rfl),λ_ _=>jav (by kernel_rfl),?_,?_,?_,?_,?_,?_⟩<;>kernel_rfl)
theorem fo:jar env 70 0=some 0/\jar env 70 1=some 1/\jar env 79 0=some 0/\jar env 79 1=some 4/\jar env 38 0=some 0/\jar env 38 1=some 1/\jar env 38 2=some 2/\jar env 38 3=some 3/\jar env 41 0=some 0/\jar env 41 1=some 1/\jar env 41 2=some 2/\jar env 41 3=some 3/\jar env 30 0=some 0/\jar env 30 1=some 1/\jar env 30 2=some 2/\jar env 30 3=some 3/\jar env 30 4=some 4/\jar env 30 5=some 5/\jar env 30 6=some 6/\jar env 30 7=some 7/\jar env 30 8=some 8/\jar env 30 9=some 9/\jar env 30 10=some 10/\jar env 30 11=some 11/\jar env 30 12=some 12/\jar env 30 13=some 13/\jar env 30 14=some 14/\jar env 30 15=some 15/\jar env 30 16=some 16/\jar env 30 17=some 17/\jar env 30 18=some 18/\jar env 30 19=some 19 :=
 (by refine ⟨?_,?_,?_,?_,?_,?_,?_,?_,?_,?_,?_,?_,?_,?_,?_,?_,?_,?_,?_,?_,?_,?_,?_,?_,?_,?_,?_,?_,?_,?_,?_,?_⟩<;>kernel_rfl)
theorem at41:env.P.funcs[41]? = some Tryz.f41:=by kernel_rfl
theorem jy2:env.P.funcs[118]? = some Tryz.f118:=by kernel_rfl
theorem jy3:env.P.funcs[115]? = some Tryz.f115:=by kernel_rfl
theorem jy4:env.P.funcs[195]? = some Tryz.f195:=by kernel_rfl
theorem jy5:env.P.funcs[236]? = some Tryz.f236:=by kernel_rfl
theorem jy6:env.P.funcs[120]? = some Tryz.f120:=by kernel_rfl
theorem ju0:env.P.funcs[197]? = some Tryz.f197:=by kernel_rfl
theorem jy7:env.P.funcs[204]? = some Tryz.f204:=by kernel_rfl
theorem jwM:env.P.funcs[237]? = some Tryz.f237:=by kernel_rfl
theorem jy8:env.P.funcs[119]? = some Tryz.f119:=by kernel_rfl
theorem jy9:env.P.funcs[121]? = some Tryz.f121:=by kernel_rfl
theorem jza:env.P.funcs[123]? = some Tryz.f123:=by kernel_rfl
theorem jzb:env.P.funcs[124]? = some Tryz.f124:=by kernel_rfl
theorem jzc:env.P.funcs[125]? = some Tryz.f125:=by kernel_rfl
theorem jzd:env.P.funcs[127]? = some Tryz.f127:=by kernel_rfl
theorem jze:env.P.funcs[196]? = some Tryz.f196:=by kernel_rfl
theorem jzf:env.P.funcs[198]? = some Tryz.f198:=by kernel_rfl
theorem jzg:env.P.funcs[199]? = some Tryz.f199:=by kernel_rfl
theorem jzh:env.P.funcs[202]? = some Tryz.f202:=by kernel_rfl
theorem jzi:env.P.funcs[203]? = some Tryz.f203:=by kernel_rfl
theorem jzj:env.P.funcs[205]? = some Tryz.f205:=by kernel_rfl
theorem jzk:env.P.funcs[206]? = some Tryz.f206:=by kernel_rfl
theorem jzl:env.P.funcs[207]? = some Tryz.f207:=by kernel_rfl
theorem at37:env.P.funcs[37]? = some Tryz.f37:=by kernel_rfl
theorem at43:env.P.funcs[43]? = some Tryz.f43:=by kernel_rfl
theorem at45:env.P.funcs[45]? = some Tryz.f45:=by kernel_rfl
theorem jzm:env.P.funcs[128]? = some Tryz.f128:=by kernel_rfl
theorem jzn:env.P.funcs[130]? = some Tryz.f130:=by kernel_rfl
theorem jzo:env.P.funcs[129]? = some Tryz.f129:=by kernel_rfl
theorem jzp:env.P.funcs[131]? = some Tryz.f131:=by kernel_rfl
open W (IsI)
theorem u22:env.P.underlying 22=some (.slice 3):=by kernel_rfl
theorem eI:Elt env 22 3 1 8:=(by refine ⟨?_,?_,?_,?_,?_⟩<;>kernel_rfl)
theorem eR:Elt env 60 70 2 32:=(by refine ⟨?_,?_,?_,?_,?_⟩<;>kernel_rfl)
theorem eS:Elt env 24 38 4 56:=(by refine ⟨?_,?_,?_,?_,?_⟩<;>kernel_rfl)
theorem jwN:rowO env 22 0 []=some (.row [] 0 .full):=by kernel_rfl
theorem jgO:∀xs:List Int,(xs.map (V.int .i64)).all V.isCell=true
 | []=>rfl
 |x::xs=>by simp only[K9,Kv,jac,jgO xs,K8]
theorem jcN(h:List AObj)(d:Nat):∀xs:List Int,(xs.map (V.int .i64)).mapM (jaM h (d+1))=some (xs.map (V.int .i64))
 | []=>rfl
 |x::xs=>by rw[K9,jal,jau,jcN h d xs];rfl
theorem vc_I {v:V}{xs:List Int}(h:IsI v xs)(hp:List AObj):vLen v=some xs.length/\jaW hp 1 xs.length v=some (xs.map (V.int .i64)):=by
 rcases h with⟨rfl,rfl⟩|rfl|rfl
 ·exact⟨rfl,rfl⟩
 ·refine⟨rfl,?_⟩;simp only[jaW];rw[Kh (by simp),Qw (by simp)]
 ·refine⟨rfl,?_⟩;simp only[jaW];rw[Kh (by simp),Qw (by simp)]
theorem jmb(h:List AObj)(xs:List Int)(q:RCap)(n:Nat):jaM h 12 (.row (xs.map (V.int .i64)) n q)=some (.row (xs.map (V.int .i64)) n .unk):=by
 show jaM h (10+1+1) _=_;rw[ja8,jcN];rfl
theorem jnL {v:V}{xs:List Int}(h:IsI v xs):IsI (unkV v) xs:=by
 rcases h with⟨rfl,rfl⟩|rfl|rfl
 ·exact .inl ⟨rfl,rfl⟩
 ·exact .inr (.inl rfl)
 ·exact .inr (.inl rfl)
theorem jnM {xv:V}{xs:List Int}(h:IsI xv xs)(hl:xs.length<=100000)(U:S):jah env (ev env) 197 [xv] U=some (unkV xv,U):=by
 refine jak (by simp[W.closed_I h]) ju0 rfl ?_ U;have hlim:lim=2^40:=rfl
 have key:∀q,∃ts q',appO env false ⟨[],[]⟩ 22 22 (.row [] 0 .full) (.row (xs.map (V.int .i64)) xs.length q)=some (.row (xs.map (V.int .i64)) xs.length q',⟨[],ts⟩):=by
  intro q;by_cases hx:xs=[]
  ·subst hx
   exact⟨[],.full,by
    unfold appO;simp only[eI.elem,eI.size,eI.bytes,eI.zeros,u22,vLen,jaW,Kn,Kl];simp[jbr]⟩
  ·have hn:0<xs.length:=Vd.2 hx;obtain⟨v',ts',hA,g,_⟩:=GrowV.append (E:=env) (hp:=[]) (y:=.row (xs.map (V.int .i64)) xs.length q) (m:=xs.length) (new:=xs.map (V.int .i64)) eI ⟨3,u22⟩ (.full [] 0 rfl:GrowV 0 [] 1 _ 0 []) (Kz _) rfl (by simp only[jaW];rw[Kh (by simp),Qw (by simp)]) (by simp) (jgO xs) ⟨by rw[hlim];omega,by rw[hlim];omega⟩;rw[Jk,Je]at g;obtain⟨q',rfl⟩:=g.isrow hn;exact⟨ts',q',hA⟩
 rcases h with⟨rfl,rfl⟩|rfl|rfl
 ·simp only[Tryz.f197,simprocAttr,zK,Vq,jaj,jft u22];rfl
 ·obtain⟨ts,q',hA⟩:=key .unk;simp only[Tryz.f197,simprocAttr,zK,Vq,jaj,jdr u22,jap,jwN,hA];simp only[jaz,jai,jmb,unkV]
 ·obtain⟨ts,q',hA⟩:=key .full;simp only[Tryz.f197,simprocAttr,zK,Vq,jaj,jdr u22,jap,jwN,hA];simp only[jaz,jai,jmb,unkV]
theorem joQ(x:V):∀m,(List.replicate m [x]).flatten=List.replicate m x
 |0=>rfl
 |m+1=>by rw[Xv,Xv,X8,joQ x m];rfl
theorem jwO {m:Nat}(h:0<m)(hm:m<=2^36)(L:List AObj)(ts:List Nat):appO env true ⟨L,ts⟩ 22 3 .nilsl (.int .i64 (m:Int))=some (.hsl L.length 0 m m (.grow 1),⟨L++[.cells (List.replicate m (.int .i64 0)) 3],ts⟩):=by
 have hlim:lim=2^40:=rfl;have h0:¬(m:Int)=0:=by omega
 have h1:(0<(m:Int)/\(m:Int)<=(lim:Int)/\(m:Int)*((8:Nat):Int)<=(lim:Int)/\0<1):=by rw[hlim];omega
 have z3:ja4 env 3=some (.int .i64 0):=by kernel_rfl
 simp only[appO,eI.elem,eI.size,eI.bytes,tys,Kn,jqg,h0,h1,Km,Kl,z3,and_self,V.cells,Qi,Qo,Jk,S.push,Qj];rw[joQ]
theorem jr1(n:Nat)(hn:n<=100000)(L:List AObj)(ts:List Nat):jah env (ev env) 237 [.nilsl,.int .i64 n] ⟨L,ts⟩=some (if n=0 then(.nilsl,⟨L,ts⟩)else(.hsl L.length 0 0 n (.grow 1),⟨L++[.cells (List.replicate n (.int .i64 0)) 3],ts⟩)):=by
 have e0:IntKind.i64.wrap (0-0)=0:=by decide
 have e1:IntKind.i64.wrap ((n:Int)-0)=n:=by rw[Int.sub_zero];exact wrap_i64 (by omega) (by omega)
 have c0:((n:Int)<0)=False:=eq_false (by omega);have k0:jo9 (some (.slice 3)) .nilsl=some (.int .i64 0):=rfl;have s0:jb9 env 22 .nilsl none (some (.int .i64 0)) none=some .nilsl:=by kernel_rfl
 have s1:∀b:Nat,jb9 env 22 (.hsl b 0 n n (.grow 1)) none (some (.int .i64 0)) none=some (.hsl b 0 0 n (.grow 1)):=λb=>by
  simp only[jb9,tys,Kn];simp[jcW,ja2,HCap.cut]
 by_cases h:n=0
 ·rw[Kh h];have c1:((n:Int)>0)=False:=eq_false (by omega);refine jaK jwM rfl ?_;simp only[Nat.reduceGcd,Tryz.f237,Ka,Nat.reduceLT,Nat.reduceEqDiff,Kl,Km,reduceIte,Ys,Y0,Int.reduceEq,Int.reduceLT,Int.reduceLE,Int.reduceNeg,mb,Nat.reduceBEq,tys,stb,Vq,e0,e1,c0,c1,jqD,k0];exact⟨rfl,trivial⟩
 ·rw[Ke h];have hA:=jwO (m:=n) (by omega) (by omega) L ts;have c1:((n:Int)>0)=True:=eq_true (by omega);refine jaK jwM rfl ?_;simp only[Nat.reduceGcd,Tryz.f237,Ka,Nat.reduceLT,Nat.reduceEqDiff,Kl,Km,reduceIte,Ys,Y0,Int.reduceEq,Int.reduceLT,Int.reduceLE,Int.reduceNeg,mb,Nat.reduceBEq,tys,stb,Vq,e0,e1,c0,c1,jqD,k0,jb0,jb1,jca,s0,hA,s1];exact⟨rfl,trivial⟩
structure TOK (t:Tb):Prop where
 cv:IsC t.s.cv t.s.cs
 ok:OkC t.s.cs
 cl:t.s.cs.length<=200
 sh:jjM t.s
 mi:In64 t.s.many
 ci:∀c∈t.s.cs,In64 c.lo/\In64 c.hi
 rv:IsR t.rv t.rows
 ro:OkR t.rows
 rl:t.rows.length<=5000
 vl:∀r∈t.rows,r.vs.length<=1000
structure BOK (v:V) (l:List Tb):Prop where
 v:IsB v l
 t:∀t∈l,TOK t
 l:l.length<=1000
theorem BOK.at {v:V}{l:List Tb}(h:BOK v l){i:Nat}(hi:i<l.length):TOK (l.getD i Tb.none):=h.t _ (Tb.mem hi)
theorem BOK.ok {v:V}{l:List Tb}(h:BOK v l):OkB l:=⟨λt ht=>⟨(h.t t ht).cv,(h.t t ht).ok⟩,λt ht=>⟨(h.t t ht).rv,(h.t t ht).ro⟩⟩
theorem BOK.closed {v:V}{l:List Tb}(h:BOK v l):v.closed=true:=jth h.v h.ok
theorem jeG(h:List AObj)(a b c d e:V)(r:List V):jab h 5 (.rptr (a::b::c::d::e::r))=some [a,b,c,d,e]:=by simp[jab]
theorem jbc(h:List AObj)(a b:V)(r:List V):jab h 2 (.rptr (a::b::r))=some [a,b]:=by simp[jab]
theorem ld5 {h:List AObj}{n:Nat}{a b c d e:V}{t:TypeId}(hh:h[n]? = some (.cells [a,b,c,d,e] t)):jab h 5 (.ptr n 0)=some [a,b,c,d,e]:=by simp[jab,hh]
theorem ld54 {h:List AObj}{n:Nat}{a b c d e:V}{t:TypeId}(hh:h[n]? = some (.cells [a,b,c,d,e] t)):jab h 4 (.ptr n 0)=some [a,b,c,d]:=by simp[jab,hh]
theorem ld2 {h:List AObj}{n:Nat}{a b:V}{t:TypeId}(hh:h[n]? = some (.cells [a,b] t)):jab h 2 (.ptr n 0)=some [a,b]:=by simp[jab,hh]
theorem jeh {v:V}{cs:List Col}(h:IsC v cs):v.isCell=true:=by rcases h with⟨rfl,_⟩|⟨q,_,rfl⟩<;>rfl
theorem jgP {v:V}{l:List Rw}(h:IsR v l):v.isCell=true:=by rcases h with⟨rfl,_⟩|⟨q,_,rfl⟩<;>rfl
theorem jcv {v:V}{l:List Int}(h:IsI v l):v.isCell=true:=by rcases h with⟨rfl,_⟩|rfl|rfl<;>rfl
def cpS(s:Sch):Sch:={ s with cv:=unkV s.cv }
def sv(l:List Tb):List Sch:=l.map λt=>cpS t.s
def svV(l:List Tb):V:=if l=[]then .nilsl else .row (jbt (sv l)) (sv l).length .unk
theorem jjX(l:List Tb):IsS (svV l) (sv l):=by
 unfold svV;split
 ·rename_i h;subst h;exact .inl ⟨rfl,rfl⟩
 ·exact .inr ⟨.unk,.inl rfl,rfl⟩
theorem jzq(a b c d:V):rowO env 24 1 [(0,.agg [a,b,c,d])]=some (.row [a,b,c,d] 1 .full):=by kernel_rfl
theorem take_next {α:Type}{l:List α}{i:Nat}(d:α)(h:i<l.length):l.take (i+1)=l.take i++[l.getD i d]:=by
 rw[X9,K5 h];simp[List.getD,h]
theorem jjY(h:List AObj):∀{l:List Sch},(∀s∈l,(∃v,IsC v s.cs/\s.cv=unkV v)/\OkC s.cs)->(jbt l).mapM (jaM h 11)=some (jbt l)
 | [],_=>rfl
 | s::l,ok=>by
  obtain⟨⟨v,hv,e⟩,hc⟩:=ok s (by simp)
  have hs:jaM h 11 s.cv=some s.cv:=by
   rw[e]
   rcases hv with⟨rfl,_⟩|⟨q,_,rfl⟩
   ·rfl
   ·show jaM h (10+1) (.row _ _ .unk)=_;rw[ja8,show(10:Nat)=8+2 from rfl,jdU h 8 hc];rfl
  rw[jcr,jal,jal,jal,jal,jjY h (l:=l) λx hx=>ok x (by simp[hx]),hs,jbS,jau,jaB];rfl
theorem jsY:env.hook 105=some (jb2 YtajaampgajieeaaGreatDoor.env 105):=rfl
theorem jwP {t:Tb}(h:TOK t)(U:S):jah env (ev env) 105 [.agg [.str t.s.name,.bool t.s.pub,.int .i64 t.s.many,t.s.cv]] U=some (.agg [.str t.s.name,.bool t.s.pub,.int .i64 t.s.many,unkV t.s.cv],U) :=
 jcm jsY (jhe _ _ _ _ _ h.cv h.ok (by have:=h.cl;omega) λi hi=>(h.sh.2.2 i hi).2.1) _ U
theorem jb3 {v:V}{l:List Tb}(h:BOK v l)(U:S):jah env (ev env) 115 [v] U=some (svV l,U):=by
 refine jak (by simp[h.closed]) jy3 rfl ?_ U;have hlim:lim=2^40:=rfl;have hl:=h.l;have hB:=ju8 h.v 79;simp only[Tryz.f115,simprocAttr,zK,Vq,jaj,hB];refine jax (λm T D U=>D=[]/\T 6=v/\T 7=.int .i64 l.length/\∃(L:List AObj) (ts:List Nat) (i:Nat) (u:V),U=⟨L,ts⟩/\T 3=u/\T 8=.int .i64 i/\i<=l.length/\m=l.length-i/\GrowV 0 ts 4 u i (jbt (sv (l.take i)))/\(i=0->u=.nilsl)) ?_ (l.length-0) _ _ _ ⟨rfl,rfl,rfl,[],[],0,.nilsl,rfl,rfl,rfl,Qx _,rfl,.nil,λ_=>rfl⟩;rintro m T D U ⟨rfl,t6,t7,L,ts,i,u,rfl,t3,t8,hi,rfl,g,g0⟩;refine jaC ?_;by_cases hlt:i<l.length
 ·have c1:(i:Int)<(l.length:Int):=by omega
  have e1:=wS i (by omega)
  have hx:=jnu h.v hlt;have ht:=h.at hlt;have i1:=jeh ht.cv;have i2:=jgP ht.rv;have hC:=jwP ht
  obtain⟨v',ts',hA,g',_⟩:=GrowV.push (E:=env) (hp:=L++[AObj.cells [.str (l.getD i Tb.none).s.name,.bool (l.getD i Tb.none).s.pub,.int .i64 (l.getD i Tb.none).s.many,(l.getD i Tb.none).s.cv,(l.getD i Tb.none).rv] 79]) (q:=.full) (new:=[.str (l.getD i Tb.none).s.name,.bool (l.getD i Tb.none).s.pub,.int .i64 (l.getD i Tb.none).s.many,unkV (l.getD i Tb.none).s.cv]) eS ⟨38,eS.slice⟩ g (Qx _) rfl
   (by rcases ht.cv with⟨e,_⟩|⟨q,_,e⟩<;>rw[e]<;>rfl) ⟨by rw[hlim];omega,by rw[hlim];omega⟩
  have ld:=ld54 (jad L (AObj.cells [.str (l.getD i Tb.none).s.name,.bool (l.getD i Tb.none).s.pub,.int .i64 (l.getD i Tb.none).s.many,(l.getD i Tb.none).s.cv,(l.getD i Tb.none).rv] 79));simp only[simprocAttr,zK,K1,jaa,tyb,fo,t3,t6,t7,t8,c1,e1,hx,jeG,jad,jan,jae,jaq,jac,i1,i2,ld,hC,jap,jzq,hA];refine⟨l.length-(i+1),by omega,_,ts',i+1,v',rfl,rfl,rfl,by omega,rfl,?_,λh=>by omega⟩;rw[take_next Tb.none hlt];have e:jbt (sv (l.take i++[l.getD i Tb.none]))=jbt (sv (l.take i))++[.str (l.getD i Tb.none).s.name,.bool (l.getD i Tb.none).s.pub,.int .i64 (l.getD i Tb.none).s.many,unkV (l.getD i Tb.none).s.cv]:=by simp[sv,jbt,cpS,Sch.cells]
  rw[e];exact g'
 ·have hie:i=l.length:=by omega
  subst hie;have c1:¬(l.length:Int)<(l.length:Int):=by omega
  simp only[simprocAttr,zK,Vq,t3,t6,t7,t8,c1];rw[Jq]at g
  have hs:=jjY L (l:=sv l) λs hs=>by
   obtain⟨t,ht,rfl⟩:=Jm.1 hs;exact⟨⟨_,(h.t t ht).cv,rfl⟩,(h.t t ht).ok⟩
  unfold svV;by_cases hn:l=[]
  ·rw[Kh hn,g0 (by rw[hn];rfl)];rfl
  ·rw[Ke hn];have hp:0<l.length:=Vd.2 hn;obtain⟨q,rfl⟩:=g.isrow hp;show jaM L (11+1) (.row _ _ _)=_;rw[ja8,hs,show(sv l).length=l.length by simp[sv]];rfl
end Go.Proofs.YtajaampgajieeaaGreatDoor.B
