/- Proved here: tables as values, and copies of them. Conditions: each theorem's own. -/
import Derived.Test.YtajaampgajieeaaGreatDoorSpA
set_option linter.unusedSimpArgs false
set_option linter.unusedVariables false
set_option linter.unusedSectionVars false
set_option maxHeartbeats 16000000
set_option maxRecDepth 1000000
namespace Go.Proofs.YtajaampgajieeaaGreatDoor
open Go.Ab
abbrev PR:=Int × List Int
def jhr(n:Int):List Int->List PR->List PR
 |_,[]=>[]
 |seen,r::l=>if((seen.count r.1:Nat):Int)+1<=n then r::jhr n (r.1::seen) l else jhr n (r.1::seen) l
def jlE(pub:Bool)(left right:Nat)(r s:PR):Prop:=s.2.getD right 0=r.2.getD left 0/\(pub=true\/s.1=r.1)
instance (pub:Bool) (left right:Nat) (r s:PR):Decidable (jlE pub left right r s):=inferInstanceAs (Decidable (_/\_))
def jet(pub:Bool)(left right:Nat)(limit:Int)(r:PR):List PR->Int->List PR
 | [],_=>[]
 |s::o,m=>if m<limit/\jlE pub left right r s then(r.1,r.2++s.2)::jet pub left right limit r o (m+1)else jet pub left right limit r o m
def jf7(pub:Bool)(left right:Nat)(limit:Int)(o:List PR)(l:List PR):List PR:=l.flatMap λr=>jet pub left right limit r o 0
def cnt(o:Int)(l:List PR):Nat:=l.countP λr=>decide (r.1=o)
theorem jgB(n:Int):∀(l:List PR) (seen:List Int),(jhr n seen l).Sublist l
 | [],_=>List.Sublist.slnil
 |r::l,seen=>by
  simp only[jhr];split
  ·exact(jgB n l _).cons_cons _
  ·exact(jgB n l _).cons _
theorem jgC(pub:Bool)(left right:Nat)(limit:Int)(r:PR):∀(o:List PR) (m:Int),∀x∈jet pub left right limit r o m,x.1=r.1/\∃s∈o,x.2=r.2++s.2/\jlE pub left right r s
 | [],_,x,hx=>by simp[jet]at hx
 | s::o,m,x,hx=>by
  simp only[jet]at hx;split at hx
  ·rename_i h
   rcases Jh.1 hx with rfl|hx
   ·exact⟨rfl,s,ae,rfl,h.2⟩
   ·obtain⟨a,t,ht,b⟩:=jgC pub left right limit r o (m+1) x hx;exact⟨a,t,by simp[ht],b⟩
  ·obtain⟨a,t,ht,b⟩:=jgC pub left right limit r o m x hx;exact⟨a,t,by simp[ht],b⟩
theorem jgD(pub:Bool)(left right:Nat)(limit:Int)(r:PR):∀(o:List PR) (m:Int),((jet pub left right limit r o m).length:Int)<=max 0 (limit-m)
 | [],m=>by simp[jet];omega
 | s::o,m=>by
  simp only[jet];split
  ·have:=jgD pub left right limit r o (m+1);simp only[Qn];omega
  ·exact jgD pub left right limit r o m
theorem jkp(o:Int)(a b:List PR):cnt o (a++b)=cnt o a+cnt o b:=by simp[cnt]
theorem jua {o:Int}{a b:List PR}(h:a.Sublist b):cnt o a<=cnt o b:=h.countP_le
def wo(o:Int)(l:List PR):List PR:=l.filter λr=>decide (r.1 ≠ o)
theorem jiu(o:Int)(r:PR)(l:List PR):wo o (r::l)=if r.1=o then wo o l else r::wo o l:=by
 unfold wo;by_cases h:r.1=o
 ·rw[Vd (by simpa using h),Kj h]
 ·rw[Xr (by simpa using h),Kh h]
theorem js4(o:Int)(a b:List PR):wo o (a++b)=wo o a++wo o b:=by simp[wo]
theorem jvS {o:Int}{a:List PR}(h:∀x∈a,x.1 ≠ o):wo o a=a:=by
 unfold wo;rw[Ue];intro x hx;simpa using h x hx
theorem jub {o:Int}{a:List PR}(h:∀x∈a,x.1=o):wo o a=[]:=by
 unfold wo;rw[List.filter_eq_nil_iff];intro x hx;simpa using h x hx
theorem jvT {o:Int}{l:List PR}{r:PR}:r∈wo o l↔r∈l/\r.1 ≠ o:=by simp[wo]
theorem jhE(n o:Int):∀(l:List PR) (s t:List Int),(∀x,x ≠ o->s.count x=t.count x)->jhr n s (wo o l)=wo o (jhr n t l)
 | [],_,_,_=>rfl
 | r::l,s,t,h=>by
  rw[jiu];by_cases e:r.1=o
  ·rw[Kj e];have ht:∀x,x ≠ o->s.count x=(r.1::t).count x:=λx hx=>by rw[h x hx,Vm (by rw[e];exact Ne.symm hx)]
   rw[jhE n o l s (r.1::t) ht];simp only[jhr];split
   ·rw[jiu,Kj e]
   ·rfl
  ·rw[Kh e];have hst:∀x,x ≠ o->(r.1::s).count x=(r.1::t).count x:=λx hx=>by simp only[List.count_cons,h x hx]
   simp only[jhr,h r.1 e];split
   ·rw[jiu,Kh e,jhE n o l _ _ hst]
   ·exact jhE n o l _ _ hst
theorem jkq(left right:Nat)(limit o:Int)(r:PR)(h:r.1 ≠ o):∀(l:List PR) (m:Int),jet false left right limit r (wo o l) m=jet false left right limit r l m
 | [],_=>rfl
 | s::l,m=>by
  rw[jiu];by_cases e:s.1=o
  ·rw[Kj e,jkq left right limit o r h l m];simp only[jet];rw[Kh];rintro⟨_,_,hc|hc⟩
   ·cases hc
   ·exact h (hc.symm.trans e)
  ·rw[Kh e];simp only[jet,jkq left right limit o r h l]
theorem jlF(left right:Nat)(limit:Int)(r:PR):∀(l:List PR) (m:Int),(∀s∈l,s.1 ≠ r.1)->jet false left right limit r l m=[]
 | [],_,_=>rfl
 |s::l,m,h=>by
  simp only[jet];rw[Kh,jlF left right limit r l m λx hx=>h x (by simp[hx])];rintro⟨_,_,hc|hc⟩
  ·cases hc
  ·exact h s ae hc
theorem jeu(pub:Bool)(left right:Nat)(limit:Int)(o:List PR)(r:PR)(l:List PR):jf7 pub left right limit o (r::l)=jet pub left right limit r o 0++jf7 pub left right limit o l:=by simp[jf7]
theorem jjy(pub:Bool)(left right:Nat)(limit w:Int)(o:List PR)(r:PR):wo w (jet pub left right limit r o 0)=if r.1=w then []else jet pub left right limit r o 0:=by
 split
 ·rename_i h;exact jub λx hx=>by rw[(jgC pub left right limit r o 0 x hx).1];exact h
 ·rename_i h;exact jvS λx hx=>by rw[(jgC pub left right limit r o 0 x hx).1];exact h
theorem jkr(pub:Bool)(left right:Nat)(limit w:Int)(o:List PR):∀l:List PR,jf7 pub left right limit o (wo w l)=wo w (jf7 pub left right limit o l)
 | []=>rfl
 |r::l=>by
  have ih:=jkr pub left right limit w o l;rw[jeu,js4,jjy,jiu];split
  ·rw[ih,Jk]
  ·rw[jeu,ih]
theorem jiv(left right:Nat)(limit w:Int)(o:List PR):∀l:List PR,jf7 false left right limit (wo w o) l=wo w (jf7 false left right limit o l)
 | []=>rfl
 | r::l=>by
  have ih:=jiv left right limit w o l;rw[jeu,jeu,js4,jjy,ih];split
  ·rename_i h;rw[jlF left right limit r _ 0 λs hs=>by rw[h];exact(jvT.1 hs).2]
  ·rename_i h;rw[jkq left right limit w r h]
theorem jyk(w:Int)(l:List PR):wo w (wo w l)=wo w l:=by unfold wo;rw[List.filter_filter];simp
theorem jrc(p:List Int->Bool)(w:Int)(l:List PR):(wo w l).filter (λr=>p r.2)=wo w (l.filter λr=>p r.2):=by
 unfold wo;rw[List.filter_filter,List.filter_filter]
 congr 1
 funext r
 exact Bool.and_comm _ _
structure VP where
 rows:List PR
 keep:Int
 jn:Option (List PR × Bool × Nat × Nat × Int)
 hold:Option (List Int->Bool)
def VP.kept(v:VP):List PR:=if v.keep=0 then v.rows else jhr v.keep [] v.rows
def VP.joined(v:VP):List PR :=
 match v.jn with
 |none=>v.kept
 |some (o,pub,left,right,limit)=>jf7 pub left right limit o v.kept
def VP.view(v:VP):List PR :=
 match v.hold with
 |none=>v.joined
 |some p=>v.joined.filter λr=>p r.2
theorem VP.view_sub(v:VP):v.view.Sublist v.joined:=by
 unfold VP.view;split
 ·exact List.Sublist.refl _
 ·exact List.filter_sublist
def jvU(w:Nat)(l:List (Nat × Int)):List Int:=(List.range w).map λi=>(l.filter λx=>decide (x.1=i)).foldl (λa x=>a+x.2) 0
def sumI(l:List Int):Int:=l.foldl (λa x=>a+x) 0
structure Rw where
 own:Int
 vv:V
 vs:List Int
def Rw.none:Rw:=⟨0,.nilsl,[]⟩
def Rw.cells(r:Rw):List V:=[.int .i64 r.own,r.vv]
abbrev Rw.pl(r:Rw):PR:=(r.own,r.vs)
def jcf(l:List Rw):List V:=(l.map Rw.cells).flatten
theorem jcD(r:Rw)(l:List Rw):jcf (r::l)=.int .i64 r.own::r.vv::jcf l:=rfl
theorem jev(a b:List Rw):jcf (a++b)=jcf a++jcf b:=by simp[jcf]
theorem jjz:∀(l:List Rw) (i:Nat),(jcf l).drop (i*2)=jcf (l.drop i)
 |l,0=>ae
 | [],i+1=>by simp[jcf]
 |r::l,i+1=>by
  rw[jcD,show(i+1)*2=i*2+1+1 by omega,K9,K9,jjz l i,K9]
theorem jsr {l:List Rw}{i:Nat}(hi:i<l.length):jcf (l.drop i)=.int .i64 (l.getD i Rw.none).own::(l.getD i Rw.none).vv::jcf (l.drop (i+1)):=by
 have e:l.drop i=l.getD i Rw.none::l.drop (i+1):=by
  rw[Qj hi];simp[List.getD,hi]
 rw[e,jcD]
def IsR(v:V)(l:List Rw):Prop:=(v=.nilsl/\l=[])\/∃q,(q=RCap.unk\/q=RCap.full)/\v=.row (jcf l) l.length q
def OkR(l:List Rw):Prop:=∀r∈l,W.IsI r.vv r.vs/\(∀x∈r.vs,In64 x)/\In64 r.own
theorem OkR.at {l:List Rw}(h:OkR l){i:Nat}(hi:i<l.length):W.IsI (l.getD i Rw.none).vv (l.getD i Rw.none).vs/\(∀x∈(l.getD i Rw.none).vs,In64 x)/\In64 (l.getD i Rw.none).own:=h _ (by simp[List.getD,hi])
theorem jlG {v:V}{l:List Rw}(h:IsR v l)(e:TypeId):ja9 (some (.slice e)) v=some (.int .i64 l.length):=by
 rcases h with⟨rfl,rfl⟩|⟨q,_,rfl⟩<;>simp[ja9]
theorem jlH {v:V}{l:List Rw}(h:IsR v l){i:Nat}(hi:i<l.length):jaw 2 v (.int .i64 (i:Int))=some (.rptr (.int .i64 (l.getD i Rw.none).own::(l.getD i Rw.none).vv::jcf (l.drop (i+1)))):=by
 rcases h with⟨rfl,rfl⟩|⟨q,_,rfl⟩
 ·simp at hi
 ·rw[Ys,Kj aa,Qi,jjz,jsr hi]
theorem jfg:∀{l:List Rw},OkR l->V.closed.closedL (jcf l)=true
 | [],_=>rfl
 |r::l,h=>by
  rw[jcD];simp only[V.closed.closedL,V.closed,W.closed_I (h r ae).1,jfg (l:=l) λx hx=>h x (by simp[hx]),K6]
theorem jd8 {v:V}{l:List Rw}(h:IsR v l)(ok:OkR l):v.closed=true:=by
 rcases h with⟨rfl,rfl⟩|⟨q,rfl|rfl,rfl⟩
 ·rfl
 ·simp only[V.closed,jfg ok,K6]
 ·simp only[V.closed,jfg ok,K6]
structure Tb where
 s:Sch
 rv:V
 rows:List Rw
def Tb.none:Tb:=⟨Sch.none,.nilsl,[]⟩
def Tb.cells(t:Tb):List V:=[.str t.s.name,.bool t.s.pub,.int .i64 t.s.many,t.s.cv,t.rv]
def jaV(l:List Tb):List V:=(l.map Tb.cells).flatten
theorem jcT(t:Tb)(l:List Tb):jaV (t::l)=.str t.s.name::.bool t.s.pub::.int .i64 t.s.many::t.s.cv::t.rv::jaV l:=rfl
theorem jfh(a b:List Tb):jaV (a++b)=jaV a++jaV b:=by simp[jaV]
theorem jiw:∀l:List Tb,(jaV l).length=l.length*5
 | []=>rfl
 |r::l=>by rw[jcT];simp only[Qn,jiw l];omega
theorem jfB:∀(l:List Tb) (i:Nat),(jaV l).drop (i*5)=jaV (l.drop i)
 |l,0=>ae
 | [],i+1=>by simp[jaV]
 |r::l,i+1=>by
  rw[jcT,show(i+1)*5=i*5+1+1+1+1+1 by omega,K9,K9,K9,K9,K9,jfB l i,K9]
theorem jn6 {l:List Tb}{i:Nat}(hi:i<l.length):jaV (l.drop i)=.str (l.getD i Tb.none).s.name::.bool (l.getD i Tb.none).s.pub::.int .i64 (l.getD i Tb.none).s.many::(l.getD i Tb.none).s.cv::(l.getD i Tb.none).rv::jaV (l.drop (i+1)):=by
 have e:l.drop i=l.getD i Tb.none::l.drop (i+1):=by
  rw[Qj hi];simp[List.getD,hi]
 rw[e,jcT]
def IsB(v:V)(l:List Tb):Prop:=(v=.nilsl/\l=[])\/∃q,(q=RCap.unk\/q=RCap.full)/\v=.row (jaV l) l.length q
structure OkB (l:List Tb):Prop where
 cv:∀t∈l,IsC t.s.cv t.s.cs/\OkC t.s.cs
 rv:∀t∈l,IsR t.rv t.rows/\OkR t.rows
theorem Tb.mem {l:List Tb}{i:Nat}(hi:i<l.length):l.getD i Tb.none∈l:=by simp[List.getD,hi]
theorem jo9 {v:V}{l:List Tb}(h:IsB v l)(e:TypeId):ja9 (some (.slice e)) v=some (.int .i64 l.length):=by
 rcases h with⟨rfl,rfl⟩|⟨q,_,rfl⟩<;>simp[ja9]
theorem jiU {v:V}{l:List Tb}(h:IsB v l){i:Nat}(hi:i<l.length):jaw 5 v (.int .i64 (i:Int))=some (.rptr (.str (l.getD i Tb.none).s.name::.bool (l.getD i Tb.none).s.pub::.int .i64 (l.getD i Tb.none).s.many::(l.getD i Tb.none).s.cv::(l.getD i Tb.none).rv::jaV (l.drop (i+1)))):=by
 rcases h with⟨rfl,rfl⟩|⟨q,_,rfl⟩
 ·simp at hi
 ·rw[Ys,Kj aa,Qi,jfB,jn6 hi]
theorem jfi:∀{l:List Tb},OkB l->V.closed.closedL (jaV l)=true
 | [],_=>rfl
 |t::l,h=>by
  have h1:=h.cv t ae;have h2:=h.rv t ae;rw[jcT];simp only[V.closed.closedL,V.closed,ja5 h1.1 h1.2,jd8 h2.1 h2.2,jfi (l:=l) ⟨λx hx=>h.cv x (by simp[hx]),λx hx=>h.rv x (by simp[hx])⟩,K6]
theorem jss {v:V}{l:List Tb}(h:IsB v l)(ok:OkB l):v.closed=true:=by
 rcases h with⟨rfl,rfl⟩|⟨q,rfl|rfl,rfl⟩
 ·rfl
 ·simp only[V.closed,jfi ok,K6]
 ·simp only[V.closed,jfi ok,K6]
end Go.Proofs.YtajaampgajieeaaGreatDoor
namespace Go.Proofs.YtajaampgajieeaaGreatDoor.B
open Go.Ab
theorem mb(f:FuncId)(r:Nat):env.mutb f r=(f==237 ||f==128 && r==5 ||f==130 && r==5 ||f==69):=rfl
theorem stb(f:FuncId)(r:Nat)(h:(f==41 && r==13 ||f==120 && r==5 ||f==203 && r==9 ||f==37 && r==8 ||f==128 && r==9 ||f==130 && r==9 ||f==216 && r==3 ||f==36 && r==3)=false):env.stab f r=false:=h
theorem tys:env.P.underlying 3=some (.int .i64)/\env.P.underlying 4=some .bool/\env.P.underlying 9=some .string/\env.P.underlying 22=some (.slice 3)/\env.P.underlying 24=some (.slice 38)/\env.P.underlying 26=some (.slice 84)/\env.P.underlying 32=some (.int .i64)/\env.P.underlying 36=some (.slice 41)/\env.P.underlying 51=some (.slice 79)/\env.P.underlying 60=some (.slice 70)/\sz env 3=some 1/\sz env 4=some 1/\sz env 9=some 1/\sz env 22=some 1/\sz env 24=some 1/\sz env 26=some 1/\sz env 30=some 20/\sz env 32=some 1/\sz env 36=some 1/\sz env 38=some 4/\sz env 41=some 4/\sz env 51=some 1/\sz env 60=some 1/\sz env 70=some 2/\sz env 79=some 5/\(∀h p,jaF env h 3 p=(jab h 1 p).bind (·[0]?))/\(∀h p,jaF env h 4 p=(jab h 1 p).bind (·[0]?))/\(∀h p,jaF env h 9 p=(jab h 1 p).bind (·[0]?))/\(∀h p,jaF env h 22 p=(jab h 1 p).bind (·[0]?))/\(∀h p,jaF env h 24 p=(jab h 1 p).bind (·[0]?))/\(∀h p,jaF env h 26 p=(jab h 1 p).bind (·[0]?))/\(∀h p,jaF env h 32 p=(jab h 1 p).bind (·[0]?))/\(∀h p,jaF env h 36 p=(jab h 1 p).bind (·[0]?))/\(∀h p,jaF env h 51 p=(jab h 1 p).bind (·[0]?))/\(∀h p,jaF env h 60 p=(jab h 1 p).bind (·[0]?))/\(∀h p,jaF env h 30 p=(jab h 20 p).map .agg)/\(∀h p,jaF env h 38 p=(jab h 4 p).map .agg)/\(∀h p,jaF env h 41 p=(jab h 4 p).map .agg)/\(∀h p,jaF env h 70 p=(jab h 2 p).map .agg)/\(∀h p,jaF env h 79 p=(jab h 5 p).map .agg) :=
 ⟨ac,ac,ac,ac,ac,ac,ac,ac,ac,ac,ac,ac,ac,ac,ac,ac,ac,ac,ac,ac,ac,ac,ac,ac,ac,λ_ _=>jau ac,λ_ _=>jau ac,λ_ _=>jau ac,λ_ _=>jau ac,λ_ _=>jau ac,λ_ _=>jau ac,λ_ _=>jau ac,λ_ _=>jau ac,λ_ _=>jau ac,λ_ _=>jau ac,λh p=>by unfold jaF;rw[show aggT env 30=some true by kernel_rfl,show sz env 30=some 20 by kernel_rfl];rfl,λh p=>by unfold jaF;rw[show aggT env 38=some true by kernel_rfl,show sz env 38=some 4 by kernel_rfl];rfl,λh p=>by unfold jaF;rw[show aggT env 41=some true by kernel_rfl,show sz env 41=some 4 by kernel_rfl];rfl,λh p=>by unfold jaF;rw[show aggT env 70=some true by kernel_rfl,show sz env 70=some 2 by kernel_rfl];rfl,λh p=>by unfold jaF;rw[show aggT env 79=some true by kernel_rfl,show sz env 79=some 5 by kernel_rfl];rfl⟩
theorem Kc:type_of% (Kd @mb (Kd @stb @tys)):=Kd @mb (Kd @stb @tys)
theorem zK:type_of% (Kd @Ka (Kd @Ys (Kd @Y0 @Kc))):=Kd @Ka (Kd @Ys (Kd @Y0 @Kc))
theorem yK:type_of% (Kd @Ka (Kd @Y0 @Kc)):=Kd @Ka (Kd @Y0 @Kc)
theorem tyb:env.P.underlying 134=some (.slice 136)/\env.P.underlying 204=some (.map 3 3)/\env.P.underlying 232=some (.slice 22)/\sz env 131=some 1/\sz env 134=some 1/\sz env 136=some 1/\sz env 142=some 1/\sz env 204=some 1/\sz env 232=some 1/\(∀h p,jaF env h 131 p=(jab h 1 p).bind (·[0]?))/\(∀h p,jaF env h 136 p=(jab h 1 p).bind (·[0]?))/\(∀h p,jaF env h 142 p=(jab h 1 p).bind (·[0]?))/\(∀h p,jaF env h 204 p=(jab h 1 p).bind (·[0]?))/\ja8 env 70=some (.agg [.int .i64 0,.nilsl])/\ja8 env 79=some (.agg [.str [],.bool false,.int .i64 0,.nilsl,.nilsl])/\ja8 env 41=some (.agg [.str [],.int .i64 0,.int .i64 0,.nilsl])/\ja8 env 36=some (.nilsl)/\ja8 env 204=some (.nilmap)/\ja8 env 3=some (.int .i64 0) :=
 ⟨ac,ac,ac,ac,ac,ac,ac,ac,ac,λ_ _=>jau ac,λ_ _=>jau ac,λ_ _=>jau ac,λ_ _=>jau ac,ac,ac,ac,ac,ac,ac⟩
theorem fo:jas env 70 0=some 0/\jas env 70 1=some 1/\jas env 79 0=some 0/\jas env 79 1=some 4/\jas env 38 0=some 0/\jas env 38 1=some 1/\jas env 38 2=some 2/\jas env 38 3=some 3/\jas env 41 0=some 0/\jas env 41 1=some 1/\jas env 41 2=some 2/\jas env 41 3=some 3/\jas env 30 0=some 0/\jas env 30 1=some 1/\jas env 30 2=some 2/\jas env 30 3=some 3/\jas env 30 4=some 4/\jas env 30 5=some 5/\jas env 30 6=some 6/\jas env 30 7=some 7/\jas env 30 8=some 8/\jas env 30 9=some 9/\jas env 30 10=some 10/\jas env 30 11=some 11/\jas env 30 12=some 12/\jas env 30 13=some 13/\jas env 30 14=some 14/\jas env 30 15=some 15/\jas env 30 16=some 16/\jas env 30 17=some 17/\jas env 30 18=some 18/\jas env 30 19=some 19 :=
 ⟨ac,ac,ac,ac,ac,ac,ac,ac,ac,ac,ac,ac,ac,ac,ac,ac,ac,ac,ac,ac,ac,ac,ac,ac,ac,ac,ac,ac,ac,ac,ac,ac⟩
theorem at41:env.P.funcs[41]? = some Tryz.f41:=ac
theorem jyl:env.P.funcs[118]? = some Tryz.f118:=ac
theorem jym:env.P.funcs[115]? = some Tryz.f115:=ac
theorem jyn:env.P.funcs[195]? = some Tryz.f195:=ac
theorem jyo:env.P.funcs[236]? = some Tryz.f236:=ac
theorem jyp:env.P.funcs[120]? = some Tryz.f120:=ac
theorem jt2:env.P.funcs[197]? = some Tryz.f197:=ac
theorem jyq:env.P.funcs[204]? = some Tryz.f204:=ac
theorem jvV:env.P.funcs[237]? = some Tryz.f237:=ac
theorem jyr:env.P.funcs[119]? = some Tryz.f119:=ac
theorem jys:env.P.funcs[121]? = some Tryz.f121:=ac
theorem jyt:env.P.funcs[123]? = some Tryz.f123:=ac
theorem jyu:env.P.funcs[124]? = some Tryz.f124:=ac
theorem jyv:env.P.funcs[125]? = some Tryz.f125:=ac
theorem jyw:env.P.funcs[127]? = some Tryz.f127:=ac
theorem jyx:env.P.funcs[196]? = some Tryz.f196:=ac
theorem jyy:env.P.funcs[198]? = some Tryz.f198:=ac
theorem jyz:env.P.funcs[199]? = some Tryz.f199:=ac
theorem jyA:env.P.funcs[202]? = some Tryz.f202:=ac
theorem jyB:env.P.funcs[203]? = some Tryz.f203:=ac
theorem jyC:env.P.funcs[205]? = some Tryz.f205:=ac
theorem jyD:env.P.funcs[206]? = some Tryz.f206:=ac
theorem jyE:env.P.funcs[207]? = some Tryz.f207:=ac
open W (IsI)
theorem u22:env.P.underlying 22=some (.slice 3):=ac
theorem eI:Elt env 22 3 1 8:=⟨ac,ac,ac,ac,ac⟩
theorem eR:Elt env 60 70 2 32:=⟨ac,ac,ac,ac,ac⟩
theorem eS:Elt env 24 38 4 56:=⟨ac,ac,ac,ac,ac⟩
theorem jvW:rowO env 22 0 []=some (.row [] 0 .full):=ac
theorem jgE:∀xs:List Int,(xs.map (V.int .i64)).all V.isCell=true
 | []=>rfl
 |x::xs=>by simp only[K7,Ku,jac,jgE xs,K6]
theorem jd0(h:List AObj)(d:Nat):∀xs:List Int,(xs.map (V.int .i64)).mapM (jaL h (d+1))=some (xs.map (V.int .i64))
 | []=>rfl
 |x::xs=>by rw[K7,jal,jav,jd0 h d xs];rfl
theorem vc_I {v:V}{xs:List Int}(h:IsI v xs)(hp:List AObj):vLen v=some xs.length/\jaT hp 1 xs.length v=some (xs.map (V.int .i64)):=by
 rcases h with⟨rfl,rfl⟩|rfl|rfl
 ·exact⟨rfl,rfl⟩
 ·refine⟨rfl,?_⟩;simp only[jaT];rw[Kj ae,Qu ae]
 ·refine⟨rfl,?_⟩;simp only[jaT];rw[Kj ae,Qu ae]
theorem jlI(h:List AObj)(xs:List Int)(q:RCap)(n:Nat):jaL h 12 (.row (xs.map (V.int .i64)) n q)=some (.row (xs.map (V.int .i64)) n .unk):=by
 show jaL h (10+1+1) _=_;rw[ja2,jd0];rfl
theorem isI_unk {v:V}{xs:List Int}(h:IsI v xs):IsI (unkV v) xs:=by
 rcases h with⟨rfl,rfl⟩|rfl|rfl
 ·exact .inl ⟨rfl,rfl⟩
 ·exact .inr (.inl rfl)
 ·exact .inr (.inl rfl)
theorem jix {xv:V}{xs:List Int}(h:IsI xv xs)(hl:xs.length<=100000)(U:S):jaf env (ev env) 197 [xv] U=some (unkV xv,U):=by
 refine jak (by simp[W.closed_I h]) jt2 rfl ?_ U;have hlim:lim=2^40:=rfl
 have key:∀q,∃ts q',appO env false ⟨[],[]⟩ 22 22 (.row [] 0 .full) (.row (xs.map (V.int .i64)) xs.length q)=some (.row (xs.map (V.int .i64)) xs.length q',⟨[],ts⟩):=by
  intro q;by_cases hx:xs=[]
  ·subst hx
   exact⟨[],.full,by
    unfold appO;simp only[eI.elem,eI.size,eI.bytes,eI.zeros,u22,vLen,jaT,Kl,Km];simp[jbf]⟩
  ·have hn:0<xs.length:=Xn.2 hx;obtain⟨v',ts',hA,g,_⟩:=GrowV.append (E:=env) (hp:=[]) (y:=.row (xs.map (V.int .i64)) xs.length q) (m:=xs.length) (new:=xs.map (V.int .i64)) eI ⟨3,u22⟩ (.full [] 0 rfl:GrowV 0 [] 1 _ 0 []) (K8 _) rfl (by simp only[jaT];rw[Kj ae,Qu ae]) ae (jgE xs) ⟨by rw[hlim];omega,by rw[hlim];omega⟩;rw[Jn,Jk]at g;obtain⟨q',rfl⟩:=g.isrow hn;exact⟨ts',q',hA⟩
 rcases h with⟨rfl,rfl⟩|rfl|rfl
 ·simp only[Tryz.f197,simprocAttr,zK,Vq,jaj,je8 u22];rfl
 ·obtain⟨ts,q',hA⟩:=key .unk;simp only[Tryz.f197,simprocAttr,zK,Vq,jaj,jdn u22,jaq,jvW,hA];simp only[jay,jai,jlI,unkV]
 ·obtain⟨ts,q',hA⟩:=key .full;simp only[Tryz.f197,simprocAttr,zK,Vq,jaj,jdn u22,jaq,jvW,hA];simp only[jay,jai,jlI,unkV]
theorem jn7(x:V):∀m,(List.replicate m [x]).flatten=List.replicate m x
 |0=>rfl
 |m+1=>by rw[List.replicate_succ,List.replicate_succ,Vr,jn7 x m];rfl
theorem jvX {m:Nat}(h:0<m)(hm:m<=2^36)(L:List AObj)(ts:List Nat):appO env true ⟨L,ts⟩ 22 3 .nilsl (.int .i64 (m:Int))=some (.hsl L.length 0 m m (.grow 1),⟨L++[.cells (List.replicate m (.int .i64 0)) 3],ts⟩):=by
 have hlim:lim=2^40:=rfl;have h0:¬(m:Int)=0:=aa;have h1:(0<(m:Int)/\(m:Int)<=(lim:Int)/\(m:Int)*((8:Nat):Int)<=(lim:Int)/\0<1):=by rw[hlim];omega
 have z3:ja8 env 3=some (.int .i64 0):=ac;simp only[appO,eI.elem,eI.size,eI.bytes,tys,Kl,jpp,h0,h1,Kq,Km,z3,and_self,V.cells,Qn,Qx,Jn,S.push,Qi];rw[jn7]
theorem jrd(n:Nat)(hn:n<=100000)(L:List AObj)(ts:List Nat):jaf env (ev env) 237 [.nilsl,.int .i64 n] ⟨L,ts⟩=some (if n=0 then(.nilsl,⟨L,ts⟩)else(.hsl L.length 0 0 n (.grow 1),⟨L++[.cells (List.replicate n (.int .i64 0)) 3],ts⟩)):=by
 have e0:IntKind.i64.wrap (0-0)=0:=af;have e1:IntKind.i64.wrap ((n:Int)-0)=n:=by rw[Int.sub_zero];exact wrap_i64 aa aa
 have c0:((n:Int)<0)=False:=eq_false aa;have k0:jon (some (.slice 3)) .nilsl=some (.int .i64 0):=rfl;have s0:jb2 env 22 .nilsl none (some (.int .i64 0)) none=some .nilsl:=ac
 have s1:∀b:Nat,jb2 env 22 (.hsl b 0 n n (.grow 1)) none (some (.int .i64 0)) none=some (.hsl b 0 0 n (.grow 1)):=λb=>by
  simp only[jb2,tys,Kl];simp[jcV,ja4,HCap.cut]
 by_cases h:n=0
 ·rw[Kj h];have c1:((n:Int)>0)=False:=eq_false aa;refine jaI jvV rfl ?_;simp only[Nat.reduceGcd,Tryz.f237,Ka,Nat.reduceLT,Nat.reduceEqDiff,Km,Kq,reduceIte,Ys,Y0,Int.reduceEq,Int.reduceLT,Int.reduceLE,Int.reduceNeg,mb,Nat.reduceBEq,tys,stb,Vq,e0,e1,c0,c1,jpP,k0];exact⟨rfl,trivial⟩
 ·rw[Kh h];have hA:=jvX (m:=n) aa aa L ts;have c1:((n:Int)>0)=True:=eq_true aa;refine jaI jvV rfl ?_;simp only[Nat.reduceGcd,Tryz.f237,Ka,Nat.reduceLT,Nat.reduceEqDiff,Km,Kq,reduceIte,Ys,Y0,Int.reduceEq,Int.reduceLT,Int.reduceLE,Int.reduceNeg,mb,Nat.reduceBEq,tys,stb,Vq,e0,e1,c0,c1,jpP,k0,jbX,jbY,jb3,s0,hA,s1];exact⟨rfl,trivial⟩
structure TOK (t:Tb):Prop where
 cv:IsC t.s.cv t.s.cs
 ok:OkC t.s.cs
 cl:t.s.cs.length<=200
 sh:jjp t.s
 mi:In64 t.s.many
 ci:∀c∈t.s.cs,In64 c.lo/\In64 c.hi
 rv:IsR t.rv t.rows
 ro:OkR t.rows
 rl:t.rows.length<=5000
 vl:∀r∈t.rows,r.vs.length<=1000
structure BOK (v:V) (l:List Tb):Prop where
 v:IsB v l
 t:∀t∈l,TOK t
 l:l.length<=1000
theorem BOK.at {v:V}{l:List Tb}(h:BOK v l){i:Nat}(hi:i<l.length):TOK (l.getD i Tb.none):=h.t _ (Tb.mem hi)
theorem BOK.ok {v:V}{l:List Tb}(h:BOK v l):OkB l:=⟨λt ht=>⟨(h.t t ht).cv,(h.t t ht).ok⟩,λt ht=>⟨(h.t t ht).rv,(h.t t ht).ro⟩⟩
theorem BOK.closed {v:V}{l:List Tb}(h:BOK v l):v.closed=true:=jss h.v h.ok
theorem load5_rptr(h:List AObj)(a b c d e:V)(r:List V):jab h 5 (.rptr (a::b::c::d::e::r))=some [a,b,c,d,e]:=by simp[jab]
theorem load2_rptr(h:List AObj)(a b:V)(r:List V):jab h 2 (.rptr (a::b::r))=some [a,b]:=by simp[jab]
theorem ld5 {h:List AObj}{n:Nat}{a b c d e:V}{t:TypeId}(hh:h[n]? = some (.cells [a,b,c,d,e] t)):jab h 5 (.ptr n 0)=some [a,b,c,d,e]:=by simp[jab,hh]
theorem ld54 {h:List AObj}{n:Nat}{a b c d e:V}{t:TypeId}(hh:h[n]? = some (.cells [a,b,c,d,e] t)):jab h 4 (.ptr n 0)=some [a,b,c,d]:=by simp[jab,hh]
theorem ld2 {h:List AObj}{n:Nat}{a b:V}{t:TypeId}(hh:h[n]? = some (.cells [a,b] t)):jab h 2 (.ptr n 0)=some [a,b]:=by simp[jab,hh]
theorem jco {v:V}{cs:List Col}(h:IsC v cs):v.isCell=true:=by rcases h with⟨rfl,_⟩|⟨q,_,rfl⟩<;>rfl
theorem jdg {v:V}{l:List Rw}(h:IsR v l):v.isCell=true:=by rcases h with⟨rfl,_⟩|⟨q,_,rfl⟩<;>rfl
theorem jcp {v:V}{l:List Int}(h:IsI v l):v.isCell=true:=by rcases h with⟨rfl,_⟩|rfl|rfl<;>rfl
def cpS(s:Sch):Sch:={ s with cv:=unkV s.cv }
def sv(l:List Tb):List Sch:=l.map λt=>cpS t.s
def svV(l:List Tb):V:=if l=[]then .nilsl else .row (jbl (sv l)) (sv l).length .unk
theorem jjA(l:List Tb):IsS (svV l) (sv l):=by
 unfold svV;split
 ·rename_i h;subst h;exact .inl ⟨rfl,rfl⟩
 ·exact .inr ⟨.unk,.inl rfl,rfl⟩
theorem jyF(a b c d:V):rowO env 24 1 [(0,.agg [a,b,c,d])]=some (.row [a,b,c,d] 1 .full):=ac
theorem take_next {α:Type}{l:List α}{i:Nat}(d:α)(h:i<l.length):l.take (i+1)=l.take i++[l.getD i d]:=by
 rw[V9,Kz h];simp[List.getD,h]
theorem jjB(h:List AObj):∀{l:List Sch},(∀s∈l,(∃v,IsC v s.cs/\s.cv=unkV v)/\OkC s.cs)->(jbl l).mapM (jaL h 11)=some (jbl l)
 | [],_=>rfl
 | s::l,ok=>by
  obtain⟨⟨v,hv,e⟩,hc⟩:=ok s ae
  have hs:jaL h 11 s.cv=some s.cv:=by
   rw[e]
   rcases hv with⟨rfl,_⟩|⟨q,_,rfl⟩
   ·rfl
   ·show jaL h (10+1) (.row _ _ .unk)=_;rw[ja2,show(10:Nat)=8+2 from rfl,jdK h 8 hc];rfl
  rw[jci,jal,jal,jal,jal,jjB h (l:=l) λx hx=>ok x (by simp[hx]),hs,jbB,jav,jaz];rfl
theorem jr8:env.hook 105=some (jbR YtajaampgajieeaaGreatDoor.env 105):=rfl
theorem juc {t:Tb}(h:TOK t)(U:S):jaf env (ev env) 105 [.agg [.str t.s.name,.bool t.s.pub,.int .i64 t.s.many,t.s.cv]] U=some (.agg [.str t.s.name,.bool t.s.pub,.int .i64 t.s.many,unkV t.s.cv],U) :=
 jcH jr8 (jg4 _ _ _ _ _ h.cv h.ok (by have:=h.cl;omega) λi hi=>(h.sh.2.2 i hi).2.1) _ U
theorem jcS {v:V}{l:List Tb}(h:BOK v l)(U:S):jaf env (ev env) 115 [v] U=some (svV l,U):=by
 refine jak (by simp[h.closed]) jym rfl ?_ U;have hlim:lim=2^40:=rfl;have hl:=h.l;have hB:=jo9 h.v 79;simp only[Tryz.f115,simprocAttr,zK,Vq,jaj,hB];refine jax (λm T D U=>D=[]/\T 6=v/\T 7=.int .i64 l.length/\∃(L:List AObj) (ts:List Nat) (i:Nat) (u:V),U=⟨L,ts⟩/\T 3=u/\T 8=.int .i64 i/\i<=l.length/\m=l.length-i/\GrowV 0 ts 4 u i (jbl (sv (l.take i)))/\(i=0->u=.nilsl)) ?_ (l.length-0) _ _ _ ⟨rfl,rfl,rfl,[],[],0,.nilsl,rfl,rfl,rfl,Qr _,rfl,.nil,λ_=>rfl⟩;rintro m T D U ⟨rfl,t6,t7,L,ts,i,u,rfl,t3,t8,hi,rfl,g,g0⟩;refine jaB ?_;by_cases hlt:i<l.length
 ·have c1:(i:Int)<(l.length:Int):=by omega
  have e1:IntKind.i64.wrap ((i:Int)+1)=((i+1:Nat):Int):=by rw[wrap_i64 aa aa];omega
  have hx:=jiU h.v hlt;have ht:=h.at hlt;have i1:=jco ht.cv;have i2:=jdg ht.rv;have hC:=juc ht
  obtain⟨v',ts',hA,g',_⟩:=GrowV.push (E:=env) (hp:=L++[AObj.cells [.str (l.getD i Tb.none).s.name,.bool (l.getD i Tb.none).s.pub,.int .i64 (l.getD i Tb.none).s.many,(l.getD i Tb.none).s.cv,(l.getD i Tb.none).rv] 79]) (q:=.full) (new:=[.str (l.getD i Tb.none).s.name,.bool (l.getD i Tb.none).s.pub,.int .i64 (l.getD i Tb.none).s.many,unkV (l.getD i Tb.none).s.cv]) eS ⟨38,eS.slice⟩ g (Qr _) rfl
   (by rcases ht.cv with⟨e,_⟩|⟨q,_,e⟩<;>rw[e]<;>rfl) ⟨by rw[hlim];omega,by rw[hlim];omega⟩
  have ld:=ld54 (jad L (AObj.cells [.str (l.getD i Tb.none).s.name,.bool (l.getD i Tb.none).s.pub,.int .i64 (l.getD i Tb.none).s.many,(l.getD i Tb.none).s.cv,(l.getD i Tb.none).rv] 79));simp only[simprocAttr,zK,K1,jaa,tyb,fo,t3,t6,t7,t8,c1,e1,hx,load5_rptr,jad,jao,jae,jam,jac,i1,i2,ld,hC,jaq,jyF,hA];refine⟨l.length-(i+1),aa,_,ts',i+1,v',rfl,rfl,rfl,aa,rfl,?_,λh=>aa⟩;rw[take_next Tb.none hlt];have e:jbl (sv (l.take i++[l.getD i Tb.none]))=jbl (sv (l.take i))++[.str (l.getD i Tb.none).s.name,.bool (l.getD i Tb.none).s.pub,.int .i64 (l.getD i Tb.none).s.many,unkV (l.getD i Tb.none).s.cv]:=by simp[sv,jbl,cpS,Sch.cells]
  rw[e];exact g'
 ·have hie:i=l.length:=by omega
  subst hie;have c1:¬(l.length:Int)<(l.length:Int):=aa;simp only[simprocAttr,zK,Vq,t3,t6,t7,t8,c1];rw[Jp]at g
  have hs:=jjB L (l:=sv l) λs hs=>by
   obtain⟨t,ht,rfl⟩:=Ji.1 hs;exact⟨⟨_,(h.t t ht).cv,rfl⟩,(h.t t ht).ok⟩
  unfold svV;by_cases hn:l=[]
  ·rw[Kj hn,g0 (by rw[hn];rfl)];rfl
  ·rw[Kh hn];have hp:0<l.length:=Xn.2 hn;obtain⟨q,rfl⟩:=g.isrow hp;show jaL L (11+1) (.row _ _ _)=_;rw[ja2,hs,show(sv l).length=l.length by simp[sv]];rfl
end Go.Proofs.YtajaampgajieeaaGreatDoor.B
