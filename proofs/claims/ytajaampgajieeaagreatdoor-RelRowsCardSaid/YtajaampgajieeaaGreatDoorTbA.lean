/- Proved here: tables as values, and copies of them. Conditions: those of each theorem; no statement of the seat is proved in this text. -/
import Derived.Test.YtajaampgajieeaaGreatDoorSpA
set_option linter.unusedSimpArgs false
set_option linter.unusedVariables false
set_option linter.unusedSectionVars false
set_option maxHeartbeats 16000000
set_option maxRecDepth 1000000
namespace Go.Proofs.YtajaampgajieeaaGreatDoor
open Go.Ab
abbrev PR:=Int × List Int
def jiz(n:Int):List Int->List PR->List PR
 |_,[]=>[]
 |seen,r::l=>if((seen.count r.1:Nat):Int)+1<=n then r::jiz n (r.1::seen) l else jiz n (r.1::seen) l
def jlI(pub:Bool)(left right:Nat)(r s:PR):Prop:=s.2.getD right 0=r.2.getD left 0/\(pub=true\/s.1=r.1)
instance (pub:Bool) (left right:Nat) (r s:PR):Decidable (jlI pub left right r s):=inferInstanceAs (Decidable (_/\_))
def jeQ(pub:Bool)(left right:Nat)(limit:Int)(r:PR):List PR->Int->List PR
 | [],_=>[]
 |s::o,m=>if m<limit/\jlI pub left right r s then(r.1,r.2++s.2)::jeQ pub left right limit r o (m+1)else jeQ pub left right limit r o m
def jht(pub:Bool)(left right:Nat)(limit:Int)(o:List PR)(l:List PR):List PR:=l.flatMap λr=>jeQ pub left right limit r o 0
def cnt(o:Int)(l:List PR):Nat:=l.countP λr=>decide (r.1=o)
theorem jeu(n:Int):∀(l:List PR) (seen:List Int),(jiz n seen l).Sublist l
 | [],_=>List.Sublist.slnil
 |r::l,seen=>by
  simp only[jiz];split
  ·exact(jeu n l _).cons_cons _
  ·exact(jeu n l _).cons _
theorem jlJ(n o:Int):∀(l:List PR) (seen:List Int),(cnt o (jiz n seen l):Int)<=max 0 (n-(seen.count o:Nat))
 | [],_=>by simp[jiz,cnt];omega
 | r::l,seen=>by
  have ih:=jlJ n o l (r.1::seen);simp only[jiz];by_cases h:r.1=o
  ·have hc:((r.1::seen).count o:Nat)=seen.count o+1:=by rw[h];simp
   rw[hc]at ih;split
   ·rename_i hl;rw[h]at hl;simp only[cnt]at ih ⊢;rw[List.countP_cons_of_pos (by simpa using h)];omega
   ·omega
  ·have hc:((r.1::seen).count o:Nat)=seen.count o:=X1 h;rw[hc]at ih;split
   ·simp only[cnt]at ih ⊢;rw[Xf (by simpa using h)];exact ih
   ·exact ih
theorem jgy(pub:Bool)(left right:Nat)(limit:Int)(r:PR):∀(o:List PR) (m:Int),∀x∈jeQ pub left right limit r o m,x.1=r.1/\∃s∈o,x.2=r.2++s.2/\jlI pub left right r s
 | [],_,x,hx=>by simp[jeQ]at hx
 | s::o,m,x,hx=>by
  simp only[jeQ]at hx;split at hx
  ·rename_i h
   rcases Q9.1 hx with rfl|hx
   ·exact⟨rfl,s,by simp,rfl,h.2⟩
   ·obtain⟨a,t,ht,b⟩:=jgy pub left right limit r o (m+1) x hx;exact⟨a,t,by simp[ht],b⟩
  ·obtain⟨a,t,ht,b⟩:=jgy pub left right limit r o m x hx;exact⟨a,t,by simp[ht],b⟩
theorem jfl(pub:Bool)(left right:Nat)(limit:Int)(r:PR):∀(o:List PR) (m:Int),((jeQ pub left right limit r o m).length:Int)<=max 0 (limit-m)
 | [],m=>by simp[jeQ];omega
 | s::o,m=>by
  simp only[jeQ];split
  ·have:=jfl pub left right limit r o (m+1);simp only[K9];omega
  ·exact jfl pub left right limit r o m
theorem jg8(o:Int)(a b:List PR):cnt o (a++b)=cnt o a+cnt o b:=by simp[cnt]
theorem jti(o:Int)(a:List PR):cnt o a<=a.length:=List.countP_le_length
theorem jsH {o:Int}{a:List PR}(h:∀x∈a,x.1 ≠ o):cnt o a=0:=by
 unfold cnt;rw[List.countP_eq_zero];intro x hx;simpa using h x hx
theorem jnk {o:Int}{a b:List PR}(h:a.Sublist b):cnt o a<=cnt o b:=h.countP_le
def jho:List PR->List PR->Nat
 |_,[]=>0
 | [],_=>0
 |x::l,y::v=>if x=y then jho l v+1 else jho l (y::v)
theorem jg9:∀{l v:List PR},v.Sublist l->jho l v=v.length
 |_,[],_=>by unfold jho;rfl
 | [],y::v,h=>by cases h
 | x::l,y::v,h=>by
  simp only[jho];split
  ·rename_i e;subst e;rw[jg9 h.of_cons_cons];rfl
  ·rename_i e;cases h with
   |cons _ h=>exact jg9 h
   |cons_cons _ h=>exact absurd rfl e
theorem jjz(pub:Bool)(left right:Nat)(limit:Int)(o:List PR)(r:PR)(l:List PR):jht pub left right limit o (r::l)=jeQ pub left right limit r o 0++jht pub left right limit o l:=by simp[jht]
structure VP where
 rows:List PR
 keep:Int
 jn:Option (List PR × Bool × Nat × Nat × Int)
 hold:Option (List Int->Bool)
def VP.kept(v:VP):List PR:=if v.keep=0 then v.rows else jiz v.keep [] v.rows
def VP.joined(v:VP):List PR :=
 match v.jn with
 |none=>v.kept
 |some (o,pub,left,right,limit)=>jht pub left right limit o v.kept
def VP.view(v:VP):List PR :=
 match v.hold with
 |none=>v.joined
 |some p=>v.joined.filter λr=>p r.2
theorem VP.view_sub(v:VP):v.view.Sublist v.joined:=by
 unfold VP.view;split
 ·exact List.Sublist.refl _
 ·exact List.filter_sublist
theorem VP.kept_cnt(v:VP){w many:Int}(h:(cnt w v.rows:Int)<=many)(hk:0<=v.keep):(cnt w v.kept:Int)<=if v.keep=0 then many else min v.keep many:=by
 unfold VP.kept;split
 ·exact h
 ·have h1:=jlJ v.keep w v.rows [];have h2:=jnk (o:=w) (jeu v.keep v.rows []);simp only[List.count_nil]at h1;omega
theorem jha(left right:Nat)(limit:Int)(r:PR):∀(o:List PR) (m:Int),(jeQ false left right limit r o m).length<=cnt r.1 o
 | [],m=>by simp[jeQ]
 | s::o,m=>by
  simp only[jeQ];split
  ·rename_i h
   have e:s.1=r.1:=by
    rcases h.2.2 with h|h
    ·cases h
    ·exact h
   have:=jha left right limit r o (m+1);have h3:cnt r.1 (s::o)=cnt r.1 o+1:=by simp[cnt,e]
   rw[h3,K9];omega
  ·have:=jha left right limit r o m;have h3:cnt r.1 o<=cnt r.1 (s::o):=jnk (List.sublist_cons_self _ _);omega
theorem jjA(pub:Bool)(left right:Nat)(limit:Int)(o:List PR)(w:Int){B:Int}(hB:∀r:PR,r.1=w->((jeQ pub left right limit r o 0).length:Int)<=B):∀l:List PR,(cnt w (jht pub left right limit o l):Int)<=(cnt w l:Int)*B
 | []=>by simp[jht,cnt]
 | r::l=>by
  have ih:=jjA pub left right limit o w hB l;rw[jjz,jg8];by_cases h:r.1=w
  ·have h1:=jti w (jeQ pub left right limit r o 0);have h2:=hB r h;have h3:cnt w (r::l)=cnt w l+1:=by simp[cnt,h]
   have:((cnt w l+1:Nat):Int)*B=(cnt w l:Int)*B+B:=by rw[Int.natCast_add,Int.add_mul];simp
   rw[h3,this];omega
  ·have h1:cnt w (jeQ pub left right limit r o 0)=0:=jsH λx hx=>by rw[(jgy pub left right limit r o 0 x hx).1];exact h
   have h3:cnt w (r::l)=cnt w l:=by simp[cnt,h]
   rw[h1,h3];omega
def VP.most(v:VP)(many many2:Int):Int :=
 (if v.keep=0 then many else min v.keep many) *
  (match v.jn with
  |none=>1
  |some (_,pub,_,_,limit)=>if pub=true then limit else min limit many2)
theorem VP.view_cnt(v:VP){w many many2:Int}(h:(cnt w v.rows:Int)<=many)(hk:0<=v.keep)
  (hj:∀o pub left right limit,v.jn=some (o,pub,left,right,limit)->0<=limit/\(pub=false->(cnt w o:Int)<=many2)):(cnt w v.view:Int)<=v.most many many2:=by
 have h1:=v.kept_cnt h hk;have h2:=jnk (o:=w) v.view_sub;refine Int.le_trans (Int.ofNat_le.2 h2) ?_;unfold VP.joined VP.most;split
 ·rename_i e;omega
 ·rename_i o pub left right limit e;obtain⟨hl,hp⟩:=hj _ _ _ _ _ e
  have hB:∀r:PR,r.1=w->((jeQ pub left right limit r o 0).length:Int)<=(if pub=true then limit else min limit many2):=by
   intro r hr;have h3:=jfl pub left right limit r o 0;split
   ·omega
   ·rename_i hpub;have hpub:pub=false:=by simpa using hpub
    have h4:=hp hpub;subst hpub;have h5:=jha left right limit r o 0;rw[hr]at h5;omega
  refine Int.le_trans (jjA pub left right limit o w hB v.kept) ?_
  have hB0:(0:Int)<=(if pub=true then limit else min limit many2):=by
   split
   ·exact hl
   ·rename_i hpub;have h4:=hp (by simpa using hpub);omega
  exact Int.mul_le_mul_of_nonneg_right h1 hB0
structure Rw where
 own:Int
 vv:V
 vs:List Int
def Rw.none:Rw:=⟨0,.nilsl,[]⟩
def Rw.cells(r:Rw):List V:=[.int .i64 r.own,r.vv]
abbrev Rw.pl(r:Rw):PR:=(r.own,r.vs)
def jcp(l:List Rw):List V:=(l.map Rw.cells).flatten
theorem jcu(r:Rw)(l:List Rw):jcp (r::l)=.int .i64 r.own::r.vv::jcp l:=rfl
theorem jgz(a b:List Rw):jcp (a++b)=jcp a++jcp b:=by simp[jcp]
theorem jjB:∀(l:List Rw) (i:Nat),(jcp l).drop (i*2)=jcp (l.drop i)
 |l,0=>by simp
 | [],i+1=>by simp[jcp]
 |r::l,i+1=>by
  rw[jcu,show(i+1)*2=i*2+1+1 by omega,Kv,Kv,jjB l i,Kv]
theorem jsI {l:List Rw}{i:Nat}(hi:i<l.length):jcp (l.drop i)=.int .i64 (l.getD i Rw.none).own::(l.getD i Rw.none).vv::jcp (l.drop (i+1)):=by
 have e:l.drop i=l.getD i Rw.none::l.drop (i+1):=by
  rw[K7 hi];simp[List.getD,hi]
 rw[e,jcu]
def IsR(v:V)(l:List Rw):Prop:=(v=.nilsl/\l=[])\/∃q,(q=RCap.unk\/q=RCap.full)/\v=.row (jcp l) l.length q
def OkR(l:List Rw):Prop:=∀r∈l,W.IsI r.vv r.vs/\(∀x∈r.vs,In64 x)/\In64 r.own
theorem OkR.at {l:List Rw}(h:OkR l){i:Nat}(hi:i<l.length):W.IsI (l.getD i Rw.none).vv (l.getD i Rw.none).vs/\(∀x∈(l.getD i Rw.none).vs,In64 x)/\In64 (l.getD i Rw.none).own:=h _ (by simp[List.getD,hi])
theorem jkv {v:V}{l:List Rw}(h:IsR v l)(e:TypeId):ja5 (some (.slice e)) v=some (.int .i64 l.length):=by
 rcases h with⟨rfl,rfl⟩|⟨q,_,rfl⟩<;>simp[ja5]
theorem jnl {v:V}{l:List Rw}(h:IsR v l){i:Nat}(hi:i<l.length):jax 2 v (.int .i64 (i:Int))=some (.rptr (.int .i64 (l.getD i Rw.none).own::(l.getD i Rw.none).vv::jcp (l.drop (i+1)))):=by
 rcases h with⟨rfl,rfl⟩|⟨q,_,rfl⟩
 ·simp at hi
 ·rw[Ys,Kh (by omega),K8,jjB,jsI hi]
theorem jfm:∀{l:List Rw},OkR l->V.closed.closedL (jcp l)=true
 | [],_=>rfl
 |r::l,h=>by
  rw[jcu];simp only[V.closed.closedL,V.closed,W.closed_I (h r (by simp)).1,jfm (l:=l) λx hx=>h x (by simp[hx]),K2]
theorem jkw {v:V}{l:List Rw}(h:IsR v l)(ok:OkR l):v.closed=true:=by
 rcases h with⟨rfl,rfl⟩|⟨q,rfl|rfl,rfl⟩
 ·rfl
 ·simp only[V.closed,jfm ok,K2]
 ·simp only[V.closed,jfm ok,K2]
structure Tb where
 s:Sch
 rv:V
 rows:List Rw
def Tb.none:Tb:=⟨Sch.none,.nilsl,[]⟩
def Tb.cells(t:Tb):List V:=[.str t.s.name,.bool t.s.pub,.int .i64 t.s.many,t.s.cv,t.rv]
def jcv(l:List Tb):List V:=(l.map Tb.cells).flatten
theorem jdL(t:Tb)(l:List Tb):jcv (t::l)=.str t.s.name::.bool t.s.pub::.int .i64 t.s.many::t.s.cv::t.rv::jcv l:=rfl
theorem jru(a b:List Tb):jcv (a++b)=jcv a++jcv b:=by simp[jcv]
theorem jjC:∀(l:List Tb) (i:Nat),(jcv l).drop (i*5)=jcv (l.drop i)
 |l,0=>by simp
 | [],i+1=>by simp[jcv]
 |r::l,i+1=>by
  rw[jdL,show(i+1)*5=i*5+1+1+1+1+1 by omega,Kv,Kv,Kv,Kv,Kv,jjC l i,Kv]
theorem jsJ {l:List Tb}{i:Nat}(hi:i<l.length):jcv (l.drop i)=.str (l.getD i Tb.none).s.name::.bool (l.getD i Tb.none).s.pub::.int .i64 (l.getD i Tb.none).s.many::(l.getD i Tb.none).s.cv::(l.getD i Tb.none).rv::jcv (l.drop (i+1)):=by
 have e:l.drop i=l.getD i Tb.none::l.drop (i+1):=by
  rw[K7 hi];simp[List.getD,hi]
 rw[e,jdL]
def IsB(v:V)(l:List Tb):Prop:=(v=.nilsl/\l=[])\/∃q,(q=RCap.unk\/q=RCap.full)/\v=.row (jcv l) l.length q
structure OkB (l:List Tb):Prop where
 cv:∀t∈l,IsC t.s.cv t.s.cs/\OkC t.s.cs
 rv:∀t∈l,IsR t.rv t.rows/\OkR t.rows
theorem Tb.mem {l:List Tb}{i:Nat}(hi:i<l.length):l.getD i Tb.none∈l:=by simp[List.getD,hi]
theorem jrv {v:V}{l:List Tb}(h:IsB v l)(e:TypeId):ja5 (some (.slice e)) v=some (.int .i64 l.length):=by
 rcases h with⟨rfl,rfl⟩|⟨q,_,rfl⟩<;>simp[ja5]
theorem jkq {v:V}{l:List Tb}(h:IsB v l){i:Nat}(hi:i<l.length):jax 5 v (.int .i64 (i:Int))=some (.rptr (.str (l.getD i Tb.none).s.name::.bool (l.getD i Tb.none).s.pub::.int .i64 (l.getD i Tb.none).s.many::(l.getD i Tb.none).s.cv::(l.getD i Tb.none).rv::jcv (l.drop (i+1)))):=by
 rcases h with⟨rfl,rfl⟩|⟨q,_,rfl⟩
 ·simp at hi
 ·rw[Ys,Kh (by omega),K8,jjC,jsJ hi]
theorem jfn:∀{l:List Tb},OkB l->V.closed.closedL (jcv l)=true
 | [],_=>rfl
 |t::l,h=>by
  have h1:=h.cv t (by simp);have h2:=h.rv t (by simp);rw[jdL];simp only[V.closed.closedL,V.closed,ja4 h1.1 h1.2,jkw h2.1 h2.2,jfn (l:=l) ⟨λx hx=>h.cv x (by simp[hx]),λx hx=>h.rv x (by simp[hx])⟩,K2]
theorem jsK {v:V}{l:List Tb}(h:IsB v l)(ok:OkB l):v.closed=true:=by
 rcases h with⟨rfl,rfl⟩|⟨q,rfl|rfl,rfl⟩
 ·rfl
 ·simp only[V.closed,jfn ok,K2]
 ·simp only[V.closed,jfn ok,K2]
end Go.Proofs.YtajaampgajieeaaGreatDoor
namespace Go.Proofs.YtajaampgajieeaaGreatDoor.B
open Go.Ab
theorem mb(f:FuncId)(r:Nat):env.mutb f r=(f==237 ||f==128 && r==5 ||f==130 && r==5 ||f==69):=rfl
theorem stb(f:FuncId)(r:Nat)(h:(f==41 && r==13 ||f==120 && r==5 ||f==203 && r==9 ||f==37 && r==8 ||f==128 && r==9 ||f==130 && r==9 ||f==216 && r==3 ||f==36 && r==3)=false):env.stab f r=false:=h
theorem tys:env.P.underlying 3=some (.int .i64)/\env.P.underlying 4=some .bool/\env.P.underlying 9=some .string/\env.P.underlying 22=some (.slice 3)/\env.P.underlying 24=some (.slice 38)/\env.P.underlying 26=some (.slice 84)/\env.P.underlying 32=some (.int .i64)/\env.P.underlying 36=some (.slice 41)/\env.P.underlying 51=some (.slice 79)/\env.P.underlying 60=some (.slice 70)/\sz env 3=some 1/\sz env 4=some 1/\sz env 9=some 1/\sz env 22=some 1/\sz env 24=some 1/\sz env 26=some 1/\sz env 30=some 20/\sz env 32=some 1/\sz env 36=some 1/\sz env 38=some 4/\sz env 41=some 4/\sz env 51=some 1/\sz env 60=some 1/\sz env 70=some 2/\sz env 79=some 5/\(∀h p,jaF env h 3 p=(jab h 1 p).bind (·[0]?))/\(∀h p,jaF env h 4 p=(jab h 1 p).bind (·[0]?))/\(∀h p,jaF env h 9 p=(jab h 1 p).bind (·[0]?))/\(∀h p,jaF env h 22 p=(jab h 1 p).bind (·[0]?))/\(∀h p,jaF env h 24 p=(jab h 1 p).bind (·[0]?))/\(∀h p,jaF env h 26 p=(jab h 1 p).bind (·[0]?))/\(∀h p,jaF env h 32 p=(jab h 1 p).bind (·[0]?))/\(∀h p,jaF env h 36 p=(jab h 1 p).bind (·[0]?))/\(∀h p,jaF env h 51 p=(jab h 1 p).bind (·[0]?))/\(∀h p,jaF env h 60 p=(jab h 1 p).bind (·[0]?))/\(∀h p,jaF env h 30 p=(jab h 20 p).map .agg)/\(∀h p,jaF env h 38 p=(jab h 4 p).map .agg)/\(∀h p,jaF env h 41 p=(jab h 4 p).map .agg)/\(∀h p,jaF env h 70 p=(jab h 2 p).map .agg)/\(∀h p,jaF env h 79 p=(jab h 5 p).map .agg) :=
 ⟨by kernel_rfl,by kernel_rfl,by kernel_rfl,by kernel_rfl,by kernel_rfl,by kernel_rfl,by kernel_rfl,by kernel_rfl,by kernel_rfl,by kernel_rfl,by kernel_rfl,by kernel_rfl,by kernel_rfl,by kernel_rfl,by kernel_rfl,by kernel_rfl,by kernel_rfl,by kernel_rfl,by kernel_rfl,by kernel_rfl,by kernel_rfl,by kernel_rfl,by kernel_rfl,by kernel_rfl,by kernel_rfl,λ_ _=>jaw (by kernel_rfl),λ_ _=>jaw (by kernel_rfl),λ_ _=>jaw (by kernel_rfl),λ_ _=>jaw (by kernel_rfl),λ_ _=>jaw (by kernel_rfl),λ_ _=>jaw (by kernel_rfl),λ_ _=>jaw (by kernel_rfl),λ_ _=>jaw (by kernel_rfl),λ_ _=>jaw (by kernel_rfl),λ_ _=>jaw (by kernel_rfl),λh p=>by unfold jaF;rw[show aggT env 30=some true by kernel_rfl,show sz env 30=some 20 by kernel_rfl];rfl,λh p=>by unfold jaF;rw[show aggT env 38=some true by kernel_rfl,show sz env 38=some 4 by kernel_rfl];rfl,λh p=>by unfold jaF;rw[show aggT env 41=some true by kernel_rfl,show sz env 41=some 4 by kernel_rfl];rfl,λh p=>by unfold jaF;rw[show aggT env 70=some true by kernel_rfl,show sz env 70=some 2 by kernel_rfl];rfl,λh p=>by unfold jaF;rw[show aggT env 79=some true by kernel_rfl,show sz env 79=some 5 by kernel_rfl];rfl⟩
theorem Kc:type_of% (Kd @mb (Kd @stb @tys)):=Kd @mb (Kd @stb @tys)
theorem tyb:env.P.underlying 134=some (.slice 136)/\env.P.underlying 204=some (.map 3 3)/\env.P.underlying 232=some (.slice 22)/\sz env 131=some 1/\sz env 134=some 1/\sz env 136=some 1/\sz env 142=some 1/\sz env 204=some 1/\sz env 232=some 1/\(∀h p,jaF env h 131 p=(jab h 1 p).bind (·[0]?))/\(∀h p,jaF env h 136 p=(jab h 1 p).bind (·[0]?))/\(∀h p,jaF env h 142 p=(jab h 1 p).bind (·[0]?))/\(∀h p,jaF env h 204 p=(jab h 1 p).bind (·[0]?))/\ja2 env 70=some (.agg [.int .i64 0,.nilsl])/\ja2 env 79=some (.agg [.str [],.bool false,.int .i64 0,.nilsl,.nilsl])/\ja2 env 41=some (.agg [.str [],.int .i64 0,.int .i64 0,.nilsl])/\ja2 env 36=some (.nilsl)/\ja2 env 204=some (.nilmap)/\ja2 env 3=some (.int .i64 0) :=
 ⟨by kernel_rfl,by kernel_rfl,by kernel_rfl,by kernel_rfl,by kernel_rfl,by kernel_rfl,by kernel_rfl,by kernel_rfl,by kernel_rfl,λ_ _=>jaw (by kernel_rfl),λ_ _=>jaw (by kernel_rfl),λ_ _=>jaw (by kernel_rfl),λ_ _=>jaw (by kernel_rfl),by kernel_rfl,by kernel_rfl,by kernel_rfl,by kernel_rfl,by kernel_rfl,by kernel_rfl⟩
theorem fo:jat env 70 0=some 0/\jat env 70 1=some 1/\jat env 79 0=some 0/\jat env 79 1=some 4/\jat env 38 0=some 0/\jat env 38 1=some 1/\jat env 38 2=some 2/\jat env 38 3=some 3/\jat env 41 0=some 0/\jat env 41 1=some 1/\jat env 41 2=some 2/\jat env 41 3=some 3/\jat env 30 0=some 0/\jat env 30 1=some 1/\jat env 30 2=some 2/\jat env 30 3=some 3/\jat env 30 4=some 4/\jat env 30 5=some 5/\jat env 30 6=some 6/\jat env 30 7=some 7/\jat env 30 8=some 8/\jat env 30 9=some 9/\jat env 30 10=some 10/\jat env 30 11=some 11/\jat env 30 12=some 12/\jat env 30 13=some 13/\jat env 30 14=some 14/\jat env 30 15=some 15/\jat env 30 16=some 16/\jat env 30 17=some 17/\jat env 30 18=some 18/\jat env 30 19=some 19 :=
 (by refine ⟨?_,?_,?_,?_,?_,?_,?_,?_,?_,?_,?_,?_,?_,?_,?_,?_,?_,?_,?_,?_,?_,?_,?_,?_,?_,?_,?_,?_,?_,?_,?_,?_⟩<;>kernel_rfl)
theorem at41:env.P.funcs[41]? = some Tryz.f41:=by kernel_rfl
theorem jyw:env.P.funcs[118]? = some Tryz.f118:=by kernel_rfl
theorem jyx:env.P.funcs[115]? = some Tryz.f115:=by kernel_rfl
theorem jyy:env.P.funcs[195]? = some Tryz.f195:=by kernel_rfl
theorem jyz:env.P.funcs[236]? = some Tryz.f236:=by kernel_rfl
theorem jyA:env.P.funcs[120]? = some Tryz.f120:=by kernel_rfl
theorem jui:env.P.funcs[197]? = some Tryz.f197:=by kernel_rfl
theorem jyB:env.P.funcs[204]? = some Tryz.f204:=by kernel_rfl
theorem jv0:env.P.funcs[237]? = some Tryz.f237:=by kernel_rfl
theorem jyC:env.P.funcs[119]? = some Tryz.f119:=by kernel_rfl
theorem jyD:env.P.funcs[121]? = some Tryz.f121:=by kernel_rfl
theorem jyE:env.P.funcs[123]? = some Tryz.f123:=by kernel_rfl
theorem jyF:env.P.funcs[124]? = some Tryz.f124:=by kernel_rfl
theorem jyG:env.P.funcs[125]? = some Tryz.f125:=by kernel_rfl
theorem jyH:env.P.funcs[127]? = some Tryz.f127:=by kernel_rfl
theorem jyI:env.P.funcs[196]? = some Tryz.f196:=by kernel_rfl
theorem jyJ:env.P.funcs[198]? = some Tryz.f198:=by kernel_rfl
theorem jyK:env.P.funcs[199]? = some Tryz.f199:=by kernel_rfl
theorem jyL:env.P.funcs[202]? = some Tryz.f202:=by kernel_rfl
theorem jyM:env.P.funcs[203]? = some Tryz.f203:=by kernel_rfl
theorem jyN:env.P.funcs[205]? = some Tryz.f205:=by kernel_rfl
theorem jyO:env.P.funcs[206]? = some Tryz.f206:=by kernel_rfl
theorem jyP:env.P.funcs[207]? = some Tryz.f207:=by kernel_rfl
open W (IsI)
theorem u22:env.P.underlying 22=some (.slice 3):=by kernel_rfl
theorem eI:Elt env 22 3 1 8:=(by refine ⟨?_,?_,?_,?_,?_⟩<;>kernel_rfl)
theorem eR:Elt env 60 70 2 32:=(by refine ⟨?_,?_,?_,?_,?_⟩<;>kernel_rfl)
theorem eS:Elt env 24 38 4 56:=(by refine ⟨?_,?_,?_,?_,?_⟩<;>kernel_rfl)
theorem jv1:rowO env 22 0 []=some (.row [] 0 .full):=by kernel_rfl
theorem jgA:∀xs:List Int,(xs.map (V.int .i64)).all V.isCell=true
 | []=>rfl
 |x::xs=>by simp only[K4,Ku,jac,jgA xs,K2]
theorem jdZ(h:List AObj)(d:Nat):∀xs:List Int,(xs.map (V.int .i64)).mapM (jaO h (d+1))=some (xs.map (V.int .i64))
 | []=>rfl
 |x::xs=>by rw[K4,jam,jav,jdZ h d xs];rfl
theorem vc_I {v:V}{xs:List Int}(h:IsI v xs)(hp:List AObj):vLen v=some xs.length/\jaU hp 1 xs.length v=some (xs.map (V.int .i64)):=by
 rcases h with⟨rfl,rfl⟩|rfl|rfl
 ·exact⟨rfl,rfl⟩
 ·refine⟨rfl,?_⟩;simp only[jaU];rw[Kh (by simp),Qo (by simp)]
 ·refine⟨rfl,?_⟩;simp only[jaU];rw[Kh (by simp),Qo (by simp)]
theorem jlK(h:List AObj)(xs:List Int)(q:RCap)(n:Nat):jaO h 12 (.row (xs.map (V.int .i64)) n q)=some (.row (xs.map (V.int .i64)) n .unk):=by
 show jaO h (10+1+1) _=_;rw[jbb,jdZ];rfl
theorem jnm {v:V}{xs:List Int}(h:IsI v xs):IsI (unkV v) xs:=by
 rcases h with⟨rfl,rfl⟩|rfl|rfl
 ·exact .inl ⟨rfl,rfl⟩
 ·exact .inr (.inl rfl)
 ·exact .inr (.inl rfl)
theorem jnn {xv:V}{xs:List Int}(h:IsI xv xs)(hl:xs.length<=100000)(U:S):jai env (ev env) 197 [xv] U=some (unkV xv,U):=by
 refine jal rfl rfl (by simp[W.closed_I h]) jui rfl (by simp[Tryz.f197]) (by simp[Tryz.f197]) (jah ?_) U;have hlim:lim=2^40:=rfl
 have key:∀q,∃ts q',appO env false ⟨[],[]⟩ 22 22 (.row [] 0 .full) (.row (xs.map (V.int .i64)) xs.length q)=some (.row (xs.map (V.int .i64)) xs.length q',⟨[],ts⟩):=by
  intro q;by_cases hx:xs=[]
  ·subst hx
   exact⟨[],.full,by
    unfold appO;simp only[eI.elem,eI.size,eI.bytes,eI.zeros,u22,vLen,jaU,Kl,Kk];simp[jbm]⟩
  ·have hn:0<xs.length:=Xs.2 hx;obtain⟨v',ts',hA,g,_⟩:=GrowV.append (E:=env) (hp:=[]) (y:=.row (xs.map (V.int .i64)) xs.length q) (m:=xs.length) (new:=xs.map (V.int .i64)) eI ⟨3,u22⟩ (.full [] 0 rfl:GrowV 0 [] 1 _ 0 []) (Kz _) rfl (by simp only[jaU];rw[Kh (by simp),Qo (by simp)]) (by simp) (jgA xs) ⟨by rw[hlim];omega,by rw[hlim];omega⟩;rw[Jc,Q6]at g;obtain⟨q',rfl⟩:=g.isrow hn;exact⟨ts',q',hA⟩
 rcases h with⟨rfl,rfl⟩|rfl|rfl
 ·simp only[Tryz.f197,Ka,simprocAttr,Ys,Y0,Kc,Vq,jak,jfd u22];rfl
 ·obtain⟨ts,q',hA⟩:=key .unk;simp only[Tryz.f197,Ka,simprocAttr,Ys,Y0,Kc,Vq,jak,jdl u22,jar,jv1,hA];simp only[jaz,jaj,jlK,unkV]
 ·obtain⟨ts,q',hA⟩:=key .full;simp only[Tryz.f197,Ka,simprocAttr,Ys,Y0,Kc,Vq,jak,jdl u22,jar,jv1,hA];simp only[jaz,jaj,jlK,unkV]
theorem jom(x:V):∀m,(List.replicate m [x]).flatten=List.replicate m x
 |0=>rfl
 |m+1=>by rw[List.replicate_succ,List.replicate_succ,X5,jom x m];rfl
theorem jv2 {m:Nat}(h:0<m)(hm:m<=2^36)(L:List AObj)(ts:List Nat):appO env true ⟨L,ts⟩ 22 3 .nilsl (.int .i64 (m:Int))=some (.hsl L.length 0 m m (.grow 1),⟨L++[.cells (List.replicate m (.int .i64 0)) 3],ts⟩):=by
 have hlim:lim=2^40:=rfl;have h0:¬(m:Int)=0:=by omega
 have h1:(0<(m:Int)/\(m:Int)<=(lim:Int)/\(m:Int)*((8:Nat):Int)<=(lim:Int)/\0<1):=by rw[hlim];omega
 have z3:ja2 env 3=some (.int .i64 0):=by kernel_rfl
 simp only[appO,eI.elem,eI.size,eI.bytes,tys,Kl,jpO,h0,h1,Kn,Kk,z3,and_self,V.cells,K9,Qh,Jc,S.push,K8];rw[jom]
theorem jrw(n:Nat)(hn:n<=100000)(L:List AObj)(ts:List Nat):jai env (ev env) 237 [.nilsl,.int .i64 n] ⟨L,ts⟩=some (if n=0 then(.nilsl,⟨L,ts⟩)else(.hsl L.length 0 0 n (.grow 1),⟨L++[.cells (List.replicate n (.int .i64 0)) 3],ts⟩)):=by
 have e0:IntKind.i64.wrap (0-0)=0:=by decide
 have e1:IntKind.i64.wrap ((n:Int)-0)=n:=by rw[Int.sub_zero];exact wrap_i64 (by omega) (by omega)
 have c0:((n:Int)<0)=False:=eq_false (by omega);have k0:joE (some (.slice 3)) .nilsl=some (.int .i64 0):=rfl;have s0:jb2 env 22 .nilsl none (some (.int .i64 0)) none=some .nilsl:=by kernel_rfl
 have s1:∀b:Nat,jb2 env 22 (.hsl b 0 n n (.grow 1)) none (some (.int .i64 0)) none=some (.hsl b 0 0 n (.grow 1)):=λb=>by
  simp only[jb2,tys,Kl];simp[jcS,ja1,HCap.cut]
 by_cases h:n=0
 ·rw[Kh h];have c1:((n:Int)>0)=False:=eq_false (by omega);refine jaE rfl rfl jv0 rfl (by simp[Tryz.f237]) (by simp[Tryz.f237]) (jah ?_);simp only[Nat.reduceGcd,Tryz.f237,Ka,Nat.reduceLT,Nat.reduceEqDiff,Kk,Kn,reduceIte,Ys,Y0,Int.reduceEq,Int.reduceLT,Int.reduceLE,Int.reduceNeg,mb,Nat.reduceBEq,tys,stb,Vq,e0,e1,c0,c1,jqc,k0];exact⟨rfl,trivial⟩
 ·rw[Ke h];have hA:=jv2 (m:=n) (by omega) (by omega) L ts;have c1:((n:Int)>0)=True:=eq_true (by omega);refine jaE rfl rfl jv0 rfl (by simp[Tryz.f237]) (by simp[Tryz.f237]) (jah ?_);simp only[Nat.reduceGcd,Tryz.f237,Ka,Nat.reduceLT,Nat.reduceEqDiff,Kk,Kn,reduceIte,Ys,Y0,Int.reduceEq,Int.reduceLT,Int.reduceLE,Int.reduceNeg,mb,Nat.reduceBEq,tys,stb,Vq,e0,e1,c0,c1,jqc,k0,jbX,jbY,jb3,s0,hA,s1];exact⟨rfl,trivial⟩
structure TOK (t:Tb):Prop where
 cv:IsC t.s.cv t.s.cs
 ok:OkC t.s.cs
 cl:t.s.cs.length<=200
 sh:jjr t.s
 mi:In64 t.s.many
 ci:∀c∈t.s.cs,In64 c.lo/\In64 c.hi
 rv:IsR t.rv t.rows
 ro:OkR t.rows
 rl:t.rows.length<=5000
 vl:∀r∈t.rows,r.vs.length<=1000
structure BOK (v:V) (l:List Tb):Prop where
 v:IsB v l
 t:∀t∈l,TOK t
 l:l.length<=1000
theorem BOK.at {v:V}{l:List Tb}(h:BOK v l){i:Nat}(hi:i<l.length):TOK (l.getD i Tb.none):=h.t _ (Tb.mem hi)
theorem BOK.ok {v:V}{l:List Tb}(h:BOK v l):OkB l:=⟨λt ht=>⟨(h.t t ht).cv,(h.t t ht).ok⟩,λt ht=>⟨(h.t t ht).rv,(h.t t ht).ro⟩⟩
theorem BOK.closed {v:V}{l:List Tb}(h:BOK v l):v.closed=true:=jsK h.v h.ok
theorem jev(h:List AObj)(a b c d e:V)(r:List V):jab h 5 (.rptr (a::b::c::d::e::r))=some [a,b,c,d,e]:=by simp[jab]
theorem jbJ(h:List AObj)(a b:V)(r:List V):jab h 2 (.rptr (a::b::r))=some [a,b]:=by simp[jab]
theorem ld5 {h:List AObj}{n:Nat}{a b c d e:V}{t:TypeId}(hh:h[n]? = some (.cells [a,b,c,d,e] t)):jab h 5 (.ptr n 0)=some [a,b,c,d,e]:=by simp[jab,hh]
theorem ld54 {h:List AObj}{n:Nat}{a b c d e:V}{t:TypeId}(hh:h[n]? = some (.cells [a,b,c,d,e] t)):jab h 4 (.ptr n 0)=some [a,b,c,d]:=by simp[jab,hh]
theorem ld2 {h:List AObj}{n:Nat}{a b:V}{t:TypeId}(hh:h[n]? = some (.cells [a,b] t)):jab h 2 (.ptr n 0)=some [a,b]:=by simp[jab,hh]
theorem jd4 {v:V}{cs:List Col}(h:IsC v cs):v.isCell=true:=by rcases h with⟨rfl,_⟩|⟨q,_,rfl⟩<;>rfl
theorem jgB {v:V}{l:List Rw}(h:IsR v l):v.isCell=true:=by rcases h with⟨rfl,_⟩|⟨q,_,rfl⟩<;>rfl
theorem jc5 {v:V}{l:List Int}(h:IsI v l):v.isCell=true:=by rcases h with⟨rfl,_⟩|rfl|rfl<;>rfl
def cpS(s:Sch):Sch:={ s with cv:=unkV s.cv }
def sv(l:List Tb):List Sch:=l.map λt=>cpS t.s
def svV(l:List Tb):V:=if l=[]then .nilsl else .row (jbo (sv l)) (sv l).length .unk
theorem jjD(l:List Tb):IsS (svV l) (sv l):=by
 unfold svV;split
 ·rename_i h;subst h;exact .inl ⟨rfl,rfl⟩
 ·exact .inr ⟨.unk,.inl rfl,rfl⟩
theorem jyQ(a b c d:V):rowO env 24 1 [(0,.agg [a,b,c,d])]=some (.row [a,b,c,d] 1 .full):=by kernel_rfl
theorem take_next {α:Type}{l:List α}{i:Nat}(d:α)(h:i<l.length):l.take (i+1)=l.take i++[l.getD i d]:=by
 rw[Vg,K3 h];simp[List.getD,h]
theorem jjE(h:List AObj):∀{l:List Sch},(∀s∈l,(∃v,IsC v s.cs/\s.cv=unkV v)/\OkC s.cs)->(jbo l).mapM (jaO h 11)=some (jbo l)
 | [],_=>rfl
 | s::l,ok=>by
  obtain⟨⟨v,hv,e⟩,hc⟩:=ok s (by simp)
  have hs:jaO h 11 s.cv=some s.cv:=by
   rw[e]
   rcases hv with⟨rfl,_⟩|⟨q,_,rfl⟩
   ·rfl
   ·show jaO h (10+1) (.row _ _ .unk)=_;rw[jbb,show(10:Nat)=8+2 from rfl,jdI h 8 hc];rfl
  rw[jch,jam,jam,jam,jam,jjE h (l:=l) λx hx=>ok x (by simp[hx]),hs,jbM,jav,jaA];rfl
theorem jsq:env.hook 105=some (jcj YtajaampgajieeaaGreatDoor.env 105):=rfl
theorem jv3 {t:Tb}(h:TOK t)(U:S):jai env (ev env) 105 [.agg [.str t.s.name,.bool t.s.pub,.int .i64 t.s.many,t.s.cv]] U=some (.agg [.str t.s.name,.bool t.s.pub,.int .i64 t.s.many,unkV t.s.cv],U) :=
 jcF jsq (jg1 _ _ _ _ _ h.cv h.ok (by have:=h.cl;omega) λi hi=>(h.sh.2.2 i hi).2.1) _ U
theorem jcQ {v:V}{l:List Tb}(h:BOK v l)(U:S):jai env (ev env) 115 [v] U=some (svV l,U):=by
 refine jal rfl rfl (by simp[h.closed]) jyx rfl (by simp[Tryz.f115]) (by simp[Tryz.f115]) (jah ?_) U;have hlim:lim=2^40:=rfl;have hl:=h.l;have hB:=jrv h.v 79;simp only[Tryz.f115,Ka,simprocAttr,Ys,Y0,Kc,Vq,jak,hB];refine jay (λm T D U=>D=[]/\T 6=v/\T 7=.int .i64 l.length/\∃(L:List AObj) (ts:List Nat) (i:Nat) (u:V),U=⟨L,ts⟩/\T 3=u/\T 8=.int .i64 i/\i<=l.length/\m=l.length-i/\GrowV 0 ts 4 u i (jbo (sv (l.take i)))/\(i=0->u=.nilsl)) ?_ (l.length-0) _ _ _ ⟨rfl,rfl,rfl,[],[],0,.nilsl,rfl,rfl,rfl,Qm _,rfl,.nil,λ_=>rfl⟩;rintro m T D U ⟨rfl,t6,t7,L,ts,i,u,rfl,t3,t8,hi,rfl,g,g0⟩;refine jah ?_;by_cases hlt:i<l.length
 ·have c1:(i:Int)<(l.length:Int):=by omega
  have e1:=wS i (by omega)
  have hx:=jkq h.v hlt;have ht:=h.at hlt;have i1:=jd4 ht.cv;have i2:=jgB ht.rv;have hC:=jv3 ht
  obtain⟨v',ts',hA,g',_⟩:=GrowV.push (E:=env) (hp:=L++[AObj.cells [.str (l.getD i Tb.none).s.name,.bool (l.getD i Tb.none).s.pub,.int .i64 (l.getD i Tb.none).s.many,(l.getD i Tb.none).s.cv,(l.getD i Tb.none).rv] 79]) (q:=.full) (new:=[.str (l.getD i Tb.none).s.name,.bool (l.getD i Tb.none).s.pub,.int .i64 (l.getD i Tb.none).s.many,unkV (l.getD i Tb.none).s.cv]) eS ⟨38,eS.slice⟩ g (Qm _) rfl
   (by rcases ht.cv with⟨e,_⟩|⟨q,_,e⟩<;>rw[e]<;>rfl) ⟨by rw[hlim];omega,by rw[hlim];omega⟩
  have ld:=ld54 (jad L (AObj.cells [.str (l.getD i Tb.none).s.name,.bool (l.getD i Tb.none).s.pub,.int .i64 (l.getD i Tb.none).s.many,(l.getD i Tb.none).s.cv,(l.getD i Tb.none).rv] 79));simp only[Ka,simprocAttr,Ys,Y0,Kc,Uc,jaa,tyb,fo,t3,t6,t7,t8,c1,e1,hx,jev,jad,jao,jae,jas,jac,i1,i2,ld,hC,jar,jyQ,hA];refine⟨l.length-(i+1),by omega,_,ts',i+1,v',rfl,rfl,rfl,by omega,rfl,?_,λh=>by omega⟩;rw[take_next Tb.none hlt];have e:jbo (sv (l.take i++[l.getD i Tb.none]))=jbo (sv (l.take i))++[.str (l.getD i Tb.none).s.name,.bool (l.getD i Tb.none).s.pub,.int .i64 (l.getD i Tb.none).s.many,unkV (l.getD i Tb.none).s.cv]:=by simp[sv,jbo,cpS,Sch.cells]
  rw[e];exact g'
 ·have hie:i=l.length:=by omega
  subst hie;have c1:¬(l.length:Int)<(l.length:Int):=by omega
  simp only[Ka,simprocAttr,Ys,Y0,Kc,Vq,t3,t6,t7,t8,c1];rw[Jn]at g
  have hs:=jjE L (l:=sv l) λs hs=>by
   obtain⟨t,ht,rfl⟩:=Jg.1 hs;exact⟨⟨_,(h.t t ht).cv,rfl⟩,(h.t t ht).ok⟩
  unfold svV;by_cases hn:l=[]
  ·rw[Kh hn,g0 (by rw[hn];rfl)];rfl
  ·rw[Ke hn];have hp:0<l.length:=Xs.2 hn;obtain⟨q,rfl⟩:=g.isrow hp;show jaO L (11+1) (.row _ _ _)=_;rw[jbb,hs,show(sv l).length=l.length by simp[sv]];rfl
end Go.Proofs.YtajaampgajieeaaGreatDoor.B
