/- Proved here: tables as values, and copies of them. Conditions: each theorem's own. -/
import Derived.Test.YtajaampgajieeaaGreatDoorSpA
set_option linter.unusedSimpArgs false
set_option linter.unusedVariables false
set_option linter.unusedSectionVars false
set_option maxHeartbeats 16000000
set_option maxRecDepth 1000000
namespace Go.Proofs.YtajaampgajieeaaGreatDoor
open Go.Ab
abbrev PR:=Int × List Int
def jgq(n:Int):List Int->List PR->List PR
 |_,[]=>[]
 |seen,r::l=>if((seen.count r.1:Nat):Int)+1<=n then r::jgq n (r.1::seen) l else jgq n (r.1::seen) l
def jmi(pub:Bool)(left right:Nat)(r s:PR):Prop:=s.2.getD right 0=r.2.getD left 0/\(pub=true\/s.1=r.1)
instance (pub:Bool) (left right:Nat) (r s:PR):Decidable (jmi pub left right r s):=inferInstanceAs (Decidable (_/\_))
def jdp(pub:Bool)(left right:Nat)(limit:Int)(r:PR):List PR->Int->List PR
 | [],_=>[]
 |s::o,m=>if m<limit/\jmi pub left right r s then(r.1,r.2++s.2)::jdp pub left right limit r o (m+1)else jdp pub left right limit r o m
def je9(pub:Bool)(left right:Nat)(limit:Int)(o:List PR)(l:List PR):List PR:=l.flatMap λr=>jdp pub left right limit r o 0
def cnt(o:Int)(l:List PR):Nat:=l.countP λr=>decide (r.1=o)
theorem jeD(n:Int):∀(l:List PR) (seen:List Int),(jgq n seen l).Sublist l
 | [],_=>List.Sublist.slnil
 |r::l,seen=>by
  simp only[jgq];split
  ·exact(jeD n l _).cons_cons _
  ·exact(jeD n l _).cons _
theorem jmj(n o:Int):∀(l:List PR) (seen:List Int),(cnt o (jgq n seen l):Int)<=max 0 (n-(seen.count o:Nat))
 | [],_=>by simp[jgq,cnt];omega
 | r::l,seen=>by
  have ih:=jmj n o l (r.1::seen);simp only[jgq];by_cases h:r.1=o
  ·have hc:((r.1::seen).count o:Nat)=seen.count o+1:=by rw[h];simp
   rw[hc]at ih;split
   ·rename_i hl;rw[h]at hl;simp only[cnt]at ih ⊢;rw[List.countP_cons_of_pos (by simpa using h)];omega
   ·omega
  ·have hc:((r.1::seen).count o:Nat)=seen.count o:=Vb h;rw[hc]at ih;split
   ·simp only[cnt]at ih ⊢;rw[Vl (by simpa using h)];exact ih
   ·exact ih
theorem jeE(pub:Bool)(left right:Nat)(limit:Int)(r:PR):∀(o:List PR) (m:Int),∀x∈jdp pub left right limit r o m,x.1=r.1/\∃s∈o,x.2=r.2++s.2/\jmi pub left right r s
 | [],_,x,hx=>by simp[jdp]at hx
 | s::o,m,x,hx=>by
  simp only[jdp]at hx;split at hx
  ·rename_i h
   rcases Jg.1 hx with rfl|hx
   ·exact⟨rfl,s,ae,rfl,h.2⟩
   ·obtain⟨a,t,ht,b⟩:=jeE pub left right limit r o (m+1) x hx;exact⟨a,t,by simp[ht],b⟩
  ·obtain⟨a,t,ht,b⟩:=jeE pub left right limit r o m x hx;exact⟨a,t,by simp[ht],b⟩
theorem jfz(pub:Bool)(left right:Nat)(limit:Int)(r:PR):∀(o:List PR) (m:Int),((jdp pub left right limit r o m).length:Int)<=max 0 (limit-m)
 | [],m=>by simp[jdp];omega
 | s::o,m=>by
  simp only[jdp];split
  ·have:=jfz pub left right limit r o (m+1);simp only[Qh];omega
  ·exact jfz pub left right limit r o m
theorem jiU(o:Int)(a b:List PR):cnt o (a++b)=cnt o a+cnt o b:=by simp[cnt]
theorem jxt(o:Int)(a:List PR):cnt o a<=a.length:=List.countP_le_length
theorem jt0 {o:Int}{a:List PR}(h:∀x∈a,x.1 ≠ o):cnt o a=0:=by
 unfold cnt;rw[List.countP_eq_zero];intro x hx;simpa using h x hx
theorem jkY {o:Int}{a b:List PR}(h:a.Sublist b):cnt o a<=cnt o b:=h.countP_le
def wo(o:Int)(l:List PR):List PR:=l.filter λr=>decide (r.1 ≠ o)
theorem jxu(o:Int):wo o []=[]:=rfl
theorem jhm(o:Int)(r:PR)(l:List PR):wo o (r::l)=if r.1=o then wo o l else r::wo o l:=by
 unfold wo;by_cases h:r.1=o
 ·rw[X6 (by simpa using h),Kg h]
 ·rw[Xi (by simpa using h),Ke h]
theorem juZ(o:Int)(a b:List PR):wo o (a++b)=wo o a++wo o b:=by simp[wo]
theorem jxv {o:Int}{a:List PR}(h:∀x∈a,x.1 ≠ o):wo o a=a:=by
 unfold wo;rw[Un];intro x hx;simpa using h x hx
theorem jvU {o:Int}{a:List PR}(h:∀x∈a,x.1=o):wo o a=[]:=by
 unfold wo;rw[List.filter_eq_nil_iff];intro x hx;simpa using h x hx
theorem jxw {o:Int}{l:List PR}{r:PR}:r∈wo o l↔r∈l/\r.1 ≠ o:=by simp[wo]
theorem jh1(n o:Int):∀(l:List PR) (s t:List Int),(∀x,x ≠ o->s.count x=t.count x)->jgq n s (wo o l)=wo o (jgq n t l)
 | [],_,_,_=>rfl
 | r::l,s,t,h=>by
  rw[jhm];by_cases e:r.1=o
  ·rw[Kg e];have ht:∀x,x ≠ o->s.count x=(r.1::t).count x:=λx hx=>by rw[h x hx,Vb (by rw[e];exact Ne.symm hx)]
   rw[jh1 n o l s (r.1::t) ht];simp only[jgq];split
   ·rw[jhm,Kg e]
   ·rfl
  ·rw[Ke e];have hst:∀x,x ≠ o->(r.1::s).count x=(r.1::t).count x:=λx hx=>by simp only[List.count_cons,h x hx]
   simp only[jgq,h r.1 e];split
   ·rw[jhm,Ke e,jh1 n o l _ _ hst]
   ·exact jh1 n o l _ _ hst
theorem jkZ(left right:Nat)(limit o:Int)(r:PR)(h:r.1 ≠ o):∀(l:List PR) (m:Int),jdp false left right limit r (wo o l) m=jdp false left right limit r l m
 | [],_=>rfl
 | s::l,m=>by
  rw[jhm];by_cases e:s.1=o
  ·rw[Kg e,jkZ left right limit o r h l m];simp only[jdp];rw[Ke];rintro⟨_,_,hc|hc⟩
   ·cases hc
   ·exact h (hc.symm.trans e)
  ·rw[Ke e];simp only[jdp,jkZ left right limit o r h l]
theorem jmk(left right:Nat)(limit:Int)(r:PR):∀(l:List PR) (m:Int),(∀s∈l,s.1 ≠ r.1)->jdp false left right limit r l m=[]
 | [],_,_=>rfl
 |s::l,m,h=>by
  simp only[jdp];rw[Ke,jmk left right limit r l m λx hx=>h x (by simp[hx])];rintro⟨_,_,hc|hc⟩
  ·cases hc
  ·exact h s ae hc
theorem jd2(pub:Bool)(left right:Nat)(limit:Int)(o:List PR)(r:PR)(l:List PR):je9 pub left right limit o (r::l)=jdp pub left right limit r o 0++je9 pub left right limit o l:=by simp[je9]
theorem jj9(pub:Bool)(left right:Nat)(limit w:Int)(o:List PR)(r:PR):wo w (jdp pub left right limit r o 0)=if r.1=w then []else jdp pub left right limit r o 0:=by
 split
 ·rename_i h;exact jvU λx hx=>by rw[(jeE pub left right limit r o 0 x hx).1];exact h
 ·rename_i h;exact jxv λx hx=>by rw[(jeE pub left right limit r o 0 x hx).1];exact h
theorem jk0(pub:Bool)(left right:Nat)(limit w:Int)(o:List PR):∀l:List PR,je9 pub left right limit o (wo w l)=wo w (je9 pub left right limit o l)
 | []=>rfl
 |r::l=>by
  have ih:=jk0 pub left right limit w o l;rw[jd2,juZ,jj9,jhm];split
  ·rw[ih,Ja]
  ·rw[jd2,ih]
theorem jiV(left right:Nat)(limit w:Int)(o:List PR):∀l:List PR,je9 false left right limit (wo w o) l=wo w (je9 false left right limit o l)
 | []=>rfl
 | r::l=>by
  have ih:=jiV left right limit w o l;rw[jd2,jd2,juZ,jj9,ih];split
  ·rename_i h;rw[jmk left right limit r _ 0 λs hs=>by rw[h];exact(jxw.1 hs).2]
  ·rename_i h;rw[jkZ left right limit w r h]
theorem jzG(w:Int)(l:List PR):wo w (wo w l)=wo w l:=by unfold wo;rw[List.filter_filter];simp
theorem jso(p:List Int->Bool)(w:Int)(l:List PR):(wo w l).filter (λr=>p r.2)=wo w (l.filter λr=>p r.2):=by
 unfold wo;rw[List.filter_filter,List.filter_filter]
 congr 1
 funext r
 exact Bool.and_comm _ _
structure VP where
 rows:List PR
 keep:Int
 jn:Option (List PR × Bool × Nat × Nat × Int)
 hold:Option (List Int->Bool)
def VP.kept(v:VP):List PR:=if v.keep=0 then v.rows else jgq v.keep [] v.rows
def VP.joined(v:VP):List PR :=
 match v.jn with
 |none=>v.kept
 |some (o,pub,left,right,limit)=>je9 pub left right limit o v.kept
def VP.view(v:VP):List PR :=
 match v.hold with
 |none=>v.joined
 |some p=>v.joined.filter λr=>p r.2
theorem VP.view_sub(v:VP):v.view.Sublist v.joined:=by
 unfold VP.view;split
 ·exact List.Sublist.refl _
 ·exact List.filter_sublist
theorem VP.kept_cnt(v:VP){w many:Int}(h:(cnt w v.rows:Int)<=many)(hk:0<=v.keep):(cnt w v.kept:Int)<=if v.keep=0 then many else min v.keep many:=by
 unfold VP.kept;split
 ·exact h
 ·have h1:=jmj v.keep w v.rows [];have h2:=jkY (o:=w) (jeD v.keep v.rows []);simp only[List.count_nil]at h1;omega
theorem jhn(left right:Nat)(limit:Int)(r:PR):∀(o:List PR) (m:Int),(jdp false left right limit r o m).length<=cnt r.1 o
 | [],m=>by simp[jdp]
 | s::o,m=>by
  simp only[jdp];split
  ·rename_i h
   have e:s.1=r.1:=by
    rcases h.2.2 with h|h
    ·cases h
    ·exact h
   have:=jhn left right limit r o (m+1);have h3:cnt r.1 (s::o)=cnt r.1 o+1:=by simp[cnt,e]
   rw[h3,Qh];omega
  ·have:=jhn left right limit r o m;have h3:cnt r.1 o<=cnt r.1 (s::o):=jkY (List.sublist_cons_self _ _);omega
theorem jka(pub:Bool)(left right:Nat)(limit:Int)(o:List PR)(w:Int){B:Int}(hB:∀r:PR,r.1=w->((jdp pub left right limit r o 0).length:Int)<=B):∀l:List PR,(cnt w (je9 pub left right limit o l):Int)<=(cnt w l:Int)*B
 | []=>by simp[je9,cnt]
 | r::l=>by
  have ih:=jka pub left right limit o w hB l;rw[jd2,jiU];by_cases h:r.1=w
  ·have h1:=jxt w (jdp pub left right limit r o 0);have h2:=hB r h;have h3:cnt w (r::l)=cnt w l+1:=by simp[cnt,h]
   have:((cnt w l+1:Nat):Int)*B=(cnt w l:Int)*B+B:=by rw[Vh,Int.add_mul];simp
   rw[h3,this];omega
  ·have h1:cnt w (jdp pub left right limit r o 0)=0:=jt0 λx hx=>by rw[(jeE pub left right limit r o 0 x hx).1];exact h
   have h3:cnt w (r::l)=cnt w l:=by simp[cnt,h]
   rw[h1,h3];omega
def VP.most(v:VP)(many many2:Int):Int :=
 (if v.keep=0 then many else min v.keep many) *
  (match v.jn with
  |none=>1
  |some (_,pub,_,_,limit)=>if pub=true then limit else min limit many2)
theorem VP.view_cnt(v:VP){w many many2:Int}(h:(cnt w v.rows:Int)<=many)(hk:0<=v.keep)
  (hj:∀o pub left right limit,v.jn=some (o,pub,left,right,limit)->0<=limit/\(pub=false->(cnt w o:Int)<=many2)):(cnt w v.view:Int)<=v.most many many2:=by
 have h1:=v.kept_cnt h hk;have h2:=jkY (o:=w) v.view_sub;refine V5 (Int.ofNat_le.2 h2) ?_;unfold VP.joined VP.most;split
 ·rename_i e;omega
 ·rename_i o pub left right limit e;obtain⟨hl,hp⟩:=hj _ _ _ _ _ e
  have hB:∀r:PR,r.1=w->((jdp pub left right limit r o 0).length:Int)<=(if pub=true then limit else min limit many2):=by
   intro r hr;have h3:=jfz pub left right limit r o 0;split
   ·omega
   ·rename_i hpub;have hpub:pub=false:=by simpa using hpub
    have h4:=hp hpub;subst hpub;have h5:=jhn left right limit r o 0;rw[hr]at h5;omega
  refine V5 (jka pub left right limit o w hB v.kept) ?_
  have hB0:(0:Int)<=(if pub=true then limit else min limit many2):=by
   split
   ·exact hl
   ·rename_i hpub;have h4:=hp (by simpa using hpub);omega
  exact Vi h1 hB0
def jcD(w:Nat)(l:List (Nat × Int)):List Int:=(List.range w).map λi=>(l.filter λx=>decide (x.1=i)).foldl (λa x=>a+x.2) 0
def sumI(l:List Int):Int:=l.foldl (λa x=>a+x) 0
theorem jml(l:List (Nat × Int)):∀a:Int,l.foldl (λa x=>a+x.2) a=a+l.foldl (λa x=>a+x.2) 0:=by
 induction l with
 |nil=>intro a;simp
 |cons x l ih=>intro a;rw[X4,X4,ih (a+x.2),ih (0+x.2)];omega
theorem jmm(l:List Int):∀a:Int,l.foldl (λa x=>a+x) a=a+sumI l:=by
 unfold sumI
 induction l with
 |nil=>intro a;simp
 |cons x l ih=>intro a;rw[X4,X4,ih (a+x),ih (0+x)];omega
theorem jcP(x:Int)(l:List Int):sumI (x::l)=x+sumI l:=by
 show List.foldl _ (0+x) l=_;rw[jmm];omega
theorem jh2(a b:List Int):sumI (a++b)=sumI a+sumI b:=by
 unfold sumI;rw[List.foldl_append,jmm];rfl
theorem jcV(w:Nat)(l:List (Nat × Int)):(jcD w l).length=w:=by simp[jcD]
theorem jqc(w:Nat):jcD w []=List.replicate w 0:=by
 show(List.range w).map (λ_=>(0:Int))=_;rw[Ti,Uw]
theorem jec {w:Nat}{l:List (Nat × Int)}{i:Nat}(h:i<w):(jcD w l).getD i 0=(l.filter λx=>decide (x.1=i)).foldl (λa x=>a+x.2) 0:=by
 simp[jcD,List.getD,h]
theorem jnU(w:Nat)(l:List (Nat × Int))(x:Nat × Int):jcD w (l++[x])=(jcD w l).set x.1 ((jcD w l).getD x.1 0+x.2):=by
 refine Xp λi => ?_
 rw[J8];by_cases hi:i<w
 ·have e1:(jcD w (l++[x]))[i]? = some ((jcD w (l++[x])).getD i 0):=by simp[List.getD,jcD,hi]
  have e2:(jcD w l)[i]? = some ((jcD w l).getD i 0):=by simp[List.getD,jcD,hi]
  rw[e1,e2,jec hi];rw[V9,List.foldl_append];by_cases h:x.1=i
  ·subst h;rw[Kg rfl,jcV,Kg hi,jec hi];simp
  ·rw[Ke h,jec hi];simp[h]
 ·rw[Qo (by rw[jcV];omega),Qo (by rw[jcV];omega)];by_cases h:x.1=i
  ·rw[Kg h,jcV,Ke aa]
  ·rw[Ke h]
theorem jmn(n:Nat):sumI (List.replicate n 0)=0:=by
 induction n with
 |zero=>rfl
 |succ n ih=>rw[Vn,jcP,ih];rfl
theorem jhC {α:Type}(f g:α->Int):∀l:List α,sumI (l.map λx=>f x+g x)=sumI (l.map f)+sumI (l.map g)
 | []=>rfl
 |x::l=>by rw[K6,K6,K6,jcP,jcP,jcP,jhC f g l];omega
theorem jo2(k:Nat)(a:Int):∀n,sumI ((List.range n).map λi=>if k=i then a else 0)=if k<n then a else 0
 |0=>by simp[sumI]
 | n+1=>by
  rw[List.range_succ,Js,jh2,jo2 k a n];simp only[K6,J5,jcP,show sumI []=0 from rfl];by_cases h:k<n
  ·rw[Kg h,Ke aa,Kg aa];omega
  ·by_cases e:k=n
   ·rw[Ke h,Kg e,Kg aa];omega
   ·rw[Ke h,Ke e,Ke aa];omega
structure Rw where
 own:Int
 vv:V
 vs:List Int
def Rw.none:Rw:=⟨0,.nilsl,[]⟩
def Rw.cells(r:Rw):List V:=[.int .i64 r.own,r.vv]
abbrev Rw.pl(r:Rw):PR:=(r.own,r.vs)
def jcr(l:List Rw):List V:=(l.map Rw.cells).flatten
theorem jcF(r:Rw)(l:List Rw):jcr (r::l)=.int .i64 r.own::r.vv::jcr l:=rfl
theorem jfA(a b:List Rw):jcr (a++b)=jcr a++jcr b:=by simp[jcr]
theorem jkb:∀(l:List Rw) (i:Nat),(jcr l).drop (i*2)=jcr (l.drop i)
 |l,0=>ae
 | [],i+1=>by simp[jcr]
 |r::l,i+1=>by
  rw[jcF,show(i+1)*2=i*2+1+1 by omega,K5,K5,jkb l i,K5]
theorem jt1 {l:List Rw}{i:Nat}(hi:i<l.length):jcr (l.drop i)=.int .i64 (l.getD i Rw.none).own::(l.getD i Rw.none).vv::jcr (l.drop (i+1)):=by
 have e:l.drop i=l.getD i Rw.none::l.drop (i+1):=by
  rw[Qk hi];simp[List.getD,hi]
 rw[e,jcF]
def IsR(v:V)(l:List Rw):Prop:=(v=.nilsl/\l=[])\/∃q,(q=RCap.unk\/q=RCap.full)/\v=.row (jcr l) l.length q
def OkR(l:List Rw):Prop:=∀r∈l,W.IsI r.vv r.vs/\(∀x∈r.vs,In64 x)/\In64 r.own
theorem OkR.at {l:List Rw}(h:OkR l){i:Nat}(hi:i<l.length):W.IsI (l.getD i Rw.none).vv (l.getD i Rw.none).vs/\(∀x∈(l.getD i Rw.none).vs,In64 x)/\In64 (l.getD i Rw.none).own:=h _ (by simp[List.getD,hi])
theorem jnV {v:V}{l:List Rw}(h:IsR v l)(e:TypeId):jbb (some (.slice e)) v=some (.int .i64 l.length):=by
 rcases h with⟨rfl,rfl⟩|⟨q,_,rfl⟩<;>simp[jbb]
theorem jnW {v:V}{l:List Rw}(h:IsR v l){i:Nat}(hi:i<l.length):jaw 2 v (.int .i64 (i:Int))=some (.rptr (.int .i64 (l.getD i Rw.none).own::(l.getD i Rw.none).vv::jcr (l.drop (i+1)))):=by
 rcases h with⟨rfl,rfl⟩|⟨q,_,rfl⟩
 ·simp at hi
 ·rw[Ys,Kg aa,Qj,jkb,jt1 hi]
theorem jfB:∀{l:List Rw},OkR l->V.closed.closedL (jcr l)=true
 | [],_=>rfl
 |r::l,h=>by
  rw[jcF];simp only[V.closed.closedL,V.closed,W.closed_I (h r ae).1,jfB (l:=l) λx hx=>h x (by simp[hx]),K8]
theorem jgP {v:V}{l:List Rw}(h:IsR v l)(ok:OkR l):v.closed=true:=by
 rcases h with⟨rfl,rfl⟩|⟨q,rfl|rfl,rfl⟩
 ·rfl
 ·simp only[V.closed,jfB ok,K8]
 ·simp only[V.closed,jfB ok,K8]
structure Tb where
 s:Sch
 rv:V
 rows:List Rw
def Tb.none:Tb:=⟨Sch.none,.nilsl,[]⟩
def Tb.cells(t:Tb):List V:=[.str t.s.name,.bool t.s.pub,.int .i64 t.s.many,t.s.cv,t.rv]
def jbc(l:List Tb):List V:=(l.map Tb.cells).flatten
theorem jcW(t:Tb)(l:List Tb):jbc (t::l)=.str t.s.name::.bool t.s.pub::.int .i64 t.s.many::t.s.cv::t.rv::jbc l:=rfl
theorem jfC(a b:List Tb):jbc (a++b)=jbc a++jbc b:=by simp[jbc]
theorem jiW:∀l:List Tb,(jbc l).length=l.length*5
 | []=>rfl
 |r::l=>by rw[jcW];simp only[Qh,jiW l];omega
theorem jho:∀(l:List Tb) (i:Nat),(jbc l).drop (i*5)=jbc (l.drop i)
 |l,0=>ae
 | [],i+1=>by simp[jbc]
 |r::l,i+1=>by
  rw[jcW,show(i+1)*5=i*5+1+1+1+1+1 by omega,K5,K5,K5,K5,K5,jho l i,K5]
theorem jt2 {l:List Tb}{i:Nat}(hi:i<l.length):jbc (l.drop i)=.str (l.getD i Tb.none).s.name::.bool (l.getD i Tb.none).s.pub::.int .i64 (l.getD i Tb.none).s.many::(l.getD i Tb.none).s.cv::(l.getD i Tb.none).rv::jbc (l.drop (i+1)):=by
 have e:l.drop i=l.getD i Tb.none::l.drop (i+1):=by
  rw[Qk hi];simp[List.getD,hi]
 rw[e,jcW]
def IsB(v:V)(l:List Tb):Prop:=(v=.nilsl/\l=[])\/∃q,(q=RCap.unk\/q=RCap.full)/\v=.row (jbc l) l.length q
structure OkB (l:List Tb):Prop where
 cv:∀t∈l,IsC t.s.cv t.s.cs/\OkC t.s.cs
 rv:∀t∈l,IsR t.rv t.rows/\OkR t.rows
theorem Tb.mem {l:List Tb}{i:Nat}(hi:i<l.length):l.getD i Tb.none∈l:=by simp[List.getD,hi]
theorem jmo {v:V}{l:List Tb}(h:IsB v l)(e:TypeId):jbb (some (.slice e)) v=some (.int .i64 l.length):=by
 rcases h with⟨rfl,rfl⟩|⟨q,_,rfl⟩<;>simp[jbb]
theorem jiK {v:V}{l:List Tb}(h:IsB v l){i:Nat}(hi:i<l.length):jaw 5 v (.int .i64 (i:Int))=some (.rptr (.str (l.getD i Tb.none).s.name::.bool (l.getD i Tb.none).s.pub::.int .i64 (l.getD i Tb.none).s.many::(l.getD i Tb.none).s.cv::(l.getD i Tb.none).rv::jbc (l.drop (i+1)))):=by
 rcases h with⟨rfl,rfl⟩|⟨q,_,rfl⟩
 ·simp at hi
 ·rw[Ys,Kg aa,Qj,jho,jt2 hi]
theorem jfD:∀{l:List Tb},OkB l->V.closed.closedL (jbc l)=true
 | [],_=>rfl
 |t::l,h=>by
  have h1:=h.cv t ae;have h2:=h.rv t ae;rw[jcW];simp only[V.closed.closedL,V.closed,ja9 h1.1 h1.2,jgP h2.1 h2.2,jfD (l:=l) ⟨λx hx=>h.cv x (by simp[hx]),λx hx=>h.rv x (by simp[hx])⟩,K8]
theorem jt3 {v:V}{l:List Tb}(h:IsB v l)(ok:OkB l):v.closed=true:=by
 rcases h with⟨rfl,rfl⟩|⟨q,rfl|rfl,rfl⟩
 ·rfl
 ·simp only[V.closed,jfD ok,K8]
 ·simp only[V.closed,jfD ok,K8]
end Go.Proofs.YtajaampgajieeaaGreatDoor
namespace Go.Proofs.YtajaampgajieeaaGreatDoor.B
open Go.Ab
theorem mb(f:FuncId)(r:Nat):env.mutb f r=(f==237 ||f==128 && r==5 ||f==130 && r==5 ||f==69):=rfl
theorem stb(f:FuncId)(r:Nat)(h:(f==41 && r==13 ||f==120 && r==5 ||f==203 && r==9 ||f==37 && r==8 ||f==128 && r==9 ||f==130 && r==9 ||f==216 && r==3 ||f==36 && r==3)=false):env.stab f r=false:=h
theorem tys:env.P.underlying 3=some (.int .i64)/\env.P.underlying 4=some .bool/\env.P.underlying 9=some .string/\env.P.underlying 22=some (.slice 3)/\env.P.underlying 24=some (.slice 38)/\env.P.underlying 26=some (.slice 84)/\env.P.underlying 32=some (.int .i64)/\env.P.underlying 36=some (.slice 41)/\env.P.underlying 51=some (.slice 79)/\env.P.underlying 60=some (.slice 70)/\sz env 3=some 1/\sz env 4=some 1/\sz env 9=some 1/\sz env 22=some 1/\sz env 24=some 1/\sz env 26=some 1/\sz env 30=some 20/\sz env 32=some 1/\sz env 36=some 1/\sz env 38=some 4/\sz env 41=some 4/\sz env 51=some 1/\sz env 60=some 1/\sz env 70=some 2/\sz env 79=some 5/\(∀h p,jaH env h 3 p=(jab h 1 p).bind (·[0]?))/\(∀h p,jaH env h 4 p=(jab h 1 p).bind (·[0]?))/\(∀h p,jaH env h 9 p=(jab h 1 p).bind (·[0]?))/\(∀h p,jaH env h 22 p=(jab h 1 p).bind (·[0]?))/\(∀h p,jaH env h 24 p=(jab h 1 p).bind (·[0]?))/\(∀h p,jaH env h 26 p=(jab h 1 p).bind (·[0]?))/\(∀h p,jaH env h 32 p=(jab h 1 p).bind (·[0]?))/\(∀h p,jaH env h 36 p=(jab h 1 p).bind (·[0]?))/\(∀h p,jaH env h 51 p=(jab h 1 p).bind (·[0]?))/\(∀h p,jaH env h 60 p=(jab h 1 p).bind (·[0]?))/\(∀h p,jaH env h 30 p=(jab h 20 p).map .agg)/\(∀h p,jaH env h 38 p=(jab h 4 p).map .agg)/\(∀h p,jaH env h 41 p=(jab h 4 p).map .agg)/\(∀h p,jaH env h 70 p=(jab h 2 p).map .agg)/\(∀h p,jaH env h 79 p=(jab h 5 p).map .agg) :=
 ⟨ac,ac,ac,ac,ac,ac,ac,ac,ac,ac,ac,ac,ac,ac,ac,ac,ac,ac,ac,ac,ac,ac,ac,ac,ac,λ_ _=>jay ac,λ_ _=>jay ac,λ_ _=>jay ac,λ_ _=>jay ac,λ_ _=>jay ac,λ_ _=>jay ac,λ_ _=>jay ac,λ_ _=>jay ac,λ_ _=>jay ac,λ_ _=>jay ac,λh p=>by unfold jaH;rw[show aggT env 30=some true by kernel_rfl,show sz env 30=some 20 by kernel_rfl];rfl,λh p=>by unfold jaH;rw[show aggT env 38=some true by kernel_rfl,show sz env 38=some 4 by kernel_rfl];rfl,λh p=>by unfold jaH;rw[show aggT env 41=some true by kernel_rfl,show sz env 41=some 4 by kernel_rfl];rfl,λh p=>by unfold jaH;rw[show aggT env 70=some true by kernel_rfl,show sz env 70=some 2 by kernel_rfl];rfl,λh p=>by unfold jaH;rw[show aggT env 79=some true by kernel_rfl,show sz env 79=some 5 by kernel_rfl];rfl⟩
theorem Kc:type_of% (Kd @mb (Kd @stb @tys)):=Kd @mb (Kd @stb @tys)
theorem zK:type_of% (Kd @Ka (Kd @Ys (Kd @Y0 @Kc))):=Kd @Ka (Kd @Ys (Kd @Y0 @Kc))
theorem yK:type_of% (Kd @Ka (Kd @Y0 @Kc)):=Kd @Ka (Kd @Y0 @Kc)
theorem tyb:env.P.underlying 134=some (.slice 136)/\env.P.underlying 204=some (.map 3 3)/\env.P.underlying 232=some (.slice 22)/\sz env 131=some 1/\sz env 134=some 1/\sz env 136=some 1/\sz env 142=some 1/\sz env 204=some 1/\sz env 232=some 1/\(∀h p,jaH env h 131 p=(jab h 1 p).bind (·[0]?))/\(∀h p,jaH env h 136 p=(jab h 1 p).bind (·[0]?))/\(∀h p,jaH env h 142 p=(jab h 1 p).bind (·[0]?))/\(∀h p,jaH env h 204 p=(jab h 1 p).bind (·[0]?))/\jba env 70=some (.agg [.int .i64 0,.nilsl])/\jba env 79=some (.agg [.str [],.bool false,.int .i64 0,.nilsl,.nilsl])/\jba env 41=some (.agg [.str [],.int .i64 0,.int .i64 0,.nilsl])/\jba env 36=some (.nilsl)/\jba env 204=some (.nilmap)/\jba env 3=some (.int .i64 0) :=
 ⟨ac,ac,ac,ac,ac,ac,ac,ac,ac,λ_ _=>jay ac,λ_ _=>jay ac,λ_ _=>jay ac,λ_ _=>jay ac,ac,ac,ac,ac,ac,ac⟩
theorem fo:jas env 70 0=some 0/\jas env 70 1=some 1/\jas env 79 0=some 0/\jas env 79 1=some 4/\jas env 38 0=some 0/\jas env 38 1=some 1/\jas env 38 2=some 2/\jas env 38 3=some 3/\jas env 41 0=some 0/\jas env 41 1=some 1/\jas env 41 2=some 2/\jas env 41 3=some 3/\jas env 30 0=some 0/\jas env 30 1=some 1/\jas env 30 2=some 2/\jas env 30 3=some 3/\jas env 30 4=some 4/\jas env 30 5=some 5/\jas env 30 6=some 6/\jas env 30 7=some 7/\jas env 30 8=some 8/\jas env 30 9=some 9/\jas env 30 10=some 10/\jas env 30 11=some 11/\jas env 30 12=some 12/\jas env 30 13=some 13/\jas env 30 14=some 14/\jas env 30 15=some 15/\jas env 30 16=some 16/\jas env 30 17=some 17/\jas env 30 18=some 18/\jas env 30 19=some 19 :=
 ⟨ac,ac,ac,ac,ac,ac,ac,ac,ac,ac,ac,ac,ac,ac,ac,ac,ac,ac,ac,ac,ac,ac,ac,ac,ac,ac,ac,ac,ac,ac,ac,ac⟩
theorem Q1:type_of% (And.intro @tyb (@fo)):=And.intro @tyb (@fo)
theorem at41:env.P.funcs[41]? = some Tryz.f41:=ac
theorem jzH:env.P.funcs[118]? = some Tryz.f118:=ac
theorem jzI:env.P.funcs[115]? = some Tryz.f115:=ac
theorem jzJ:env.P.funcs[195]? = some Tryz.f195:=ac
theorem jzK:env.P.funcs[236]? = some Tryz.f236:=ac
theorem jzL:env.P.funcs[120]? = some Tryz.f120:=ac
theorem jvM:env.P.funcs[197]? = some Tryz.f197:=ac
theorem jzM:env.P.funcs[204]? = some Tryz.f204:=ac
theorem jxx:env.P.funcs[237]? = some Tryz.f237:=ac
theorem jzN:env.P.funcs[119]? = some Tryz.f119:=ac
theorem jzO:env.P.funcs[121]? = some Tryz.f121:=ac
theorem jzP:env.P.funcs[123]? = some Tryz.f123:=ac
theorem jzQ:env.P.funcs[124]? = some Tryz.f124:=ac
theorem jzR:env.P.funcs[125]? = some Tryz.f125:=ac
theorem jzS:env.P.funcs[127]? = some Tryz.f127:=ac
theorem jzT:env.P.funcs[196]? = some Tryz.f196:=ac
theorem jzU:env.P.funcs[198]? = some Tryz.f198:=ac
theorem jzV:env.P.funcs[199]? = some Tryz.f199:=ac
theorem jzW:env.P.funcs[202]? = some Tryz.f202:=ac
theorem jzX:env.P.funcs[203]? = some Tryz.f203:=ac
theorem jzY:env.P.funcs[205]? = some Tryz.f205:=ac
theorem jzZ:env.P.funcs[206]? = some Tryz.f206:=ac
theorem jz0:env.P.funcs[207]? = some Tryz.f207:=ac
theorem at43:env.P.funcs[43]? = some Tryz.f43:=ac
theorem jz1:env.P.funcs[128]? = some Tryz.f128:=ac
theorem jz2:env.P.funcs[129]? = some Tryz.f129:=ac
open W (IsI)
theorem u22:env.P.underlying 22=some (.slice 3):=ac
theorem eI:Elt env 22 3 1 8:=⟨ac,ac,ac,ac,ac⟩
theorem eR:Elt env 60 70 2 32:=⟨ac,ac,ac,ac,ac⟩
theorem eS:Elt env 24 38 4 56:=⟨ac,ac,ac,ac,ac⟩
theorem jxy:rowO env 22 0 []=some (.row [] 0 .full):=ac
theorem jgQ:∀xs:List Int,(xs.map (V.int .i64)).all V.isCell=true
 | []=>rfl
 |x::xs=>by simp only[K6,Ks,jac,jgQ xs,K8]
theorem jdd(h:List AObj)(d:Nat):∀xs:List Int,(xs.map (V.int .i64)).mapM (jaK h (d+1))=some (xs.map (V.int .i64))
 | []=>rfl
 |x::xs=>by rw[K6,jal,jav,jdd h d xs];rfl
theorem vc_I {v:V}{xs:List Int}(h:IsI v xs)(hp:List AObj):vLen v=some xs.length/\jaV hp 1 xs.length v=some (xs.map (V.int .i64)):=by
 rcases h with⟨rfl,rfl⟩|rfl|rfl
 ·exact⟨rfl,rfl⟩
 ·refine⟨rfl,?_⟩;simp only[jaV];rw[Kg ae,Qu ae]
 ·refine⟨rfl,?_⟩;simp only[jaV];rw[Kg ae,Qu ae]
theorem jmp(h:List AObj)(xs:List Int)(q:RCap)(n:Nat):jaK h 12 (.row (xs.map (V.int .i64)) n q)=some (.row (xs.map (V.int .i64)) n .unk):=by
 show jaK h (10+1+1) _=_;rw[ja1,jdd];rfl
theorem jiX {v:V}{xs:List Int}(h:IsI v xs):IsI (unkV v) xs:=by
 rcases h with⟨rfl,rfl⟩|rfl|rfl
 ·exact .inl ⟨rfl,rfl⟩
 ·exact .inr (.inl rfl)
 ·exact .inr (.inl rfl)
theorem jiY {xv:V}{xs:List Int}(h:IsI xv xs)(hl:xs.length<=100000)(U:S):jah env (ev env) 197 [xv] U=some (unkV xv,U):=by
 refine jaj (by simp[W.closed_I h]) jvM rfl ?_ U;have hlim:lim=2^40:=rfl
 have key:∀q,∃ts q',appO env false ⟨[],[]⟩ 22 22 (.row [] 0 .full) (.row (xs.map (V.int .i64)) xs.length q)=some (.row (xs.map (V.int .i64)) xs.length q',⟨[],ts⟩):=by
  intro q;by_cases hx:xs=[]
  ·subst hx
   exact⟨[],.full,by
    unfold appO;simp only[eI.elem,eI.size,eI.bytes,eI.zeros,u22,vLen,jaV,Kq,Kl];simp[jbk]⟩
  ·have hn:0<xs.length:=Xy.2 hx;obtain⟨v',ts',hA,g,_⟩:=GrowV.append (E:=env) (hp:=[]) (y:=.row (xs.map (V.int .i64)) xs.length q) (m:=xs.length) (new:=xs.map (V.int .i64)) eI ⟨3,u22⟩ (.full [] 0 rfl:GrowV 0 [] 1 _ 0 []) (Kw _) rfl (by simp only[jaV];rw[Kg ae,Qu ae]) ae (jgQ xs) ⟨by rw[hlim];omega,by rw[hlim];omega⟩;rw[Jk,Ja]at g;obtain⟨q',rfl⟩:=g.isrow hn;exact⟨ts',q',hA⟩
 rcases h with⟨rfl,rfl⟩|rfl|rfl
 ·simp only[Tryz.f197,simprocAttr,zK,Vq,jai,jfr u22];rfl
 ·obtain⟨ts,q',hA⟩:=key .unk;simp only[Tryz.f197,simprocAttr,zK,Vq,jai,jdy u22,jar,jxy,hA];simp only[jaB,jak,jmp,unkV]
 ·obtain⟨ts,q',hA⟩:=key .full;simp only[Tryz.f197,simprocAttr,zK,Vq,jai,jdy u22,jar,jxy,hA];simp only[jaB,jak,jmp,unkV]
theorem jo3(x:V):∀m,(List.replicate m [x]).flatten=List.replicate m x
 |0=>rfl
 |m+1=>by rw[Vn,Vn,Vj,jo3 x m];rfl
theorem jxz {m:Nat}(h:0<m)(hm:m<=2^36)(L:List AObj)(ts:List Nat):appO env true ⟨L,ts⟩ 22 3 .nilsl (.int .i64 (m:Int))=some (.hsl L.length 0 m m (.grow 1),⟨L++[.cells (List.replicate m (.int .i64 0)) 3],ts⟩):=by
 have hlim:lim=2^40:=rfl;have h0:¬(m:Int)=0:=aa;have h1:(0<(m:Int)/\(m:Int)<=(lim:Int)/\(m:Int)*((8:Nat):Int)<=(lim:Int)/\0<1):=by rw[hlim];omega
 have z3:jba env 3=some (.int .i64 0):=ac;simp only[appO,eI.elem,eI.size,eI.bytes,tys,Kq,jqB,h0,h1,Kn,Kl,z3,and_self,V.cells,Qh,Qr,Jk,S.push,Qj];rw[jo3]
theorem jsp(n:Nat)(hn:n<=100000)(L:List AObj)(ts:List Nat):jah env (ev env) 237 [.nilsl,.int .i64 n] ⟨L,ts⟩=some (if n=0 then(.nilsl,⟨L,ts⟩)else(.hsl L.length 0 0 n (.grow 1),⟨L++[.cells (List.replicate n (.int .i64 0)) 3],ts⟩)):=by
 have e0:IntKind.i64.wrap (0-0)=0:=af;have e1:IntKind.i64.wrap ((n:Int)-0)=n:=by rw[Int.sub_zero];exact wrap_i64 aa aa
 have c0:((n:Int)<0)=False:=eq_false aa;have k0:jpp (some (.slice 3)) .nilsl=some (.int .i64 0):=rfl;have s0:jbN env 22 .nilsl none (some (.int .i64 0)) none=some .nilsl:=ac
 have s1:∀b:Nat,jbN env 22 (.hsl b 0 n n (.grow 1)) none (some (.int .i64 0)) none=some (.hsl b 0 0 n (.grow 1)):=λb=>by
  simp only[jbN,tys,Kq];simp[jcM,ja0,HCap.cut]
 by_cases h:n=0
 ·rw[Kg h];have c1:((n:Int)>0)=False:=eq_false aa;refine jaL jxx rfl ?_;simp only[Nat.reduceGcd,Tryz.f237,Ka,Nat.reduceLT,Nat.reduceEqDiff,Kl,Kn,reduceIte,Ys,Y0,Int.reduceEq,Int.reduceLT,Int.reduceLE,Int.reduceNeg,mb,Nat.reduceBEq,tys,stb,Vq,e0,e1,c0,c1,jq0,k0];exact⟨rfl,trivial⟩
 ·rw[Ke h];have hA:=jxz (m:=n) aa aa L ts;have c1:((n:Int)>0)=True:=eq_true aa;refine jaL jxx rfl ?_;simp only[Nat.reduceGcd,Tryz.f237,Ka,Nat.reduceLT,Nat.reduceEqDiff,Kl,Kn,reduceIte,Ys,Y0,Int.reduceEq,Int.reduceLT,Int.reduceLE,Int.reduceNeg,mb,Nat.reduceBEq,tys,stb,Vq,e0,e1,c0,c1,jq0,k0,jbO,jbP,jbT,s0,hA,s1];exact⟨rfl,trivial⟩
structure TOK (t:Tb):Prop where
 cv:IsC t.s.cv t.s.cs
 ok:OkC t.s.cs
 cl:t.s.cs.length<=200
 sh:jj1 t.s
 mi:In64 t.s.many
 ci:∀c∈t.s.cs,In64 c.lo/\In64 c.hi
 rv:IsR t.rv t.rows
 ro:OkR t.rows
 rl:t.rows.length<=5000
 vl:∀r∈t.rows,r.vs.length<=1000
structure BOK (v:V) (l:List Tb):Prop where
 v:IsB v l
 t:∀t∈l,TOK t
 l:l.length<=1000
theorem BOK.at {v:V}{l:List Tb}(h:BOK v l){i:Nat}(hi:i<l.length):TOK (l.getD i Tb.none):=h.t _ (Tb.mem hi)
theorem BOK.ok {v:V}{l:List Tb}(h:BOK v l):OkB l:=⟨λt ht=>⟨(h.t t ht).cv,(h.t t ht).ok⟩,λt ht=>⟨(h.t t ht).rv,(h.t t ht).ro⟩⟩
theorem BOK.closed {v:V}{l:List Tb}(h:BOK v l):v.closed=true:=jt3 h.v h.ok
theorem jcG(h:List AObj)(a b c d e:V)(r:List V):jab h 5 (.rptr (a::b::c::d::e::r))=some [a,b,c,d,e]:=by simp[jab]
theorem jbr(h:List AObj)(a b:V)(r:List V):jab h 2 (.rptr (a::b::r))=some [a,b]:=by simp[jab]
theorem ld5 {h:List AObj}{n:Nat}{a b c d e:V}{t:TypeId}(hh:h[n]? = some (.cells [a,b,c,d,e] t)):jab h 5 (.ptr n 0)=some [a,b,c,d,e]:=by simp[jab,hh]
theorem ld54 {h:List AObj}{n:Nat}{a b c d e:V}{t:TypeId}(hh:h[n]? = some (.cells [a,b,c,d,e] t)):jab h 4 (.ptr n 0)=some [a,b,c,d]:=by simp[jab,hh]
theorem ld2 {h:List AObj}{n:Nat}{a b:V}{t:TypeId}(hh:h[n]? = some (.cells [a,b] t)):jab h 2 (.ptr n 0)=some [a,b]:=by simp[jab,hh]
theorem jcu {v:V}{cs:List Col}(h:IsC v cs):v.isCell=true:=by rcases h with⟨rfl,_⟩|⟨q,_,rfl⟩<;>rfl
theorem jdu {v:V}{l:List Rw}(h:IsR v l):v.isCell=true:=by rcases h with⟨rfl,_⟩|⟨q,_,rfl⟩<;>rfl
theorem jcv {v:V}{l:List Int}(h:IsI v l):v.isCell=true:=by rcases h with⟨rfl,_⟩|rfl|rfl<;>rfl
def cpS(s:Sch):Sch:={ s with cv:=unkV s.cv }
def sv(l:List Tb):List Sch:=l.map λt=>cpS t.s
def svV(l:List Tb):V:=if l=[]then .nilsl else .row (jaY (sv l)) (sv l).length .unk
theorem jkc(l:List Tb):IsS (svV l) (sv l):=by
 unfold svV;split
 ·rename_i h;subst h;exact .inl ⟨rfl,rfl⟩
 ·exact .inr ⟨.unk,.inl rfl,rfl⟩
theorem jz3(a b c d:V):rowO env 24 1 [(0,.agg [a,b,c,d])]=some (.row [a,b,c,d] 1 .full):=ac
theorem take_next {α:Type}{l:List α}{i:Nat}(d:α)(h:i<l.length):l.take (i+1)=l.take i++[l.getD i d]:=by
 rw[Vw,Kz h];simp[List.getD,h]
theorem jkd(h:List AObj):∀{l:List Sch},(∀s∈l,(∃v,IsC v s.cs/\s.cv=unkV v)/\OkC s.cs)->(jaY l).mapM (jaK h 11)=some (jaY l)
 | [],_=>rfl
 | s::l,ok=>by
  obtain⟨⟨v,hv,e⟩,hc⟩:=ok s ae
  have hs:jaK h 11 s.cv=some s.cv:=by
   rw[e]
   rcases hv with⟨rfl,_⟩|⟨q,_,rfl⟩
   ·rfl
   ·show jaK h (10+1) (.row _ _ .unk)=_;rw[ja1,show(10:Nat)=8+2 from rfl,jdZ h 8 hc];rfl
  rw[jb8,jal,jal,jal,jal,jkd h (l:=l) λx hx=>ok x (by simp[hx]),hs,jbC,jav,jaA];rfl
theorem jtJ:env.hook 105=some (jbU YtajaampgajieeaaGreatDoor.env 105):=rfl
theorem jvV {t:Tb}(h:TOK t)(U:S):jah env (ev env) 105 [.agg [.str t.s.name,.bool t.s.pub,.int .i64 t.s.many,t.s.cv]] U=some (.agg [.str t.s.name,.bool t.s.pub,.int .i64 t.s.many,unkV t.s.cv],U) :=
 jb6 jtJ (jhh _ _ _ _ _ h.cv h.ok (by have:=h.cl;omega) λi hi=>(h.sh.2.2 i hi).2.1) _ U
theorem jcC {v:V}{l:List Tb}(h:BOK v l)(U:S):jah env (ev env) 115 [v] U=some (svV l,U):=by
 refine jaj (by simp[h.closed]) jzI rfl ?_ U;have hlim:lim=2^40:=rfl;have hl:=h.l;have hB:=jmo h.v 79;simp only[Tryz.f115,simprocAttr,zK,Vq,jai,hB];refine jau (λm T D U=>D=[]/\T 6=v/\T 7=.int .i64 l.length/\∃(L:List AObj) (ts:List Nat) (i:Nat) (u:V),U=⟨L,ts⟩/\T 3=u/\T 8=.int .i64 i/\i<=l.length/\m=l.length-i/\GrowV 0 ts 4 u i (jaY (sv (l.take i)))/\(i=0->u=.nilsl)) ?_ (l.length-0) _ _ _ ⟨rfl,rfl,rfl,[],[],0,.nilsl,rfl,rfl,rfl,Qm _,rfl,.nil,λ_=>rfl⟩;rintro m T D U ⟨rfl,t6,t7,L,ts,i,u,rfl,t3,t8,hi,rfl,g,g0⟩;refine jaC ?_;by_cases hlt:i<l.length
 ·have c1:(i:Int)<(l.length:Int):=by omega
  have e1:IntKind.i64.wrap ((i:Int)+1)=((i+1:Nat):Int):=by rw[wrap_i64 aa aa];omega
  have hx:=jiK h.v hlt;have ht:=h.at hlt;have i1:=jcu ht.cv;have i2:=jdu ht.rv;have hC:=jvV ht
  obtain⟨v',ts',hA,g',_⟩:=GrowV.push (E:=env) (hp:=L++[AObj.cells [.str (l.getD i Tb.none).s.name,.bool (l.getD i Tb.none).s.pub,.int .i64 (l.getD i Tb.none).s.many,(l.getD i Tb.none).s.cv,(l.getD i Tb.none).rv] 79]) (q:=.full) (new:=[.str (l.getD i Tb.none).s.name,.bool (l.getD i Tb.none).s.pub,.int .i64 (l.getD i Tb.none).s.many,unkV (l.getD i Tb.none).s.cv]) eS ⟨38,eS.slice⟩ g (Qm _) rfl
   (by rcases ht.cv with⟨e,_⟩|⟨q,_,e⟩<;>rw[e]<;>rfl) ⟨by rw[hlim];omega,by rw[hlim];omega⟩
  have ld:=ld54 (jad L (AObj.cells [.str (l.getD i Tb.none).s.name,.bool (l.getD i Tb.none).s.pub,.int .i64 (l.getD i Tb.none).s.many,(l.getD i Tb.none).s.cv,(l.getD i Tb.none).rv] 79));simp only[simprocAttr,zK,K0,jaa,Q1,t3,t6,t7,t8,c1,e1,hx,jcG,jad,jan,jae,jam,jac,i1,i2,ld,hC,jar,jz3,hA];refine⟨l.length-(i+1),aa,_,ts',i+1,v',rfl,rfl,rfl,aa,rfl,?_,λh=>aa⟩;rw[take_next Tb.none hlt];have e:jaY (sv (l.take i++[l.getD i Tb.none]))=jaY (sv (l.take i))++[.str (l.getD i Tb.none).s.name,.bool (l.getD i Tb.none).s.pub,.int .i64 (l.getD i Tb.none).s.many,unkV (l.getD i Tb.none).s.cv]:=by simp[sv,jaY,cpS,Sch.cells]
  rw[e];exact g'
 ·have hie:i=l.length:=by omega
  subst hie;have c1:¬(l.length:Int)<(l.length:Int):=aa;simp only[simprocAttr,zK,Vq,t3,t6,t7,t8,c1];rw[Jh]at g
  have hs:=jkd L (l:=sv l) λs hs=>by
   obtain⟨t,ht,rfl⟩:=Jd.1 hs;exact⟨⟨_,(h.t t ht).cv,rfl⟩,(h.t t ht).ok⟩
  unfold svV;by_cases hn:l=[]
  ·rw[Kg hn,g0 (by rw[hn];rfl)];rfl
  ·rw[Ke hn];have hp:0<l.length:=Xy.2 hn;obtain⟨q,rfl⟩:=g.isrow hp;show jaK L (11+1) (.row _ _ _)=_;rw[ja1,hs,show(sv l).length=l.length by simp[sv]];rfl
end Go.Proofs.YtajaampgajieeaaGreatDoor.B
