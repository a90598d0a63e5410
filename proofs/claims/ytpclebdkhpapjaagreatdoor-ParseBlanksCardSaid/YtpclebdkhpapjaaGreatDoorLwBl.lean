/- Proved here: the law. Conditions: those of each theorem; no statement of the seat is proved in this text. -/
import Derived.Test.YtpclebdkhpapjaaGreatDoorPqB
set_option linter.unusedSimpArgs false
set_option linter.unusedVariables false
set_option linter.unusedSectionVars false
namespace Go.Proofs.YtpclebdkhpapjaaGreatDoor
open Go.Ab
open Go.Ab.PP
set_option maxHeartbeats 8000000
set_option maxRecDepth 100000
theorem jtZ:env.P.eqGuardType env.P.depth 32=false:=by kernel_rfl
theorem jt0(k k' n n':Int):eqT env 8 32 (.agg [.int .i64 k,.int .i64 n]) (.agg [.int .i64 k',.int .i64 n']) =
  (some (k==k')).bind λr=>if r then(some (n==n')).bind λr=>if r then some true else some false else some false:=by kernel_rfl
theorem jlz(u:Option TypeDesc)(c:Bool)(op:BinOp)(a b:List V):jbY u c op (.agg a) (.agg b)=none:=by
 cases op<;>cases u<;>first|rfl|(rename_i u;cases u<;>rfl)
theorem jiA(t:TypeId)(c:Bool)(op:BinOp)(a b:List V):binO env t c op (some (.agg a)) (some (.agg b))=jeZ env t op (.agg a) (.agg b):=by
 have:binO env t c op (some (.agg a)) (some (.agg b))=jc8 env t c op (.agg a) (.agg b):=rfl
 rw[this]
 unfold jc8
 rw[jlz]
theorem eq32(c:Bool)(k n k' n':Int):binO env 32 c .eql (some (.agg [.int .i64 k,.int .i64 n])) (some (.agg [.int .i64 k',.int .i64 n']))=some (.bool (decide (k=k'/\n=n'))):=by
 rw[jiA]
 simp only[jeZ,jtZ,jt0]
 by_cases h1:k=k'<;>by_cases h2:n=n'<;>simp[h1,h2]
theorem ne32(c:Bool)(k n k' n':Int):binO env 32 c .neq (some (.agg [.int .i64 k,.int .i64 n])) (some (.agg [.int .i64 k',.int .i64 n']))=some (.bool (!decide (k=k'/\n=n'))):=by
 rw[jiA]
 simp only[jeZ,jtZ,jt0]
 by_cases h1:k=k'<;>by_cases h2:n=n'<;>simp[h1,h2]
theorem bd32(k n:Int):jcd env 32 [(0,.int .i64 k),(1,.int .i64 n)]=some (.agg [.int .i64 k,.int .i64 n]):=by
 have h:jcd env 32 [(0,.int .i64 k),(1,.int .i64 n)]=some (.agg [.int .i64 k,.int .i64 n]):=by kernel_rfl
 exact h
theorem jvw:jcd env 32 []=some (.agg [.int .i64 0,.int .i64 0]):=by kernel_rfl
theorem z29:jbG env 29=some (.agg (qC Qry.zero .nilsl .nilsl .nilsl)):=by kernel_rfl
theorem z32:jbG env 32=some (.agg [.int .i64 0,.int .i64 0]):=by kernel_rfl
namespace T
theorem jxz(d:List UInt8):0<=(jfV d).1.n/\(jfV d).1.n<=1000000000:=by
 unfold jfV
 split
 ·simp
 ·split
  ·split
   ·simp[Tok.zero]
   ·split
    ·simp[Tok.zero]
    ·simp only;omega
  ·split
   ·split
    ·simp
    ·simp[Tok.zero]
   ·split
    ·simp
    ·split
     ·simp
     ·simp[Tok.zero]
theorem jrA(d:List UInt8):∀b∈(jfV d).1.text,b∈d:=by
 have h1:∀n,∀b∈d.take n,b∈d:=λn b h=>Vt h
 have h2:∀n,∀b∈(d.drop 1).take n,b∈d:=λn b h=>Xr (Vt h)
 have h3:∀b∈Tok.zero.text,b∈d:=λb h=>by simp[Tok.zero]at h
 unfold jfV
 split
 ·exact h1 _
 ·split
  ·split
   ·exact h3
   ·split
    ·exact h3
    ·exact h1 _
  ·split
   ·split
    ·exact h2 _
    ·exact h3
   ·split
    ·exact h1 _
    ·split
     ·exact h1 _
     ·exact h3
theorem jn8:∀(m:Nat) (d:List UInt8) (i:Nat) (last:Int),(jgk m d i last).1.length<=m/\∀t∈(jgk m d i last).1,(0<=t.n/\t.n<=1000000000)/\∀b∈t.text,b∈d
 |0,d,i,last=>by simp[jgk]
 | m+1,d,i,last=>by
  unfold jgk
  split
  ·simp
  ·rename_i b0 r0
   have k1:=jxz (b0::r0)
   have k2:=jrA (b0::r0)
   generalize hn:jfV (b0::r0)=r at *
   obtain⟨t,e,x⟩:=r
   simp only at k1 k2 ⊢
   split
   ·split
    ·simp
    ·have ih:=jn8 m (((b0::r0).drop e).drop (jbX [1] ((b0::r0).drop e))) (i+e+jbX [1] ((b0::r0).drop e)) (if t.kind ≠ 5 then((i+e:Nat):Int)else -1)
     generalize jgk m _ _ _=q at *
     obtain⟨l,r⟩:=q
     simp only at ih ⊢
     refine⟨by simp only[K2];omega,?_⟩
     intro u hu
     rcases Qy.1 hu with rfl|hu
     ·exact⟨k1,k2⟩
     ·exact⟨(ih.2 u hu).1,λb hb=>Xr (Xr ((ih.2 u hu).2 b hb))⟩
   ·simp
theorem toksD_all(s:List UInt8):(toksD s).1.length<=s.length+1/\∀t∈(toksD s).1,(0<=t.n/\t.n<=1000000000)/\∀b∈t.text,b∈s:=by
 have h:=jn8 (s.length+1) (s.drop (jbX [1] s)) (jbX [1] s) (-1)
 exact⟨h.1,λt ht=>⟨(h.2 t ht).1,λb hb=>Xr ((h.2 t ht).2 b hb)⟩⟩
end T
theorem jwj:∀l:List T.Tok,T.flatT l=jkL (l.map T.tkOf)
 | []=>rfl
 |t::l=>by
  have:=jwj l
  have e:jkL ((t::l).map T.tkOf)=jak (T.tkOf t)++jkL (l.map T.tkOf):=rfl
  rw[e,<- this]
  rfl
theorem jzv(l:List T.Tok):IsK (T.toksV l) (l.map T.tkOf):=by
 unfold T.toksV
 by_cases h:l=[]
 ·subst h;exact .inl ⟨rfl,rfl⟩
 ·rw[Km h,jwj]
  exact .inr ⟨.unk,by rw[J5]⟩
theorem jxA(s:List UInt8):jem ((T.toksD s).1.map T.tkOf):=by
 intro t ht
 obtain⟨u,hu,rfl⟩:=Xa.1 ht
 exact((T.toksD_all s).2 u hu).1
open Classical in
noncomputable def jfM(n:Int):List UInt8:=if h:∃s:List UInt8,∀O,jar env (ev env) 65 [.int .i64 n] O=some (.str s,O)then Classical.choose h else []
theorem jt1:ItOK jfM:=by
 intro n h0 h1
 have he:∃s:List UInt8,∀O,jar env (ev env) 65 [.int .i64 n] O=some (.str s,O):=by
  obtain⟨s,hs,_⟩:=I.itoa_call n ⟨by omega,by omega⟩
  exact⟨s,λO=>jtM hs _ O⟩
 unfold jfM
 rw[dif_pos he]
 exact Vp he
theorem jt2(s:List UInt8)(hs:s.length<=4000)(O:S):jar env (ev env) 19 [.str s] O=some (T.splitD s,O):=jnY rfl (T.splitD_call s hs) _ O
namespace T
theorem jgJ(cs:List Int):∀d:List UInt8,jbX cs d<=d.length
 | []=>Kx _
 |c::r=>by
  unfold jbX
  have:=jgJ cs r
  split
  ·simp only[K2];omega
  ·omega
theorem jt3 {cs:List Int}{c:UInt8}{r:List UInt8}(h:clsN c.toNat∈cs):0<jbX cs (c::r):=by
 unfold jbX
 rw[Kk h];omega
theorem jvx(c:UInt8)(r:List UInt8):(jfV (c::r)).2.1<=(c::r).length/\((jfV (c::r)).1.kind=1->(jfV (c::r)).1.text ≠ []):=by
 have h1:=jgJ [2,3,4] (c::r)
 have h2:=jgJ [3] (c::r)
 have h3:=jgJ [2,3,4] ((c::r).drop 1)
 have hd:((c::r).drop 1).length+1=(c::r).length:=by simp
 unfold jfV
 split
 ·rename_i hc
  refine⟨h1,λ_ h => ?_⟩
  have hp:0<jbX [2,3,4] (c::r):=jt3 (by
   have:clsN c.toNat=2:=hc
   rw[this];decide)
  have:=congrArg List.length h
  simp only[K8,K5]at this
  omega
 ·split
  ·split
   ·exact⟨h2,λh=>absurd (show(_:Int)=1 from h) (by simp[Tok.zero])⟩
   ·split
    ·exact⟨h2,λh=>absurd (show(_:Int)=1 from h) (by simp[Tok.zero])⟩
    ·exact⟨h2,λh=>absurd (show(_:Int)=1 from h) (by simp[Tok.zero])⟩
  ·split
   ·split
    ·rename_i h
     exact⟨by simp only;omega,λh=>absurd (show(_:Int)=1 from h) (by simp[Tok.zero])⟩
    ·exact⟨by simp only;omega,λh=>absurd (show(_:Int)=1 from h) (by simp[Tok.zero])⟩
   ·split
    ·exact⟨by simp only[K8];omega,λh=>absurd (show(_:Int)=1 from h) (by simp[Tok.zero])⟩
    ·split
     ·exact⟨by simp only[K8];omega,λh=>absurd (show(_:Int)=1 from h) (by simp[Tok.zero])⟩
     ·exact⟨by simp,λh=>absurd (show(_:Int)=1 from h) (by simp[Tok.zero])⟩
theorem jqI:∀(m:Nat) (d:List UInt8) (i:Nat) (last:Int),(∀t∈(jgk m d i last).1,0<=t.pos/\t.pos<=((i+d.length:Nat):Int)/\(t.kind=1->t.text ≠ []))/\∀x k,(jgk m d i last).2=some (x,k)->x ≠ 0/\k<=i+d.length
 |0,d,i,last=>by simp[jgk]
 | m+1,d,i,last=>by
  unfold jgk
  split
  ·simp
  ·rename_i b0 r0
   have k1:=jvx b0 r0
   generalize hn:jfV (b0::r0)=r at *
   obtain⟨t,e,x⟩:=r
   simp only at k1 ⊢
   split
   ·split
    ·refine⟨by simp,λx k h => ?_⟩
     simp only[Kg,Kh]at h
     obtain⟨rfl,rfl⟩:=h
     exact⟨by decide,by omega⟩
    ·have ih:=jqI m (((b0::r0).drop e).drop (jbX [1] ((b0::r0).drop e))) (i+e+jbX [1] ((b0::r0).drop e)) (if t.kind ≠ 5 then((i+e:Nat):Int)else -1)
     have hsp:=jgJ [1] ((b0::r0).drop e)
     have hl:(((b0::r0).drop e).drop (jbX [1] ((b0::r0).drop e))).length=(b0::r0).length-e-jbX [1] ((b0::r0).drop e):=by rw[Qn,Qn]
     rw[Qn]at hsp
     rw[hl]at ih
     have e1:i+e+jbX [1] ((b0::r0).drop e)+((b0::r0).length-e-jbX [1] ((b0::r0).drop e))=i+(b0::r0).length:=by omega
     rw[e1]at ih
     generalize jgk m _ _ _=q at *
     obtain⟨l,r⟩:=q
     simp only at ih ⊢
     refine⟨?_,ih.2⟩
     intro u hu
     rcases Qy.1 hu with rfl|hu
     ·refine⟨?_,?_,k1.2⟩
      ·show(0:Int)<=((i:Nat):Int);omega
      ·show((i:Nat):Int)<=_;omega
     ·exact ih.1 u hu
   ·refine⟨by simp,λx k h => ?_⟩
    simp only[Kg,Kh]at h
    obtain⟨rfl,rfl⟩:=h
    exact⟨by assumption,by omega⟩
theorem toksD_rg(s:List UInt8):(∀t∈(toksD s).1,0<=t.pos/\t.pos<=s.length/\(t.kind=1->t.text ≠ []))/\∀x k,(toksD s).2=some (x,k)->x ≠ 0/\k<=s.length:=by
 have h:=jqI (s.length+1) (s.drop (jbX [1] s)) (jbX [1] s) (-1)
 have e:jbX [1] s+(s.drop (jbX [1] s)).length=s.length:=by
  have:=jgJ [1] s
  rw[Qn];omega
 rw[e]at h
 exact h
end T
open Classical in
noncomputable def mkF(n d:Int):List UInt8:=if h:∃(s:List UInt8) (e:Int),∀O,jar env (ev env) 67 [.str (jfM n),.str (jfM d)] O=some (.tup [.str s,.int .i64 e],O)then Classical.choose h else []
theorem jt4(n:Nat)(hn:n<=1000000000):I.DgsOf n (jfM n):=by
 obtain⟨s,hs,hd⟩:=I.itoa_dgs n (by omega)
 have h1:=jt1 n (by omega) (by omega) S.empty
 rw[jtM hs]at h1
 simp only[Kg,Kh,V.str.injEq,and_true]at h1
 rw[<- h1];exact hd
theorem jvy:jfM (1000000000:Nat)=A.mil:=by
 have h0:∀O,jar I.env (ev I.env) 65 [.int .i64 1000000000] O=some (.str A.mil,O):=jeo rfl rfl rfl (k:=20) (by rw[<- jga];kernel_rfl)
 have h1:=jt1 1000000000 (by decide) (by decide) S.empty
 rw[jtM h0]at h1
 simp only[Kg,Kh,V.str.injEq,and_true]at h1
 exact h1.symm
theorem jzw(n d:Nat)(hn:n<=1000000000)(hd:d<=1000000000)(h1:1<=d):∃(s:List UInt8) (e:Int),∀O,jar env (ev env) 67 [.str (jfM n),.str (jfM d)] O=some (.tup [.str s,.int .i64 e],O):=by
 have hf:env.hook 67=some jtL:=rfl
 have hn1:=jt4 n hn
 have hd1:=jt4 d hd
 by_cases hm:jfM n=A.mil/\jfM d=A.mil
 ·refine⟨[49],0,λO => ?_⟩
  unfold jar
  rw[hf]
  simp only[jtL,hm,and_self,Ku,Kw]
 ·have hnd:¬(n=1000000000/\d=1000000000):=by
   rintro⟨rfl,rfl⟩
   have e:jfM (1000000000:Nat)=A.mil:=jvy
   exact hm ⟨e,e⟩
  obtain⟨_,⟨s,e,rfl⟩,hc⟩:=R.ratmake_call hn1 hd1 hn hd h1 hnd
  refine⟨s,e,λO => ?_⟩
  unfold jar
  rw[hf]
  simp only[jtL,Km hm,jfI hc,Kw]
theorem mk_F(l:List Tk)(en:Int):MkOK l en jfM mkF mkF:=by
 intro j n d k _ _ hd0 hn0 hn1 hdn hd1
 obtain⟨n,rfl⟩:∃a:Nat,n=a:=⟨n.toNat,by omega⟩
 obtain⟨d,rfl⟩:∃a:Nat,d=a:=⟨d.toNat,by omega⟩
 have h:=jzw n d (by omega) (by omega) (by omega)
 have hs:(mkF n d)=Classical.choose h:=by unfold mkF;rw[dif_pos h]
 rw[hs]
 exact Vp h
noncomputable def jeF(s:List UInt8):Except Fl Qry :=
 if 2000<s.length then .error (4,2000)else
 match T.toksD s with
 |(l,none)=>jdD (l.map T.tkOf) (s.length:Nat) jfM mkF
 |(_,some (x,i))=>.error (x,i)
theorem jkA(s:List UInt8)(hs:s.length<=4000):∃v,PV (jeF s) v/\∀O,jar env (ev env) 10 [.str s] O=some (v,O):=by
 have hA:=T.toksD_all s
 have hS:=jxA s
 have hE:=T.toksD_rg s
 have hsp:=jt2 s hs
 unfold T.splitD at hsp
 unfold jeF
 by_cases h2:2000<s.length
 ·rw[Kk h2]
  rw[Kk h2]at hsp
  exact jn7 s 4 2000 (by decide) _ rfl hsp
 ·rw[Km h2]
  rw[Km h2]at hsp
  generalize T.toksD s=r at *
  obtain⟨l,_|⟨x,i⟩⟩:=r
  ·exact jvv (lv:=T.toksV l) (me:=mkF) (jzv l) (by rw[J5];have:=hA.1;simp only at this;omega) hS jt1 s (mk_F _ _) hsp
  ·exact jn7 s x i (hE.2 x i rfl).1 _ rfl hsp
theorem jn9(s:List UInt8)(hs:s.length<=2000):match jeF s with
  | .ok q=>Sq q/\0<q.bits
  | .error e=>Bad (s.length:Nat) e:=by
 have hE:=T.toksD_rg s
 have hA:=T.toksD_all s
 unfold jeF
 rw[Km (by omega)]
 generalize T.toksD s=r at *
 obtain⟨l,_|⟨x,i⟩⟩:=r
 ·refine jux ⟨by omega,?_,?_,?_⟩ jfM mkF
  ·intro t ht
   obtain⟨u,hu,rfl⟩:=Xa.1 ht
   have:=hE.1 u hu
   exact⟨this.1,this.2.1⟩
  ·intro t ht hk
   obtain⟨u,hu,rfl⟩:=Xa.1 ht
   exact(hE.1 u hu).2.2 hk
  ·intro t ht hk
   obtain⟨u,hu,rfl⟩:=Xa.1 ht
   exact(hA.2 u hu).1.1
 ·obtain⟨h1,h2⟩:=hE.2 x i rfl
  exact⟨h1,by simp,by simp;omega⟩
set_option maxRecDepth 1000000
theorem at40:env.P.funcs[40]? = some Tryz.f40:=by kernel_rfl
def zQ:List V:=qC Qry.zero .nilsl .nilsl .nilsl
theorem jqJ:zQ.length=20:=rfl
theorem jwk:zQ.all V.isCell=true:=rfl
theorem jmt:zQ.drop 20=[]:=rfl
theorem jjm:(V.agg zQ).cells=zQ:=rfl
theorem zq29:jbG env 29=some (.agg zQ):=z29
theorem bdq:jcd env 29 []=some (.agg zQ):=by kernel_rfl
theorem ldq(o:AObj):jai [.cells zQ 29,o] 20 (.ptr 0 0)=some zQ:=rfl
theorem ld32(o:AObj)(a b:V):jai [o,.cells [a,b] 32] 2 (.ptr 1 0)=some [a,b]:=rfl
theorem joa(O:S):jar env (ev env) 12 [.agg zQ,.agg zQ] O=some (.bool true,O):=jeo rfl rfl rfl (k:=20) (by rw[<- jga];kernel_rfl) O
def brk:List UInt8:=(T.asc "count from t where ")++List.replicate 51 91
noncomputable def jwl(s:List UInt8)(e:Fl)(itoa:Int->List UInt8)(mk:Int->Int->List UInt8):Bool :=
 match T.toksD s with
 |(l,none)=>(match jdD (l.map T.tkOf) (s.length:Nat) itoa mk with| .ok _=>false| .error x=>x.1==e.1 && x.2==e.2)
 |(_,some (x,i))=>x==e.1 && (i:Int)==e.2
theorem jzx(itoa:Int->List UInt8)(mk:Int->Int->List UInt8):jwl brk (4,69) itoa mk=true:=by kernel_rfl
theorem jBi:jeF brk=.error (4,69):=by
 have h:=jzx jfM mkF
 unfold jwl at h
 unfold jeF
 rw[Km (by decide +kernel)]
 generalize T.toksD brk=r at *
 obtain⟨l,_|⟨x,i⟩⟩:=r
 ·simp only at h ⊢
  generalize jdD _ _ _ _=q at *
  match q,h with
  | .error x,h =>
   simp only[K6,beq_iff_eq]at h
   obtain⟨a,b⟩:=x
   simp only at h
   rw[h.1,h.2]
 ·simp only[K6,beq_iff_eq]at h
  simp only[h.1,h.2]
theorem jvz(O:S):jar env (ev env) 40 [.str brk,.int .i64 4,.int .i64 69] O=some (.bool true,O):=by
 obtain⟨v,hv,hc⟩:=jkA brk (by decide +kernel)
 rw[jBi]at hv
 have hv:v=.tup [.agg zQ,.agg [.int .i64 4,.int .i64 69]]:=hv
 subst hv
 refine jau rfl rfl rfl at40 rfl (by simp[Tryz.f40]) (by simp[Tryz.f40]) (jaq ?_) O
 simp only[Tryz.f40,Ka,simprocAttr,Uq,Ke,Ur,jab,jas,hc,zq29,z32,s29,s32,jjm,jqJ,jwk,jmt,Jk,al29,al32,ldq,ld32,bdq,bd32,joa,eq32]
 exact⟨rfl,rfl⟩
theorem jxB:jfa A.env 40 [.str brk,.int .i64 4,.int .i64 69] (.bool true):=λΓ O w xs hw hg hx=>jcO env_ok (λt r h=>jgu env_ok h) (jvz O) hw hg hx
namespace A
def k4:RTab:=[(40,[.str brk,.int .i64 4,.int .i64 69],.bool true)]
def kAll:RTab:=k1++(k2++(k3++k4))
theorem jxC:∀p∈kAll,jfa env p.1 p.2.1 p.2.2:=λp hp=>by
 unfold kAll at hp
 rcases Ui.1 hp with h|h
 ·exact jyZ p h
 rcases Ui.1 h with h|h
 ·exact jAT p h
 rcases Ui.1 h with h|h
 ·exact jAU p h
 ·obtain rfl:=Xz.1 h
  exact jxB
theorem known_row:jfa env 15 [] (.bool true):=jfa.untab (T:=kAll) (jfb (env_ok.tab jxC) rfl (k:=80) (by kernel_rfl))
end A
end Go.Proofs.YtpclebdkhpapjaaGreatDoor
namespace Go.Proofs.YtpclebdkhpapjaaGreatDoor.Q
open Go.Ab
set_option maxHeartbeats 8000000
set_option maxRecDepth 100000
def jkc:List Nat:=[12,16,17,18,20,34,35,41]
def jxl:List Nat:=[8,14,19,21]
noncomputable def jzy(f:FuncId):Option (List V->Option V):=match memN f jxl with|true=>some (jgm T.env f)|false=>match Nat.beq f 10 with|true=>some (jgm YtpclebdkhpapjaaGreatDoor.env 10)|false=>match Nat.beq f 15 with|true=>some jvg|false=>none
noncomputable def env:Env:={ P:=Tryz.prog,pure:=λf=>memN f jkc,mutb:=λf _=>false,gl:=glV,hook:=jzy }
theorem env_ok:env.Ok :=
  { mixed:=by kernel_rfl
    glc:=jlt
    hook := λf g h=>by
      simp only[env,jzy]at h
      split at h
      · simp only[Kg]at h
        subst h
        intro args v hv Γ O w xs hw hg hx
        exact jfJ T.env_ok hv hw hg hx
      · split at h
        · rename_i hf
          have e:=Qz hf
          subst e
          simp only[Kg]at h
          subst h
          intro args v hv Γ O w xs hw hg hx
          exact jfJ YtpclebdkhpapjaaGreatDoor.env_ok hv hw hg hx
        split at h
        · rename_i hf
          have e:=Qz hf
          subst e
          simp only[Kg]at h
          subst h
          intro args v hv Γ O w xs hw hg hx
          unfold jvg at hv
          split at hv
          · simp only[Kg]at hv
            subst hv
            exact A.known_row Γ O w xs hw hg hx
          · simp at hv
        · simp at h }
theorem jt5 {args:List V}{v:V}(h:∀O,jar YtpclebdkhpapjaaGreatDoor.env (ev YtpclebdkhpapjaaGreatDoor.env) 10 args O=some (v,O))(rec:Task->Option Res)(O:S):jar env rec 10 args O=some (v,O):=by
 have hf:env.hook 10=some (jgm YtpclebdkhpapjaaGreatDoor.env 10):=rfl
 unfold jar
 rw[hf]
 simp only[jfI h,Kw]
theorem jnY {f:FuncId}{args:List V}{v:V}(hf:env.hook f=some (jgm T.env f))(h:∀O,jar T.env (ev T.env) f args O=some (v,O))(rec:Task->Option Res)(O:S):jar env rec f args O=some (v,O):=by
 unfold jar
 rw[hf]
 simp only[jfI h,Kw]
theorem jrB(O:S):jar env (ev env) 15 [] O=some (.bool true,O):=rfl
open Go.Ab.PP
theorem tys:env.P.underlying 3=some (.int .i64)/\env.P.underlying 4=some .bool/\env.P.underlying 9=some .string/\env.P.underlying 25=some (.slice 71)/\env.P.underlying 26=some (.slice 73)/\env.P.underlying 27=some .string/\env.P.underlying 30=some (.int .i64)/\env.P.underlying 43=some (.slice 47) /\
  sz env 3=some 1/\sz env 4=some 1/\sz env 9=some 1/\sz env 25=some 1/\sz env 26=some 1/\sz env 27=some 1/\sz env 30=some 1/\sz env 43=some 1/\sz env 71=some 3/\sz env 73=some 2/\sz env 47=some 4/\sz env 29=some 20/\sz env 32=some 2 :=
 ⟨by kernel_rfl,by kernel_rfl,by kernel_rfl,by kernel_rfl,by kernel_rfl,by kernel_rfl,by kernel_rfl,by kernel_rfl,by kernel_rfl,by kernel_rfl,by kernel_rfl,by kernel_rfl,by kernel_rfl,by kernel_rfl,by kernel_rfl,by kernel_rfl,by kernel_rfl,by kernel_rfl,by kernel_rfl,by kernel_rfl,by kernel_rfl⟩
theorem mb(f:FuncId)(r:Nat):env.mutb f r=false:=rfl
theorem stb(f:FuncId)(r:Nat):env.stab f r=false:=rfl
theorem Ke:type_of% (Kf @mb (Kf @stb @tys)):=Kf @mb (Kf @stb @tys)
theorem s71:sz env 71=some 3:=by kernel_rfl
theorem s29:sz env 29=some 20:=by kernel_rfl
theorem s32:sz env 32=some 2:=by kernel_rfl
theorem al1:(∀h p,jbi env h 3 p=(jai h 1 p).bind (·[0]?))/\(∀h p,jbi env h 4 p=(jai h 1 p).bind (·[0]?))/\(∀h p,jbi env h 9 p=(jai h 1 p).bind (·[0]?))/\(∀h p,jbi env h 25 p=(jai h 1 p).bind (·[0]?))/\(∀h p,jbi env h 26 p=(jai h 1 p).bind (·[0]?))/\(∀h p,jbi env h 27 p=(jai h 1 p).bind (·[0]?))/\(∀h p,jbi env h 30 p=(jai h 1 p).bind (·[0]?)) :=
 ⟨λ_ _=>ja0 (by kernel_rfl),λ_ _=>ja0 (by kernel_rfl),λ_ _=>ja0 (by kernel_rfl),λ_ _=>ja0 (by kernel_rfl),λ_ _=>ja0 (by kernel_rfl),λ_ _=>ja0 (by kernel_rfl),λ_ _=>ja0 (by kernel_rfl)⟩
theorem al29(h:List AObj)(p:V):jbi env h 29 p=(jai h 20 p).map .agg:=by
 have g:Go.Ab.aggT env 29=some true:=by kernel_rfl
 unfold jbi
 simp only[g,s29,Kj]
theorem al32(h:List AObj)(p:V):jbi env h 32 p=(jai h 2 p).map .agg:=by
 have g:Go.Ab.aggT env 32=some true:=by kernel_rfl
 unfold jbi
 simp only[g,s32,Kj]
theorem fo29:ja7 env 29 0=some 0/\ja7 env 29 1=some 1/\ja7 env 29 2=some 2/\ja7 env 29 3=some 3/\ja7 env 29 4=some 4/\ja7 env 29 5=some 5/\ja7 env 29 6=some 6/\ja7 env 29 7=some 7/\ja7 env 29 8=some 8/\ja7 env 29 9=some 9/\ja7 env 29 10=some 10/\ja7 env 29 11=some 11/\ja7 env 29 12=some 12/\ja7 env 29 13=some 13/\ja7 env 29 14=some 14/\ja7 env 29 15=some 15/\ja7 env 29 16=some 16/\ja7 env 29 17=some 17/\ja7 env 29 18=some 18/\ja7 env 29 19=some 19/\ja7 env 32 0=some 0/\ja7 env 32 1=some 1/\ja7 env 71 0=some 0 :=
 ⟨by kernel_rfl,by kernel_rfl,by kernel_rfl,by kernel_rfl,by kernel_rfl,by kernel_rfl,by kernel_rfl,by kernel_rfl,by kernel_rfl,by kernel_rfl,by kernel_rfl,by kernel_rfl,by kernel_rfl,by kernel_rfl,by kernel_rfl,by kernel_rfl,by kernel_rfl,by kernel_rfl,by kernel_rfl,by kernel_rfl,by kernel_rfl,by kernel_rfl,by kernel_rfl⟩
theorem jtZ:env.P.eqGuardType env.P.depth 32=false:=by kernel_rfl
theorem jt0(k k' n n':Int):eqT env 8 32 (.agg [.int .i64 k,.int .i64 n]) (.agg [.int .i64 k',.int .i64 n']) =
  (some (k==k')).bind λr=>if r then(some (n==n')).bind λr=>if r then some true else some false else some false:=by kernel_rfl
theorem jiA(t:TypeId)(c:Bool)(op:BinOp)(a b:List V):binO env t c op (some (.agg a)) (some (.agg b))=jeZ env t op (.agg a) (.agg b):=by
 have:binO env t c op (some (.agg a)) (some (.agg b))=jc8 env t c op (.agg a) (.agg b):=rfl
 rw[this]
 unfold jc8
 rw[jlz]
theorem eq32(c:Bool)(k n k' n':Int):binO env 32 c .eql (some (.agg [.int .i64 k,.int .i64 n])) (some (.agg [.int .i64 k',.int .i64 n']))=some (.bool (decide (k=k'/\n=n'))):=by
 rw[jiA]
 simp only[jeZ,jtZ,jt0]
 by_cases h1:k=k'<;>by_cases h2:n=n'<;>simp[h1,h2]
theorem ne32(c:Bool)(k n k' n':Int):binO env 32 c .neq (some (.agg [.int .i64 k,.int .i64 n])) (some (.agg [.int .i64 k',.int .i64 n']))=some (.bool (!decide (k=k'/\n=n'))):=by
 rw[jiA]
 simp only[jeZ,jtZ,jt0]
 by_cases h1:k=k'<;>by_cases h2:n=n'<;>simp[h1,h2]
theorem jvw:jcd env 32 []=some (.agg [.int .i64 0,.int .i64 0]):=by kernel_rfl
theorem bd32(k n:Int):jcd env 32 [(0,.int .i64 k),(1,.int .i64 n)]=some (.agg [.int .i64 k,.int .i64 n]):=by kernel_rfl
theorem z32:jbG env 32=some (.agg [.int .i64 0,.int .i64 0]):=by kernel_rfl
theorem zq29:jbG env 29=some (.agg zQ):=by kernel_rfl
theorem bdq:jcd env 29 []=some (.agg zQ):=by kernel_rfl
theorem joa(O:S):jar env (ev env) 12 [.agg zQ,.agg zQ] O=some (.bool true,O):=jeo rfl rfl rfl (k:=20) (by rw[<- jga];kernel_rfl) O
structure IsZ (Z:List V):Prop where
 len:Z.length=20
 all:Z.all V.isCell=true
theorem IsZ.ld {Z:List V}(h:IsZ Z)(o:AObj):jai [.cells Z 29,o] 20 (.ptr 0 0)=some Z:=by
 simp only[jai,Qk,Qq]
 rw[Kk (by rw[h.len];exact Kx _),Qi (by rw[h.len];exact Kx _)]
theorem isZ {Q:Qry}{a b c:V}{n m k:Nat}{x y z:List V}(h1:RowU a n x)(h2:RowU b m y)(h3:RowU c k z):IsZ (qC Q a b c):=by
 have e:∀{v:V} {n:Nat} {x:List V},RowU v n x->v.isCell=true:=λh=>by rcases h with⟨rfl,_⟩|rfl<;>rfl
 exact⟨rfl,by simp only[qC,Q0,Js,e h1,e h2,e h3];rfl⟩
theorem jvA {v:V}{n:Nat}{cs:List V}(h:RowU v n cs)(e:TypeId):jd5 (some (.slice e)) v=some (.int .i64 n):=by
 rcases h with⟨rfl,rfl,_⟩|rfl<;>rfl
theorem jvB {v:V}{n:Nat}{cs:List V}(h:RowU v n cs)(w:Nat){i:Nat}(hi:i<n):jaJ w v (.int .i64 i)=some (.rptr (cs.drop (i*w))):=by
 rcases h with⟨rfl,rfl,_⟩|rfl
 ·omega
 ·simp[jaJ,hi]
theorem jiZ:∀cs:List V,(∀v∈cs,(∃k n,v=.int k n)\/∃s,v=.str s)->V.closed.closedL cs=true
 | [],_=>rfl
 |c::cs,h=>by
  have ih:=jiZ cs λv hv=>h v (Uk _ hv)
  rcases h c (List.mem_cons_self ..)with⟨k,n,rfl⟩|⟨s,rfl⟩<;>simp[V.closed.closedL,V.closed,ih]
theorem jcY {v:V}{n:Nat}{cs:List V}(h:RowU v n cs)(hc:∀v∈cs,(∃k n,v=.int k n)\/∃s,v=.str s):v.closed=true:=by
 rcases h with⟨rfl,_,_⟩|rfl
 ·rfl
 ·simp only[V.closed,jiZ cs hc];rfl
theorem jqK:∀(l:List Nd) (i:Nat),(jbR l).drop (i*3)=jbR (l.drop i)
 | [],i=>by simp[jbR]
 |c::cs,0=>by simp
 |c::cs,i+1=>by
  have e:jbR (c::cs)=jbP c++jbR cs:=rfl
  rw[e,Q6,<- jqK cs i,show(i+1)*3=3+i*3 by omega,<- Xd]
  rfl
theorem jvC {l:List Nd}{i:Nat}{t:Nd}(h:l[i]? = some t):(jbR l).drop (i*3)=jbP t++jbR (l.drop (i+1)):=by
 rw[jqK,jmp h];rfl
theorem at34:env.P.funcs[34]? = some Tryz.f34:=by kernel_rfl
theorem at35:env.P.funcs[35]? = some Tryz.f35:=by kernel_rfl
theorem at20:env.P.funcs[20]? = some Tryz.f20:=by kernel_rfl
theorem u26:env.P.underlying 26=some (.slice 73):=by kernel_rfl
theorem at12:env.P.funcs[12]? = some Tryz.f12:=by kernel_rfl
theorem jBj:env.P.eqGuardType env.P.depth 71=false:=by kernel_rfl
theorem jBk(a a' n n':Int)(x y:List UInt8):eqT env 8 71 (.agg [.int .i64 a,.int .i64 n,.str x]) (.agg [.int .i64 a',.int .i64 n',.str y]) =
  (some (a==a')).bind λr=>if r then(some (n==n')).bind λr=>if r then(some (x==y)).bind λr=>if r then some true else some false else some false else some false:=by kernel_rfl
theorem ne71(c:Bool)(t:Nd):binO env 71 c .neq (some (.agg (jbP t))) (some (.agg (jbP t)))=some (.bool false):=by
 have:binO env 71 c .neq (some (.agg (jbP t))) (some (.agg (jbP t)))=jc8 env 71 c .neq (.agg (jbP t)) (.agg (jbP t)):=rfl
 rw[this]
 unfold jc8
 rw[jlz]
 simp only[jeZ,jBj,jbP,jBk]
 simp
theorem al71(h:List AObj)(p:V):jbi env h 71 p=(jai h 3 p).map .agg:=by
 have g:Go.Ab.aggT env 71=some true:=by kernel_rfl
 unfold jbi
 simp only[g,s71,Kj]
theorem ld3(h:List AObj)(t:Nd)(r:List V):jai h 3 (.rptr (jbP t++r))=some (jbP t):=by
 simp[jai,jbP]
theorem jwm(l:List Nd){v w:V}(hv:RowU v l.length (jbR l))(hw:RowU w l.length (jbR l))(hl:l.length<=100000)(O:S):jar env (ev env) 34 [v,w] O=some (.bool true,O):=by
 have cv:=jcY hv (jch l)
 have cw:=jcY hw (jch l)
 refine jau rfl rfl (by simp only[Q0,Js,cv,cw];rfl) at34 rfl (by simp[Tryz.f34]) (by simp[Tryz.f34]) (jaq ?_) O
 have l1:=jvA hv
 have l2:=jvA hw
 simp only[Tryz.f34,Ka,simprocAttr,Uq,Ke,Uu,l1,l2]
 refine jbs (λm T D O=>D=[]/\T 0=v/\T 1=w/\O=⟨[],[]⟩/\∃(i:Nat),T 5=.int .i64 i/\i<=l.length/\m=l.length-i) ?_ (l.length-0) _ _ _ ⟨rfl,rfl,rfl,rfl,0,rfl,by omega,rfl⟩
 rintro m T D O ⟨rfl,t0,t1,rfl,i,t3,hi,rfl⟩
 refine jaq ?_
 by_cases hlt:i<l.length
 ·have c1:(i:Int)<(l.length:Int):=by omega
  have e1:IntKind.i64.wrap ((i:Int)+1)=((i+1:Nat):Int):=by rw[wrap_i64 (by omega) (by omega)];omega
  obtain⟨t,ht⟩:∃t,l[i]? = some t:=⟨_,K4 hlt⟩
  have i1:=jvB hv 3 hlt
  have i2:=jvB hw 3 hlt
  rw[jvC ht]at i1 i2
  simp only[Ka,simprocAttr,Uq,Ke,Vq,t0,t1,t3,c1,e1,l1,l2,i1,i2,al71,ld3,ne71,s71]
  first|exact⟨by kernel_rfl,l.length-(i+1),by omega,i+1,rfl,by omega,rfl⟩|exact⟨l.length-(i+1),by omega,i+1,rfl,by omega,rfl⟩
 ·have c1:¬(i:Int)<(l.length:Int):=by omega
  simp only[Ka,simprocAttr,Uq,Ke,Vq,t0,t1,t3,c1,l1,l2]
  simp only[jaX,jax,jbc]
theorem jBl:env.P.eqGuardType env.P.depth 73=false:=by kernel_rfl
theorem jBm(a a' n n':Int):eqT env 8 73 (.agg [.int .i64 a,.int .i64 n]) (.agg [.int .i64 a',.int .i64 n']) =
  (some (a==a')).bind λr=>if r then(some (n==n')).bind λr=>if r then some true else some false else some false:=by kernel_rfl
def jfQ(r:Int × Int):List V:=[.int .i64 r.1,.int .i64 r.2]
theorem jvD {l:List (Int × Int)}{i:Nat}{t:Int × Int}(h:l[i]? = some t):(jeb l).drop (i*2)=jfQ t++jeb (l.drop (i+1)):=by
 have:∀(l:List (Int × Int)) (i:Nat),(jeb l).drop (i*2)=jeb (l.drop i):=by
  intro l
  induction l with
  |nil=>intro i;simp[jeb]
  | cons c cs ih =>
   intro i
   cases i with
   |zero=>simp
   |succ i =>
    have e:jeb (c::cs)=jfQ c++jeb cs:=rfl
    rw[e,Q6,<- ih,show(i+1)*2=2+i*2 by omega,<- Xd]
    rfl
 rw[this,jmp h]
 rfl
theorem ne73(c:Bool)(t:Int × Int):binO env 73 c .neq (some (.agg (jfQ t))) (some (.agg (jfQ t)))=some (.bool false):=by
 have:binO env 73 c .neq (some (.agg (jfQ t))) (some (.agg (jfQ t)))=jc8 env 73 c .neq (.agg (jfQ t)) (.agg (jfQ t)):=rfl
 rw[this]
 unfold jc8
 rw[jlz]
 simp only[jeZ,jBl,jfQ,jBm]
 simp
theorem s73':sz env 73=some 2:=by kernel_rfl
theorem al73(h:List AObj)(p:V):jbi env h 73 p=(jai h 2 p).map .agg:=by
 have g:Go.Ab.aggT env 73=some true:=by kernel_rfl
 unfold jbi
 simp only[g,s73',Kj]
theorem ld2(h:List AObj)(t:Int × Int)(r:List V):jai h 2 (.rptr (jfQ t++r))=some (jfQ t):=by
 simp[jai,jfQ]
theorem jzz(l:List (Int × Int)){v w:V}(hv:RowU v l.length (jeb l))(hw:RowU w l.length (jeb l))(hl:l.length<=100000)(O:S):jar env (ev env) 35 [v,w] O=some (.bool true,O):=by
 have cv:=jcY hv (jdP l)
 have cw:=jcY hw (jdP l)
 refine jau rfl rfl (by simp only[Q0,Js,cv,cw];rfl) at35 rfl (by simp[Tryz.f35]) (by simp[Tryz.f35]) (jaq ?_) O
 have l1:=jvA hv
 have l2:=jvA hw
 simp only[Tryz.f35,Ka,simprocAttr,Uq,Ke,Uu,l1,l2,u26]
 refine jbs (λm T D O=>D=[]/\T 0=v/\T 1=w/\O=⟨[],[]⟩/\∃(i:Nat),T 5=.int .i64 i/\i<=l.length/\m=l.length-i) ?_ (l.length-0) _ _ _ ⟨rfl,rfl,rfl,rfl,0,rfl,by omega,rfl⟩
 rintro m T D O ⟨rfl,t0,t1,rfl,i,t3,hi,rfl⟩
 refine jaq ?_
 by_cases hlt:i<l.length
 ·have c1:(i:Int)<(l.length:Int):=by omega
  have e1:IntKind.i64.wrap ((i:Int)+1)=((i+1:Nat):Int):=by rw[wrap_i64 (by omega) (by omega)];omega
  obtain⟨t,ht⟩:∃t,l[i]? = some t:=⟨_,K4 hlt⟩
  have i1:=jvB hv 2 hlt
  have i2:=jvB hw 2 hlt
  rw[jvD ht]at i1 i2
  simp only[Ka,simprocAttr,Uq,Ke,Vq,t0,t1,t3,c1,e1,l1,l2,i1,i2,al73,ld2,ne73,s73',u26]
  first|exact⟨by kernel_rfl,l.length-(i+1),by omega,i+1,rfl,by omega,rfl⟩|exact⟨l.length-(i+1),by omega,i+1,rfl,by omega,rfl⟩
 ·have c1:¬(i:Int)<(l.length:Int):=by omega
  simp only[Ka,simprocAttr,Uq,Ke,Vq,t0,t1,t3,c1,l1,l2,u26]
  simp only[jaX,jax,jbc]
theorem jBn:(∀(Q:Qry) (e w r:V),(qC Q e w r)[0]? = some (.int .i64 Q.kind))/\(∀(Q:Qry) (e w r:V),(qC Q e w r)[1]? = some (e))/\(∀(Q:Qry) (e w r:V),(qC Q e w r)[2]? = some (.int .i64 Q.lo))/\(∀(Q:Qry) (e w r:V),(qC Q e w r)[3]? = some (.int .i64 Q.hi))/\(∀(Q:Qry) (e w r:V),(qC Q e w r)[4]? = some (.int .i64 Q.p))/\(∀(Q:Qry) (e w r:V),(qC Q e w r)[5]? = some (.int .i64 Q.q))/\(∀(Q:Qry) (e w r:V),(qC Q e w r)[6]? = some (.str Q.column))/\(∀(Q:Qry) (e w r:V),(qC Q e w r)[7]? = some (.int .i64 Q.bound))/\(∀(Q:Qry) (e w r:V),(qC Q e w r)[8]? = some (r))/\(∀(Q:Qry) (e w r:V),(qC Q e w r)[9]? = some (.int .i64 Q.strategy))/\(∀(Q:Qry) (e w r:V),(qC Q e w r)[10]? = some (.bool Q.consistent))/\(∀(Q:Qry) (e w r:V),(qC Q e w r)[11]? = some (.str Q.table))/\(∀(Q:Qry) (e w r:V),(qC Q e w r)[12]? = some (.int .i64 Q.keep))/\(∀(Q:Qry) (e w r:V),(qC Q e w r)[13]? = some (.str Q.other))/\(∀(Q:Qry) (e w r:V),(qC Q e w r)[14]? = some (.str Q.left))/\(∀(Q:Qry) (e w r:V),(qC Q e w r)[15]? = some (.str Q.right))/\(∀(Q:Qry) (e w r:V),(qC Q e w r)[16]? = some (.int .i64 Q.limit))/\(∀(Q:Qry) (e w r:V),(qC Q e w r)[17]? = some (w))/\(∀(Q:Qry) (e w r:V),(qC Q e w r)[18]? = some (.str Q.factor))/\(∀(Q:Qry) (e w r:V),(qC Q e w r)[19]? = some (.int .i64 Q.bits)):=⟨λ_ _ _ _=>rfl,λ_ _ _ _=>rfl,λ_ _ _ _=>rfl,λ_ _ _ _=>rfl,λ_ _ _ _=>rfl,λ_ _ _ _=>rfl,λ_ _ _ _=>rfl,λ_ _ _ _=>rfl,λ_ _ _ _=>rfl,λ_ _ _ _=>rfl,λ_ _ _ _=>rfl,λ_ _ _ _=>rfl,λ_ _ _ _=>rfl,λ_ _ _ _=>rfl,λ_ _ _ _=>rfl,λ_ _ _ _=>rfl,λ_ _ _ _=>rfl,λ_ _ _ _=>rfl,λ_ _ _ _=>rfl,λ_ _ _ _=>rfl⟩
theorem ldA(A B:List V)(k:Nat):(jai [.cells A 29,.cells B 29] 1 (.ptr 0 k)).bind (·[0]?)=A[k]? := by
 rw[YA];rfl
theorem ldB(A B:List V)(k:Nat):(jai [.cells A 29,.cells B 29] 1 (.ptr 1 k)).bind (·[0]?)=B[k]? := by
 rw[YA];rfl
theorem jmu(Z:List V):(V.agg Z).cells=Z:=rfl
theorem jt6(Q:Qry){e1 w1 r1 e2 w2 r2:V}(he:Q.expr.length<=100000)(hw:Q.wher.length<=100000)(hr:Q.ranges.length<=100000)(a1:RowU e1 Q.expr.length (jbR Q.expr))(a2:RowU w1 Q.wher.length (jbR Q.wher))(a3:RowU r1 Q.ranges.length (jeb Q.ranges))
  (b1:RowU e2 Q.expr.length (jbR Q.expr)) (b2:RowU w2 Q.wher.length (jbR Q.wher)) (b3:RowU r2 Q.ranges.length (jeb Q.ranges)) (O:S):jar env (ev env) 12 [.agg (qC Q e1 w1 r1),.agg (qC Q e2 w2 r2)] O=some (.bool true,O):=by
 have c1:=jcY a1 (jch _)
 have c2:=jcY a2 (jch _)
 have c3:=jcY a3 (jdP _)
 have d1:=jcY b1 (jch _)
 have d2:=jcY b2 (jch _)
 have d3:=jcY b3 (jdP _)
 have cl:([.agg (qC Q e1 w1 r1),.agg (qC Q e2 w2 r2)]:List V).all V.closed=true:=by
  simp only[Q0,Js,V.closed,qC,V.closed.closedL,c1,c2,c3,d1,d2,d3];rfl
 refine jau rfl rfl cl at12 rfl (by simp[Tryz.f12]) (by simp[Tryz.f12]) (jaq ?_) O
 have x1:=jwm Q.expr a1 b1 he
 have x2:=jwm Q.wher a2 b2 hw
 have x3:=jzz Q.ranges a3 b3 hr
 clear a1 a2 a3 b1 b2 b3 c1 c2 c3 d1 d2 d3 cl
 have m1:(qC Q e1 w1 r1).length=20:=rfl
 have m2:(qC Q e2 w2 r2).length=20:=rfl
 simp -implicitDefEqProofs (maxSteps:=4000000) only[Tryz.f12,Ka,simprocAttr,Uq,Ke,Ur,jab,jas,s29,jmu,fo29,al1,u26,x1,x2,x3,ldA,ldB,jBn,Jc,Vl,eq_self,not_true_eq_false,decide_false,decide_true,jad,jac]
 trace_state
 rfl
end Go.Proofs.YtpclebdkhpapjaaGreatDoor.Q
namespace Go.Proofs.YtpclebdkhpapjaaGreatDoor
open Go.Ab
open Go.Ab.PP
set_option maxHeartbeats 8000000
set_option maxRecDepth 100000
theorem jvE {l l':List T.Tok}(h:l'.map T.core=l.map T.core):Eqv (l.map T.tkOf) (l'.map T.tkOf):=by
 unfold Eqv
 rw[List.map_map,List.map_map]
 have e:(joX ∘ T.tkOf)=(λt:T.Tok=>(t.kind,t.text,t.n)) ∘ T.core:=by funext t;rfl
 rw[e,<- List.map_map,<- List.map_map,h]
theorem jrC {s:List UInt8}{q:Qry}(h:jeF s=.ok q):s.length<=2000/\∃l,T.Sc s 0 (-1) l/\T.toksD s=(l,none)/\l ≠ []/\jdD (l.map T.tkOf) (s.length:Nat) jfM mkF=.ok q:=by
 unfold jeF at h
 by_cases h2:2000<s.length
 ·rw[Kk h2]at h;cases h
 ·rw[Km h2]at h
  refine⟨by omega,?_⟩
  rcases hD:T.toksD s with⟨l,_|⟨x,i⟩⟩
  ·rw[hD]at h
   refine⟨l,T.toksD_sc.1 hD,rfl,?_,h⟩
   rintro rfl
   have:jdD (List.map T.tkOf []) (s.length:Nat) jfM mkF=.error (11,atP [] (s.length:Nat) 0):=rfl
   simp only[]at h
   rw[this]at h;cases h
  ·rw[hD]at h;cases h
theorem jlI {s s':List UInt8}{q:Qry}{l l':List T.Tok}(hs:T.toksD s=(l,none))(hp:jdD (l.map T.tkOf) (s.length:Nat) jfM mkF=.ok q)(hl:s'.length<=2000)(h':T.Sc s' 0 (-1) l')(hc:l'.map T.core=l.map T.core):jeF s'=.ok q:=by
 unfold jeF
 rw[Km (by omega),T.toksD_sc.2 h']
 exact js6 (jvE hc) jfM mkF hp
theorem jt7 {s:List UInt8}{q:Qry}(hs:s.length<=900)(h:jeF s=.ok q):∃l,T.toksD s=(l,none)/\T.Sc s 0 (-1) l/\l ≠ []/\l.length<=s.length/\(∀i,i<l.length->(l.getD i T.Tok.none).text.length<=s.length)/\jeF (T.joinT l l.length)=.ok q /\
  ∀k:Nat,(∃t∈l,t.pos=(k:Nat))->k<=s.length->jeF (T.insD s k)=.ok q:=by
 obtain⟨_,l,hS,hD,hne,hp⟩:=jrC h
 obtain⟨hl1,hl2,hl3⟩:=T.sc_text hS
 refine⟨l,hD,hS,hne,hl1,hl3,?_,λk hk hks => ?_⟩
 ·obtain⟨l',hS',hc⟩:=T.again l (T.sc_ok hS) l.length 0 (by omega)
  rw[Km (by simp),Qq]at *
  exact jlI hD hp (by omega) hS' hc
 ·obtain⟨l',hS',hc⟩:=T.blank2_lo s k hks 0 (-1) l hS (Qm _) hk (.inl rfl)
  exact jlI hD hp (by rw[T.insD_len s k hks];omega) hS' hc
end Go.Proofs.YtpclebdkhpapjaaGreatDoor
namespace Go.Proofs.YtpclebdkhpapjaaGreatDoor.Q
open Go.Ab
open Go.Ab.PP
set_option maxHeartbeats 8000000
set_option maxRecDepth 100000
theorem jzA {q:Qry}(h:Sq q):q.expr.length<=200/\q.wher.length<=200/\q.ranges.length<=64:=by
 obtain⟨h1,_,h3,_,h5⟩:=h
 refine⟨?_,?_,h5⟩
 ·rcases h1 with⟨_,h⟩|⟨_,h⟩
  ·exact h.2
  ·rw[h];simp
 ·rcases h3 with h|h
  ·rw[h];simp
  ·exact h.2
theorem jvF {Q:Qry}{e w r:V}(a1:RowU e Q.expr.length (jbR Q.expr))(a2:RowU w Q.wher.length (jbR Q.wher))(a3:RowU r Q.ranges.length (jeb Q.ranges)):(V.agg (qC Q e w r)).closed=true:=by
 simp only[V.closed,qC,V.closed.closedL,jcY a1 (jch _),jcY a2 (jch _),jcY a3 (jdP _)];rfl
theorem jkB {s:List UInt8}{Q:Qry}(hl:s.length<=2000)(h:jeF s=.ok Q){e w r:V}(a1:RowU e Q.expr.length (jbR Q.expr))(a2:RowU w Q.wher.length (jbR Q.wher))(a3:RowU r Q.ranges.length (jeb Q.ranges))(O:S) :
  jar env (ev env) 20 [.str s,.agg (qC Q e w r)] O=some (.bool true,O):=by
 have hst:=jn9 s hl
 obtain⟨v,hv,hc⟩:=jkA s (by omega)
 rw[h]at hv hst
 obtain⟨ev,wv,rv,hvv,b1,b2,b3⟩:=hv
 subst hvv
 obtain⟨n1,n2,n3⟩:=jzA hst.1
 have hp:=λO=>jt5 hc (Go.Ab.ev env) O
 have hs:=jt6 Q (by omega) (by omega) (by omega) b1 b2 b3 a1 a2 a3
 have zA:=isZ (Q:=Q) a1 a2 a3
 have zB:=isZ (Q:=Q) b1 b2 b3
 have cZ:=jvF a1 a2 a3
 generalize qC Q ev wv rv=B at *
 generalize qC Q e w r=A at *
 have m1:=zA.len
 have m2:=zA.all
 have m3:=zB.len
 have m4:=zB.all
 refine jau rfl rfl (by simp only[Q0,Js,cZ];rfl) at20 rfl (by simp[Tryz.f20]) (by simp[Tryz.f20]) (jaq ?_) O
 have l1:∀o o':AObj,jai [.cells A 29,o,o'] 20 (.ptr 0 0)=some A:=λo o'=>by
  simp only[jai,Qk,Qq]
  rw[Kk (by omega),Qi (by omega)]
 have l2:∀o o':AObj,jai [o,.cells B 29,o'] 20 (.ptr 1 0)=some B:=λo o'=>by
  simp only[jai,Qg,Qk,Qq]
  rw[Kk (by omega),Qi (by omega)]
 have l3:∀(o o':AObj) (a b:V),jai [o,o',.cells [a,b] 32] 2 (.ptr 2 0)=some [a,b]:=λ_ _ _ _=>rfl
 simp only[Tryz.f20,Ka,simprocAttr,Uq,Ke,Ur,jab,jas,hp,z32,zq29,s29,s32,jmu,jjm,jqJ,jmt,m1,m2,m3,m4,Jk,al29,al32,l1,l2,l3,jvw,eq32,hs]
 first|rfl|exact⟨rfl,rfl⟩
theorem at7:env.P.funcs[7]? = some Tryz.f7:=by kernel_rfl
theorem u43:env.P.underlying 43=some (.slice 47):=by kernel_rfl
theorem jBo:ja7 env 47 3=some 3:=by kernel_rfl
theorem sadd(a b:List UInt8)(ha:a.length<=3000)(hb:b.length<=3000)(us:Option TypeDesc)(c:Bool):jbY us c .add (.str a) (.str b)=some (.str (a++b)):=by
 rw[T.vBin_sadd,Kk (by simp only[lim];omega)]
theorem jzB {v:V}{l:List T.Tok}(h:T.IsT v l)(e:TypeId):jd5 (some (.slice e)) v=some (.int .i64 l.length):=by
 rcases h with⟨rfl,rfl⟩|rfl<;>rfl
theorem jBp(w:List UInt8)(k:Nat)(h:k<=w.length):jbA env 9 (.str w) none (some (.int .i64 (k:Int))) none=some (.str (T.subS w 0 k)):=by
 have u9:env.P.underlying 9=some .string:=by kernel_rfl
 simp[jbA,u9,jci,jbd,h,T.subS]
theorem jBq(w:List UInt8)(k:Nat)(h:k<=w.length):jbA env 9 (.str w) (some (.int .i64 (k:Int))) none none=some (.str (T.subS w k w.length)):=by
 have u9:env.P.underlying 9=some .string:=by kernel_rfl
 simp[jbA,u9,jci,jbd,h,T.subS]
theorem job(s:List UInt8)(x:Int):Go.Ab.Found env 7 [.str s,.int .i64 x]:=by
 refine joO at7 rfl (by simp[Tryz.f7]) (by simp[Tryz.f7]) (jaq ?_)
 have hk:=jrB
 by_cases h2:(900:Int)<(s.length:Int)
 ·have c1:=eq_true h2
  simp only[Tryz.f7,Ka,simprocAttr,Uq,Ke,Uu,hk,jaN,c1]
  rfl
 ·have c1:=eq_false h2
  obtain⟨v,hv,hc⟩:=jkA s (by omega)
  have hst:=jn9 s (by omega)
  have hp:=λO=>jt5 hc (ev env) O
  have hsp:=λO=>jnY (f:=19) rfl (T.splitD_call s (by omega)) (ev env) O
  have l0:∀(A:List V) (o o':AObj) (a b:V),jai [o,.cells [a,b] 32,o'] 2 (.ptr 1 0)=some [a,b]:=λ_ _ _ _ _=>rfl
  have l1:∀(o o':AObj) (a b:V),jai [o,.cells [a,b] 32,o'] 2 (.ptr 1 0)=some [a,b]:=λ_ _ _ _=>rfl
  have l2:∀(o o':AObj) (a b:V),jai [o,o',.cells [a,b] 32] 2 (.ptr 2 0)=some [a,b]:=λ_ _ _ _=>rfl
  cases hr:jeF s with
  | error e =>
   rw[hr]at hv hst
   obtain⟨e,a⟩:=e
   obtain⟨he,ha0,ha1⟩:=hst
   have hv:v=.tup [.agg zQ,.agg [.int .i64 e,.int .i64 a]]:=hv
   subst hv
   simp only at he ha0 ha1
   have c3:=eq_false he
   obtain⟨lv,p,q,hsv,hlv⟩:∃(lv:V) (p q:Int),T.splitD s=.tup [lv,.agg [.int .i64 p,.int .i64 q]]/\True:=by
    unfold T.splitD
    split
    ·exact⟨_,_,_,rfl,trivial⟩
    ·split
     ·exact⟨_,_,_,rfl,trivial⟩
     ·exact⟨_,_,_,rfl,trivial⟩
   rw[hsv]at hsp
   simp only[Tryz.f7,Ka,simprocAttr,Uq,Ke,Ur,jab,jas,hk,jaN,c1,hp,hsp,z32,zq29,s29,s32,jjm,jqJ,jwk,jmt,Jk,al29,al32,al1,fo29,l1,l2,bdq,jvw,ne32,false_and,decide_false,Vl,Jc,c3]
   exact⟨rfl,rfl,rfl⟩
  | ok Q =>
   rw[hr]at hv hst
   obtain⟨ev,wv,rv,hvv,r1,r2,r3⟩:=hv
   subst hvv
   obtain⟨l,hD,hS,hne,hll,htx,hJ,hB⟩:=jt7 (by omega) hr
   have hR:=(T.toksD_rg s).1
   rw[hD]at hR
   simp only at hR
   have hsv:T.splitD s=.tup [T.toksV l,.agg [.int .i64 0,.int .i64 0]]:=by
    unfold T.splitD
    rw[Km (by omega),hD]
   rw[hsv]at hsp
   have hlp:0<l.length:=by cases l with|nil=>exact absurd rfl hne|cons a r=>simp
   have lenT:=jzB (T.toksV_is l)
   obtain⟨k,hk1,hpk⟩:=T.pick_call x l.length (by omega) (by omega)
   have hpk2:=λO=>jnY (f:=8) rfl hpk (Go.Ab.ev env) O
   have hjn:=λO=>jnY (f:=21) rfl (T.join_call (T.toksV l) l (T.toksV_is l) (by omega) (λi hi=>by have:=htx i hi;omega)) (Go.Ab.ev env) O
   have hix:=T.idx_T (T.toksV_is l) hk1
   have hmem:l.getD k T.Tok.none∈l:=by simp[List.getD,hk1]
   obtain⟨hp0,hp1,_⟩:=hR _ hmem
   obtain⟨kk,hkk⟩:∃kk:Nat,(l.getD k T.Tok.none).pos=kk:=⟨(l.getD k T.Tok.none).pos.toNat,by omega⟩
   rw[hkk]at hp0 hp1
   have hks:kk<=s.length:=by omega
   have hI:=hB kk ⟨_,hmem,hkk⟩ hks
   have pj:=λO=>jkB (by have:=(T.sc_text hS).2.1;omega) hJ r1 r2 r3 O
   have hil:=T.insD_len s kk hks
   have pi:=λO=>jkB (by omega) hI r1 r2 r3 O
   have c2:(((l.length:Nat):Int)=0)=False:=eq_false (by omega)
   have c3:(((kk:Nat):Int)<0)=False:=eq_false (by omega)
   have c4:((s.length:Int)<(kk:Int))=False:=eq_false (by omega)
   have sh:=jBp s kk hks
   have so:=jBq s kk hks
   have hsl:=T.subS_len s 0 kk hks
   have hsl2:=T.subS_len s kk s.length (Kx _)
   have a1:=sadd (T.subS s 0 kk) [32,32] (by omega) (by simp)
   have a2:=sadd (T.subS s 0 kk++[32,32]) (T.subS s kk s.length) (by simp;omega) (by omega)
   have a3:=sadd (T.subS s 0 kk++[32,32]++T.subS s kk s.length) [32] (by simp;omega) (by simp)
   have hid:T.subS s 0 kk++[32,32]++T.subS s kk s.length++[32]=T.insD s kk:=rfl
   rw[hid]at a3
   generalize T.insD s kk=W at *
   have ldp:∀(H:List AObj) (r:List V),(jai H 1 (.rptr (.int .i64 kk::r))).bind (·[0]?)=some (.int .i64 kk):=λH r=>by simp[jai]
   rw[hkk]at hix
   have zA:=isZ (Q:=Q) r1 r2 r3
   generalize qC Q ev wv rv=A at *
   have m1:=zA.len
   have m2:=zA.all
   have l3:∀o o':AObj,jai [.cells A 29,o,o'] 20 (.ptr 0 0)=some A:=λo o'=>by
    simp only[jai,Qk,Qq]
    rw[Kk (by omega),Qi (by omega)]
   simp only[Tryz.f7,Ka,simprocAttr,Uq,Ke,Ur,jab,jas,hk,jaN,c1,hp,hsp,z32,zq29,s29,s32,jjm,jmu,jqJ,m1,m2,jmt,Jk,al29,al32,al1,fo29,l1,l2,bdq,jvw,ne32,and_self,decide_true,decide_false,Vl,Jc,lenT,c2,hpk2,hix,jBo,ldp,c3,c4,hjn,pj,pi,ja9,jba,jbg,sh,so,a1,a2,a3,l3]
   exact⟨rfl,rfl,by kernel_rfl,rfl⟩
theorem env_gl {W:World}{l:List (String × DataW Unit)}(h:laidMetH Tryz.prog l W)(hp:(l.all λx=>x.2.handleName?.isNone)=true)(m0:("privhouse/schema.reserved",Rows.laid_privhouse_schema_reserved)∈l)
  (m3:("internal/strconv.uint64pow10",Rows.laid_internal_strconv_uint64pow10)∈l) (m1:("strconv.ErrSyntax",Rows.laid_strconv_ErrSyntax)∈l) (m2:("strconv.ErrRange",Rows.laid_strconv_ErrRange)∈l):GOK env (Ctx.top W):=gl_ok rfl rfl h hp m0 m3 m1 m2
theorem blanks_foundt {u w:V}(h:Tyd Tryz.prog 4 9 [u])(h2:Tyd Tryz.prog 4 3 [w]):Go.Ab.Found env 7 [u,w]:=by
 obtain⟨s,e,_⟩:=jwx h (by kernel_rfl)
 obtain⟨m,e2,_⟩:=jww h2 tys.1
 simp only[Jw,and_true]at e e2
 subst e e2
 exact job s m
end Go.Proofs.YtpclebdkhpapjaaGreatDoor.Q
