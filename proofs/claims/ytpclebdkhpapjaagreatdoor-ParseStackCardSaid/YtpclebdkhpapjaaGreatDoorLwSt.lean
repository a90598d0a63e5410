/- Proved here: the law. Conditions: those of each theorem; no statement of the seat is proved in this text. -/
import Derived.Test.YtpclebdkhpapjaaGreatDoorPqB
set_option linter.unusedSimpArgs false
set_option linter.unusedVariables false
set_option linter.unusedSectionVars false
namespace Go.Proofs.YtpclebdkhpapjaaGreatDoor
open Go.Ab
open Go.Ab.PP
set_option maxHeartbeats 8000000
set_option maxRecDepth 100000
theorem js8:env.P.eqGuardType env.P.depth 32=false:=by kernel_rfl
theorem js9 (k k' n n':Int):eqT env 8 32 (.agg [.int .i64 k,.int .i64 n]) (.agg [.int .i64 k',.int .i64 n']) =
  (some (k == k')).bind fun r=>if r then (some (n == n')).bind fun r=>if r then some true else some false else some false:=by kernel_rfl
theorem jpP (u:Option TypeDesc)(c:Bool)(op:BinOp)(a b:List V):jbZ u c op (.agg a) (.agg b)=none:=by
 cases op <;> cases u <;> first | rfl | (rename_i u; cases u <;> rfl)
theorem jic (t:TypeId)(c:Bool)(op:BinOp)(a b:List V):binO env t c op (some (.agg a)) (some (.agg b))=jfx env t op (.agg a) (.agg b):=by
 have:binO env t c op (some (.agg a)) (some (.agg b))=jdv env t c op (.agg a) (.agg b):=rfl
 rw [this]
 unfold jdv
 rw [jpP]
theorem eq32 (c:Bool)(k n k' n':Int):binO env 32 c .eql (some (.agg [.int .i64 k,.int .i64 n])) (some (.agg [.int .i64 k',.int .i64 n']))=some (.bool (decide (k=k'∧n=n'))):=by
 rw [jic]
 simp only [jfx,js8,js9]
 by_cases h1:k=k' <;> by_cases h2:n=n' <;> simp [h1,h2]
theorem ne32 (c:Bool)(k n k' n':Int):binO env 32 c .neq (some (.agg [.int .i64 k,.int .i64 n])) (some (.agg [.int .i64 k',.int .i64 n']))=some (.bool (!decide (k=k'∧n=n'))):=by
 rw [jic]
 simp only [jfx,js8,js9]
 by_cases h1:k=k' <;> by_cases h2:n=n' <;> simp [h1,h2]
theorem bd32 (k n:Int):jb9 env 32 [(0,.int .i64 k),(1,.int .i64 n)]=some (.agg [.int .i64 k,.int .i64 n]):=by
 have h:jb9 env 32 [(0,.int .i64 k),(1,.int .i64 n)]=some (.agg [.int .i64 k,.int .i64 n]):=by kernel_rfl
 exact h
theorem jkk:jb9 env 32 []=some (.agg [.int .i64 0,.int .i64 0]):=by kernel_rfl
theorem z29:jbE env 29=some (.agg (qC Qry.zero .nilsl .nilsl .nilsl)):=by kernel_rfl
theorem z32:jbE env 32=some (.agg [.int .i64 0,.int .i64 0]):=by kernel_rfl
namespace T
theorem jwx (d:List UInt8):0≤(jfB d).1.n∧(jfB d).1.n≤1000000000:=by
 unfold jfB
 split
 ·simp
 ·split
  ·split
   ·simp [Tok.zero]
   ·split
    ·simp [Tok.zero]
    ·simp only; omega
  ·split
   ·split
    ·simp
    ·simp [Tok.zero]
   ·split
    ·simp
    ·split
     ·simp
     ·simp [Tok.zero]
theorem jqQ (d:List UInt8):∀ b∈(jfB d).1.text,b∈d:=by
 have h1:∀ n,∀ b∈d.take n,b∈d:=fun n b h=>Vp h
 have h2:∀ n,∀ b∈(d.drop 1).take n,b∈d:=fun n b h=>Xo (Vp h)
 have h3:∀ b∈Tok.zero.text,b∈d:=fun b h=>by simp [Tok.zero] at h
 unfold jfB
 split
 ·exact h1 _
 ·split
  ·split
   ·exact h3
   ·split
    ·exact h3
    ·exact h1 _
  ·split
   ·split
    ·exact h2 _
    ·exact h3
   ·split
    ·exact h1 _
    ·split
     ·exact h1 _
     ·exact h3
theorem jnv:∀ (m:Nat) (d:List UInt8) (i:Nat) (last:Int),(jfY m d i last).1.length≤m∧∀ t∈(jfY m d i last).1,(0≤t.n∧t.n≤1000000000)∧∀ b∈t.text,b∈d
 | 0,d,i,last=>by simp [jfY]
 | m+1,d,i,last=>by
  unfold jfY
  split
  ·simp
  ·rename_i b0 r0
   have k1:=jwx (b0::r0)
   have k2:=jqQ (b0::r0)
   generalize hn:jfB (b0::r0)=r at *
   obtain ⟨t,e,x⟩:=r
   simp only at k1 k2 ⊢
   split
   ·split
    ·simp
    ·have ih:=jnv m (((b0::r0).drop e).drop (jbS [1] ((b0::r0).drop e))) (i+e+jbS [1] ((b0::r0).drop e)) (if t.kind ≠ 5 then ((i+e:Nat):Int) else -1)
     generalize jfY m _ _ _=q at *
     obtain ⟨l,r⟩:=q
     simp only at ih ⊢
     refine ⟨by simp only [K1]; omega,?_⟩
     intro u hu
     rcases Q8.1 hu with rfl | hu
     ·exact ⟨k1,k2⟩
     ·exact ⟨(ih.2 u hu).1,fun b hb=>Xo (Xo ((ih.2 u hu).2 b hb))⟩
   ·simp
theorem toksD_all (s:List UInt8):(toksD s).1.length≤s.length+1∧∀ t∈(toksD s).1,(0≤t.n∧t.n≤1000000000)∧∀ b∈t.text,b∈s:=by
 have h:=jnv (s.length+1) (s.drop (jbS [1] s)) (jbS [1] s) (-1)
 exact ⟨h.1,fun t ht=>⟨(h.2 t ht).1,fun b hb=>Xo ((h.2 t ht).2 b hb)⟩⟩
end T
theorem jvo:∀ l:List T.Tok,T.flatT l=jkh (l.map T.tkOf)
 | []=>rfl
 | t::l=>by
  have:=jvo l
  have e:jkh ((t::l).map T.tkOf)=jak (T.tkOf t)++jkh (l.map T.tkOf):=rfl
  rw [e,← this]
  rfl
theorem jyn (l:List T.Tok):IsK (T.toksV l) (l.map T.tkOf):=by
 unfold T.toksV
 by_cases h:l=[]
 ·subst h; exact .inl ⟨rfl,rfl⟩
 ·rw [Kn h,jvo]
  exact .inr ⟨.unk,by rw [J3]⟩
theorem jwy (s:List UInt8):jd6 ((T.toksD s).1.map T.tkOf):=by
 intro t ht
 obtain ⟨u,hu,rfl⟩:=J7.1 ht
 exact ((T.toksD_all s).2 u hu).1
open Classical in
noncomputable def jgV (n:Int):List UInt8:=if h:∃ s:List UInt8,∀ σ,jas env (ev env) 65 [.int .i64 n] σ=some (.str s,σ) then Classical.choose h else []
theorem jta:ItOK jgV:=by
 intro n h0 h1
 have he:∃ s:List UInt8,∀ σ,jas env (ev env) 65 [.int .i64 n] σ=some (.str s,σ):=by
  obtain ⟨s,hs,_⟩:=I.itoa_call n ⟨by omega,by omega⟩
  exact ⟨s,fun σ=>jsV hs _ σ⟩
 unfold jgV
 rw [dif_pos he]
 exact Vm he
theorem jtb (s:List UInt8)(hs:s.length≤4000)(σ:S):jas env (ev env) 19 [.str s] σ=some (T.splitD s,σ):=jvh rfl (T.splitD_call s hs) _ σ
namespace T
theorem jgm (cs:List Int):∀ d:List UInt8,jbS cs d≤d.length
 | []=>Ky _
 | c::r=>by
  unfold jbS
  have:=jgm cs r
  split
  ·simp only [K1]; omega
  ·omega
theorem jtc {cs:List Int}{c:UInt8}{r:List UInt8}(h:clsN c.toNat∈cs):0<jbS cs (c::r):=by
 unfold jbS
 rw [Km h]; omega
theorem juF (c:UInt8)(r:List UInt8):(jfB (c::r)).2.1≤(c::r).length∧((jfB (c::r)).1.kind=1→(jfB (c::r)).1.text ≠ []):=by
 have h1:=jgm [2,3,4] (c::r)
 have h2:=jgm [3] (c::r)
 have h3:=jgm [2,3,4] ((c::r).drop 1)
 have hd:((c::r).drop 1).length+1=(c::r).length:=by simp
 unfold jfB
 split
 ·rename_i hc
  refine ⟨h1,fun _ h => ?_⟩
  have hp:0<jbS [2,3,4] (c::r):=jtc (by
   have:clsN c.toNat=2:=hc
   rw [this]; decide)
  have:=congrArg List.length h
  simp only [K7,K5] at this
  omega
 ·split
  ·split
   ·exact ⟨h2,fun h=>absurd (show (_:Int)=1 from h) (by simp [Tok.zero])⟩
   ·split
    ·exact ⟨h2,fun h=>absurd (show (_:Int)=1 from h) (by simp [Tok.zero])⟩
    ·exact ⟨h2,fun h=>absurd (show (_:Int)=1 from h) (by simp [Tok.zero])⟩
  ·split
   ·split
    ·rename_i h
     exact ⟨by simp only; omega,fun h=>absurd (show (_:Int)=1 from h) (by simp [Tok.zero])⟩
    ·exact ⟨by simp only; omega,fun h=>absurd (show (_:Int)=1 from h) (by simp [Tok.zero])⟩
   ·split
    ·exact ⟨by simp only [K7]; omega,fun h=>absurd (show (_:Int)=1 from h) (by simp [Tok.zero])⟩
    ·split
     ·exact ⟨by simp only [K7]; omega,fun h=>absurd (show (_:Int)=1 from h) (by simp [Tok.zero])⟩
     ·exact ⟨by simp,fun h=>absurd (show (_:Int)=1 from h) (by simp [Tok.zero])⟩
theorem jp2:∀ (m:Nat) (d:List UInt8) (i:Nat) (last:Int),(∀ t∈(jfY m d i last).1,0≤t.pos∧t.pos≤((i+d.length:Nat):Int)∧(t.kind=1→t.text ≠ []))∧∀ x k,(jfY m d i last).2=some (x,k)→x ≠ 0∧k≤i+d.length
 | 0,d,i,last=>by simp [jfY]
 | m+1,d,i,last=>by
  unfold jfY
  split
  ·simp
  ·rename_i b0 r0
   have k1:=juF b0 r0
   generalize hn:jfB (b0::r0)=r at *
   obtain ⟨t,e,x⟩:=r
   simp only at k1 ⊢
   split
   ·split
    ·refine ⟨by simp,fun x k h => ?_⟩
     simp only [Kg,Kh] at h
     obtain ⟨rfl,rfl⟩:=h
     exact ⟨by decide,by omega⟩
    ·have ih:=jp2 m (((b0::r0).drop e).drop (jbS [1] ((b0::r0).drop e))) (i+e+jbS [1] ((b0::r0).drop e)) (if t.kind ≠ 5 then ((i+e:Nat):Int) else -1)
     have hsp:=jgm [1] ((b0::r0).drop e)
     have hl:(((b0::r0).drop e).drop (jbS [1] ((b0::r0).drop e))).length=(b0::r0).length - e - jbS [1] ((b0::r0).drop e):=by rw [Qm,Qm]
     rw [Qm] at hsp
     rw [hl] at ih
     have e1:i+e+jbS [1] ((b0::r0).drop e)+((b0::r0).length - e - jbS [1] ((b0::r0).drop e))=i+(b0::r0).length:=by omega
     rw [e1] at ih
     generalize jfY m _ _ _=q at *
     obtain ⟨l,r⟩:=q
     simp only at ih ⊢
     refine ⟨?_,ih.2⟩
     intro u hu
     rcases Q8.1 hu with rfl | hu
     ·refine ⟨?_,?_,k1.2⟩
      ·show (0:Int)≤((i:Nat):Int); omega
      ·show ((i:Nat):Int)≤_; omega
     ·exact ih.1 u hu
   ·refine ⟨by simp,fun x k h => ?_⟩
    simp only [Kg,Kh] at h
    obtain ⟨rfl,rfl⟩:=h
    exact ⟨by assumption,by omega⟩
theorem toksD_rg (s:List UInt8):(∀ t∈(toksD s).1,0≤t.pos∧t.pos≤s.length∧(t.kind=1→t.text ≠ []))∧∀ x k,(toksD s).2=some (x,k)→x ≠ 0∧k≤s.length:=by
 have h:=jp2 (s.length+1) (s.drop (jbS [1] s)) (jbS [1] s) (-1)
 have e:jbS [1] s+(s.drop (jbS [1] s)).length=s.length:=by
  have:=jgm [1] s
  rw [Qm]; omega
 rw [e] at h
 exact h
end T
open Classical in
noncomputable def mkF (n d:Int):List UInt8:=if h:∃ (s:List UInt8) (e:Int),∀ σ,jas env (ev env) 67 [.str (jgV n),.str (jgV d)] σ=some (.tup [.str s,.int .i64 e],σ) then Classical.choose h else []
theorem jtd (n:Nat)(hn:n≤1000000000):I.DgsOf n (jgV n):=by
 obtain ⟨s,hs,hd⟩:=I.itoa_dgs n (by omega)
 have h1:=jta n (by omega) (by omega) S.empty
 rw [jsV hs] at h1
 simp only [Kg,Kh,V.str.injEq,and_true] at h1
 rw [← h1]; exact hd
theorem juG:jgV (1000000000:Nat)=A.mil:=by
 have h0:∀ σ,jas I.env (ev I.env) 65 [.int .i64 1000000000] σ=some (.str A.mil,σ):=jd8 rfl rfl rfl (k:=20) (by rw [← jfQ]; kernel_rfl)
 have h1:=jta 1000000000 (by decide) (by decide) S.empty
 rw [jsV h0] at h1
 simp only [Kg,Kh,V.str.injEq,and_true] at h1
 exact h1.symm
theorem jyo (n d:Nat)(hn:n≤1000000000)(hd:d≤1000000000)(h1:1≤d):∃ (s:List UInt8) (e:Int),∀ σ,jas env (ev env) 67 [.str (jgV n),.str (jgV d)] σ=some (.tup [.str s,.int .i64 e],σ):=by
 have hf:env.hook 67=some jsU:=rfl
 have hn1:=jtd n hn
 have hd1:=jtd d hd
 by_cases hm:jgV n=A.mil∧jgV d=A.mil
 ·refine ⟨[49],0,fun σ => ?_⟩
  unfold jas
  rw [hf]
  simp only [jsU,hm,and_self,Ks,Kw]
 ·have hnd:¬ (n=1000000000∧d=1000000000):=by
   rintro ⟨rfl,rfl⟩
   have e:jgV (1000000000:Nat)=A.mil:=juG
   exact hm ⟨e,e⟩
  obtain ⟨_,⟨s,e,rfl⟩,hc⟩:=R.ratmake_call hn1 hd1 hn hd h1 hnd
  refine ⟨s,e,fun σ => ?_⟩
  unfold jas
  rw [hf]
  simp only [jsU,Kn hm,jfo hc,Kw]
theorem mk_F (l:List Tk)(en:Int):MkOK l en jgV mkF mkF:=by
 intro j n d k _ _ hd0 hn0 hn1 hdn hd1
 obtain ⟨n,rfl⟩:∃ a:Nat,n=a:=⟨n.toNat,by omega⟩
 obtain ⟨d,rfl⟩:∃ a:Nat,d=a:=⟨d.toNat,by omega⟩
 have h:=jyo n d (by omega) (by omega) (by omega)
 have hs:(mkF n d)=Classical.choose h:=by unfold mkF; rw [dif_pos h]
 rw [hs]
 exact Vm h
noncomputable def jj5 (s:List UInt8):Except Fl Qry :=
 if 2000<s.length then .error (4,2000) else
 match T.toksD s with
 | (l,none)=>je0 (l.map T.tkOf) (s.length:Nat) jgV mkF
 | (_,some (x,i))=>.error (x,i)
theorem jnw (s:List UInt8)(hs:s.length≤4000):∃ v,PV (jj5 s) v∧∀ σ,jas env (ev env) 10 [.str s] σ=some (v,σ):=by
 have hA:=T.toksD_all s
 have hS:=jwy s
 have hE:=T.toksD_rg s
 have hsp:=jtb s hs
 unfold T.splitD at hsp
 unfold jj5
 by_cases h2:2000<s.length
 ·rw [Km h2]
  rw [Km h2] at hsp
  exact jnu s 4 2000 (by decide) _ rfl hsp
 ·rw [Kn h2]
  rw [Kn h2] at hsp
  generalize T.toksD s=r at *
  obtain ⟨l,_ | ⟨x,i⟩⟩:=r
  ·exact juE (lv:=T.toksV l) (me:=mkF) (jyn l) (by rw [J3]; have:=hA.1; simp only at this; omega) hS jta s (mk_F _ _) hsp
  ·exact jnu s x i (hE.2 x i rfl).1 _ rfl hsp
theorem jte (s:List UInt8)(hs:s.length≤2000):match jj5 s with
  | .ok q=>Sq q∧0<q.bits
  | .error e=>Bad (s.length:Nat) e:=by
 have hE:=T.toksD_rg s
 have hA:=T.toksD_all s
 unfold jj5
 rw [Kn (by omega)]
 generalize T.toksD s=r at *
 obtain ⟨l,_ | ⟨x,i⟩⟩:=r
 ·refine jtG ⟨by omega,?_,?_,?_⟩ jgV mkF
  ·intro t ht
   obtain ⟨u,hu,rfl⟩:=J7.1 ht
   have:=hE.1 u hu
   exact ⟨this.1,this.2.1⟩
  ·intro t ht hk
   obtain ⟨u,hu,rfl⟩:=J7.1 ht
   exact (hE.1 u hu).2.2 hk
  ·intro t ht hk
   obtain ⟨u,hu,rfl⟩:=J7.1 ht
   exact (hA.2 u hu).1.1
 ·obtain ⟨h1,h2⟩:=hE.2 x i rfl
  exact ⟨h1,by simp,by simp; omega⟩
set_option maxRecDepth 1000000
theorem at40:env.P.funcs[40]? = some Tryz.f40:=by kernel_rfl
def zQ:List V:=qC Qry.zero .nilsl .nilsl .nilsl
theorem jgz:zQ.length=20:=rfl
theorem jvp:zQ.all V.isCell=true:=rfl
theorem jeK:zQ.drop 20=[]:=rfl
theorem jp3:(V.agg zQ).cells=zQ:=rfl
theorem zq29:jbE env 29=some (.agg zQ):=z29
theorem bdq:jb9 env 29 []=some (.agg zQ):=by kernel_rfl
theorem ldq (o:AObj):jai [.cells zQ 29,o] 20 (.ptr 0 0)=some zQ:=rfl
theorem ld32 (o:AObj)(a b:V):jai [o,.cells [a,b] 32] 2 (.ptr 1 0)=some [a,b]:=rfl
theorem jj6 (σ:S):jas env (ev env) 12 [.agg zQ,.agg zQ] σ=some (.bool true,σ):=jd8 rfl rfl rfl (k:=20) (by rw [← jfQ]; kernel_rfl) σ
def brk:List UInt8:=(T.asc "count from t where ")++List.replicate 51 91
noncomputable def jvq (s:List UInt8)(e:Fl)(itoa:Int→List UInt8)(mk:Int→Int→List UInt8):Bool :=
 match T.toksD s with
 | (l,none)=>(match je0 (l.map T.tkOf) (s.length:Nat) itoa mk with | .ok _=>false | .error x=>x.1 == e.1 && x.2 == e.2)
 | (_,some (x,i))=>x == e.1 && (i:Int) == e.2
theorem jyp (itoa:Int→List UInt8)(mk:Int→Int→List UInt8):jvq brk (4,69) itoa mk=true:=by kernel_rfl
theorem jz7:jj5 brk=.error (4,69):=by
 have h:=jyp jgV mkF
 unfold jvq at h
 unfold jj5
 rw [Kn (by decide +kernel)]
 generalize T.toksD brk=r at *
 obtain ⟨l,_ | ⟨x,i⟩⟩:=r
 ·simp only at h ⊢
  generalize je0 _ _ _ _=q at *
  match q,h with
  | .error x,h =>
   simp only [K6,beq_iff_eq] at h
   obtain ⟨a,b⟩:=x
   simp only at h
   rw [h.1,h.2]
 ·simp only [K6,beq_iff_eq] at h
  simp only [h.1,h.2]
theorem juH (σ:S):jas env (ev env) 40 [.str brk,.int .i64 4,.int .i64 69] σ=some (.bool true,σ):=by
 obtain ⟨v,hv,hc⟩:=jnw brk (by decide +kernel)
 rw [jz7] at hv
 have hv:v=.tup [.agg zQ,.agg [.int .i64 4,.int .i64 69]]:=hv
 subst hv
 refine jav rfl rfl rfl at40 rfl (by simp [Tryz.f40]) (by simp [Tryz.f40]) (jar ?_) σ
 simp only [Tryz.f40,Ka,simprocAttr,Ys,Y0,Ke,Vq,Va,jab,jaq,hc,zq29,z32,s29,s32,jp3,jgz,jvp,jeK,Qx,al29,al32,ldq,ld32,bdq,bd32,jj6,eq32]
 exact ⟨rfl,rfl⟩
theorem jwz:jeW A.env 40 [.str brk,.int .i64 4,.int .i64 69] (.bool true):=fun Γ σ w xs hw hg hx=>jcH env_ok (fun t r h=>jf8 env_ok h) (juH σ) hw hg hx
namespace A
def k4:RTab:=[(40,[.str brk,.int .i64 4,.int .i64 69],.bool true)]
def kAll:RTab:=k1++(k2++(k3++k4))
theorem jwA:∀ p∈kAll,jeW env p.1 p.2.1 p.2.2:=fun p hp=>by
 unfold kAll at hp
 rcases Uf.1 hp with h | h
 ·exact jxR p h
 rcases Uf.1 h with h | h
 ·exact jzI p h
 rcases Uf.1 h with h | h
 ·exact jzJ p h
 ·obtain rfl:=Xx.1 h
  exact jwz
theorem known_row:jeW env 15 [] (.bool true):=jeW.untab (T:=kAll) (jeX (env_ok.tab jwA) rfl (k:=80) (by kernel_rfl))
end A
end Go.Proofs.YtpclebdkhpapjaaGreatDoor
namespace Go.Proofs.YtpclebdkhpapjaaGreatDoor.Q
open Go.Ab
set_option maxHeartbeats 8000000
set_option maxRecDepth 100000
def jjK:List Nat:=[12,16,17,18,20,34,35,41]
def jwj:List Nat:=[8,14,19,21]
noncomputable def jyq (f:FuncId):Option (List V→Option V):=match memN f jwj with | true=>some (jfZ T.env f) | false=>match Nat.beq f 10 with | true=>some (jfZ YtpclebdkhpapjaaGreatDoor.env 10) | false=>match Nat.beq f 15 with | true=>some jup | false=>none
noncomputable def env:Env:={ P:=Tryz.prog,pure:=fun f=>memN f jjK,mutb:=fun f _=>false,gl:=glV,hook:=jyq }
theorem env_ok:env.Ok :=
  { mixed:=by kernel_rfl
    glc:=jkZ
    hook := fun f g h=>by
      simp only [env,jyq] at h
      split at h
      · simp only [Kg] at h
        subst h
        intro args v hv Γ σ w xs hw hg hx
        exact jfp T.env_ok hv hw hg hx
      · split at h
        · rename_i hf
          have e:=Qw hf
          subst e
          simp only [Kg] at h
          subst h
          intro args v hv Γ σ w xs hw hg hx
          exact jfp YtpclebdkhpapjaaGreatDoor.env_ok hv hw hg hx
        split at h
        · rename_i hf
          have e:=Qw hf
          subst e
          simp only [Kg] at h
          subst h
          intro args v hv Γ σ w xs hw hg hx
          unfold jup at hv
          split at hv
          · simp only [Kg] at hv
            subst hv
            exact A.known_row Γ σ w xs hw hg hx
          · simp at hv
        · simp at h }
theorem jwB {args:List V}{v:V}(h:∀ σ,jas YtpclebdkhpapjaaGreatDoor.env (ev YtpclebdkhpapjaaGreatDoor.env) 10 args σ=some (v,σ))(rec:Task→Option Res)(σ:S):jas env rec 10 args σ=some (v,σ):=by
 have hf:env.hook 10=some (jfZ YtpclebdkhpapjaaGreatDoor.env 10):=rfl
 unfold jas
 rw [hf]
 simp only [jfo h,Kw]
theorem jvh {f:FuncId}{args:List V}{v:V}(hf:env.hook f=some (jfZ T.env f))(h:∀ σ,jas T.env (ev T.env) f args σ=some (v,σ))(rec:Task→Option Res)(σ:S):jas env rec f args σ=some (v,σ):=by
 unfold jas
 rw [hf]
 simp only [jfo h,Kw]
theorem jqR (σ:S):jas env (ev env) 15 [] σ=some (.bool true,σ):=rfl
open Go.Ab.PP
theorem tys:env.P.underlying 3=some (.int .i64)∧env.P.underlying 4=some .bool∧env.P.underlying 9=some .string∧env.P.underlying 25=some (.slice 71)∧env.P.underlying 26=some (.slice 73)∧env.P.underlying 27=some .string∧env.P.underlying 30=some (.int .i64)∧env.P.underlying 43=some (.slice 47) ∧
  sz env 3=some 1∧sz env 4=some 1∧sz env 9=some 1∧sz env 25=some 1∧sz env 26=some 1∧sz env 27=some 1∧sz env 30=some 1∧sz env 43=some 1∧sz env 71=some 3∧sz env 73=some 2∧sz env 47=some 4∧sz env 29=some 20∧sz env 32=some 2 :=
 ⟨by kernel_rfl,by kernel_rfl,by kernel_rfl,by kernel_rfl,by kernel_rfl,by kernel_rfl,by kernel_rfl,by kernel_rfl,by kernel_rfl,by kernel_rfl,by kernel_rfl,by kernel_rfl,by kernel_rfl,by kernel_rfl,by kernel_rfl,by kernel_rfl,by kernel_rfl,by kernel_rfl,by kernel_rfl,by kernel_rfl,by kernel_rfl⟩
theorem mb (f:FuncId)(r:Nat):env.mutb f r=false:=rfl
theorem stb (f:FuncId)(r:Nat):env.stab f r=false:=rfl
theorem Ke:type_of% (Kf @mb (Kf @stb @tys)):=Kf @mb (Kf @stb @tys)
theorem s71:sz env 71=some 3:=by kernel_rfl
theorem s29:sz env 29=some 20:=by kernel_rfl
theorem s32:sz env 32=some 2:=by kernel_rfl
theorem al1:(∀ h p,jbj env h 3 p=(jai h 1 p).bind (·[0]?))∧(∀ h p,jbj env h 4 p=(jai h 1 p).bind (·[0]?))∧(∀ h p,jbj env h 9 p=(jai h 1 p).bind (·[0]?))∧(∀ h p,jbj env h 25 p=(jai h 1 p).bind (·[0]?))∧(∀ h p,jbj env h 26 p=(jai h 1 p).bind (·[0]?))∧(∀ h p,jbj env h 27 p=(jai h 1 p).bind (·[0]?))∧(∀ h p,jbj env h 30 p=(jai h 1 p).bind (·[0]?)) :=
 ⟨fun _ _=>jaX (by kernel_rfl),fun _ _=>jaX (by kernel_rfl),fun _ _=>jaX (by kernel_rfl),fun _ _=>jaX (by kernel_rfl),fun _ _=>jaX (by kernel_rfl),fun _ _=>jaX (by kernel_rfl),fun _ _=>jaX (by kernel_rfl)⟩
theorem al29 (h:List AObj)(p:V):jbj env h 29 p=(jai h 20 p).map .agg:=by
 have g:Go.Ab.aggT env 29=some true:=by kernel_rfl
 unfold jbj
 simp only [g,s29,Kk]
theorem al32 (h:List AObj)(p:V):jbj env h 32 p=(jai h 2 p).map .agg:=by
 have g:Go.Ab.aggT env 32=some true:=by kernel_rfl
 unfold jbj
 simp only [g,s32,Kk]
theorem fo29:ja4 env 29 0=some 0∧ja4 env 29 1=some 1∧ja4 env 29 2=some 2∧ja4 env 29 3=some 3∧ja4 env 29 4=some 4∧ja4 env 29 5=some 5∧ja4 env 29 6=some 6∧ja4 env 29 7=some 7∧ja4 env 29 8=some 8∧ja4 env 29 9=some 9∧ja4 env 29 10=some 10∧ja4 env 29 11=some 11∧ja4 env 29 12=some 12∧ja4 env 29 13=some 13∧ja4 env 29 14=some 14∧ja4 env 29 15=some 15∧ja4 env 29 16=some 16∧ja4 env 29 17=some 17∧ja4 env 29 18=some 18∧ja4 env 29 19=some 19∧ja4 env 32 0=some 0∧ja4 env 32 1=some 1∧ja4 env 71 0=some 0 :=
 ⟨by kernel_rfl,by kernel_rfl,by kernel_rfl,by kernel_rfl,by kernel_rfl,by kernel_rfl,by kernel_rfl,by kernel_rfl,by kernel_rfl,by kernel_rfl,by kernel_rfl,by kernel_rfl,by kernel_rfl,by kernel_rfl,by kernel_rfl,by kernel_rfl,by kernel_rfl,by kernel_rfl,by kernel_rfl,by kernel_rfl,by kernel_rfl,by kernel_rfl,by kernel_rfl⟩
theorem js8:env.P.eqGuardType env.P.depth 32=false:=by kernel_rfl
theorem js9 (k k' n n':Int):eqT env 8 32 (.agg [.int .i64 k,.int .i64 n]) (.agg [.int .i64 k',.int .i64 n']) =
  (some (k == k')).bind fun r=>if r then (some (n == n')).bind fun r=>if r then some true else some false else some false:=by kernel_rfl
theorem jic (t:TypeId)(c:Bool)(op:BinOp)(a b:List V):binO env t c op (some (.agg a)) (some (.agg b))=jfx env t op (.agg a) (.agg b):=by
 have:binO env t c op (some (.agg a)) (some (.agg b))=jdv env t c op (.agg a) (.agg b):=rfl
 rw [this]
 unfold jdv
 rw [jpP]
theorem eq32 (c:Bool)(k n k' n':Int):binO env 32 c .eql (some (.agg [.int .i64 k,.int .i64 n])) (some (.agg [.int .i64 k',.int .i64 n']))=some (.bool (decide (k=k'∧n=n'))):=by
 rw [jic]
 simp only [jfx,js8,js9]
 by_cases h1:k=k' <;> by_cases h2:n=n' <;> simp [h1,h2]
theorem ne32 (c:Bool)(k n k' n':Int):binO env 32 c .neq (some (.agg [.int .i64 k,.int .i64 n])) (some (.agg [.int .i64 k',.int .i64 n']))=some (.bool (!decide (k=k'∧n=n'))):=by
 rw [jic]
 simp only [jfx,js8,js9]
 by_cases h1:k=k' <;> by_cases h2:n=n' <;> simp [h1,h2]
theorem jkk:jb9 env 32 []=some (.agg [.int .i64 0,.int .i64 0]):=by kernel_rfl
theorem bd32 (k n:Int):jb9 env 32 [(0,.int .i64 k),(1,.int .i64 n)]=some (.agg [.int .i64 k,.int .i64 n]):=by kernel_rfl
theorem z32:jbE env 32=some (.agg [.int .i64 0,.int .i64 0]):=by kernel_rfl
theorem zq29:jbE env 29=some (.agg zQ):=by kernel_rfl
theorem bdq:jb9 env 29 []=some (.agg zQ):=by kernel_rfl
theorem jj6 (σ:S):jas env (ev env) 12 [.agg zQ,.agg zQ] σ=some (.bool true,σ):=jd8 rfl rfl rfl (k:=20) (by rw [← jfQ]; kernel_rfl) σ
structure IsZ (Z:List V):Prop where
 len:Z.length=20
 all:Z.all V.isCell=true
theorem IsZ.ld {Z:List V}(h:IsZ Z)(o:AObj):jai [.cells Z 29,o] 20 (.ptr 0 0)=some Z:=by
 simp only [jai,Qs,Jo]
 rw [Km (by rw [h.len]; exact Ky _),Qj (by rw [h.len]; exact Ky _)]
theorem isZ {Q:Qry}{a b c:V}{n m k:Nat}{x y z:List V}(h1:RowU a n x)(h2:RowU b m y)(h3:RowU c k z):IsZ (qC Q a b c):=by
 have e:∀ {v:V} {n:Nat} {x:List V},RowU v n x→v.isCell=true:=fun h=>by rcases h with ⟨rfl,_⟩ | rfl <;> rfl
 exact ⟨rfl,by simp only [qC,Xc,List.all_nil,e h1,e h2,e h3]; rfl⟩
theorem jyr:IsZ zQ:=⟨rfl,rfl⟩
theorem juI {v:V}{n:Nat}{cs:List V}(h:RowU v n cs)(e:TypeId):jec (some (.slice e)) v=some (.int .i64 n):=by
 rcases h with ⟨rfl,rfl,_⟩ | rfl <;> rfl
theorem juJ {v:V}{n:Nat}{cs:List V}(h:RowU v n cs)(w:Nat){i:Nat}(hi:i<n):jaJ w v (.int .i64 i)=some (.rptr (cs.drop (i * w))):=by
 rcases h with ⟨rfl,rfl,_⟩ | rfl
 ·omega
 ·simp [jaJ,hi]
theorem jiB:∀ cs:List V,(∀ v∈cs,(∃ k n,v=.int k n)∨∃ s,v=.str s)→V.closed.closedL cs=true
 | [],_=>rfl
 | c::cs,h=>by
  have ih:=jiB cs fun v hv=>h v (Uh _ hv)
  rcases h c (List.mem_cons_self ..) with ⟨k,n,rfl⟩ | ⟨s,rfl⟩ <;> simp [V.closed.closedL,V.closed,ih]
theorem jp4 {v:V}{n:Nat}{cs:List V}(h:RowU v n cs)(hc:∀ v∈cs,(∃ k n,v=.int k n)∨∃ s,v=.str s):v.closed=true:=by
 rcases h with ⟨rfl,_,_⟩ | rfl
 ·rfl
 ·simp only [V.closed,jiB cs hc]; rfl
theorem jp5:∀ (l:List Nd) (i:Nat),(jb2 l).drop (i * 3)=jb2 (l.drop i)
 | [],i=>by simp [jb2]
 | c::cs,0=>by simp
 | c::cs,i+1=>by
  have e:jb2 (c::cs)=jb5 c++jb2 cs:=rfl
  rw [e,Xs,← jp5 cs i,show (i+1) * 3=3+i * 3 by omega,← Xi]
  rfl
theorem jiY {l:List Nd}{i:Nat}{t:Nd}(h:l[i]? = some t):(jb2 l).drop (i * 3)=jb5 t++jb2 (l.drop (i+1)):=by
 rw [jp5,jlS h]; rfl
theorem at16:env.P.funcs[16]? = some Tryz.f16:=by kernel_rfl
theorem at17:env.P.funcs[17]? = some Tryz.f17:=by kernel_rfl
theorem at41:env.P.funcs[41]? = some Tryz.f41:=by kernel_rfl
theorem jqS (o:Int)(σ:S):jas env (ev env) 41 [.int .i64 o] σ=some (.int .i64 (ar o:Nat),σ):=by
 refine jav rfl rfl rfl at41 rfl (by simp [Tryz.f41]) (by simp [Tryz.f41]) (jar ?_) σ
 unfold ar
 by_cases h1:o=1
 ·subst h1; simp only [Tryz.f41,Ka,simprocAttr,Ys,Y0,Ke,Vq,jaq]; rfl
 by_cases h2:o=2
 ·subst h2; simp only [Tryz.f41,Ka,simprocAttr,Ys,Y0,Ke,Vq,jaq]; rfl
 by_cases h3:o=3
 ·subst h3; simp only [Tryz.f41,Ka,simprocAttr,Ys,Y0,Ke,Vq,jaq]; rfl
 by_cases h7:o=7
 ·subst h7; simp only [Tryz.f41,Ka,simprocAttr,Ys,Y0,Ke,Vq,jaq]; rfl
 by_cases h17:o=17
 ·subst h17; simp only [Tryz.f41,Ka,simprocAttr,Ys,Y0,Ke,Vq,jaq]; rfl
 by_cases h8:o=8
 ·subst h8; simp only [Tryz.f41,Ka,simprocAttr,Ys,Y0,Ke,Vq,jaq]; rfl
 have c1:=eq_false h1
 have c2:=eq_false h2
 have c3:=eq_false h3
 have c7:=eq_false h7
 have c17:=eq_false h17
 have c8:=eq_false h8
 rw [Kn (by omega),Kn (by omega),Kn h8]
 simp only [Tryz.f41,Ka,simprocAttr,Ys,Y0,Ke,Vq,jaq,c1,c2,c3,c7,c17,c8]
 rfl
theorem jz8 (o:Int):ar o≤3:=by unfold ar; split <;> (try split) <;> (try split) <;> omega
theorem jj7 {v:V}{l:List Nd}(hv:RowU v l.length (jb2 l))(hl:l.length≤100000)(σ:S):jas env (ev env) 16 [v] σ=some (.bool (decide (hgt l 0=some 1)),σ):=by
 have hlen:=juI hv
 obtain ⟨R,hR⟩:∃ R,hgt l 0=R:=⟨_,rfl⟩
 rw [hR]
 refine jav rfl rfl (by simp [jp4 hv (jfs l)]) at16 rfl (by simp [Tryz.f16]) (by simp [Tryz.f16]) (jar ?_) σ
 simp only [Tryz.f16,Ka,simprocAttr,Ys,Y0,Ke,Vq,jaq]
 refine jbu (fun m T D σ=>D=[]∧σ=⟨[],[]⟩∧T 0=v∧∃ i h:Nat,m=l.length - i∧i≤l.length∧h≤i∧T 3=.int .i64 h∧T 4=.int .i64 i∧hgt (l.drop i) h=R) ?_ l.length _ _ _ ⟨rfl,rfl,rfl,0,0,rfl,Ql _,Ky _,rfl,rfl,hR⟩
 rintro m T D σ ⟨rfl,rfl,t0,i,h,hm,hi,hh,t3,t4,hg⟩
 refine jar ?_
 by_cases hlt:i<l.length
 ·have c0:((i:Int)<(l.length:Int))=True:=eq_true (by omega)
  obtain ⟨x,hx⟩:∃ x,l[i]? = some x:=⟨l[i],K4 hlt⟩
  have hix:=juJ hv 3 hlt
  rw [jiY hx] at hix
  have hld:∀ H:List AObj,(jai H 1 (.rptr (List.drop 0 (jb5 x++jb2 (l.drop (i+1)))))).bind (·[0]?)=some (.int .i64 x.op):=fun H=>by simp [jai,jb5]
  have hc:=jqS x.op
  have ha:=jz8 x.op
  rw [jlS hx] at hg
  unfold hgt at hg
  by_cases hs:h<ar x.op
  ·rw [Km hs] at hg
   have c1:((h:Int)<((ar x.op:Nat):Int))=True:=eq_true (by omega)
   have hd:decide (R=some 1)=false:=by rw [← hg]; rfl
   simp only [Ka,simprocAttr,Ys,Y0,Ke,Vq,t0,t3,t4,hlen,c0,hix,fo29,al1,hld,hc,c1,hd]
   rfl
  ·rw [Kn hs] at hg
   have c1:((h:Int)<((ar x.op:Nat):Int))=False:=eq_false (by omega)
   have e1:IntKind.i64.wrap ((h:Int) - ((ar x.op:Nat):Int))=((h - ar x.op:Nat):Int):=by rw [wrap_i64 (by omega) (by omega)]; omega
   have e2:IntKind.i64.wrap (((h - ar x.op:Nat):Int)+1)=((h - ar x.op+1:Nat):Int):=by rw [wrap_i64 (by omega) (by omega)]; omega
   have e3:IntKind.i64.wrap ((i:Int)+1)=((i+1:Nat):Int):=by rw [wrap_i64 (by omega) (by omega)]; omega
   simp only [Ka,simprocAttr,Ys,Y0,Ke,Vq,t0,t3,t4,hlen,c0,hix,fo29,al1,hld,hc,c1,e1,e2,e3]
   exact ⟨l.length - (i+1),by omega,i+1,h - ar x.op+1,rfl,by omega,by omega,rfl,rfl,hg⟩
 ·have hi2:i=l.length:=by omega
  subst hi2
  rw [List.drop_length] at hg
  have c0:((l.length:Int)<(l.length:Int))=False:=eq_false (by omega)
  simp only [Ka,simprocAttr,Ys,Y0,Ke,Vq,t0,t3,t4,hlen,c0]
  have hd:decide (R=some 1)=decide ((h:Int)=1):=by
   rw [← hg]
   simp only [hgt,Kg]
   exact decide_eq_decide.2 (by omega)
  rw [hd]
  rfl
theorem jle {v:V}{l:List Nd}(hv:RowU v l.length (jb2 l))(hl:l.length≤100000)(hw:WdN l)(σ:S):jas env (ev env) 17 [v] σ=some (.bool true,σ):=by
 have hlen:=juI hv
 refine jav rfl rfl (by simp [jp4 hv (jfs l)]) at17 rfl (by simp [Tryz.f17]) (by simp [Tryz.f17]) (jar ?_) σ
 simp only [Tryz.f17,Ka,simprocAttr,Ys,Y0,Ke,Vq,jaq]
 refine jbu (fun m T D σ=>D=[]∧σ=⟨[],[]⟩∧T 0=v∧∃ i:Nat,m=l.length - i∧i≤l.length∧T 3=.int .i64 i) ?_ l.length _ _ _ ⟨rfl,rfl,rfl,0,rfl,Ql _,rfl⟩
 rintro m T D σ ⟨rfl,rfl,t0,i,hm,hi,t3⟩
 refine jar ?_
 by_cases hlt:i<l.length
 ·have c0:((i:Int)<(l.length:Int))=True:=eq_true (by omega)
  obtain ⟨x,hx⟩:∃ x,l[i]? = some x:=⟨l[i],K4 hlt⟩
  have hix:=juJ hv 3 hlt
  rw [jiY hx] at hix
  have hld:∀ (x:Nd) (r:List V) (H:List AObj),(jai H 1 (.rptr (List.drop 0 (jb5 x++r)))).bind (·[0]?)=some (.int .i64 x.op):=fun x r H=>by simp [jai,jb5]
  have e3:IntKind.i64.wrap ((i:Int)+1)=((i+1:Nat):Int):=by rw [wrap_i64 (by omega) (by omega)]; omega
  by_cases h3:x.op=3
  ·obtain ⟨y,z,hi0,hy,hyo,hz,hzo⟩:=hw i x hx h3
   have c1:=eq_true h3
   have hzl:i+1<l.length:=by
    rcases Qf (i+1) l.length with h | h
    ·exact h
    ·rw [K9 h] at hz; cases hz
   have c2:((i:Int)=0)=False:=eq_false (by omega)
   have c3:(((i+1:Nat):Int)=(l.length:Int))=False:=eq_false (by omega)
   have e4:IntKind.i64.wrap ((i:Int) - 1)=((i - 1:Nat):Int):=by rw [wrap_i64 (by omega) (by omega)]; omega
   have hiy:=juJ hv 3 (show i - 1<l.length by omega)
   rw [jiY hy] at hiy
   have hiz:=juJ hv 3 hzl
   rw [jiY hz] at hiz
   have c4:=eq_true hyo
   rcases hzo with h9 | h10
   ·have c5:=eq_true h9
    simp only [Ka,simprocAttr,Ys,Y0,Ke,Vq,t0,t3,hlen,c0,hix,fo29,al1,hld,c1,c2,c3,e3,e4,hiy,hiz,c4,c5]
    exact ⟨l.length - (i+1),by omega,i+1,rfl,by omega,rfl⟩
   ·have c5:(z.op=9)=False:=eq_false (by omega)
    have c6:=eq_true h10
    simp only [Ka,simprocAttr,Ys,Y0,Ke,Vq,t0,t3,hlen,c0,hix,fo29,al1,hld,c1,c2,c3,e3,e4,hiy,hiz,c4,c5,c6]
    exact ⟨l.length - (i+1),by omega,i+1,rfl,by omega,rfl⟩
  ·have c1:=eq_false h3
   simp only [Ka,simprocAttr,Ys,Y0,Ke,Vq,t0,t3,hlen,c0,hix,fo29,al1,hld,c1,e3]
   exact ⟨l.length - (i+1),by omega,i+1,rfl,by omega,rfl⟩
 ·have hi2:i=l.length:=by omega
  subst hi2
  have c0:((l.length:Int)<(l.length:Int))=False:=eq_false (by omega)
  simp only [Ka,simprocAttr,Ys,Y0,Ke,Vq,t0,t3,hlen,c0]
  rfl
theorem at5:env.P.funcs[5]? = some Tryz.f5:=by kernel_rfl
theorem ld32 (o:AObj)(a b:V):jai [o,.cells [a,b] 32] 2 (.ptr 1 0)=some [a,b]:=rfl
theorem jvr:WdN []:=fun i x h=>by simp at h
theorem jdS (Z:List V):(V.agg Z).cells=Z:=rfl
theorem jf1 {Z:List V}(o:AObj)(k:Nat):(jai [.cells Z 29,o] 1 (.ptr 0 k)).bind (·[0]?)=Z[k]? := by
 rw [YA]; rfl
theorem joM (s:List UInt8):Go.Ab.Found env 5 [.str s]:=by
 refine jn9 at5 rfl (by simp [Tryz.f5]) (by simp [Tryz.f5]) (jar ?_)
 have hk:=jqR
 by_cases h2:(2000:Int)<(s.length:Int)
 ·have c1:=eq_true h2
  simp only [Tryz.f5,Ka,simprocAttr,Ys,Y0,Ke,Vq,jaq,hk,jaK,c1]
  rfl
 ·have c1:=eq_false h2
  obtain ⟨v,hv,hc⟩:=jnw s (by omega)
  have hst:=jte s (by omega)
  have hp:=fun σ=>jwB hc (ev env) σ
  generalize jj5 s=r at *
  match r,hv,hst with
  | .error (e,a),hv,⟨he,ha0,ha1⟩ =>
   have hv:v=.tup [.agg zQ,.agg [.int .i64 e,.int .i64 a]]:=hv
   subst hv
   simp only at he ha0 ha1
   have c2:(!decide (e=0∧a=0))=true:=by simp [he]
   have c3:=eq_false he
   have c4:=eq_true ha0
   have c5:=eq_true ha1
   have hl:=jyr.ld (.cells [.int .i64 e,.int .i64 a] 32)
   simp only [Tryz.f5,Ka,simprocAttr,Ys,Y0,Ke,Vq,Va,jab,jaq,hk,jaK,c1,hp,z32,zq29,s29,s32,jp3,jgz,jvp,jeK,Qx,al29,al32,al1,fo29,hl,ld32,bdq,jkk,ne32,false_and,decide_false,Jq,Qq,jj6,c3,c4,c5]
   first | rfl | exact ⟨rfl,rfl⟩
  | .ok Q,⟨ev,wv,rv,e,r1,r2,r3⟩,⟨⟨hq1,hq2,hq3,hq4,hq5⟩,hb⟩ =>
   subst e
   have hZ:=isZ (Q:=Q) r1 r2 r3
   have hle:Q.expr.length≤200:=by
    rcases hq1 with ⟨_,h⟩ | ⟨_,h⟩
    ·exact h.2
    ·rw [h]; simp
   have hlw:Q.wher.length≤200:=by
    rcases hq3 with h | h
    ·rw [h]; simp
    ·exact h.2
   have s1:=jj7 r1 (by omega)
   have s2:=jj7 r2 (by omega)
   have w1:=jle r1 (by omega) (by
    rcases hq1 with ⟨_,h⟩ | ⟨_,h⟩
    ·exact h.1.wd
    ·rw [h]; exact jvr)
   have w2:=jle r2 (by omega) (by
    rcases hq3 with h | h
    ·rw [h]; exact jvr
    ·exact h.1.wd)
   have l1:=juI r1
   have l2:=juI r2
   have k1:=eq_true hq2.1
   have k2:=eq_true hq2.2
   have k3:=eq_false hq4
   have k4:=eq_true hb
   have hl:=hZ.ld (.cells [.int .i64 0,.int .i64 0] 32)
   have m1:=hZ.len
   have m2:=hZ.all
   have g0:(qC Q ev wv rv)[0]? = some (.int .i64 Q.kind):=rfl
   have g1:(qC Q ev wv rv)[1]? = some ev:=rfl
   have g17:(qC Q ev wv rv)[17]? = some wv:=rfl
   have g11:(qC Q ev wv rv)[11]? = some (.str Q.table):=rfl
   have g19:(qC Q ev wv rv)[19]? = some (.int .i64 Q.bits):=rfl
   generalize qC Q ev wv rv=Z at *
   have hwc:(((0:Int)<(Q.wher.length:Int))=False∧decide (hgt Q.wher 0=some 1)=decide (hgt Q.wher 0=some 1))∨(((0:Int)<(Q.wher.length:Int))=True∧decide (hgt Q.wher 0=some 1)=true):=by
    rcases hq3 with h | h
    ·rw [h]; exact .inl ⟨by simp,rfl⟩
    ·by_cases hl:(0:Int)<(Q.wher.length:Int)
     ·exact .inr ⟨eq_true hl,by simp [h.1.one 0]⟩
     ·exact .inl ⟨eq_false hl,rfl⟩
   rcases hq1 with ⟨hk2 | hk2 | hk2,hE⟩ | ⟨hkn,hE⟩
   ·have hS:decide (hgt Q.expr 0=some 1)=true:=by simp [hE.1.one 0]
    rw [hS] at s1
    have e2:(Q.kind=2)=True:=eq_true hk2
    have e4:(Q.kind=4)=False:=eq_false (by omega)
    have e5:(Q.kind=5)=False:=eq_false (by omega)
    rcases hwc with ⟨hw1,hw2⟩ | ⟨hw1,hw2⟩
    ·rw [hw2] at s2
     simp only [Tryz.f5,Ka,simprocAttr,Ys,Y0,Ke,Vq,Va,jab,jaq,hk,jaK,c1,hp,z32,zq29,s29,s32,jdS,jgz,m1,m2,jeK,Qx,al29,al32,al1,fo29,hl,ld32,jkk,ne32,jf1,g0,g1,g17,g11,g19,Qq,Jq,decide_false,decide_true,s1,s2,w1,w2,l1,l2,k1,k2,k3,k4,jad,Jb,e2,e4,e5,hw1]
     first | rfl | exact ⟨rfl,rfl⟩
    ·rw [hw2] at s2
     simp only [Tryz.f5,Ka,simprocAttr,Ys,Y0,Ke,Vq,Va,jab,jaq,hk,jaK,c1,hp,z32,zq29,s29,s32,jdS,jgz,m1,m2,jeK,Qx,al29,al32,al1,fo29,hl,ld32,jkk,ne32,jf1,g0,g1,g17,g11,g19,Qq,Jq,decide_false,decide_true,s1,s2,w1,w2,l1,l2,k1,k2,k3,k4,jad,Jb,e2,e4,e5,hw1]
     first | rfl | exact ⟨rfl,rfl⟩
   ·have hS:decide (hgt Q.expr 0=some 1)=true:=by simp [hE.1.one 0]
    rw [hS] at s1
    have e2:(Q.kind=2)=False:=eq_false (by omega)
    have e4:(Q.kind=4)=True:=eq_true hk2
    have e5:(Q.kind=5)=False:=eq_false (by omega)
    rcases hwc with ⟨hw1,hw2⟩ | ⟨hw1,hw2⟩
    ·rw [hw2] at s2
     simp only [Tryz.f5,Ka,simprocAttr,Ys,Y0,Ke,Vq,Va,jab,jaq,hk,jaK,c1,hp,z32,zq29,s29,s32,jdS,jgz,m1,m2,jeK,Qx,al29,al32,al1,fo29,hl,ld32,jkk,ne32,jf1,g0,g1,g17,g11,g19,Qq,Jq,decide_false,decide_true,s1,s2,w1,w2,l1,l2,k1,k2,k3,k4,jad,Jb,e2,e4,e5,hw1]
     first | rfl | exact ⟨rfl,rfl⟩
    ·rw [hw2] at s2
     simp only [Tryz.f5,Ka,simprocAttr,Ys,Y0,Ke,Vq,Va,jab,jaq,hk,jaK,c1,hp,z32,zq29,s29,s32,jdS,jgz,m1,m2,jeK,Qx,al29,al32,al1,fo29,hl,ld32,jkk,ne32,jf1,g0,g1,g17,g11,g19,Qq,Jq,decide_false,decide_true,s1,s2,w1,w2,l1,l2,k1,k2,k3,k4,jad,Jb,e2,e4,e5,hw1]
     first | rfl | exact ⟨rfl,rfl⟩
   ·have hS:decide (hgt Q.expr 0=some 1)=true:=by simp [hE.1.one 0]
    rw [hS] at s1
    have e2:(Q.kind=2)=False:=eq_false (by omega)
    have e4:(Q.kind=4)=False:=eq_false (by omega)
    have e5:(Q.kind=5)=True:=eq_true hk2
    rcases hwc with ⟨hw1,hw2⟩ | ⟨hw1,hw2⟩
    ·rw [hw2] at s2
     simp only [Tryz.f5,Ka,simprocAttr,Ys,Y0,Ke,Vq,Va,jab,jaq,hk,jaK,c1,hp,z32,zq29,s29,s32,jdS,jgz,m1,m2,jeK,Qx,al29,al32,al1,fo29,hl,ld32,jkk,ne32,jf1,g0,g1,g17,g11,g19,Qq,Jq,decide_false,decide_true,s1,s2,w1,w2,l1,l2,k1,k2,k3,k4,jad,Jb,e2,e4,e5,hw1]
     first | rfl | exact ⟨rfl,rfl⟩
    ·rw [hw2] at s2
     simp only [Tryz.f5,Ka,simprocAttr,Ys,Y0,Ke,Vq,Va,jab,jaq,hk,jaK,c1,hp,z32,zq29,s29,s32,jdS,jgz,m1,m2,jeK,Qx,al29,al32,al1,fo29,hl,ld32,jkk,ne32,jf1,g0,g1,g17,g11,g19,Qq,Jq,decide_false,decide_true,s1,s2,w1,w2,l1,l2,k1,k2,k3,k4,jad,Jb,e2,e4,e5,hw1]
     first | rfl | exact ⟨rfl,rfl⟩
   ·have hS:decide (hgt Q.expr 0=some 1)=false:=by rw [hE]; decide
    rw [hS] at s1
    have lE:((0:Int)<(Q.expr.length:Int))=False:=by rw [hE]; simp
    have e2:(Q.kind=2)=False:=eq_false (by omega)
    have e4:(Q.kind=4)=False:=eq_false (by omega)
    have e5:(Q.kind=5)=False:=eq_false (by omega)
    rcases hwc with ⟨hw1,hw2⟩ | ⟨hw1,hw2⟩
    ·rw [hw2] at s2
     simp only [Tryz.f5,Ka,simprocAttr,Ys,Y0,Ke,Vq,Va,jab,jaq,hk,jaK,c1,hp,z32,zq29,s29,s32,jdS,jgz,m1,m2,jeK,Qx,al29,al32,al1,fo29,hl,ld32,jkk,ne32,jf1,g0,g1,g17,g11,g19,Qq,Jq,decide_false,decide_true,s1,s2,w1,w2,l1,l2,k1,k2,k3,k4,jad,Jb,e2,e4,e5,hw1,lE]
     first | rfl | exact ⟨rfl,rfl⟩
    ·rw [hw2] at s2
     simp only [Tryz.f5,Ka,simprocAttr,Ys,Y0,Ke,Vq,Va,jab,jaq,hk,jaK,c1,hp,z32,zq29,s29,s32,jdS,jgz,m1,m2,jeK,Qx,al29,al32,al1,fo29,hl,ld32,jkk,ne32,jf1,g0,g1,g17,g11,g19,Qq,Jq,decide_false,decide_true,s1,s2,w1,w2,l1,l2,k1,k2,k3,k4,jad,Jb,e2,e4,e5,hw1,lE]
     first | rfl | exact ⟨rfl,rfl⟩
theorem env_gl {W:World}{l:List (String × DataW Unit)}(h:laidMetH Tryz.prog l W)(hp:(l.all fun x=>x.2.handleName?.isNone)=true)(m0:("privhouse/schema.reserved",Rows.laid_privhouse_schema_reserved)∈l)
  (m3:("internal/strconv.uint64pow10",Rows.laid_internal_strconv_uint64pow10)∈l) (m1:("strconv.ErrSyntax",Rows.laid_strconv_ErrSyntax)∈l) (m2:("strconv.ErrRange",Rows.laid_strconv_ErrRange)∈l):GOK env (Ctx.top W):=gl_ok rfl rfl h hp m0 m3 m1 m2
theorem stack_foundt {u:V}(h:Tyd Tryz.prog 4 9 [u]):Go.Ab.Found env 5 [u]:=by
 obtain ⟨s,e,_⟩:=jvB h (by kernel_rfl)
 simp only [Jt,and_true] at e
 subst e
 exact joM s
end Go.Proofs.YtpclebdkhpapjaaGreatDoor.Q
