/- Proved here: the law. Conditions: those of each theorem; no statement of the seat is proved in this text. -/
import Derived.Test.YtpclebdkhpapjaaGreatDoorPqB
import Derived.Test.YtpclebdkhpapjaaGreatDoorLnB
set_option linter.unusedSimpArgs false
set_option linter.unusedVariables false
set_option linter.unusedSectionVars false
namespace Go.Proofs.YtpclebdkhpapjaaGreatDoor.T
open Go.Ab
set_option maxHeartbeats 8000000
set_option maxRecDepth 100000
theorem joW (a b:List UInt8):vBin .add (.str a) (.str b)=if a.length+b.length≤lim then some (.str (a++b)) else none:=rfl
theorem vBin_sadd (us:Option TypeDesc)(cc:Bool)(a b:List UInt8):jbS us cc .add (.str a) (.str b)=if a.length+b.length≤lim then some (.str (a++b)) else none:=by
 unfold jbS
 rw [joW]
 by_cases h:a.length+b.length≤lim
 ·rw [Kp h]
 ·rw [Kq h]
end Go.Proofs.YtpclebdkhpapjaaGreatDoor.T
namespace Go.Proofs.YtpclebdkhpapjaaGreatDoor
open Go.Ab
open Go.Ab.PP
set_option maxHeartbeats 8000000
set_option maxRecDepth 100000
namespace T
theorem jtO (d:List UInt8):0≤(jho d).1.n∧(jho d).1.n≤1000000000:=by
 unfold jho
 split
 ·simp
 ·split
  ·split
   ·simp [Tok.zero]
   ·split
    ·simp [Tok.zero]
    ·simp only; omega
  ·split
   ·split
    ·simp
    ·simp [Tok.zero]
   ·split
    ·simp
    ·split
     ·simp
     ·simp [Tok.zero]
theorem joX (d:List UInt8):∀ b∈(jho d).1.text,b∈d:=by
 have h1:∀ n,∀ b∈d.take n,b∈d:=fun n b h=>List.mem_of_mem_take h
 have h2:∀ n,∀ b∈(d.drop 1).take n,b∈d:=fun n b h=>Xb (List.mem_of_mem_take h)
 have h3:∀ b∈Tok.zero.text,b∈d:=fun b h=>by simp [Tok.zero] at h
 unfold jho
 split
 ·exact h1 _
 ·split
  ·split
   ·exact h3
   ·split
    ·exact h3
    ·exact h1 _
  ·split
   ·split
    ·exact h2 _
    ·exact h3
   ·split
    ·exact h1 _
    ·split
     ·exact h1 _
     ·exact h3
theorem jl3:∀ (m:Nat) (d:List UInt8) (i:Nat) (last:Int),(jhP m d i last).1.length≤m∧∀ t∈(jhP m d i last).1,(0≤t.n∧t.n≤1000000000)∧∀ b∈t.text,b∈d
 | 0,d,i,last=>by simp [jhP]
 | m+1,d,i,last=>by
  unfold jhP
  split
  ·simp
  ·rename_i b0 r0
   have k1:=jtO (b0::r0)
   have k2:=joX (b0::r0)
   generalize hn:jho (b0::r0)=r at *
   obtain ⟨t,e,x⟩:=r
   simp only at k1 k2 ⊢
   split
   ·split
    ·simp
    ·have ih:=jl3 m (((b0::r0).drop e).drop (jcn [1] ((b0::r0).drop e))) (i+e+jcn [1] ((b0::r0).drop e)) (if t.kind ≠ 5 then ((i+e:Nat):Int) else -1)
     generalize jhP m _ _ _=q at *
     obtain ⟨l,r⟩:=q
     simp only at ih ⊢
     refine ⟨by simp only [K0]; omega,?_⟩
     intro u hu
     rcases Jb.1 hu with rfl | hu
     ·exact ⟨k1,k2⟩
     ·exact ⟨(ih.2 u hu).1,fun b hb=>Xb (Xb ((ih.2 u hu).2 b hb))⟩
   ·simp
theorem toksD_all (s:List UInt8):(toksD s).1.length≤s.length+1∧∀ t∈(toksD s).1,(0≤t.n∧t.n≤1000000000)∧∀ b∈t.text,b∈s:=by
 have h:=jl3 (s.length+1) (s.drop (jcn [1] s)) (jcn [1] s) (-1)
 exact ⟨h.1,fun t ht=>⟨(h.2 t ht).1,fun b hb=>Xb ((h.2 t ht).2 b hb)⟩⟩
end T
theorem jsV:∀ l:List T.Tok,T.flatT l=jjd (l.map T.tkOf)
 | []=>rfl
 | t::l=>by
  have:=jsV l
  have e:jjd ((t::l).map T.tkOf)=jam (T.tkOf t)++jjd (l.map T.tkOf):=rfl
  rw [e,← this]
  rfl
theorem jvq (l:List T.Tok):IsK (T.toksV l) (l.map T.tkOf):=by
 unfold T.toksV
 by_cases h:l=[]
 ·subst h; exact .inl ⟨rfl,rfl⟩
 ·rw [Kq h,jsV]
  exact .inr ⟨.unk,by rw [Jo]⟩
theorem jtP (s:List UInt8):jdQ ((T.toksD s).1.map T.tkOf):=by
 intro t ht
 obtain ⟨u,hu,rfl⟩:=Xm.1 ht
 exact ((T.toksD_all s).2 u hu).1
open Classical in
noncomputable def jq2 (n:Int):List UInt8:=if h:∃ s:List UInt8,∀ σ,jaC env (ev env) 65 [.int .i64 n] σ=some (.str s,σ) then Classical.choose h else []
theorem jvr:ItOK jq2:=by
 intro n h0 h1
 have he:∃ s:List UInt8,∀ σ,jaC env (ev env) 65 [.int .i64 n] σ=some (.str s,σ):=by
  obtain ⟨s,hs,_⟩:=I.itoa_call n ⟨by omega,by omega⟩
  exact ⟨s,fun σ=>juV hs _ σ⟩
 unfold jq2
 rw [dif_pos he]
 exact V2 he
theorem jq3 (s:List UInt8)(hs:s.length≤4000)(σ:S):jaC env (ev env) 19 [.str s] σ=some (T.splitD s,σ):=call_T rfl (T.splitD_call s hs) _ σ
theorem ji4 (s:List UInt8)(hs:s.length≤2000)(h47:(47:UInt8) ∉ s)(l:List T.Tok)(hD:T.toksD s=(l,none))(mk:Int→Int→List UInt8) :
  ∃ v,PV (parseP (l.map T.tkOf) (s.length:Nat) jq2 mk) v∧∀ σ,jaC env (ev env) 10 [.str s] σ=some (v,σ):=by
 have hA:=T.toksD_all s
 have hS:=jtP s
 rw [hD] at hA hS
 simp only at hA hS
 refine jsh (lv:=T.toksV l) (me:=mk) (jvq l) (by rw [Jo]; omega) hS jvr s ?_ ?_
 ·intro j n d k hj
  exfalso
  unfold sees at hj
  split at hj
  ·rename_i t ht
   simp only [Ql] at hj
   have hm:=Ju ht
   obtain ⟨u,hu,rfl⟩:=Xm.1 hm
   have:u.text=[47]:=hj.2
   exact h47 ((hA.2 u hu).2 47 (by rw [this]; simp))
  ·simp at hj
 ·intro σ
  rw [jq3 s (by omega)]
  unfold T.splitD
  rw [Kq (by omega),hD]
theorem jvs {v:V}{n:Nat}{cs:List V}(h:RowU v n cs)(e:TypeId):jdG (some (.slice e)) v=some (.int .i64 n):=by
 rcases h with ⟨rfl,rfl,_⟩ | rfl <;> rfl
theorem jj0 {v:V}{n:Nat}{cs:List V}(h:RowU v n cs):v.isCell=true:=by
 rcases h with ⟨rfl,rfl,_⟩ | rfl <;> rfl
theorem sums (itoa:Int→List UInt8)(mk:Int→Int→List UInt8):∀ k,k<21→T.okSum itoa mk (90+k)=true
 | 0,_=>T.okSum_90 itoa mk
 | 1,_=>T.okSum_91 itoa mk
 | 2,_=>T.okSum_92 itoa mk
 | 3,_=>T.okSum_93 itoa mk
 | 4,_=>T.okSum_94 itoa mk
 | 5,_=>T.okSum_95 itoa mk
 | 6,_=>T.okSum_96 itoa mk
 | 7,_=>T.okSum_97 itoa mk
 | 8,_=>T.okSum_98 itoa mk
 | 9,_=>T.okSum_99 itoa mk
 | 10,_=>T.okSum_100 itoa mk
 | 11,_=>T.okSum_101 itoa mk
 | 12,_=>T.okSum_102 itoa mk
 | 13,_=>T.okSum_103 itoa mk
 | 14,_=>T.okSum_104 itoa mk
 | 15,_=>T.okSum_105 itoa mk
 | 16,_=>T.okSum_106 itoa mk
 | 17,_=>T.okSum_107 itoa mk
 | 18,_=>T.okSum_108 itoa mk
 | 19,_=>T.okSum_109 itoa mk
 | 20,_=>T.okSum_110 itoa mk
 | k+21,h=>absurd h (by omega)
theorem bats (itoa:Int→List UInt8)(mk:Int→Int→List UInt8):∀ k,k<20→T.okBat itoa mk (55+k)=true
 | 0,_=>T.okBat_55 itoa mk
 | 1,_=>T.okBat_56 itoa mk
 | 2,_=>T.okBat_57 itoa mk
 | 3,_=>T.okBat_58 itoa mk
 | 4,_=>T.okBat_59 itoa mk
 | 5,_=>T.okBat_60 itoa mk
 | 6,_=>T.okBat_61 itoa mk
 | 7,_=>T.okBat_62 itoa mk
 | 8,_=>T.okBat_63 itoa mk
 | 9,_=>T.okBat_64 itoa mk
 | 10,_=>T.okBat_65 itoa mk
 | 11,_=>T.okBat_66 itoa mk
 | 12,_=>T.okBat_67 itoa mk
 | 13,_=>T.okBat_68 itoa mk
 | 14,_=>T.okBat_69 itoa mk
 | 15,_=>T.okBat_70 itoa mk
 | 16,_=>T.okBat_71 itoa mk
 | 17,_=>T.okBat_72 itoa mk
 | 18,_=>T.okBat_73 itoa mk
 | 19,_=>T.okBat_74 itoa mk
 | k+20,h=>absurd h (by omega)
theorem jq4 {n:Nat}{s:List UInt8}{b:UInt8}(h:b∈T.rep n s):b∈s:=by
 unfold T.rep T.TM.repS at h
 rw [Vy] at h
 obtain ⟨l,hl,hb⟩:=h
 rw [List.eq_of_mem_replicate hl] at hb
 exact hb
theorem jvt (n:Nat):(47:UInt8) ∉ T.sumT n:=by
 unfold T.sumT
 simp only [List.mem_append,not_or]
 refine ⟨by decide +kernel,fun h => ?_,by decide +kernel⟩
 have:=jq4 h
 revert this
 decide +kernel
theorem jvu (n:Nat):(47:UInt8) ∉ T.batT n:=by
 unfold T.batT
 simp only [List.mem_append,not_or]
 refine ⟨by decide +kernel,fun h => ?_,by decide +kernel⟩
 have:=jq4 h
 revert this
 decide +kernel
theorem jtQ (n:Nat)(h:n≤200):(T.sumT n).length≤2000:=by
 have e1:(T.asc "sum a").length=5:=by decide +kernel
 have e2:(T.asc "+a").length=2:=by decide +kernel
 have e3:(T.asc " between 0 and 1 from t with factor 2 bits 8").length≤100:=by decide +kernel
 unfold T.sumT T.rep
 rw [Ks,Ks,T.TM.repS_len,e1,e2]; omega
theorem jtR (n:Nat)(h:n≤200):(T.batT n).length≤2000:=by
 have e1:(T.asc "batch a ").length=8:=by decide +kernel
 have e2:(T.asc "1..2,").length=5:=by decide +kernel
 have e3:(T.asc "1..2 using prefix from t with factor 2 bits 8").length≤100:=by decide +kernel
 unfold T.batT T.rep
 rw [Ks,Ks,T.TM.repS_len,e1,e2]; omega
theorem jq5 (k:Nat)(hk:k<21):∃ v,(∀ σ,jaC env (ev env) 10 [.str (T.sumT (90+k))] σ=some (v,σ)) ∧
  ((k≤10∧∃ (Q:Qry) (ev' wv rv:V),v=.tup [.agg (qC Q ev' wv rv),.agg [.int .i64 0,.int .i64 0]]∧ev'.isCell=true∧wv.isCell=true∧rv.isCell=true∧∀ e,jdG (some (.slice e)) ev'=some (.int .i64 ((2 * (90+k) - 1:Nat):Int)))∨(11≤k∧v=.tup [.agg (qC Qry.zero .nilsl .nilsl .nilsl),.agg [.int .i64 4,.int .i64 4]])):=by
 have h:=sums jq2 (fun _ _=>[]) k hk
 unfold T.okSum at h
 split at h
 ·rename_i l hD
  obtain ⟨v,hv,hc⟩:=ji4 _ (jtQ (90+k) (by omega)) (jvt _) l hD fun _ _=>[]
  refine ⟨v,hc,?_⟩
  simp only [K2] at h
  replace h:=h.2
  generalize parseP _ _ _ _=r at *
  match r,h,hv with
  | .ok Q,h,hv =>
   simp only [K2,V7,Nat.beq_eq_true_eq] at h
   obtain ⟨a,b,c,rfl,h1,h2,h3⟩:=hv
   exact .inl ⟨by omega,Q,a,b,c,rfl,jj0 h1,jj0 h2,jj0 h3,fun e=>by rw [jvs h1,Jd h.2]⟩
  | .error e,h,hv =>
   simp only [K2,V7,beq_iff_eq] at h
   obtain ⟨h1,rfl⟩:=h
   exact .inr ⟨by omega,hv⟩
 ·simp at h
theorem jq6 (k:Nat)(hk:k<20):∃ v,(∀ σ,jaC env (ev env) 10 [.str (T.batT (55+k))] σ=some (v,σ)) ∧
  ((k≤9∧∃ (Q:Qry) (ev' wv rv:V),v=.tup [.agg (qC Q ev' wv rv),.agg [.int .i64 0,.int .i64 0]]∧ev'.isCell=true∧wv.isCell=true∧rv.isCell=true∧∀ e,jdG (some (.slice e)) rv=some (.int .i64 ((55+k:Nat):Int)))∨(10≤k∧v=.tup [.agg (qC Qry.zero .nilsl .nilsl .nilsl),.agg [.int .i64 4,.int .i64 328]])):=by
 have h:=bats jq2 (fun _ _=>[]) k hk
 unfold T.okBat at h
 split at h
 ·rename_i l hD
  obtain ⟨v,hv,hc⟩:=ji4 _ (jtR (55+k) (by omega)) (jvu _) l hD fun _ _=>[]
  refine ⟨v,hc,?_⟩
  simp only [K2] at h
  replace h:=h.2
  generalize parseP _ _ _ _=r at *
  match r,h,hv with
  | .ok Q,h,hv =>
   simp only [K2,V7,Nat.beq_eq_true_eq] at h
   obtain ⟨a,b,c,rfl,h3,h2,h1⟩:=hv
   exact .inl ⟨by omega,Q,a,b,c,rfl,jj0 h3,jj0 h2,jj0 h1,fun e=>by rw [jvs h1,Jd h.2]⟩
  | .error e,h,hv =>
   simp only [K2,V7,beq_iff_eq] at h
   obtain ⟨h1,rfl⟩:=h
   exact .inr ⟨by omega,hv⟩
 ·simp at h
theorem at4:env.P.funcs[4]? = some Tryz.f4:=by kernel_rfl
theorem a1:T.asc "sum a" = [115,117,109,32,97]:=by kernel_rfl
theorem a2:T.asc "+a" = [43,97]:=by kernel_rfl
theorem a3:T.asc " between 0 and 1 from t with factor 2 bits 8" = (32::98::101::116::119::101::101::110::32::48::32::97::110::100::32::49::32::102::114::111::109::32::116::32::119::105::116::104::32::102::97::99::116::111::114::32::50::32::98::105::116::115::32::56::[]):=by kernel_rfl
theorem a4:T.asc "batch a " = [98,97,116,99,104,32,97,32]:=by kernel_rfl
theorem a5:T.asc "1..2," = [49,46,46,50,44]:=by kernel_rfl
theorem a6:T.asc "1..2 using prefix from t with factor 2 bits 8" = (49::46::46::50::32::117::115::105::110::103::32::112::114::101::102::105::120::32::102::114::111::109::32::116::32::119::105::116::104::32::102::97::99::116::111::114::32::50::32::98::105::116::115::32::56::[]):=by kernel_rfl
theorem sadd (a b:List UInt8)(ha:a.length≤3000)(hb:b.length≤3000)(us:Option TypeDesc)(c:Bool):jbS us c .add (.str a) (.str b)=some (.str (a++b)):=by
 rw [T.vBin_sadd,Kp (by simp only [lim]; omega)]
theorem jq7 (n:Nat)(s:List UInt8):(T.rep n s).length=n * s.length:=T.TM.repS_len n s
theorem jvv:env.P.eqGuardType env.P.depth 32=false:=by kernel_rfl
theorem jvw (k k' n n':Int):eqT env 8 32 (.agg [.int .i64 k,.int .i64 n]) (.agg [.int .i64 k',.int .i64 n']) =
  (some (k == k')).bind fun r=>if r then (some (n == n')).bind fun r=>if r then some true else some false else some false:=by kernel_rfl
theorem jqI (u:Option TypeDesc)(c:Bool)(op:BinOp)(a b:List V):jbS u c op (.agg a) (.agg b)=none:=by
 cases op <;> cases u <;> first | rfl | (rename_i u; cases u <;> rfl)
theorem jm2 (t:TypeId)(c:Bool)(op:BinOp)(a b:List V):binO env t c op (some (.agg a)) (some (.agg b))=jgS env t op (.agg a) (.agg b):=by
 have:binO env t c op (some (.agg a)) (some (.agg b))=jem env t c op (.agg a) (.agg b):=rfl
 rw [this]
 unfold jem
 rw [jqI]
theorem eq32 (c:Bool)(k n k' n':Int):binO env 32 c .eql (some (.agg [.int .i64 k,.int .i64 n])) (some (.agg [.int .i64 k',.int .i64 n']))=some (.bool (decide (k=k'∧n=n'))):=by
 rw [jm2]
 simp only [jgS,jvv,jvw]
 by_cases h1:k=k' <;> by_cases h2:n=n' <;> simp [h1,h2]
theorem ne32 (c:Bool)(k n k' n':Int):binO env 32 c .neq (some (.agg [.int .i64 k,.int .i64 n])) (some (.agg [.int .i64 k',.int .i64 n']))=some (.bool (!decide (k=k'∧n=n'))):=by
 rw [jm2]
 simp only [jgS,jvv,jvw]
 by_cases h1:k=k' <;> by_cases h2:n=n' <;> simp [h1,h2]
theorem bd32 (k n:Int):jcC env 32 [(0,.int .i64 k),(1,.int .i64 n)]=some (.agg [.int .i64 k,.int .i64 n]):=by
 have h:jcC env 32 [(0,.int .i64 k),(1,.int .i64 n)]=some (.agg [.int .i64 k,.int .i64 n]):=by kernel_rfl
 exact h
theorem jsj:jcC env 32 []=some (.agg [.int .i64 0,.int .i64 0]):=by kernel_rfl
theorem z29:jbV env 29=some (.agg (qC Qry.zero .nilsl .nilsl .nilsl)):=by kernel_rfl
theorem z32:jbV env 32=some (.agg [.int .i64 0,.int .i64 0]):=by kernel_rfl
structure IsZ (Z:List V) (e r:V):Prop where
 len:Z.length=20
 all:Z.all V.isCell=true
 ex:∀ c,(jas [AObj.cells Z 29,c] 1 (.ptr 0 1)).bind (·[0]?)=some e
 ra:∀ c,(jas [AObj.cells Z 29,c] 1 (.ptr 0 8)).bind (·[0]?)=some r
theorem isZ {Q:Qry}{a b c:V}(h1:a.isCell=true)(h2:b.isCell=true)(h3:c.isCell=true):IsZ (qC Q a b c) a c :=
 ⟨rfl,by simp only [qC,J1,List.all_nil,h1,h2,h3]; rfl,fun _=>rfl,fun _=>rfl⟩
set_option maxHeartbeats 1000000 in
theorem jkF (x y:Int):Go.Ab.Found env 4 [.int .i64 x,.int .i64 y]:=by
 obtain ⟨k,hk,hp1⟩:=T.pick_call x 21 (by omega) (by omega)
 obtain ⟨m,hm,hp2⟩:=T.pick_call y 20 (by omega) (by omega)
 have q1:∀ σ,jaC env (ev env) 8 [.int .i64 x,.int .i64 21] σ=some (.int .i64 k,σ):=fun σ=>call_T rfl hp1 _ σ
 have q2:∀ σ,jaC env (ev env) 8 [.int .i64 y,.int .i64 20] σ=some (.int .i64 m,σ):=fun σ=>call_T rfl hp2 _ σ
 have w1:IntKind.i64.wrap (90+(k:Int))=((90+k:Nat):Int):=by rw [wrap_i64 (by omega) (by omega)]; omega
 have w2:IntKind.i64.wrap (55+(m:Int))=((55+m:Nat):Int):=by rw [wrap_i64 (by omega) (by omega)]; omega
 have w3:IntKind.i64.wrap (((90+k:Nat):Int) - 1)=((90+k - 1:Nat):Int):=by rw [wrap_i64 (by omega) (by omega)]; omega
 have w4:IntKind.i64.wrap (((55+m:Nat):Int) - 1)=((55+m - 1:Nat):Int):=by rw [wrap_i64 (by omega) (by omega)]; omega
 have t1:∀ σ,jaC env (ev env) 14 [.str (T.asc "+a"),.int .i64 ((90+k - 1:Nat):Int)] σ=some (.str (T.rep (90+k - 1) (T.asc "+a")),σ):=fun σ=>call_T rfl (T.TM.times_ok _ _ (by decide +kernel) (by decide +kernel) (by omega) (by omega)) _ σ
 have t2:∀ σ,jaC env (ev env) 14 [.str (T.asc "1..2,"),.int .i64 ((55+m - 1:Nat):Int)] σ=some (.str (T.rep (55+m - 1) (T.asc "1..2,")),σ):=fun σ=>call_T rfl (T.TM.times_ok _ _ (by decide +kernel) (by decide +kernel) (by omega) (by omega)) _ σ
 obtain ⟨v1,p1,c1⟩:=jq5 k hk
 obtain ⟨v2,p2,c2⟩:=jq6 m hm
 refine jmH at4 rfl (by simp [Tryz.f4]) (by simp [Tryz.f4]) (jaE ?_)
 have r1:=jq7 (90+k - 1) (T.asc "+a")
 have r2:=jq7 (55+m - 1) (T.asc "1..2,")
 have l2:(T.asc "+a").length=2:=by rw [a2]; rfl
 have l5:(T.asc "1..2,").length=5:=by rw [a5]; rfl
 rw [l2] at r1
 rw [l5] at r2
 have j1:=sadd (T.asc "sum a") (T.rep (90+k - 1) (T.asc "+a")) (by rw [a1]; decide) (by omega)
 have j2:=sadd (T.asc "sum a" ++ T.rep (90+k - 1) (T.asc "+a")) (T.asc " between 0 and 1 from t with factor 2 bits 8") (by rw [Ks,a1]; simp only [K0,K6]; omega) (by rw [a3]; decide)
 have j3:=sadd (T.asc "batch a ") (T.rep (55+m - 1) (T.asc "1..2,")) (by rw [a4]; decide) (by omega)
 have j4:=sadd (T.asc "batch a " ++ T.rep (55+m - 1) (T.asc "1..2,")) (T.asc "1..2 using prefix from t with factor 2 bits 8") (by rw [Ks,a4]; simp only [K0,K6]; omega) (by rw [a6]; decide)
 rw [Jw,show T.asc "sum a" ++ (T.rep (90+k - 1) (T.asc "+a")++T.asc " between 0 and 1 from t with factor 2 bits 8")=T.sumT (90+k) from rfl] at j2
 rw [Jw,show T.asc "batch a " ++ (T.rep (55+m - 1) (T.asc "1..2,")++T.asc "1..2 using prefix from t with factor 2 bits 8")=T.batT (55+m) from rfl] at j4
 clear r1 r2 l2 l5 hp1 hp2
 generalize T.sumT (90+k)=S1 at *
 generalize T.batT (55+m)=S2 at *
 rw [a2] at t1 j1 j2
 rw [a5] at t2 j3 j4
 rw [a1] at j1 j2
 rw [a3] at j2
 rw [a4] at j3 j4
 rw [a6] at j4
 simp only [J3,Js] at j1 j2 j3 j4
 generalize T.rep (90+k - 1) [43,97]=R1 at *
 generalize T.rep (55+m - 1) [49,46,46,50,44]=R2 at *
 have st0:(qC Qry.zero .nilsl .nilsl .nilsl).length=20:=rfl
 obtain ⟨Z1,e1,r1,k1,n1,hZ1,rfl,d1⟩:∃ Z1 e1 r1 k1 n1,IsZ Z1 e1 r1∧v1=.tup [.agg Z1,.agg [.int .i64 k1,.int .i64 n1]]∧((k≤10∧k1=0∧n1=0∧∀ e,jdG (some (.slice e)) e1=some (.int .i64 ((2 * (90+k) - 1:Nat):Int)))∨(11≤k∧k1=4∧n1=4)):=by
  rcases c1 with ⟨h,Q,a,b,c,e,i1,i2,i3,hl⟩ | ⟨h,e⟩
  ·exact ⟨_,_,_,_,_,isZ i1 i2 i3,e,.inl ⟨h,rfl,rfl,hl⟩⟩
  ·exact ⟨_,_,_,_,_,isZ rfl rfl rfl,e,.inr ⟨h,rfl,rfl⟩⟩
 obtain ⟨Z2,e2,r2,k2,n2,hZ2,rfl,d2⟩:∃ Z1 e1 r1 k1 n1,IsZ Z1 e1 r1∧v2=.tup [.agg Z1,.agg [.int .i64 k1,.int .i64 n1]]∧((m≤9∧k1=0∧n1=0∧∀ e,jdG (some (.slice e)) r1=some (.int .i64 ((55+m:Nat):Int)))∨(10≤m∧k1=4∧n1=328)):=by
  rcases c2 with ⟨h,Q,a,b,c,e,i1,i2,i3,hl⟩ | ⟨h,e⟩
  ·exact ⟨_,_,_,_,_,isZ i1 i2 i3,e,.inl ⟨h,rfl,rfl,hl⟩⟩
  ·exact ⟨_,_,_,_,_,isZ rfl rfl rfl,e,.inr ⟨h,rfl,rfl⟩⟩
 have s1:Z1++List.drop Z1.length (qC Qry.zero .nilsl .nilsl .nilsl)=Z1:=by rw [Jq (by rw [hZ1.len,st0]; omega),Jy]
 have s2:Z2++List.drop Z2.length Z1=Z2:=by rw [Jq (by rw [hZ1.len,hZ2.len]; omega),Jy]
 have m1:=hZ1.len
 rw [hZ1.len] at s1
 rw [hZ2.len] at s2
 have m2:=hZ2.len
 have o1:=hZ1.all
 have o2:=hZ2.all
 have l32:∀ (o:AObj) (a b:V),jas [o,.cells [a,b] 32] 2 (.ptr 1 0)=some [a,b]:=fun o a b=>rfl
 obtain ⟨_,_,x1,y1⟩:=hZ1
 obtain ⟨_,_,x2,y2⟩:=hZ2
 have w5:IntKind.i64.wrap (2 * ((90+k:Nat):Int))=((2 * (90+k):Nat):Int):=by rw [wrap_i64 (by omega) (by omega)]; omega
 have w6:IntKind.i64.wrap (((2 * (90+k):Nat):Int) - 1)=((2 * (90+k) - 1:Nat):Int):=by rw [wrap_i64 (by omega) (by omega)]; omega
 rcases d1 with ⟨g1,rfl,rfl,g2⟩ | ⟨g1,rfl,rfl⟩
 ·have b1:((200:Int)<((2 * (90+k) - 1:Nat):Int))=False:=eq_false (by omega)
  rcases d2 with ⟨h1,rfl,rfl,h2⟩ | ⟨h1,rfl,rfl⟩
  ·have b2:((64:Int)<((55+m:Nat):Int))=False:=eq_false (by omega)
   simp -implicitDefEqProofs only [Tryz.f4,Kb,jaj,Nat.reduceLT,Nat.reduceEqDiff,Kh,Kg,reduceIte,Ys,jak,jaf,argT,resT,setT,Y0,Int.reduceEq,Int.reduceLT,Int.reduceLE,Int.reduceNeg,mb,Nat.reduceBEq,tys,stb,Va,jab,Nat.reduceAdd,Nat.reduceLeDiff,al1,al47,ic,fo55,fo47,jaa,jae,zv47,bd47,YW,YI,jan,jai,jao,jap,jaq,jar,len1,app2,jac,jad,jah,jax,row1,jam,hhWa,hhWb,hhWc,hhWd,jaU,q1,q2,w1,w2,w3,w4,t1,t2,↓j1,↓j2,↓j3,↓j4,p1,p2,z29,z32,s29,s32,tys,al1,al26,al32,fo29,bd32,jsj,eq32,ne32,s1,s2,l32,st0,m1,m2,o1,o2,x1,x2,y1,y2,b1,b2,g2,h2,u26,w5,w6,jfL,Qu,Xv]
   try simp only [ja4]
  ·have b2:((64:Int)<((55+m:Nat):Int))=True:=eq_true (by omega)
   have h2:True:=trivial
   simp -implicitDefEqProofs only [Tryz.f4,Kb,jaj,Nat.reduceLT,Nat.reduceEqDiff,Kh,Kg,reduceIte,Ys,jak,jaf,argT,resT,setT,Y0,Int.reduceEq,Int.reduceLT,Int.reduceLE,Int.reduceNeg,mb,Nat.reduceBEq,tys,stb,Va,jab,Nat.reduceAdd,Nat.reduceLeDiff,al1,al47,ic,fo55,fo47,jaa,jae,zv47,bd47,YW,YI,jan,jai,jao,jap,jaq,jar,len1,app2,jac,jad,jah,jax,row1,jam,hhWa,hhWb,hhWc,hhWd,jaU,q1,q2,w1,w2,w3,w4,t1,t2,↓j1,↓j2,↓j3,↓j4,p1,p2,z29,z32,s29,s32,tys,al1,al26,al32,fo29,bd32,jsj,eq32,ne32,s1,s2,l32,st0,m1,m2,o1,o2,x1,x2,y1,y2,b1,b2,g2,h2,u26,w5,w6,jfL,Qu,Xv]
   try simp only [ja4]
 ·have b1:((200:Int)<((2 * (90+k) - 1:Nat):Int))=True:=eq_true (by omega)
  have g2:True:=trivial
  rcases d2 with ⟨h1,rfl,rfl,h2⟩ | ⟨h1,rfl,rfl⟩
  ·have b2:((64:Int)<((55+m:Nat):Int))=False:=eq_false (by omega)
   simp -implicitDefEqProofs only [Tryz.f4,Kb,jaj,Nat.reduceLT,Nat.reduceEqDiff,Kh,Kg,reduceIte,Ys,jak,jaf,argT,resT,setT,Y0,Int.reduceEq,Int.reduceLT,Int.reduceLE,Int.reduceNeg,mb,Nat.reduceBEq,tys,stb,Va,jab,Nat.reduceAdd,Nat.reduceLeDiff,al1,al47,ic,fo55,fo47,jaa,jae,zv47,bd47,YW,YI,jan,jai,jao,jap,jaq,jar,len1,app2,jac,jad,jah,jax,row1,jam,hhWa,hhWb,hhWc,hhWd,jaU,q1,q2,w1,w2,w3,w4,t1,t2,↓j1,↓j2,↓j3,↓j4,p1,p2,z29,z32,s29,s32,tys,al1,al26,al32,fo29,bd32,jsj,eq32,ne32,s1,s2,l32,st0,m1,m2,o1,o2,x1,x2,y1,y2,b1,b2,g2,h2,u26,w5,w6,jfL,Qu,Xv]
   try simp only [ja4]
  ·have b2:((64:Int)<((55+m:Nat):Int))=True:=eq_true (by omega)
   have h2:True:=trivial
   simp -implicitDefEqProofs only [Tryz.f4,Kb,jaj,Nat.reduceLT,Nat.reduceEqDiff,Kh,Kg,reduceIte,Ys,jak,jaf,argT,resT,setT,Y0,Int.reduceEq,Int.reduceLT,Int.reduceLE,Int.reduceNeg,mb,Nat.reduceBEq,tys,stb,Va,jab,Nat.reduceAdd,Nat.reduceLeDiff,al1,al47,ic,fo55,fo47,jaa,jae,zv47,bd47,YW,YI,jan,jai,jao,jap,jaq,jar,len1,app2,jac,jad,jah,jax,row1,jam,hhWa,hhWb,hhWc,hhWd,jaU,q1,q2,w1,w2,w3,w4,t1,t2,↓j1,↓j2,↓j3,↓j4,p1,p2,z29,z32,s29,s32,tys,al1,al26,al32,fo29,bd32,jsj,eq32,ne32,s1,s2,l32,st0,m1,m2,o1,o2,x1,x2,y1,y2,b1,b2,g2,h2,u26,w5,w6,jfL,Qu,Xv]
   try simp only [ja4]
theorem env_gl {W:World}{l:List (String × DataW Unit)}(h:laidMetH Tryz.prog l W)(hp:(l.all fun x=>x.2.handleName?.isNone)=true)(m0:("privhouse/schema.reserved",Rows.laid_privhouse_schema_reserved)∈l)
  (m3:("internal/strconv.uint64pow10",Rows.laid_internal_strconv_uint64pow10)∈l) (m1:("strconv.ErrSyntax",Rows.laid_strconv_ErrSyntax)∈l) (m2:("strconv.ErrRange",Rows.laid_strconv_ErrRange)∈l):GOK env (Ctx.top W):=gl_ok rfl rfl h hp m0 m3 m1 m2
theorem lengths_foundt {u w:V}(h:Tyd Tryz.prog 4 3 [u])(h2:Tyd Tryz.prog 4 3 [w]):Go.Ab.Found env 4 [u,w]:=by
 obtain ⟨n,e,_⟩:=jpo h u3
 obtain ⟨m,e2,_⟩:=jpo h2 u3
 simp only [Jn,and_true] at e e2
 subst e e2
 exact jkF n m
end Go.Proofs.YtpclebdkhpapjaaGreatDoor
