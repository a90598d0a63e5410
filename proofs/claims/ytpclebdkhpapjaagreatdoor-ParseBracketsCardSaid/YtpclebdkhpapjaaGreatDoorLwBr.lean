/- Proved here: the law. Conditions: those of each theorem; no statement of the seat is proved in this text. -/
import Derived.Test.YtpclebdkhpapjaaGreatDoorPqB
set_option linter.unusedSimpArgs false
set_option linter.unusedVariables false
set_option linter.unusedSectionVars false
noncomputable section
namespace Go.Proofs.YtpclebdkhpapjaaGreatDoor
open Go.Ab
open Go.Ab.PP
set_option maxHeartbeats 8000000
set_option maxRecDepth 100000
theorem jt6:env.P.eqGuardType env.P.depth 32=false:=by kernel_rfl
theorem jt7(k k' n n':Int):eqT env 8 32 (.agg [.int .i64 k,.int .i64 n]) (.agg [.int .i64 k',.int .i64 n']) =
  (some (k==k')).bind λr=>if r then(some (n==n')).bind λr=>if r then some true else some false else some false:=by kernel_rfl
theorem jlK(u:Option TypeDesc)(c:Bool)(op:BinOp)(a b:List V):jbZ u c op (.agg a) (.agg b)=none:=by
 cases op<;>cases u<;>first|rfl|(rename_i u;cases u<;>rfl)
theorem jiO(t:TypeId)(c:Bool)(op:BinOp)(a b:List V):binO env t c op (some (.agg a)) (some (.agg b))=je7 env t op (.agg a) (.agg b):=by
 have:binO env t c op (some (.agg a)) (some (.agg b))=jdd env t c op (.agg a) (.agg b):=rfl;rw[this];unfold jdd;rw[jlK]
theorem eq32(c:Bool)(k n k' n':Int):binO env 32 c .eql (some (.agg [.int .i64 k,.int .i64 n])) (some (.agg [.int .i64 k',.int .i64 n']))=some (.bool (decide (k=k'/\n=n'))):=by
 rw[jiO];simp only[je7,jt6,jt7];by_cases h1:k=k'<;>by_cases h2:n=n'<;>simp[h1,h2]
theorem ne32(c:Bool)(k n k' n':Int):binO env 32 c .neq (some (.agg [.int .i64 k,.int .i64 n])) (some (.agg [.int .i64 k',.int .i64 n']))=some (.bool (!decide (k=k'/\n=n'))):=by
 rw[jiO];simp only[je7,jt6,jt7];by_cases h1:k=k'<;>by_cases h2:n=n'<;>simp[h1,h2]
theorem bd32(k n:Int):jci env 32 [(0,.int .i64 k),(1,.int .i64 n)]=some (.agg [.int .i64 k,.int .i64 n]):=by
 have h:jci env 32 [(0,.int .i64 k),(1,.int .i64 n)]=some (.agg [.int .i64 k,.int .i64 n]):=by kernel_rfl
 exact h
theorem jmF:jci env 32 []=some (.agg [.int .i64 0,.int .i64 0]):=by kernel_rfl
theorem z29:jbG env 29=some (.agg (qC Qry.zero .nilsl .nilsl .nilsl)):=by kernel_rfl
theorem z32:jbG env 32=some (.agg [.int .i64 0,.int .i64 0]):=by kernel_rfl
namespace T
theorem jxG(d:List UInt8):0<=(jf3 d).1.n/\(jf3 d).1.n<=1000000000:=by
 unfold jf3;split
 ·simp
 ·split
  ·split
   ·simp[Tok.zero]
   ·split
    ·simp[Tok.zero]
    ·simp only;omega
  ·split
   ·split
    ·simp
    ·simp[Tok.zero]
   ·split
    ·simp
    ·split
     ·simp
     ·simp[Tok.zero]
theorem jrI(d:List UInt8):∀b∈(jf3 d).1.text,b∈d:=by
 have h1:∀n,∀b∈d.take n,b∈d:=λn b h=>V3 h
 have h2:∀n,∀b∈(d.drop 1).take n,b∈d:=λn b h=>Xt (V3 h)
 have h3:∀b∈Tok.zero.text,b∈d:=λb h=>by simp[Tok.zero]at h
 unfold jf3;split
 ·exact h1 _
 ·split
  ·split
   ·exact h3
   ·split
    ·exact h3
    ·exact h1 _
  ·split
   ·split
    ·exact h2 _
    ·exact h3
   ·split
    ·exact h1 _
    ·split
     ·exact h1 _
     ·exact h3
theorem joi:∀(m:Nat) (d:List UInt8) (i:Nat) (last:Int),(jgs m d i last).1.length<=m/\∀t∈(jgs m d i last).1,(0<=t.n/\t.n<=1000000000)/\∀b∈t.text,b∈d
 |0,d,i,last=>by simp[jgs]
 | m+1,d,i,last=>by
  unfold jgs;split
  ·simp
  ·rename_i b0 r0;have k1:=jxG (b0::r0);have k2:=jrI (b0::r0);generalize hn:jf3 (b0::r0)=r at *;obtain⟨t,e,x⟩:=r;simp only at k1 k2 ⊢;split
   ·split
    ·simp
    ·have ih:=joi m (((b0::r0).drop e).drop (jbY [1] ((b0::r0).drop e))) (i+e+jbY [1] ((b0::r0).drop e)) (if t.kind ≠ 5 then((i+e:Nat):Int)else -1);generalize jgs m _ _ _=q at *;obtain⟨l,r⟩:=q;simp only at ih ⊢;refine⟨by simp only[K0];omega,?_⟩;intro u hu
     rcases Qv.1 hu with rfl|hu
     ·exact⟨k1,k2⟩
     ·exact⟨(ih.2 u hu).1,λb hb=>Xt (Xt ((ih.2 u hu).2 b hb))⟩
   ·simp
theorem toksD_all(s:List UInt8):(toksD s).1.length<=s.length+1/\∀t∈(toksD s).1,(0<=t.n/\t.n<=1000000000)/\∀b∈t.text,b∈s:=by
 have h:=joi (s.length+1) (s.drop (jbY [1] s)) (jbY [1] s) (-1);exact⟨h.1,λt ht=>⟨(h.2 t ht).1,λb hb=>Xt ((h.2 t ht).2 b hb)⟩⟩
end T
theorem jwv:∀l:List T.Tok,T.flatT l=jkT (l.map T.tkOf)
 | []=>rfl
 |t::l=>by
  have:=jwv l;have e:jkT ((t::l).map T.tkOf)=jak (T.tkOf t)++jkT (l.map T.tkOf):=rfl;rw[e,<- this];rfl
theorem jzB(l:List T.Tok):IsK (T.toksV l) (l.map T.tkOf):=by
 unfold T.toksV;by_cases h:l=[]
 ·subst h;exact .inl ⟨rfl,rfl⟩
 ·rw[Kj h,jwv];exact .inr ⟨.unk,by rw[Ju]⟩
theorem jxH(s:List UInt8):jek ((T.toksD s).1.map T.tkOf):=by
 intro t ht;obtain⟨u,hu,rfl⟩:=Xc.1 ht;exact((T.toksD_all s).2 u hu).1
open Classical in
def jfS(n:Int):List UInt8:=if h:∃s:List UInt8,∀O,jas env (ev env) 65 [.int .i64 n] O=some (.str s,O)then Classical.choose h else []
theorem jt8:ItOK jfS:=by
 intro n h0 h1
 have he:∃s:List UInt8,∀O,jas env (ev env) 65 [.int .i64 n] O=some (.str s,O):=by
  obtain⟨s,hs,_⟩:=I.itoa_call n ⟨by omega,by omega⟩;exact⟨s,λO=>jtT hs _ O⟩
 unfold jfS;rw[dif_pos he];exact Vy he
theorem jt9(s:List UInt8)(hs:s.length<=4000)(O:S):jas env (ev env) 19 [.str s] O=some (T.splitD s,O):=jqS rfl (T.splitD_call s hs) _ O
namespace T
theorem jgP(cs:List Int):∀d:List UInt8,jbY cs d<=d.length
 | []=>Kw _
 |c::r=>by
  unfold jbY;have:=jgP cs r;split
  ·simp only[K0];omega
  ·omega
theorem jua {cs:List Int}{c:UInt8}{r:List UInt8}(h:clsN c.toNat∈cs):0<jbY cs (c::r):=by
 unfold jbY;rw[Ki h];omega
theorem jvL(c:UInt8)(r:List UInt8):(jf3 (c::r)).2.1<=(c::r).length/\((jf3 (c::r)).1.kind=1->(jf3 (c::r)).1.text ≠ []):=by
 have h1:=jgP [2,3,4] (c::r);have h2:=jgP [3] (c::r);have h3:=jgP [2,3,4] ((c::r).drop 1);have hd:((c::r).drop 1).length+1=(c::r).length:=by simp
 unfold jf3;split
 ·rename_i hc;refine⟨h1,λ_ h => ?_⟩
  have hp:0<jbY [2,3,4] (c::r):=jua (by
   have:clsN c.toNat=2:=hc;rw[this];decide)
  have:=congrArg List.length h;simp only[K9,K6]at this;omega
 ·split
  ·split
   ·exact⟨h2,λh=>absurd (show(_:Int)=1 from h) (by simp[Tok.zero])⟩
   ·split
    ·exact⟨h2,λh=>absurd (show(_:Int)=1 from h) (by simp[Tok.zero])⟩
    ·exact⟨h2,λh=>absurd (show(_:Int)=1 from h) (by simp[Tok.zero])⟩
  ·split
   ·split
    ·rename_i h;exact⟨by simp only;omega,λh=>absurd (show(_:Int)=1 from h) (by simp[Tok.zero])⟩
    ·exact⟨by simp only;omega,λh=>absurd (show(_:Int)=1 from h) (by simp[Tok.zero])⟩
   ·split
    ·exact⟨by simp only[K9];omega,λh=>absurd (show(_:Int)=1 from h) (by simp[Tok.zero])⟩
    ·split
     ·exact⟨by simp only[K9];omega,λh=>absurd (show(_:Int)=1 from h) (by simp[Tok.zero])⟩
     ·exact⟨by simp,λh=>absurd (show(_:Int)=1 from h) (by simp[Tok.zero])⟩
theorem jqV:∀(m:Nat) (d:List UInt8) (i:Nat) (last:Int),(∀t∈(jgs m d i last).1,0<=t.pos/\t.pos<=((i+d.length:Nat):Int)/\(t.kind=1->t.text ≠ []))/\∀x k,(jgs m d i last).2=some (x,k)->x ≠ 0/\k<=i+d.length
 |0,d,i,last=>by simp[jgs]
 | m+1,d,i,last=>by
  unfold jgs;split
  ·simp
  ·rename_i b0 r0;have k1:=jvL b0 r0;generalize hn:jf3 (b0::r0)=r at *;obtain⟨t,e,x⟩:=r;simp only at k1 ⊢;split
   ·split
    ·refine⟨by simp,λx k h => ?_⟩;simp only[Kg,Kh]at h;obtain⟨rfl,rfl⟩:=h;exact⟨by decide,by omega⟩
    ·have ih:=jqV m (((b0::r0).drop e).drop (jbY [1] ((b0::r0).drop e))) (i+e+jbY [1] ((b0::r0).drop e)) (if t.kind ≠ 5 then((i+e:Nat):Int)else -1);have hsp:=jgP [1] ((b0::r0).drop e);have hl:(((b0::r0).drop e).drop (jbY [1] ((b0::r0).drop e))).length=(b0::r0).length-e-jbY [1] ((b0::r0).drop e):=by rw[Qo,Qo]
     rw[Qo]at hsp;rw[hl]at ih;have e1:i+e+jbY [1] ((b0::r0).drop e)+((b0::r0).length-e-jbY [1] ((b0::r0).drop e))=i+(b0::r0).length:=by omega
     rw[e1]at ih;generalize jgs m _ _ _=q at *;obtain⟨l,r⟩:=q;simp only at ih ⊢;refine⟨?_,ih.2⟩;intro u hu
     rcases Qv.1 hu with rfl|hu
     ·refine⟨?_,?_,k1.2⟩
      ·show(0:Int)<=((i:Nat):Int);omega
      ·show((i:Nat):Int)<=_;omega
     ·exact ih.1 u hu
   ·refine⟨by simp,λx k h => ?_⟩;simp only[Kg,Kh]at h;obtain⟨rfl,rfl⟩:=h;exact⟨by assumption,by omega⟩
theorem toksD_rg(s:List UInt8):(∀t∈(toksD s).1,0<=t.pos/\t.pos<=s.length/\(t.kind=1->t.text ≠ []))/\∀x k,(toksD s).2=some (x,k)->x ≠ 0/\k<=s.length:=by
 have h:=jqV (s.length+1) (s.drop (jbY [1] s)) (jbY [1] s) (-1)
 have e:jbY [1] s+(s.drop (jbY [1] s)).length=s.length:=by
  have:=jgP [1] s;rw[Qo];omega
 rw[e]at h;exact h
end T
open Classical in
def mkF(n d:Int):List UInt8:=if h:∃(s:List UInt8) (e:Int),∀O,jas env (ev env) 67 [.str (jfS n),.str (jfS d)] O=some (.tup [.str s,.int .i64 e],O)then Classical.choose h else []
theorem jub(n:Nat)(hn:n<=1000000000):I.DgsOf n (jfS n):=by
 obtain⟨s,hs,hd⟩:=I.itoa_dgs n (by omega);have h1:=jt8 n (by omega) (by omega) S.empty;rw[jtT hs]at h1;simp only[Kg,Kh,V.str.injEq,and_true]at h1;rw[<- h1];exact hd
theorem jvM:jfS (1000000000:Nat)=A.mil:=by
 have h0:∀O,jas I.env (ev I.env) 65 [.int .i64 1000000000] O=some (.str A.mil,O):=jeo rfl rfl rfl (k:=20) (by rw[<- jgi];kernel_rfl);have h1:=jt8 1000000000 (by decide) (by decide) S.empty;rw[jtT h0]at h1;simp only[Kg,Kh,V.str.injEq,and_true]at h1;exact h1.symm
theorem jzC(n d:Nat)(hn:n<=1000000000)(hd:d<=1000000000)(h1:1<=d):∃(s:List UInt8) (e:Int),∀O,jas env (ev env) 67 [.str (jfS n),.str (jfS d)] O=some (.tup [.str s,.int .i64 e],O):=by
 have hf:env.hook 67=some jtS:=rfl;have hn1:=jub n hn;have hd1:=jub d hd;by_cases hm:jfS n=A.mil/\jfS d=A.mil
 ·refine⟨[49],0,λO => ?_⟩;unfold jas;rw[hf];simp only[jtS,hm,and_self,Ku,Kx]
 ·have hnd:¬(n=1000000000/\d=1000000000):=by
   rintro⟨rfl,rfl⟩;have e:jfS (1000000000:Nat)=A.mil:=jvM;exact hm ⟨e,e⟩
  obtain⟨_,⟨s,e,rfl⟩,hc⟩:=R.ratmake_call hn1 hd1 hn hd h1 hnd;refine⟨s,e,λO => ?_⟩;unfold jas;rw[hf];simp only[jtS,Kj hm,jfO hc,Kx]
theorem mk_F(l:List Tk)(en:Int):MkOK l en jfS mkF mkF:=by
 intro j n d k _ _ hd0 hn0 hn1 hdn hd1;obtain⟨n,rfl⟩:∃a:Nat,n=a:=⟨n.toNat,by omega⟩;obtain⟨d,rfl⟩:∃a:Nat,d=a:=⟨d.toNat,by omega⟩;have h:=jzC n d (by omega) (by omega) (by omega);have hs:(mkF n d)=Classical.choose h:=by unfold mkF;rw[dif_pos h]
 rw[hs];exact Vy h
def jda(s:List UInt8):Except Fl Qry :=
 if 2000<s.length then .error (4,2000)else
 match T.toksD s with
 |(l,none)=>jck (l.map T.tkOf) (s.length:Nat) jfS mkF
 |(_,some (x,i))=>.error (x,i)
theorem jib(s:List UInt8)(hs:s.length<=4000):∃v,PV (jda s) v/\∀O,jas env (ev env) 10 [.str s] O=some (v,O):=by
 have hA:=T.toksD_all s;have hS:=jxH s;have hE:=T.toksD_rg s;have hsp:=jt9 s hs;unfold T.splitD at hsp;unfold jda;by_cases h2:2000<s.length
 ·rw[Ki h2];rw[Ki h2]at hsp;exact joh s 4 2000 (by decide) _ rfl hsp
 ·rw[Kj h2];rw[Kj h2]at hsp;generalize T.toksD s=r at *;obtain⟨l,_|⟨x,i⟩⟩:=r
  ·exact jvK (lv:=T.toksV l) (me:=mkF) (jzB l) (by rw[Ju];have:=hA.1;simp only at this;omega) hS jt8 s (mk_F _ _) hsp
  ·exact joh s x i (hE.2 x i rfl).1 _ rfl hsp
theorem joj(s:List UInt8)(hs:s.length<=2000):match jda s with
  | .ok q=>Sq q/\0<q.bits
  | .error e=>Bad (s.length:Nat) e:=by
 have hE:=T.toksD_rg s;have hA:=T.toksD_all s;unfold jda;rw[Kj (by omega)];generalize T.toksD s=r at *;obtain⟨l,_|⟨x,i⟩⟩:=r
 ·refine juI ⟨by omega,?_,?_,?_⟩ jfS mkF
  ·intro t ht;obtain⟨u,hu,rfl⟩:=Xc.1 ht;have:=hE.1 u hu;exact⟨this.1,this.2.1⟩
  ·intro t ht hk;obtain⟨u,hu,rfl⟩:=Xc.1 ht;exact(hE.1 u hu).2.2 hk
  ·intro t ht hk;obtain⟨u,hu,rfl⟩:=Xc.1 ht;exact(hA.2 u hu).1.1
 ·obtain⟨h1,h2⟩:=hE.2 x i rfl;exact⟨h1,by simp,by simp;omega⟩
set_option maxRecDepth 1000000
theorem at40:env.P.funcs[40]? = some Tryz.f40:=by kernel_rfl
def zQ:List V:=qC Qry.zero .nilsl .nilsl .nilsl
theorem jic:zQ.length=20:=rfl
theorem jqW:zQ.all V.isCell=true:=rfl
theorem jfT:zQ.drop 20=[]:=rfl
theorem jem:(V.agg zQ).cells=zQ:=rfl
theorem zq29:jbG env 29=some (.agg zQ):=z29
theorem bdq:jci env 29 []=some (.agg zQ):=by kernel_rfl
theorem ldq(o:AObj):jai [.cells zQ 29,o] 20 (.ptr 0 0)=some zQ:=rfl
theorem ld32(o:AObj)(a b:V):jai [o,.cells [a,b] 32] 2 (.ptr 1 0)=some [a,b]:=rfl
theorem jok(O:S):jas env (ev env) 12 [.agg zQ,.agg zQ] O=some (.bool true,O):=jeo rfl rfl rfl (k:=20) (by rw[<- jgi];kernel_rfl) O
def brk:List UInt8:=(T.asc "count from t where ")++List.replicate 51 91
def jww(s:List UInt8)(e:Fl)(itoa:Int->List UInt8)(mk:Int->Int->List UInt8):Bool :=
 match T.toksD s with
 |(l,none)=>(match jck (l.map T.tkOf) (s.length:Nat) itoa mk with| .ok _=>false| .error x=>x.1==e.1 && x.2==e.2)
 |(_,some (x,i))=>x==e.1 && (i:Int)==e.2
theorem jzD(itoa:Int->List UInt8)(mk:Int->Int->List UInt8):jww brk (4,69) itoa mk=true:=by kernel_rfl
theorem jBp:jda brk=.error (4,69):=by
 have h:=jzD jfS mkF;unfold jww at h;unfold jda;rw[Kj (by decide +kernel)];generalize T.toksD brk=r at *;obtain⟨l,_|⟨x,i⟩⟩:=r
 ·simp only at h ⊢;generalize jck _ _ _ _=q at *
  match q,h with
  | .error x,h =>
   simp only[K8,beq_iff_eq]at h;obtain⟨a,b⟩:=x;simp only at h;rw[h.1,h.2]
 ·simp only[K8,beq_iff_eq]at h;simp only[h.1,h.2]
theorem jvN(O:S):jas env (ev env) 40 [.str brk,.int .i64 4,.int .i64 69] O=some (.bool true,O):=by
 obtain⟨v,hv,hc⟩:=jib brk (by decide +kernel);rw[jBp]at hv;have hv:v=.tup [.agg zQ,.agg [.int .i64 4,.int .i64 69]]:=hv;subst hv;refine jau rfl rfl rfl at40 rfl (by simp[Tryz.f40]) (U4 rfl) (jar ?_) O;simp only[Tryz.f40,Ka,simprocAttr,Uy,Ke,Uz,jab,jap,hc,zq29,z32,s29,s32,jem,jic,jqW,jfT,Qx,al29,al32,ldq,ld32,bdq,bd32,jok,eq32];exact⟨rfl,rfl⟩
theorem jxI:jfi A.env 40 [.str brk,.int .i64 4,.int .i64 69] (.bool true):=λY O w xs hw hg hx=>jcU env_ok (λt r h=>jgB env_ok h) (jvN O) hw hg hx
namespace A
def k4:RTab:=[(40,[.str brk,.int .i64 4,.int .i64 69],.bool true)]
def kAll:RTab:=k1++(k2++(k3++k4))
theorem jxJ:∀p∈kAll,jfi env p.1 p.2.1 p.2.2:=λp hp=>by
 unfold kAll at hp
 rcases Ur.1 hp with h|h
 ·exact jy5 p h
 rcases Ur.1 h with h|h
 ·exact jA0 p h
 rcases Ur.1 h with h|h
 ·exact jA1 p h
 ·obtain rfl:=X9.1 h;exact jxI
theorem known_row:jfi env 15 [] (.bool true):=jfi.untab (T:=kAll) (jfj (env_ok.tab jxJ) rfl (k:=80) (by kernel_rfl))
end A
end Go.Proofs.YtpclebdkhpapjaaGreatDoor
namespace Go.Proofs.YtpclebdkhpapjaaGreatDoor.Q
open Go.Ab
set_option maxHeartbeats 8000000
set_option maxRecDepth 100000
def jkm:List Nat:=[12,16,17,18,20,34,35,41]
def jxs:List Nat:=[8,14,19,21]
def jzE(f:FuncId):Option (List V->Option V):=match memN f jxs with|true=>some (jgt T.env f)|false=>match Nat.beq f 10 with|true=>some (jgt YtpclebdkhpapjaaGreatDoor.env 10)|false=>match Nat.beq f 15 with|true=>some jvv|false=>none
def env:Env:={ P:=Tryz.prog,pure:=λf=>memN f jkm,mutb:=λf _=>false,gl:=glV,hook:=jzE }
theorem env_ok:env.Ok :=
  { mixed:=by kernel_rfl
    glc:=jlD
    hook := λf g h=>by
      simp only[env,jzE]at h;split at h
      · simp only[Kg]at h
        subst h;intro args v hv Y O w xs hw hg hx;exact jfP T.env_ok hv hw hg hx
      · split at h
        · rename_i hf
          have e:=Qw hf;subst e;simp only[Kg]at h;subst h;intro args v hv Y O w xs hw hg hx;exact jfP YtpclebdkhpapjaaGreatDoor.env_ok hv hw hg hx
        split at h
        · rename_i hf
          have e:=Qw hf;subst e;simp only[Kg]at h;subst h;intro args v hv Y O w xs hw hg hx;unfold jvv at hv;split at hv
          · simp only[Kg]at hv
            subst hv;exact A.known_row Y O w xs hw hg hx
          · simp at hv
        · simp at h }
theorem jpC {args:List V}{v:V}(h:∀O,jas YtpclebdkhpapjaaGreatDoor.env (ev YtpclebdkhpapjaaGreatDoor.env) 10 args O=some (v,O))(rec:Task->Option Res)(O:S):jas env rec 10 args O=some (v,O):=by
 have hf:env.hook 10=some (jgt YtpclebdkhpapjaaGreatDoor.env 10):=rfl;unfold jas;rw[hf];simp only[jfO h,Kx]
theorem jqS {f:FuncId}{args:List V}{v:V}(hf:env.hook f=some (jgt T.env f))(h:∀O,jas T.env (ev T.env) f args O=some (v,O))(rec:Task->Option Res)(O:S):jas env rec f args O=some (v,O):=by
 unfold jas;rw[hf];simp only[jfO h,Kx]
theorem jrJ(O:S):jas env (ev env) 15 [] O=some (.bool true,O):=rfl
open Go.Ab.PP
theorem tys:env.P.underlying 3=some (.int .i64)/\env.P.underlying 4=some .bool/\env.P.underlying 9=some .string/\env.P.underlying 25=some (.slice 71)/\env.P.underlying 26=some (.slice 73)/\env.P.underlying 27=some .string/\env.P.underlying 30=some (.int .i64)/\env.P.underlying 43=some (.slice 47) /\
  sz env 3=some 1/\sz env 4=some 1/\sz env 9=some 1/\sz env 25=some 1/\sz env 26=some 1/\sz env 27=some 1/\sz env 30=some 1/\sz env 43=some 1/\sz env 71=some 3/\sz env 73=some 2/\sz env 47=some 4/\sz env 29=some 20/\sz env 32=some 2 :=
 ⟨by kernel_rfl,by kernel_rfl,by kernel_rfl,by kernel_rfl,by kernel_rfl,by kernel_rfl,by kernel_rfl,by kernel_rfl,by kernel_rfl,by kernel_rfl,by kernel_rfl,by kernel_rfl,by kernel_rfl,by kernel_rfl,by kernel_rfl,by kernel_rfl,by kernel_rfl,by kernel_rfl,by kernel_rfl,by kernel_rfl,by kernel_rfl⟩
theorem mb(f:FuncId)(r:Nat):env.mutb f r=false:=rfl
theorem stb(f:FuncId)(r:Nat):env.stab f r=false:=rfl
theorem Ke:type_of% (Kf @mb (Kf @stb @tys)):=Kf @mb (Kf @stb @tys)
theorem s71:sz env 71=some 3:=by kernel_rfl
theorem s29:sz env 29=some 20:=by kernel_rfl
theorem s32:sz env 32=some 2:=by kernel_rfl
theorem al1:(∀h p,jbi env h 3 p=(jai h 1 p).bind (·[0]?))/\(∀h p,jbi env h 4 p=(jai h 1 p).bind (·[0]?))/\(∀h p,jbi env h 9 p=(jai h 1 p).bind (·[0]?))/\(∀h p,jbi env h 25 p=(jai h 1 p).bind (·[0]?))/\(∀h p,jbi env h 26 p=(jai h 1 p).bind (·[0]?))/\(∀h p,jbi env h 27 p=(jai h 1 p).bind (·[0]?))/\(∀h p,jbi env h 30 p=(jai h 1 p).bind (·[0]?)) :=
 ⟨λ_ _=>jaY (by kernel_rfl),λ_ _=>jaY (by kernel_rfl),λ_ _=>jaY (by kernel_rfl),λ_ _=>jaY (by kernel_rfl),λ_ _=>jaY (by kernel_rfl),λ_ _=>jaY (by kernel_rfl),λ_ _=>jaY (by kernel_rfl)⟩
theorem al29(h:List AObj)(p:V):jbi env h 29 p=(jai h 20 p).map .agg:=by
 have g:Go.Ab.aggT env 29=some true:=by kernel_rfl
 unfold jbi;simp only[g,s29,Kn]
theorem al32(h:List AObj)(p:V):jbi env h 32 p=(jai h 2 p).map .agg:=by
 have g:Go.Ab.aggT env 32=some true:=by kernel_rfl
 unfold jbi;simp only[g,s32,Kn]
theorem fo29:ja5 env 29 0=some 0/\ja5 env 29 1=some 1/\ja5 env 29 2=some 2/\ja5 env 29 3=some 3/\ja5 env 29 4=some 4/\ja5 env 29 5=some 5/\ja5 env 29 6=some 6/\ja5 env 29 7=some 7/\ja5 env 29 8=some 8/\ja5 env 29 9=some 9/\ja5 env 29 10=some 10/\ja5 env 29 11=some 11/\ja5 env 29 12=some 12/\ja5 env 29 13=some 13/\ja5 env 29 14=some 14/\ja5 env 29 15=some 15/\ja5 env 29 16=some 16/\ja5 env 29 17=some 17/\ja5 env 29 18=some 18/\ja5 env 29 19=some 19/\ja5 env 32 0=some 0/\ja5 env 32 1=some 1/\ja5 env 71 0=some 0 :=
 ⟨by kernel_rfl,by kernel_rfl,by kernel_rfl,by kernel_rfl,by kernel_rfl,by kernel_rfl,by kernel_rfl,by kernel_rfl,by kernel_rfl,by kernel_rfl,by kernel_rfl,by kernel_rfl,by kernel_rfl,by kernel_rfl,by kernel_rfl,by kernel_rfl,by kernel_rfl,by kernel_rfl,by kernel_rfl,by kernel_rfl,by kernel_rfl,by kernel_rfl,by kernel_rfl⟩
theorem jt6:env.P.eqGuardType env.P.depth 32=false:=by kernel_rfl
theorem jt7(k k' n n':Int):eqT env 8 32 (.agg [.int .i64 k,.int .i64 n]) (.agg [.int .i64 k',.int .i64 n']) =
  (some (k==k')).bind λr=>if r then(some (n==n')).bind λr=>if r then some true else some false else some false:=by kernel_rfl
theorem jiO(t:TypeId)(c:Bool)(op:BinOp)(a b:List V):binO env t c op (some (.agg a)) (some (.agg b))=je7 env t op (.agg a) (.agg b):=by
 have:binO env t c op (some (.agg a)) (some (.agg b))=jdd env t c op (.agg a) (.agg b):=rfl;rw[this];unfold jdd;rw[jlK]
theorem eq32(c:Bool)(k n k' n':Int):binO env 32 c .eql (some (.agg [.int .i64 k,.int .i64 n])) (some (.agg [.int .i64 k',.int .i64 n']))=some (.bool (decide (k=k'/\n=n'))):=by
 rw[jiO];simp only[je7,jt6,jt7];by_cases h1:k=k'<;>by_cases h2:n=n'<;>simp[h1,h2]
theorem ne32(c:Bool)(k n k' n':Int):binO env 32 c .neq (some (.agg [.int .i64 k,.int .i64 n])) (some (.agg [.int .i64 k',.int .i64 n']))=some (.bool (!decide (k=k'/\n=n'))):=by
 rw[jiO];simp only[je7,jt6,jt7];by_cases h1:k=k'<;>by_cases h2:n=n'<;>simp[h1,h2]
theorem jmF:jci env 32 []=some (.agg [.int .i64 0,.int .i64 0]):=by kernel_rfl
theorem bd32(k n:Int):jci env 32 [(0,.int .i64 k),(1,.int .i64 n)]=some (.agg [.int .i64 k,.int .i64 n]):=by kernel_rfl
theorem z32:jbG env 32=some (.agg [.int .i64 0,.int .i64 0]):=by kernel_rfl
theorem zq29:jbG env 29=some (.agg zQ):=by kernel_rfl
theorem bdq:jci env 29 []=some (.agg zQ):=by kernel_rfl
theorem jok(O:S):jas env (ev env) 12 [.agg zQ,.agg zQ] O=some (.bool true,O):=jeo rfl rfl rfl (k:=20) (by rw[<- jgi];kernel_rfl) O
structure IsZ (Z:List V):Prop where
 len:Z.length=20
 all:Z.all V.isCell=true
theorem IsZ.ld {Z:List V}(h:IsZ Z)(o:AObj):jai [.cells Z 29,o] 20 (.ptr 0 0)=some Z:=by
 simp only[jai,Qr,Jn];rw[Ki (by rw[h.len];exact Kw _),Qi (by rw[h.len];exact Kw _)]
theorem isZ {Q:Qry}{a b c:V}{n m k:Nat}{x y z:List V}(h1:RowU a n x)(h2:RowU b m y)(h3:RowU c k z):IsZ (qC Q a b c):=by
 have e:∀{v:V} {n:Nat} {x:List V},RowU v n x->v.isCell=true:=λh=>by rcases h with⟨rfl,_⟩|rfl<;>rfl
 exact⟨rfl,by simp only[qC,Jz,Ud,e h1,e h2,e h3];rfl⟩
theorem juc {v:V}{n:Nat}{cs:List V}(h:RowU v n cs)(e:TypeId):jes (some (.slice e)) v=some (.int .i64 n):=by
 rcases h with⟨rfl,rfl,_⟩|rfl<;>rfl
theorem jud {v:V}{n:Nat}{cs:List V}(h:RowU v n cs)(w:Nat){i:Nat}(hi:i<n):jaJ w v (.int .i64 i)=some (.rptr (cs.drop (i*w))):=by
 rcases h with⟨rfl,rfl,_⟩|rfl
 ·omega
 ·simp[jaJ,hi]
theorem jjd:∀cs:List V,(∀v∈cs,(∃k n,v=.int k n)\/∃s,v=.str s)->V.closed.closedL cs=true
 | [],_=>rfl
 |c::cs,h=>by
  have ih:=jjd cs λv hv=>h v (Ut _ hv)
  rcases h c (List.mem_cons_self ..)with⟨k,n,rfl⟩|⟨s,rfl⟩<;>simp[V.closed.closedL,V.closed,ih]
theorem jdI {v:V}{n:Nat}{cs:List V}(h:RowU v n cs)(hc:∀v∈cs,(∃k n,v=.int k n)\/∃s,v=.str s):v.closed=true:=by
 rcases h with⟨rfl,_,_⟩|rfl
 ·rfl
 ·simp only[V.closed,jjd cs hc];rfl
theorem jqX:∀(l:List Nd) (i:Nat),(jbS l).drop (i*3)=jbS (l.drop i)
 | [],i=>by simp[jbS]
 |c::cs,0=>by simp
 |c::cs,i+1=>by
  have e:jbS (c::cs)=jbO c++jbS cs:=rfl;rw[e,Xi,<- jqX cs i,show(i+1)*3=3+i*3 by omega,<- Xf];rfl
theorem jqY {l:List Nd}{i:Nat}{t:Nd}(h:l[i]? = some t):(jbS l).drop (i*3)=jbO t++jbS (l.drop (i+1)):=by
 rw[jqX,jjA h];rfl
theorem at16:env.P.funcs[16]? = some Tryz.f16:=by kernel_rfl
theorem at41:env.P.funcs[41]? = some Tryz.f41:=by kernel_rfl
theorem jrK(o:Int)(O:S):jas env (ev env) 41 [.int .i64 o] O=some (.int .i64 (ar o:Nat),O):=by
 refine jau rfl rfl rfl at41 rfl (by simp[Tryz.f41]) (U4 rfl) (jar ?_) O;unfold ar;by_cases h1:o=1
 ·subst h1;simp only[Tryz.f41,Ka,simprocAttr,Uy,Ke,U2];rfl
 by_cases h2:o=2
 ·subst h2;simp only[Tryz.f41,Ka,simprocAttr,Uy,Ke,U2];rfl
 by_cases h3:o=3
 ·subst h3;simp only[Tryz.f41,Ka,simprocAttr,Uy,Ke,U2];rfl
 by_cases h7:o=7
 ·subst h7;simp only[Tryz.f41,Ka,simprocAttr,Uy,Ke,U2];rfl
 by_cases h17:o=17
 ·subst h17;simp only[Tryz.f41,Ka,simprocAttr,Uy,Ke,U2];rfl
 by_cases h8:o=8
 ·subst h8;simp only[Tryz.f41,Ka,simprocAttr,Uy,Ke,U2];rfl
 have c1:=eq_false h1;have c2:=eq_false h2;have c3:=eq_false h3;have c7:=eq_false h7;have c17:=eq_false h17;have c8:=eq_false h8;rw[Kj (by omega),Kj (by omega),Kj h8];simp only[Tryz.f41,Ka,simprocAttr,Uy,Ke,U2,c1,c2,c3,c7,c17,c8];rfl
theorem jBq(o:Int):ar o<=3:=by unfold ar;split<;>(try split)<;>(try split)<;>omega
theorem jpD {v:V}{l:List Nd}(hv:RowU v l.length (jbS l))(hl:l.length<=100000)(O:S):jas env (ev env) 16 [v] O=some (.bool (decide (hgt l 0=some 1)),O):=by
 have hlen:=juc hv;obtain⟨R,hR⟩:∃R,hgt l 0=R:=⟨_,rfl⟩;rw[hR];refine jau rfl rfl (by simp[jdI hv (jcH l)]) at16 rfl (by simp[Tryz.f16]) (U4 rfl) (jar ?_) O;simp only[Tryz.f16,Ka,simprocAttr,Uy,Ke,U2];refine jbo (λm T D O=>D=[]/\O=⟨[],[]⟩/\T 0=v/\∃i h:Nat,m=l.length-i/\i<=l.length/\h<=i/\T 3=.int .i64 h/\T 4=.int .i64 i/\hgt (l.drop i) h=R) ?_ l.length _ _ _ ⟨rfl,rfl,rfl,0,0,rfl,Qk _,Kw _,rfl,rfl,hR⟩;rintro m T D O ⟨rfl,rfl,t0,i,h,hm,hi,hh,t3,t4,hg⟩;refine jar ?_;by_cases hlt:i<l.length
 ·have c0:((i:Int)<(l.length:Int))=True:=eq_true (by omega);obtain⟨x,hx⟩:∃x,l[i]? = some x:=⟨l[i],K5 hlt⟩;have hix:=jud hv 3 hlt;rw[jqY hx]at hix;have hld:∀H:List AObj,(jai H 1 (.rptr (List.drop 0 (jbO x++jbS (l.drop (i+1)))))).bind (·[0]?)=some (.int .i64 x.op):=λH=>by simp[jai,jbO]
  have hc:=jrK x.op;have ha:=jBq x.op;rw[jjA hx]at hg;unfold hgt at hg;by_cases hs:h<ar x.op
  ·rw[Ki hs]at hg;have c1:((h:Int)<((ar x.op:Nat):Int))=True:=eq_true (by omega);have hd:decide (R=some 1)=false:=by rw[<- hg];rfl
   simp only[Ka,simprocAttr,Uy,Ke,Vq,t0,t3,t4,hlen,c0,hix,fo29,al1,hld,hc,c1,hd];rfl
  ·rw[Kj hs]at hg;have c1:((h:Int)<((ar x.op:Nat):Int))=False:=eq_false (by omega);have e1:IntKind.i64.wrap ((h:Int)-((ar x.op:Nat):Int))=((h-ar x.op:Nat):Int):=by rw[wrap_i64 (by omega) (by omega)];omega
   have e2:IntKind.i64.wrap (((h-ar x.op:Nat):Int)+1)=((h-ar x.op+1:Nat):Int):=by rw[wrap_i64 (by omega) (by omega)];omega
   have e3:IntKind.i64.wrap ((i:Int)+1)=((i+1:Nat):Int):=by rw[wrap_i64 (by omega) (by omega)];omega
   simp only[Ka,simprocAttr,Uy,Ke,Vq,t0,t3,t4,hlen,c0,hix,fo29,al1,hld,hc,c1,e1,e2,e3];exact⟨l.length-(i+1),by omega,i+1,h-ar x.op+1,rfl,by omega,by omega,rfl,rfl,hg⟩
 ·have hi2:i=l.length:=by omega
  subst hi2;rw[List.drop_length]at hg;have c0:((l.length:Int)<(l.length:Int))=False:=eq_false (by omega);simp only[Ka,simprocAttr,Uy,Ke,Vq,t0,t3,t4,hlen,c0]
  have hd:decide (R=some 1)=decide ((h:Int)=1):=by
   rw[<- hg];simp only[hgt,Kg];exact decide_eq_decide.2 (by omega)
  rw[hd];rfl
theorem at34:env.P.funcs[34]? = some Tryz.f34:=by kernel_rfl
theorem at35:env.P.funcs[35]? = some Tryz.f35:=by kernel_rfl
theorem u26:env.P.underlying 26=some (.slice 73):=by kernel_rfl
theorem at12:env.P.funcs[12]? = some Tryz.f12:=by kernel_rfl
theorem jBr:env.P.eqGuardType env.P.depth 71=false:=by kernel_rfl
theorem jBs(a a' n n':Int)(x y:List UInt8):eqT env 8 71 (.agg [.int .i64 a,.int .i64 n,.str x]) (.agg [.int .i64 a',.int .i64 n',.str y]) =
  (some (a==a')).bind λr=>if r then(some (n==n')).bind λr=>if r then(some (x==y)).bind λr=>if r then some true else some false else some false else some false:=by kernel_rfl
theorem ne71(c:Bool)(t:Nd):binO env 71 c .neq (some (.agg (jbO t))) (some (.agg (jbO t)))=some (.bool false):=by
 have:binO env 71 c .neq (some (.agg (jbO t))) (some (.agg (jbO t)))=jdd env 71 c .neq (.agg (jbO t)) (.agg (jbO t)):=rfl;rw[this];unfold jdd;rw[jlK];simp only[je7,jBr,jbO,jBs];simp
theorem al71(h:List AObj)(p:V):jbi env h 71 p=(jai h 3 p).map .agg:=by
 have g:Go.Ab.aggT env 71=some true:=by kernel_rfl
 unfold jbi;simp only[g,s71,Kn]
theorem ld3(h:List AObj)(t:Nd)(r:List V):jai h 3 (.rptr (jbO t++r))=some (jbO t):=by
 simp[jai,jbO]
theorem jwx(l:List Nd){v w:V}(hv:RowU v l.length (jbS l))(hw:RowU w l.length (jbS l))(hl:l.length<=100000)(O:S):jas env (ev env) 34 [v,w] O=some (.bool true,O):=by
 have cv:=jdI hv (jcH l);have cw:=jdI hw (jcH l);refine jau rfl rfl (by simp only[Jz,Ud,cv,cw];rfl) at34 rfl (by simp[Tryz.f34]) (U4 rfl) (jar ?_) O;have l1:=juc hv;have l2:=juc hw;simp only[Tryz.f34,Ka,simprocAttr,Uy,Ke,U2,l1,l2];refine jbo (λm T D O=>D=[]/\T 0=v/\T 1=w/\O=⟨[],[]⟩/\∃(i:Nat),T 5=.int .i64 i/\i<=l.length/\m=l.length-i) ?_ (l.length-0) _ _ _ ⟨rfl,rfl,rfl,rfl,0,rfl,by omega,rfl⟩;rintro m T D O ⟨rfl,t0,t1,rfl,i,t3,hi,rfl⟩;refine jar ?_;by_cases hlt:i<l.length
 ·have c1:(i:Int)<(l.length:Int):=by omega
  have e1:IntKind.i64.wrap ((i:Int)+1)=((i+1:Nat):Int):=by rw[wrap_i64 (by omega) (by omega)];omega
  obtain⟨t,ht⟩:∃t,l[i]? = some t:=⟨_,K5 hlt⟩;have i1:=jud hv 3 hlt;have i2:=jud hw 3 hlt;rw[jqY ht]at i1 i2;simp only[Ka,simprocAttr,Uy,Ke,Vq,t0,t1,t3,c1,e1,l1,l2,i1,i2,al71,ld3,ne71,s71]
  first|exact⟨by kernel_rfl,l.length-(i+1),by omega,i+1,rfl,by omega,rfl⟩|exact⟨l.length-(i+1),by omega,i+1,rfl,by omega,rfl⟩
 ·have c1:¬(i:Int)<(l.length:Int):=by omega
  simp only[Ka,simprocAttr,Uy,Ke,Vq,t0,t1,t3,c1,l1,l2];simp only[jaW,jay,jbj]
theorem jBt:env.P.eqGuardType env.P.depth 73=false:=by kernel_rfl
theorem jBu(a a' n n':Int):eqT env 8 73 (.agg [.int .i64 a,.int .i64 n]) (.agg [.int .i64 a',.int .i64 n']) =
  (some (a==a')).bind λr=>if r then(some (n==n')).bind λr=>if r then some true else some false else some false:=by kernel_rfl
def jfZ(r:Int × Int):List V:=[.int .i64 r.1,.int .i64 r.2]
theorem jvO {l:List (Int × Int)}{i:Nat}{t:Int × Int}(h:l[i]? = some t):(jel l).drop (i*2)=jfZ t++jel (l.drop (i+1)):=by
 have:∀(l:List (Int × Int)) (i:Nat),(jel l).drop (i*2)=jel (l.drop i):=by
  intro l
  induction l with
  |nil=>intro i;simp[jel]
  | cons c cs ih =>
   intro i;cases i with
   |zero=>simp
   |succ i =>
    have e:jel (c::cs)=jfZ c++jel cs:=rfl;rw[e,Xi,<- ih,show(i+1)*2=2+i*2 by omega,<- Xf];rfl
 rw[this,jjA h];rfl
theorem ne73(c:Bool)(t:Int × Int):binO env 73 c .neq (some (.agg (jfZ t))) (some (.agg (jfZ t)))=some (.bool false):=by
 have:binO env 73 c .neq (some (.agg (jfZ t))) (some (.agg (jfZ t)))=jdd env 73 c .neq (.agg (jfZ t)) (.agg (jfZ t)):=rfl;rw[this];unfold jdd;rw[jlK];simp only[je7,jBt,jfZ,jBu];simp
theorem s73':sz env 73=some 2:=by kernel_rfl
theorem al73(h:List AObj)(p:V):jbi env h 73 p=(jai h 2 p).map .agg:=by
 have g:Go.Ab.aggT env 73=some true:=by kernel_rfl
 unfold jbi;simp only[g,s73',Kn]
theorem ld2(h:List AObj)(t:Int × Int)(r:List V):jai h 2 (.rptr (jfZ t++r))=some (jfZ t):=by
 simp[jai,jfZ]
theorem jzF(l:List (Int × Int)){v w:V}(hv:RowU v l.length (jel l))(hw:RowU w l.length (jel l))(hl:l.length<=100000)(O:S):jas env (ev env) 35 [v,w] O=some (.bool true,O):=by
 have cv:=jdI hv (jeJ l);have cw:=jdI hw (jeJ l);refine jau rfl rfl (by simp only[Jz,Ud,cv,cw];rfl) at35 rfl (by simp[Tryz.f35]) (U4 rfl) (jar ?_) O;have l1:=juc hv;have l2:=juc hw;simp only[Tryz.f35,Ka,simprocAttr,Uy,Ke,U2,l1,l2,u26];refine jbo (λm T D O=>D=[]/\T 0=v/\T 1=w/\O=⟨[],[]⟩/\∃(i:Nat),T 5=.int .i64 i/\i<=l.length/\m=l.length-i) ?_ (l.length-0) _ _ _ ⟨rfl,rfl,rfl,rfl,0,rfl,by omega,rfl⟩;rintro m T D O ⟨rfl,t0,t1,rfl,i,t3,hi,rfl⟩;refine jar ?_;by_cases hlt:i<l.length
 ·have c1:(i:Int)<(l.length:Int):=by omega
  have e1:IntKind.i64.wrap ((i:Int)+1)=((i+1:Nat):Int):=by rw[wrap_i64 (by omega) (by omega)];omega
  obtain⟨t,ht⟩:∃t,l[i]? = some t:=⟨_,K5 hlt⟩;have i1:=jud hv 2 hlt;have i2:=jud hw 2 hlt;rw[jvO ht]at i1 i2;simp only[Ka,simprocAttr,Uy,Ke,Vq,t0,t1,t3,c1,e1,l1,l2,i1,i2,al73,ld2,ne73,s73',u26]
  first|exact⟨by kernel_rfl,l.length-(i+1),by omega,i+1,rfl,by omega,rfl⟩|exact⟨l.length-(i+1),by omega,i+1,rfl,by omega,rfl⟩
 ·have c1:¬(i:Int)<(l.length:Int):=by omega
  simp only[Ka,simprocAttr,Uy,Ke,Vq,t0,t1,t3,c1,l1,l2,u26];simp only[jaW,jay,jbj]
theorem jBv:(∀(Q:Qry) (e w r:V),(qC Q e w r)[0]? = some (.int .i64 Q.kind))/\(∀(Q:Qry) (e w r:V),(qC Q e w r)[1]? = some (e))/\(∀(Q:Qry) (e w r:V),(qC Q e w r)[2]? = some (.int .i64 Q.lo))/\(∀(Q:Qry) (e w r:V),(qC Q e w r)[3]? = some (.int .i64 Q.hi))/\(∀(Q:Qry) (e w r:V),(qC Q e w r)[4]? = some (.int .i64 Q.p))/\(∀(Q:Qry) (e w r:V),(qC Q e w r)[5]? = some (.int .i64 Q.q))/\(∀(Q:Qry) (e w r:V),(qC Q e w r)[6]? = some (.str Q.column))/\(∀(Q:Qry) (e w r:V),(qC Q e w r)[7]? = some (.int .i64 Q.bound))/\(∀(Q:Qry) (e w r:V),(qC Q e w r)[8]? = some (r))/\(∀(Q:Qry) (e w r:V),(qC Q e w r)[9]? = some (.int .i64 Q.strategy))/\(∀(Q:Qry) (e w r:V),(qC Q e w r)[10]? = some (.bool Q.consistent))/\(∀(Q:Qry) (e w r:V),(qC Q e w r)[11]? = some (.str Q.table))/\(∀(Q:Qry) (e w r:V),(qC Q e w r)[12]? = some (.int .i64 Q.keep))/\(∀(Q:Qry) (e w r:V),(qC Q e w r)[13]? = some (.str Q.other))/\(∀(Q:Qry) (e w r:V),(qC Q e w r)[14]? = some (.str Q.left))/\(∀(Q:Qry) (e w r:V),(qC Q e w r)[15]? = some (.str Q.right))/\(∀(Q:Qry) (e w r:V),(qC Q e w r)[16]? = some (.int .i64 Q.limit))/\(∀(Q:Qry) (e w r:V),(qC Q e w r)[17]? = some (w))/\(∀(Q:Qry) (e w r:V),(qC Q e w r)[18]? = some (.str Q.factor))/\(∀(Q:Qry) (e w r:V),(qC Q e w r)[19]? = some (.int .i64 Q.bits)):=⟨λ_ _ _ _=>rfl,λ_ _ _ _=>rfl,λ_ _ _ _=>rfl,λ_ _ _ _=>rfl,λ_ _ _ _=>rfl,λ_ _ _ _=>rfl,λ_ _ _ _=>rfl,λ_ _ _ _=>rfl,λ_ _ _ _=>rfl,λ_ _ _ _=>rfl,λ_ _ _ _=>rfl,λ_ _ _ _=>rfl,λ_ _ _ _=>rfl,λ_ _ _ _=>rfl,λ_ _ _ _=>rfl,λ_ _ _ _=>rfl,λ_ _ _ _=>rfl,λ_ _ _ _=>rfl,λ_ _ _ _=>rfl,λ_ _ _ _=>rfl⟩
theorem ldA(A B:List V)(k:Nat):(jai [.cells A 29,.cells B 29] 1 (.ptr 0 k)).bind (·[0]?)=A[k]? := by
 rw[YA];rfl
theorem ldB(A B:List V)(k:Nat):(jai [.cells A 29,.cells B 29] 1 (.ptr 1 k)).bind (·[0]?)=B[k]? := by
 rw[YA];rfl
theorem jfU(Z:List V):(V.agg Z).cells=Z:=rfl
theorem jue(Q:Qry){e1 w1 r1 e2 w2 r2:V}(he:Q.expr.length<=100000)(hw:Q.wher.length<=100000)(hr:Q.ranges.length<=100000)(a1:RowU e1 Q.expr.length (jbS Q.expr))(a2:RowU w1 Q.wher.length (jbS Q.wher))(a3:RowU r1 Q.ranges.length (jel Q.ranges))
  (b1:RowU e2 Q.expr.length (jbS Q.expr)) (b2:RowU w2 Q.wher.length (jbS Q.wher)) (b3:RowU r2 Q.ranges.length (jel Q.ranges)) (O:S):jas env (ev env) 12 [.agg (qC Q e1 w1 r1),.agg (qC Q e2 w2 r2)] O=some (.bool true,O):=by
 have c1:=jdI a1 (jcH _);have c2:=jdI a2 (jcH _);have c3:=jdI a3 (jeJ _);have d1:=jdI b1 (jcH _);have d2:=jdI b2 (jcH _);have d3:=jdI b3 (jeJ _)
 have cl:([.agg (qC Q e1 w1 r1),.agg (qC Q e2 w2 r2)]:List V).all V.closed=true:=by
  simp only[Jz,Ud,V.closed,qC,V.closed.closedL,c1,c2,c3,d1,d2,d3];rfl
 refine jau rfl rfl cl at12 rfl (by simp[Tryz.f12]) (U4 rfl) (jar ?_) O;have x1:=jwx Q.expr a1 b1 he;have x2:=jwx Q.wher a2 b2 hw;have x3:=jzF Q.ranges a3 b3 hr;clear a1 a2 a3 b1 b2 b3 c1 c2 c3 d1 d2 d3 cl;have m1:(qC Q e1 w1 r1).length=20:=rfl;have m2:(qC Q e2 w2 r2).length=20:=rfl;simp -implicitDefEqProofs (maxSteps:=4000000) only[Tryz.f12,Ka,simprocAttr,Uy,Ke,Uz,jab,jap,s29,jfU,fo29,al1,u26,x1,x2,x3,ldA,ldB,jBv,Qz,Xd,eq_self,not_true_eq_false,decide_false,decide_true,jad,jac]
 trace_state
 rfl
end Go.Proofs.YtpclebdkhpapjaaGreatDoor.Q
namespace Go.Proofs.YtpclebdkhpapjaaGreatDoor
open Go.Ab
open Go.Ab.PP
set_option maxHeartbeats 8000000
set_option maxRecDepth 100000
theorem jrL {s:List UInt8}{q:Qry}(h:jda s=.ok q):s.length<=2000/\∃l,T.Sc s 0 (-1) l/\T.toksD s=(l,none)/\l ≠ []/\jck (l.map T.tkOf) (s.length:Nat) jfS mkF=.ok q:=by
 unfold jda at h;by_cases h2:2000<s.length
 ·rw[Ki h2]at h;cases h
 ·rw[Kj h2]at h;refine⟨by omega,?_⟩
  rcases hD:T.toksD s with⟨l,_|⟨x,i⟩⟩
  ·rw[hD]at h;refine⟨l,T.toksD_sc.1 hD,rfl,?_,h⟩;rintro rfl;have:jck (List.map T.tkOf []) (s.length:Nat) jfS mkF=.error (11,atP [] (s.length:Nat) 0):=rfl;simp only[]at h;rw[this]at h;cases h
  ·rw[hD]at h;cases h
end Go.Proofs.YtpclebdkhpapjaaGreatDoor
namespace Go.Proofs.YtpclebdkhpapjaaGreatDoor.Q
open Go.Ab
open Go.Ab.PP
set_option maxHeartbeats 8000000
set_option maxRecDepth 100000
theorem jzG {q:Qry}(h:Sq q):q.expr.length<=200/\q.wher.length<=200/\q.ranges.length<=64:=by
 obtain⟨h1,_,h3,_,h5⟩:=h;refine⟨?_,?_,h5⟩
 ·rcases h1 with⟨_,h⟩|⟨_,h⟩
  ·exact h.2
  ·rw[h];simp
 ·rcases h3 with h|h
  ·rw[h];simp
  ·exact h.2
theorem u43:env.P.underlying 43=some (.slice 47):=by kernel_rfl
theorem sadd(a b:List UInt8)(ha:a.length<=3000)(hb:b.length<=3000)(us:Option TypeDesc)(c:Bool):jbZ us c .add (.str a) (.str b)=some (.str (a++b)):=by
 rw[T.vBin_sadd,Ki (by simp only[lim];omega)]
end Go.Proofs.YtpclebdkhpapjaaGreatDoor.Q
namespace Go.Proofs.YtpclebdkhpapjaaGreatDoor
open Go.Ab
open Go.Ab.PP
set_option maxHeartbeats 8000000
set_option maxRecDepth 100000
def sS:List UInt8:=[115,117,109]
def mS:List UInt8:=[98,101,116,119,101,101,110,32,48,32,97,110,100,32,49,32,102,114,111,109,32,116,32,119,104,101,114,101]
def mT:List UInt8:=[98,101,116,119,101,101,110,32,48,32,97,110,100,32,49,32,102,114,111,109,32,116,32,119,105,116,104,32,102,97,99,116,111,114,32,50,32,98,105,116,115,32,56]
def cS:List UInt8:=[99,111,117,110,116,32,102,114,111,109,32,116,32,119,104,101,114,101]
def tS:List UInt8:=[119,105,116,104,32,102,97,99,116,111,114,32,50,32,98,105,116,115,32,56]
def txF(e c:List UInt8):List UInt8:=sS++32::(e++32::(mS++32::(c++32::tS)))
def txA(e:List UInt8):List UInt8:=sS++32::(e++32::mT)
def txB(c:List UInt8):List UInt8:=cS++32::(c++32::tS)
def wrp(a b:UInt8)(n:Nat)(e:List UInt8):List UInt8:=List.replicate n a++(e++List.replicate n b)
def st3(t:T.Tok):Tr:=(t.kind,t.text,t.n)
theorem map3(l:List T.Tok):(l.map T.tkOf).map jcy=(l.map T.core).map st3:=by
 rw[List.map_map,List.map_map];rfl
def tk(s:List UInt8):List T.Tok:=(T.toksD s).1.map T.core
theorem juf {s:List UInt8}(h:(T.toksD s).2=none):T.Lx s (tk s):=T.lx_const (l:=(T.toksD s).1) (by rw[<- h])
theorem k_s:T.Lx sS (tk sS)/\(tk sS).map st3=[sumA]:=⟨juf (by kernel_rfl),by kernel_rfl⟩
theorem k_m:T.Lx mS (tk mS)/\(tk mS).map st3=midS:=⟨juf (by kernel_rfl),by kernel_rfl⟩
theorem k_t:T.Lx tS (tk tS)/\(tk tS).map st3=endS:=⟨juf (by kernel_rfl),by kernel_rfl⟩
theorem k_a:T.Lx mT (tk mT)/\(tk mT).map st3=midA++endS:=⟨juf (by kernel_rfl),by kernel_rfl⟩
theorem k_c:T.Lx cS (tk cS)/\(tk cS).map st3=[cntW,w3 jnz,(1,[116],0),w3 jgo]:=⟨juf (by kernel_rfl),by kernel_rfl⟩
theorem jpE {s:List UInt8}{q:Qry}(h:jda s=.ok q):∃l:List T.Tok,T.Lx s (l.map T.core)/\jck (l.map T.tkOf) (s.length:Nat) jfS mkF=.ok q:=by
 obtain⟨_,l,hS,_,_,hp⟩:=jrL h;exact⟨l,⟨l,hS,rfl⟩,hp⟩
theorem rep3(c:UInt8)(n:Nat):(List.replicate n (T.sgT c)).map st3=rep c n:=by simp[rep,st3,T.sgT,sg]
theorem jmG {e c:List UInt8}{n:Nat}{q qA qB:Qry}(hl:(txF (wrp 40 41 n e) (wrp 91 93 n c)).length<=2000)(hF:jda (txF e c)=.ok q)(hA:jda (txA e)=.ok qA)(hB:jda (txB c)=.ok qB) :
  jda (txF (wrp 40 41 n e) (wrp 91 93 n c))=.ok q\/∃p,jda (txF (wrp 40 41 n e) (wrp 91 93 n c))=.error (4,p):=by
 obtain⟨lF,xF,pF⟩:=jpE hF;obtain⟨lA,xA,pA⟩:=jpE hA;obtain⟨lB,xB,pB⟩:=jpE hB;obtain⟨S1,r1,eF,h1,h2⟩:=T.lx_cut xF;obtain⟨E,r2,e1,hE,h2⟩:=T.lx_cut h2;obtain⟨M,r3,e2,hM,h2⟩:=T.lx_cut h2;obtain⟨C,r4,e3,hC,h2⟩:=T.lx_cut h2;rw[e1,e2,e3,T.lx_fun h1 k_s.1,T.lx_fun hM k_m.1,T.lx_fun h2 k_t.1]at eF;obtain⟨S2,r5,eA,h1,h2⟩:=T.lx_cut xA;obtain⟨E2,r6,e4,hE2,h2⟩:=T.lx_cut h2;rw[e4,T.lx_fun h1 k_s.1,T.lx_fun hE2 hE,T.lx_fun h2 k_a.1]at eA;obtain⟨S3,r7,eB,h1,h2⟩:=T.lx_cut xB;obtain⟨C2,r8,e5,hC2,h2⟩:=T.lx_cut h2;rw[e5,T.lx_fun h1 k_c.1,T.lx_fun hC2 hC,T.lx_fun h2 k_t.1]at eB;have gE:T.Lx (wrp 40 41 n e) _:=T.lx_pres (.inl rfl) (T.lx_sufs (.inl rfl) hE n) n;have gC:T.Lx (wrp 91 93 n c) _:=T.lx_pres (.inr (.inr (.inl rfl))) (T.lx_sufs (.inr rfl) hC n) n;have gG:T.Lx (txF (wrp 40 41 n e) (wrp 91 93 n c)) _:=T.lx_glue k_s.1 (T.lx_glue gE (T.lx_glue k_m.1 (T.lx_glue gC k_t.1)));obtain⟨lG,sG,eG⟩:=gG
 have hpG:jda (txF (wrp 40 41 n e) (wrp 91 93 n c))=jck (lG.map T.tkOf) ((txF (wrp 40 41 n e) (wrp 91 93 n c)).length:Nat) jfS mkF:=by
  unfold jda;rw[Kj (by omega),T.toksD_sc.2 sG]
 rw[hpG];refine juK (E:=E.map st3) (C:=C.map st3) (n:=n) ?_ ?_ ?_ ?_ pA pB pF
 ·rw[map3,eA];simp only[Ua,k_s.2,k_a.2];rfl
 ·rw[map3,eB];simp only[Ua,k_c.2,k_t.2];rfl
 ·rw[map3,eF];simp only[Ua,k_s.2,k_m.2,k_t.2];rfl
 ·rw[map3,eG];simp only[Ua,k_s.2,k_m.2,k_t.2,rep3,Jd];rfl
end Go.Proofs.YtpclebdkhpapjaaGreatDoor
namespace Go.Proofs.YtpclebdkhpapjaaGreatDoor.Q
open Go.Ab
open Go.Ab.PP
set_option maxHeartbeats 8000000
set_option maxRecDepth 100000
theorem at18:env.P.funcs[18]? = some Tryz.f18:=by kernel_rfl
def okP(r:Except Fl Qry):Bool:=match r with| .ok _=>true| .error _=>false
theorem jlU(s:List UInt8)(hl:s.length<=2000)(O:S):jas env (ev env) 18 [.str s] O=some (.bool (okP (jda s)),O):=by
 have hst:=joj s hl;obtain⟨v,hv,hc⟩:=jib s (by omega);have hp:=λO=>jpC hc (Go.Ab.ev env) O
 refine jau rfl rfl rfl at18 rfl (by simp[Tryz.f18]) (U4 rfl) (jar ?_) O;have l3:∀(o:AObj) (a b:V),jai [o,.cells [a,b] 32] 2 (.ptr 1 0)=some [a,b]:=λ_ _ _=>rfl
 cases hr:jda s with
 |error e =>
  rw[hr]at hv hst;obtain⟨e,a⟩:=e;obtain⟨he,ha0,ha1⟩:=hst;have hv:v=.tup [.agg zQ,.agg [.int .i64 e,.int .i64 a]]:=hv;subst hv;simp only at he ha0 ha1;have c3:=eq_false he;simp only[Tryz.f18,Ka,simprocAttr,Uy,Ke,Uz,jab,jap,hp,z32,zq29,s29,s32,jem,jic,jqW,jfT,Qx,al29,al32,l3,jmF,eq32,c3,false_and,decide_false]
  first|rfl|exact⟨rfl,rfl⟩
 |ok Q =>
  rw[hr]at hv hst;obtain⟨ev,wv,rv,hvv,b1,b2,b3⟩:=hv;subst hvv;have zB:=isZ (Q:=Q) b1 b2 b3;generalize qC Q ev wv rv=B at *;have m3:=zB.len;have m4:=zB.all;simp only[Tryz.f18,Ka,simprocAttr,Uy,Ke,Uz,jab,jap,hp,z32,zq29,s29,s32,jfU,jem,jic,jfT,m3,m4,Qx,al29,al32,l3,jmF,eq32]
  first|rfl|exact⟨rfl,rfl⟩
theorem at6:env.P.funcs[6]? = some Tryz.f6:=by kernel_rfl
def q1:List UInt8:=[115,117,109,32]
def q2:List UInt8:=[32,98,101,116,119,101,101,110,32,48,32,97,110,100,32,49,32,102,114,111,109,32,116,32,119,104,101,114,101,32]
def q3:List UInt8:=[32,119,105,116,104,32,102,97,99,116,111,114,32,50,32,98,105,116,115,32,56]
def q4:List UInt8:=[32,98,101,116,119,101,101,110,32,48,32,97,110,100,32,49,32,102,114,111,109,32,116,32,119,105,116,104,32,102,97,99,116,111,114,32,50,32,98,105,116,115,32,56]
def q5:List UInt8:=[99,111,117,110,116,32,102,114,111,109,32,116,32,119,104,101,114,101,32]
theorem jxK:q1=sS++[32]:=rfl
theorem jzH:q2=32::(mS++[32]):=rfl
theorem jxL:q3=32::tS:=rfl
theorem jBw:q4=32::mT:=rfl
theorem jBx:q5=cS++[32]:=rfl
theorem jug(c:UInt8):∀n,T.TM.repS n [c]=List.replicate n c
 |0=>rfl
 |n+1=>by rw[T.TM.repS_succ,jug c n,V2]
theorem tx_F(e c:List UInt8):q1++e++q2++c++q3=txF e c:=by
 simp only[jxK,jzH,jxL,txF,Jd,Ji,Jt]
theorem tx_A(e:List UInt8):q1++e++q4=txA e:=by
 simp only[jxK,jBw,txA,Jd,Ji,Jt]
theorem tx_B(c:List UInt8):q5++c++q3=txB c:=by
 simp only[jBx,jxL,txB,Jd,Ji,Jt]
theorem tx_G(e c:List UInt8)(n:Nat):q1++List.replicate n 40++e++List.replicate n 41++q2++List.replicate n 91++c++List.replicate n 93++q3=txF (wrp 40 41 n e) (wrp 91 93 n c):=by
 simp only[jxK,jzH,jxL,txF,wrp,Jd,Ji,Jt]
theorem jzI(e c:List UInt8):(txF e c).length=e.length+c.length+55:=by
 simp only[txF,sS,mS,tS,Kr,K0,K6];omega
theorem juh(a b:UInt8)(n:Nat)(e:List UInt8):(wrp a b n e).length=2*n+e.length:=by
 simp only[wrp,Kr,Xa];omega
theorem jdl(a b X:List UInt8)(hX:a++b=X)(ha:X.length<=3000)(us:Option TypeDesc)(c:Bool):jbZ us c .add (.str a) (.str b)=some (.str X):=by
 have hl:a.length+b.length=X.length:=by rw[<- hX];simp
 rw[sadd a b (by omega) (by omega),hX]
theorem jkW(e c:List UInt8)(x:Int):Go.Ab.Found env 6 [.str e,.str c,.int .i64 x]:=by
 refine joX at6 rfl (by simp[Tryz.f6]) (U4 rfl) (jar ?_);have hk:=jrJ;by_cases h1:(400:Int)<(e.length:Int)
 ·have c1:=eq_true h1;simp only[Tryz.f6,Ka,simprocAttr,Uy,Ke,U2,hk,jaL,c1];rfl
 have c1:=eq_false h1;by_cases h2:(400:Int)<(c.length:Int)
 ·have c2:=eq_true h2;simp only[Tryz.f6,Ka,simprocAttr,Uy,Ke,U2,hk,jaL,c1,c2];rfl
 have c2:=eq_false h2
 -- the texts
 have lF:=jzI e c;obtain⟨X1,hX1⟩:∃X,q1++e=X:=⟨_,rfl⟩;obtain⟨X2,hX2⟩:∃X,X1++q2=X:=⟨_,rfl⟩;obtain⟨X3,hX3⟩:∃X,X2++c=X:=⟨_,rfl⟩;have hX4:X3++q3=txF e c:=by rw[<- hX3,<- hX2,<- hX1,tx_F]
 have hA4:X1++q4=txA e:=by rw[<- hX1,tx_A]
 obtain⟨Y1,hY1⟩:∃X,q5++c=X:=⟨_,rfl⟩;have hB4:Y1++q3=txB c:=by rw[<- hY1,tx_B]
 have ln1:q1.length=4/\q2.length=30/\q3.length=21/\q4.length=44/\q5.length=19:=by decide
 have lX1:X1.length=4+e.length:=by rw[<- hX1,Kr];omega
 have lX2:X2.length=34+e.length:=by rw[<- hX2,Kr];omega
 have lX3:X3.length=34+e.length+c.length:=by rw[<- hX3,Kr];omega
 have lA:(txA e).length=48+e.length:=by rw[<- hA4,Kr];omega
 have lY1:Y1.length=19+c.length:=by rw[<- hY1,Kr];omega
 have lB:(txB c).length=40+c.length:=by rw[<- hB4,Kr];omega
 have a1:=jdl _ _ _ hX1 (by omega);have a2:=jdl _ _ _ hX2 (by omega);have a3:=jdl _ _ _ hX3 (by omega);have a4:=jdl _ _ _ hX4 (by omega);have a5:=jdl _ _ _ hA4 (by omega);have a6:=jdl _ _ _ hY1 (by omega);have a7:=jdl _ _ _ hB4 (by omega);simp only[q1,q2,q3,q4,q5]at a1 a2 a3 a4 a5 a6 a7;obtain⟨v,hv,hc⟩:=jib (txF e c) (by omega);have hst:=joj (txF e c) (by omega);have hp:=λO=>jpC hc (ev env) O
 have wA:=jlU (txA e) (by omega);have wB:=jlU (txB c) (by omega);have l2:∀(o:AObj) (a b:V),jai [o,.cells [a,b] 32] 2 (.ptr 1 0)=some [a,b]:=λ_ _ _=>rfl
 have l4:∀(o o2 o3:AObj) (a b:V),jai [o,o2,o3,.cells [a,b] 32] 2 (.ptr 3 0)=some [a,b]:=λ_ _ _ _ _=>rfl
 cases hr:jda (txF e c)with
 |error f =>
  rw[hr]at hv hst;obtain⟨f,a⟩:=f;obtain⟨he,ha0,ha1⟩:=hst;have hv:v=.tup [.agg zQ,.agg [.int .i64 f,.int .i64 a]]:=hv;subst hv;simp only at he ha0 ha1;have c3:=eq_false he;simp only[Tryz.f6,Ka,simprocAttr,Uy,Ke,Uz,jab,jap,hk,jaL,c1,c2,a1,a2,a3,a4,hp,z32,zq29,s29,s32,jem,jic,jqW,jfT,Qx,al29,al32,l2,jmF,ne32,c3,false_and,decide_false,Xd]
  first|rfl|exact⟨rfl,rfl⟩|exact⟨rfl,rfl,rfl⟩
 | ok Q =>
  rw[hr]at hv hst;obtain⟨ev,wv,rv,hvv,r1,r2,r3⟩:=hv;subst hvv;obtain⟨n1,n2,n3⟩:=jzG hst.1;have hs1:=jpD r1 (by omega);have ss:=λ{e2 w2 r4:V} (b1:RowU e2 Q.expr.length (jbS Q.expr)) (b2:RowU w2 Q.wher.length (jbS Q.wher)) (b3:RowU r4 Q.ranges.length (jel Q.ranges))=>jue Q (by omega) (by omega) (by omega) r1 r2 r3 b1 b2 b3
  have zB:=isZ (Q:=Q) r1 r2 r3;have g1:∀(L:List AObj),(jai (.cells (qC Q ev wv rv) 29::L) 1 (.ptr 0 1)).bind (·[0]?)=some ev:=λL=>by simp[jai,qC]
  generalize qC Q ev wv rv=B at *;have m3:=zB.len;have m4:=zB.all;by_cases hh:hgt Q.expr 0=some 1
  case neg =>
   have d1:decide (hgt Q.expr 0=some 1)=false:=decide_eq_false hh;rw[d1]at hs1;simp only[Tryz.f6,Ka,simprocAttr,Uy,Ke,Uz,jab,jap,hk,jaL,c1,c2,a1,a2,a3,a4,hp,z32,zq29,s29,s32,jfU,jem,jic,jfT,m3,m4,Qx,al29,al32,al1,fo29,l2,g1,hs1,jmF,ne32,and_self,decide_true,decide_false,Xd,Qz]
   first|rfl|exact⟨rfl,rfl⟩|exact⟨rfl,rfl,rfl⟩
  have d1:decide (hgt Q.expr 0=some 1)=true:=decide_eq_true hh;rw[d1]at hs1;cases hA:jda (txA e)with
  |error f =>
   rw[hA,show okP (.error f)=false from rfl]at wA;simp only[Tryz.f6,Ka,simprocAttr,Uy,Ke,Uz,jab,jap,hk,jaL,c1,c2,a1,a2,a3,a4,a5,wA,hp,z32,zq29,s29,s32,jfU,jem,jic,jfT,m3,m4,Qx,al29,al32,al1,fo29,l2,g1,hs1,jmF,ne32,and_self,decide_true,decide_false,Xd,Qz]
   first|rfl|exact⟨rfl,rfl⟩|exact⟨rfl,rfl,rfl⟩
  | ok qA =>
   rw[hA,show okP (.ok qA)=true from rfl]at wA;cases hB:jda (txB c)with
   |error f =>
    rw[hB,show okP (.error f)=false from rfl]at wB;simp only[Tryz.f6,Ka,simprocAttr,Uy,Ke,Uz,jab,jap,hk,jaL,c1,c2,a1,a2,a3,a4,a5,a6,a7,wA,wB,hp,z32,zq29,s29,s32,jfU,jem,jic,jfT,m3,m4,Qx,al29,al32,al1,fo29,l2,g1,hs1,jmF,ne32,and_self,decide_true,decide_false,Xd,Qz]
    first|rfl|exact⟨rfl,rfl⟩|exact⟨rfl,rfl,rfl⟩
   | ok qB =>
    rw[hB,show okP (.ok qB)=true from rfl]at wB;obtain⟨k,hk3,hpk⟩:=T.pick_call x 3 (by omega) (by omega);have hpk2:∀O,jas env (Go.Ab.ev env) 8 [.int .i64 x,.int .i64 3] O=some (.int .i64 k,O):=λO=>jqS (f:=8) rfl hpk (Go.Ab.ev env) O
    have w1:IntKind.i64.wrap (1+(k:Int))=((1+k:Nat):Int):=by rw[wrap_i64 (by omega) (by omega)];omega
    obtain⟨n,hn⟩:∃n,1+k=n:=⟨_,rfl⟩;rw[hn]at w1;have hn1:1<=n:=by omega
    have hn3:n<=3:=by omega
    have tm:∀(b:UInt8) (O:S),jas env (Go.Ab.ev env) 14 [.str [b],.int .i64 n] O=some (.str (List.replicate n b),O):=λb O=>by
     have:=jqS (f:=14) rfl (T.TM.times_ok [b] n (by simp) (by simp) hn1 (by omega)) (Go.Ab.ev env) O;rw[jug]at this;exact this
    have lG:=jzI (wrp 40 41 n e) (wrp 91 93 n c);rw[juh,juh]at lG;obtain⟨Z1,hZ1⟩:∃X,q1++List.replicate n 40=X:=⟨_,rfl⟩;obtain⟨Z2,hZ2⟩:∃X,Z1++e=X:=⟨_,rfl⟩;obtain⟨Z3,hZ3⟩:∃X,Z2++List.replicate n 41=X:=⟨_,rfl⟩;obtain⟨Z4,hZ4⟩:∃X,Z3++q2=X:=⟨_,rfl⟩;obtain⟨Z5,hZ5⟩:∃X,Z4++List.replicate n 91=X:=⟨_,rfl⟩;obtain⟨Z6,hZ6⟩:∃X,Z5++c=X:=⟨_,rfl⟩;obtain⟨Z7,hZ7⟩:∃X,Z6++List.replicate n 93=X:=⟨_,rfl⟩;have hZ8:Z7++q3=txF (wrp 40 41 n e) (wrp 91 93 n c):=by rw[<- hZ7,<- hZ6,<- hZ5,<- hZ4,<- hZ3,<- hZ2,<- hZ1,tx_G]
    have z1:Z1.length=4+n:=by rw[<- hZ1,Kr,Xa];omega
    have z2:Z2.length=4+n+e.length:=by rw[<- hZ2,Kr];omega
    have z3:Z3.length=4+n+e.length+n:=by rw[<- hZ3,Kr,Xa];omega
    have z4:Z4.length=34+n+e.length+n:=by rw[<- hZ4,Kr];omega
    have z5:Z5.length=34+n+e.length+n+n:=by rw[<- hZ5,Kr,Xa];omega
    have z6:Z6.length=34+n+e.length+n+n+c.length:=by rw[<- hZ6,Kr];omega
    have z7:Z7.length=34+n+e.length+n+n+c.length+n:=by rw[<- hZ7,Kr,Xa];omega
    have b1:=jdl _ _ _ hZ1 (by omega);have b2:=jdl _ _ _ hZ2 (by omega);have b3:=jdl _ _ _ hZ3 (by omega);have b4:=jdl _ _ _ hZ4 (by omega);have b5:=jdl _ _ _ hZ5 (by omega);have b6:=jdl _ _ _ hZ6 (by omega);have b7:=jdl _ _ _ hZ7 (by omega);have b8:=jdl _ _ _ hZ8 (by omega);simp only[q1,q2,q3]at b1 b4 b8;have law:=jmG (n:=n) (by omega) hr hA hB;obtain⟨v2,hv2,hc2⟩:=jib (txF (wrp 40 41 n e) (wrp 91 93 n c)) (by omega);have hp2:=λO=>jpC hc2 (Go.Ab.ev env) O
    generalize txF (wrp 40 41 n e) (wrp 91 93 n c)=G at *
    rcases law with law|⟨p,law⟩
    ·rw[law]at hv2;obtain⟨e2,w2,r4,hvv,u1,u2,u3⟩:=hv2;subst hvv;have hsm:=ss u1 u2 u3;have zC:=isZ (Q:=Q) u1 u2 u3;generalize qC Q e2 w2 r4=C at *;have m5:=zC.len;have m6:=zC.all
     have L1:∀o o2 o3:AObj,jai [.cells B 29,o,o2,o3] 20 (.ptr 0 0)=some B:=λo o2 o3=>by
      simp only[jai,Qr,Jn];rw[Ki (by omega),Qi (by omega)]
     have L2:∀o o2 o3:AObj,jai [o,o2,.cells C 29,o3] 20 (.ptr 2 0)=some C:=λo o2 o3=>by
      simp only[jai,Qg,Qr,Jn];rw[Ki (by omega),Qi (by omega)]
     have L3:∀(o o2 o3:AObj) (a b:V),(jai [o,o2,o3,.cells [a,b] 32] 1 (.ptr 3 0)).bind (·[0]?)=some a:=λ_ _ _ _ _=>rfl
     simp only[Tryz.f6,Ka,simprocAttr,Uy,Ke,Uz,jab,jap,hk,jaL,c1,c2,a1,a2,a3,a4,a5,a6,a7,wA,wB,hp,z32,zq29,s29,s32,jfU,jem,jic,jfT,m3,m4,m5,m6,Qx,al29,al32,al1,fo29,l2,l4,g1,hs1,jmF,ne32,eq32,and_self,decide_true,decide_false,Xd,Qz,hpk2,w1,tm,b1,b2,b3,b4,b5,b6,b7,b8,hp2,L1,L2,L3,hsm]
     first|rfl|exact⟨rfl,rfl⟩|exact⟨rfl,rfl,rfl⟩
    ·rw[law]at hv2;have hv2:v2=.tup [.agg zQ,.agg [.int .i64 4,.int .i64 p]]:=hv2;subst hv2;have L3:∀(o o2 o3:AObj) (a b:V),(jai [o,o2,o3,.cells [a,b] 32] 1 (.ptr 3 0)).bind (·[0]?)=some a:=λ_ _ _ _ _=>rfl
     simp only[Tryz.f6,Ka,simprocAttr,Uy,Ke,Uz,jab,jap,hk,jaL,c1,c2,a1,a2,a3,a4,a5,a6,a7,wA,wB,hp,z32,zq29,s29,s32,jfU,jem,jic,jqW,jfT,m3,m4,Qx,al29,al32,al1,fo29,l2,l4,g1,hs1,jmF,ne32,eq32,and_self,decide_true,decide_false,Xd,Qz,hpk2,w1,tm,b1,b2,b3,b4,b5,b6,b7,b8,hp2,L3]
     first|rfl|exact⟨rfl,rfl⟩|exact⟨rfl,rfl,rfl⟩
theorem env_gl {W:World}{l:List (String × DataW Unit)}(h:laidMetH Tryz.prog l W)(hp:(l.all λx=>x.2.handleName?.isNone)=true)(m0:("privhouse/schema.reserved",Rows.laid_privhouse_schema_reserved)∈l)
  (m3:("internal/strconv.uint64pow10",Rows.laid_internal_strconv_uint64pow10)∈l) (m1:("strconv.ErrSyntax",Rows.laid_strconv_ErrSyntax)∈l) (m2:("strconv.ErrRange",Rows.laid_strconv_ErrRange)∈l):GOK env (Ctx.top W):=gl_ok rfl rfl h hp m0 m3 m1 m2
theorem brackets_foundt {u v w:V}(h:Tyd Tryz.prog 4 9 [u])(h1:Tyd Tryz.prog 4 9 [v])(h2:Tyd Tryz.prog 4 3 [w]):Go.Ab.Found env 6 [u,v,w]:=by
 obtain⟨s,e,_⟩:=jsc h (by kernel_rfl);obtain⟨c,e1,_⟩:=jsc h1 (by kernel_rfl);obtain⟨m,e2,_⟩:=jwH h2 tys.1;simp only[J2,and_true]at e e1 e2;subst e e1 e2;exact jkW s c m
end Go.Proofs.YtpclebdkhpapjaaGreatDoor.Q
end
