/- Proved here: the check of an expression, and expressions as trees. Conditions: each theorem's own. -/
import Derived.Test.YtajaampgajieeaaGreatDoorCqA
set_option linter.unusedSimpArgs false
set_option maxHeartbeats 16000000
set_option maxRecDepth 1000000
set_option linter.unusedVariables false
set_option linter.unusedSectionVars false
namespace Go.Proofs.YtajaampgajieeaaGreatDoor
open Go.Ab
def Bit(x:Int):Prop:=x=0\/x=1
inductive Ex where
 |num (n:Int)
 |col (nm:List UInt8)
 |wrd (nm w:List UInt8) (op:Int)
 |una (op:Int) (a:Ex)
 |bin (op:Int) (a b:Ex)
 |ite (c a b:Ex)
abbrev opN(op:Int):Nd:=⟨op,0,[]⟩
def Ex.post:Ex->List Nd
 |num n=>[⟨1,n,[]⟩]
 |col nm=>[⟨2,0,nm⟩]
 |wrd nm w op=>[⟨2,0,nm⟩,⟨3,0,w⟩,opN op]
 |una op a=>a.post++[opN op]
 |bin op a b=>a.post++(b.post++[opN op])
 |ite c a b=>c.post++(a.post++(b.post++[opN 8]))
def Ex.kind:Ex->Int
 |num _=>0
 |col _=>0
 |wrd _ _ _=>1
 |una op _=>(jbt op).2
 |bin op _ _=>(jbt op).2
 |ite _ _ _=>0
def WF(cs:List Col):Ex->Prop
 | .num n=>0<=n/\n<=1000000000
 | .col nm=>0<=jb6 cs nm
 | .wrd nm w op=>0<=jb6 cs nm/\w∈(colN cs nm).ws/\(op=9\/op=10)
 | .una op a=>WF cs a/\(op=7\/op=17)/\(jbt op).1=[a.kind]
 | .bin op a b=>WF cs a/\WF cs b/\(4<=op/\op<=16/\op ≠ 7/\op ≠ 8)/\(jbt op).1=[a.kind,b.kind]
 | .ite c a b=>WF cs c/\WF cs a/\WF cs b/\c.kind=1/\a.kind=0/\b.kind=0
def At(l:List Nd)(i:Nat)(p:List Nd):Prop:=∀k,k<p.length->l[i+k]? = p[k]?
theorem At.left {l:List Nd}{i:Nat}{a b:List Nd}(h:At l i (a++b)):At l i a:=λk hk=>by
 rw[h k (by rw[Kk];omega),Ki hk]
theorem At.right {l:List Nd}{i:Nat}{a b:List Nd}(h:At l i (a++b)):At l (i+a.length) b:=λk hk=>by
 have:=h (a.length+k) (by rw[Kk];omega);rw[<- Vc,Jw aa,Nat.add_sub_cancel_left]at this;exact this
theorem At.hd {l:List Nd}{i:Nat}{x:Nd}{r:List Nd}(h:At l i (x::r)):gN l i=x/\i<l.length:=by
 have:=h 0 ae;simp only[Vh,Jb]at this;exact⟨by simp[gN,List.getD,this],(K4.1 this).1⟩
theorem At.all(l:List Nd):At l 0 l:=λk _=>by rw[Jn]
def In64(x:Int):Prop := -9223372036854775808<=x/\x<=9223372036854775807
theorem jki {xs:List Int}(h:∀x∈xs,In64 x)(j:Nat):In64 (xs.getD j 0):=by
 rw[List.getD]
 rcases Qm j xs.length with hj|hj
 ·rw[Kz hj];exact h _ (Xb hj)
 ·rw[Ql hj];simp[In64]
theorem jjs:∀l:List (List UInt8),V.weak.weakL (l.map V.str)=l.map V.str
 | []=>rfl
 |x::l=>by simp only[K7,V.weak.weakL,V.weak,jjs l]
theorem jvm {w:V}{ws:List (List UInt8)}(h:IsW w ws):w.weak=w:=by
 rcases h with⟨rfl,_⟩|rfl
 ·rfl
 ·simp only[V.weak,jjs,RCap.weak]
theorem jcz:∀{cs:List Col},OkC cs->V.weak.weakL (jaM cs)=jaM cs
 | [],_=>rfl
 |c::cs,h=>by
  rw[jbE];simp only[V.weak.weakL,V.weak,jcz (cs:=cs) (λd hd=>h d (Vt _ hd)),jvm (h c List.mem_cons_self)]
abbrev aggC(c:Col):V:=.agg [.str c.name,.int .i64 c.lo,.int .i64 c.hi,c.w]
theorem V1i {α:Type}{o:Option α}{v:α}{k:α->Prop}(h:o=some v)(g:k v):V1 o k:=⟨v,h,g⟩
theorem jc6(E:Env)(t:TypeId)(ps:Array (Nat × Operand)):scOp E (.build t ps)=false:=rfl
theorem jc7(t:TypeId)(ps:Array (Nat × Operand)):jaO (.build t ps)=false:=rfl
theorem jij(t:TypeId)(n:Nat)(ps:Array (Nat × Operand)):jaO (.buildSlice t n ps)=false:=rfl
end Go.Proofs.YtajaampgajieeaaGreatDoor
