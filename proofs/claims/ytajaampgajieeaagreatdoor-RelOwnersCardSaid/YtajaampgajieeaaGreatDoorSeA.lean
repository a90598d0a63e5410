/- Proved here: sensitivities. Conditions: each theorem's own. -/
import Derived.Test.YtajaampgajieeaaGreatDoorAdA
set_option linter.unusedSimpArgs false
set_option maxHeartbeats 16000000
set_option maxRecDepth 1000000
set_option linter.unusedVariables false
set_option linter.unusedSectionVars false
namespace Go.Proofs.YtajaampgajieeaaGreatDoor.B
open Go.Ab
open W (IsI)
def accX(Q:Qy)(ss:List Sch)(fe:Int):Prop:=(jgx Q ss fe).1=0/\K.privX Q ss=true
def jwh(n m:Int):Int:=if n=0\/m<n then m else n
def jsH(Q:Qy)(ss:List Sch):Int:=if Q.other=[]then jwh Q.keep (schN ss Q.table).many else jwh Q.keep (schN ss Q.table).many*(if(schN ss Q.other).pub=true then Q.limit else min Q.limit (schN ss Q.other).many)
noncomputable def widX(Q:Qy)(ss:List Sch):Int:=if Q.kind=1\/Q.kind=2 then 1 else if Q.kind=5 then Q.hi-Q.lo+1 else jhi ((jcI Q ss).getD (colI (jcI Q ss) Q) Col.none)
section
variable {lv:V}{ss:List Sch}{Q:Qy}{ev' wv rv:V}{fe:Int}
theorem jf5 {nm:List UInt8}(h:0<=ja3 ss nm ss.length 0):∃i:Nat,ja3 ss nm ss.length 0=(i:Int)/\i<ss.length/\schN ss nm=ss.getD i Sch.none:=by
 obtain⟨i,h1,h2,_,h4,_⟩:=joc h;exact⟨i,h1,h2,h4⟩
end
def levN(n:Nat):Nat:=if n<1 then 0 else if n<2 then 1 else if n<3 then 2 else if n<5 then 3 else if n<9 then 4 else if n<17 then 5 else if n<33 then 6 else 7
def jyW(Q:Qy)(r:Int)(w:Nat):Int :=
 if Q.kind=3 then(if Q.cons=true then 2*r else r)else if Q.kind=5 then r*max Q.p (Q.q-Q.p)else if Q.kind=9 then r*levN w else if Q.kind=10 then r*(if Q.strat=0 then 1 else if Q.strat=1 then(w:Int)else levN w)else if Q.kind=2\/Q.kind=4 then max 1 (r*max (max Q.lo (-Q.lo)) (max Q.hi (-Q.hi)))else r
section
variable {lv:V}{ss:List Sch}{Q:Qy}{ev' wv rv:V}{fe:Int}
end
section
variable {lv:V}{ss:List Sch}{Q:Qy}{ev' wv rv:V}{fe:Int}
end
section
variable {lv:V}{ss:List Sch}{Q:Qy}{ev' wv rv:V}{fe:Int}
noncomputable def jur(Q:Qy)(ss:List Sch):Int:=jyW Q (jsH Q ss) (widX Q ss).toNat
end
end Go.Proofs.YtajaampgajieeaaGreatDoor.B
