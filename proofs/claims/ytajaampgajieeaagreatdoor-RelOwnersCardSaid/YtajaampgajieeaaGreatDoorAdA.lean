/- Proved here: values, counts and totals. Conditions: each theorem's own. -/
import Derived.Test.YtajaampgajieeaaGreatDoorVxA
set_option linter.unusedSimpArgs false
set_option maxHeartbeats 16000000
set_option maxRecDepth 1000000
set_option linter.unusedVariables false
set_option linter.unusedSectionVars false
namespace Go.Proofs.YtajaampgajieeaaGreatDoor.B
open Go.Ab
open W (IsI)
theorem joinedL(v:VP)(hj:∀o pub left right limit,v.jn=some (o,pub,left,right,limit)->limit<=50):v.joined.length<=v.rows.length*50:=by
 have hk:v.kept.length<=v.rows.length:=by
  unfold VP.kept;split
  ·exact K8 _
  ·exact(jgB _ _ _).length_le
 unfold VP.joined;split
 ·omega
 ·rename_i o pub left right limit e;have hl:=hj _ _ _ _ _ e
  have:∀l:List PR,(jf7 pub left right limit o l).length<=l.length*50:=λl=>by
   induction l with
   |nil=>simp[jf7]
   |cons r l ih =>
    rw[jeu,Kk,Qn];have:=jgD pub left right limit r o 0;omega
  have:=this v.kept;omega
def iV(xs:List Int):V:=if xs=[]then .nilsl else .row (xs.map (V.int .i64)) xs.length .unk
noncomputable def jrz(Q:Qy)(cs:List Col)(rs:List PR):List Int:=rs.map λr=>max Q.lo (min Q.hi (W.valueV Q.ex cs r.2))
noncomputable def jrA(l:List Tb)(Q:Qy):List Int:=jrz Q (jcI Q (sv l)) (vpQ l Q).view
section
variable {v:V}{l:List Tb}{Q:Qy}{ev' wv rv:V}{fe:Int}
end
section
variable {Q:Post}{ks:List Kt}{T:Tm}{H:List AObj}{ts:List Nat}{b w k n:Nat}{cu av u:V}{cs:List Col}{ws:List Rw}
end
def colI(cs:List Col)(Q:Qy):Nat:=(jb6 cs Q.column).toNat
def jyS(cs:List Col)(k:Nat)(r:PR):Nat:=(r.2.getD k 0-(cs.getD k Col.none).lo).toNat
noncomputable def widQ(cs:List Col)(Q:Qy):Nat:=(jhi (cs.getD (colI cs Q) Col.none)).toNat
section
variable {l:List Tb}{Q:Qy}{fe:Int}
noncomputable def jlT(l:List Tb)(Q:Qy)(xs:List Int):List Int:=jvU (widQ (jcI Q (sv l)) Q) (((vpQ l Q).view.map (jyS (jcI Q (sv l)) (colI (jcI Q (sv l)) Q))).zip xs)
end
theorem jvr:env.hook 133=some (jbR YtajaampgajieeaaGreatDoor.env 133):=rfl
theorem jyT(xs:List Int):IsI (iV xs) xs:=by
 unfold iV;split
 ·rename_i h;exact .inl ⟨rfl,h⟩
 ·exact .inr (.inl rfl)
section
variable {v:V}{l:List Tb}{Q:Qy}{ev' wv rv:V}{fe:Int}
end
end Go.Proofs.YtajaampgajieeaaGreatDoor.B
