/- PlotsComeBack: enough fuel for any plot and text. -/
import Derived.Test.YtokanbmnoghafaaGreatDoorJ4
import Derived.Test.YtokanbmnoghafaaGreatDoorQPCBR
namespace Go.Proofs.YtokanbmnoghafaaGreatDoor
theorem lenS_wf {x : zB} (h : x.Wf) : zD0 x := by
  induction h with
  | mk f1 f2 f3 l1 f4 f5 f6 l2 f7 ih =>
    rw [zBv]
    exact ⟨f2, ⟨f3.fX, f3.fY⟩, ⟨l1, fun q hq => ⟨(f4 q hq).fX, (f4 q hq).fY⟩⟩, ⟨f5, f6⟩, l2, lenL_of ih⟩
theorem lenP_wf {p : zi} (h : p.Wf) : zI9 p :=
  ⟨h.fUnit, fun t ht => ⟨(h.fTools.2 t ht).fName, fun r hr => ⟨⟨((h.fTools.2 t ht).fRects.2 r hr).fX0, ((h.fTools.2 t ht).fRects.2 r hr).fY0⟩, ((h.fTools.2 t ht).fRects.2 r hr).fX1, ((h.fTools.2 t ht).fRects.2 r hr).fY1⟩⟩, h.fSteps.1, lenL_of (fun x hx => lenS_wf (h.fSteps.2 x hx))⟩
theorem zHV (p : zi) (t : ByteArray) (h : p.Wf) {X : Prop} (_ : X) : ∃ N, JK N p t = some true :=
  ⟨zC5 p t, comeBack_ok (lenP_wf h) h.fTools.1 fun x hx => (h.fTools.2 x hx).fRects.1⟩
end Go.Proofs.YtokanbmnoghafaaGreatDoor
