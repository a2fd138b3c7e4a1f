/- TopBoresOnPanels: enough fuel for every order and panel; the law. Plain Lean about the plain functions. Conditions: none beyond each theorem's own. -/
import Derived.Test.YtgijeiamflmkeaaGreatDoorJ4
import Derived.Test.YtgijeiamflmkeaaGreatDoorQTBOPR
namespace Go.Proofs.YtgijeiamflmkeaaGreatDoor
theorem Ui {x : aZ} (h : x.Wf) : NR x := by
  induction h with
  | mk f1 f2 f3 l1 f4 f5 f6 l2 f7 ih =>
    rw [Kz]
    exact ⟨f2, ⟨f3.fX, f3.fY⟩, ⟨l1, fun q hq => ⟨(f4 q hq).fX, (f4 q hq).fY⟩⟩, ⟨f5, f6⟩, l2, OX ih⟩
theorem OW {p : eX} (h : p.Wf) : Ql p :=
  ⟨h.fUnit, fun t ht => ⟨(h.fTools.2 t ht).fName, fun r hr => ⟨⟨((h.fTools.2 t ht).fRects.2 r hr).fX0, ((h.fTools.2 t ht).fRects.2 r hr).fY0⟩, ((h.fTools.2 t ht).fRects.2 r hr).fX1, ((h.fTools.2 t ht).fRects.2 r hr).fY1⟩⟩, h.fSteps.1, OX (fun x hx => Ui (h.fSteps.2 x hx))⟩
theorem Du {α : Type} (f : α → Nat) : ∀ (l : List α), ∃ M, ∀ x ∈ l, f x ≤ M
  | [] => ⟨0, fun _ h => (nomatch h)⟩
  | x :: l => by
    obtain ⟨M, h⟩ := Du f l
    refine ⟨max (f x) M, fun y hy => ?_⟩
    rcases List.mem_cons.1 hy with rfl | hy
    · exact Nat.le_max_left _ _
    · exact Nat.le_trans (h y hy) (Nat.le_max_right _ _)
theorem IK (o : lU) (p : dw) (b : ByteArray) (ho : o.Wf) (hp : p.Wf) (_ : b.size ≤ 9223372036854775807) : ∃ N, iX N o p b = some true := by
  obtain ⟨M1, h1⟩ := Du (fun x : dG => x.Name.size) o.Types
  obtain ⟨M2, h2⟩ := Du (fun x : dO => x.Name.size) (o.Types.flatMap (·.Pins))
  obtain ⟨M3, h3⟩ := Du (fun x : dK => x.Name.size) o.Materials
  obtain ⟨M4, h4⟩ := Du (fun x : lV => x.Name.size) o.Stack
  obtain ⟨M5, h5⟩ := Du (fun x : mW => x.Type_.size + x.Nozzle.size) o.Bodies
  obtain ⟨M6, h6⟩ := Du (fun x : iV => x.Name.size) o.Rules.Classes
  obtain ⟨M7, h7⟩ := Du (fun x : eX => qV x.Steps + C9 x.Tools) (o.Outline :: o.Plots)
  obtain ⟨M8, h8⟩ := Du (fun k : bW => k.Name.size) p.Kinds
  refine ⟨20000000001 + M1 + M2 + M3 + M4 + M5 + M6 + M7 + M8 + p.Kinds.length, SY ⟨by omega, fun x hx => ⟨⟨(ho.fTypes.2 x hx).fName, ?_⟩, fun q hq => ⟨((ho.fTypes.2 x hx).fPins.2 q hq).fName, ?_⟩⟩, fun x hx => ⟨(ho.fMaterials.2 x hx).fName, ?_⟩, fun x hx => ⟨(ho.fStack.2 x hx).fName, ?_⟩,
    fun x hx => ⟨⟨(ho.fBodies.2 x hx).fType_, ?_⟩, (ho.fBodies.2 x hx).fNozzle, ?_⟩, fun x hx => ⟨(ho.fRules.fClasses.2 x hx).fName, ?_⟩, fun x hx => ⟨?_, OW (ho.fPlots.2 x hx)⟩, ⟨?_, OW ho.fOutline⟩, ho.fPlots.1⟩ ⟨by omega, by omega, fun k hk => ⟨(hp.fKinds.2 k hk).fName, ?_⟩⟩ b⟩
  · have := h1 x hx; omega
  · have := h2 q (List.mem_flatMap.2 ⟨x, hx, hq⟩); omega
  · have := h3 x hx; omega
  · have := h4 x hx; omega
  · have := h5 x hx; omega
  · have := h5 x hx; omega
  · have := h6 x hx; omega
  · have := h7 x (by simp [hx]); unfold Fu; omega
  · have := h7 o.Outline (by simp); unfold Fu; omega
  · have := h8 k hk; omega
end Go.Proofs.YtgijeiamflmkeaaGreatDoor
