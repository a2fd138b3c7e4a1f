/- PlotsScaledDrawSame: a plot in another unit draws the same. Plain. Conditions: none beyond each theorem's own. -/
import Derived.Test.YtoageaoknnnfbaaGreatDoorJ4
import Derived.Test.YtoageaoknnnfbaaGreatDoorQPSDSR
namespace Go.Proofs.YtoageaoknnnfbaaGreatDoor
theorem lenS_wf {x : zD} (h : x.Wf) : lenS x := by
  induction h with
  | mk f1 f2 f3 l1 f4 f5 f6 l2 f7 ih =>
    rw [zIS]
    exact ⟨f2, ⟨f3.fX, f3.fY⟩, ⟨l1, fun q hq => ⟨(f4 q hq).fX, (f4 q hq).fY⟩⟩, ⟨f5, f6⟩, l2, lenL_of ih⟩
theorem lenP_wf {p : zt} (h : p.Wf) : LenP p :=
  ⟨h.fUnit, fun t ht => ⟨(h.fTools.2 t ht).fName, fun r hr => ⟨⟨((h.fTools.2 t ht).fRects.2 r hr).fX0, ((h.fTools.2 t ht).fRects.2 r hr).fY0⟩, ((h.fTools.2 t ht).fRects.2 r hr).fX1, ((h.fTools.2 t ht).fRects.2 r hr).fY1⟩⟩, h.fSteps.1, lenL_of (fun x hx => lenS_wf (h.fSteps.2 x hx))⟩
theorem itoaS7 : zKA 7 = some ⟨#[55]⟩ := by
  unfold zKA
  rw [if_pos (by decide)]
  have : Lib.decDigits (7 : Int).toNat = [55] := by
    unfold Lib.decDigits
    rw [dif_pos (by decide)]
    rfl
  rw [this]
theorem awakeS_ok {N : Nat} (hN : 10 ≤ N) : Kn N = some true := by
  obtain ⟨N, rfl⟩ : ∃ n, N = n + 1 := ⟨N - 1, by omega⟩
  have h1 : Jm (N + 1) ⟨7, [], []⟩ = some 0 := rfl
  have h2 : zD1 (N + 1) ⟨7, [], []⟩ = some (⟨#[117, 110, 105, 116, 32, 55, 10]⟩, 0) := by
    unfold zD1
    rw [h1, Option.bind_some, if_neg (by decide)]
    show (zKA 7).bind _ = _
    rw [itoaS7]
    rfl
  unfold Kn
  rw [h2, Option.bind_some]
  simp [sEq_refl]
theorem zKa (p : zt) (n : Int) (h : p.Wf) (hn : I64 n) : ∃ N, Jq N p n = some true := by
  obtain ⟨N, hN⟩ : ∃ N, N = KT p.Steps + zER p.Tools + 30000000000 := ⟨_, rfl⟩
  refine ⟨N, ?_⟩
  have hL := lenP_wf h
  have hF : Fu p N := by unfold Fu; omega
  obtain ⟨r, r1, r2, _⟩ := Scaled_val (N := N) (p := p) (V := n) hF hL
  unfold Jq
  rw [r1, Option.bind_some, awakeS_ok (by omega)]
  rcases r2 with ⟨c1, c2⟩ | ⟨c1, hp, ho, hq, hv⟩
  · rw [if_pos (by rcases c1 with c1 | c1 <;> simp [c1]), if_pos (by simp [c2])]
    rfl
  · subst c1
    obtain ⟨b1, b2, b3⟩ := plot_sc hp hv.1 ho
    have hF2 := fu_sc (V := n) hF
    have hL2 := lenP_sc (V := n) hn hL
    obtain ⟨q, q1, _, q2⟩ := Scaled_val (N := N) (p := scP p n) (V := p.Unit) hF2 hL2
    have hq2 := q2 hq hp.unit b2 (by rw [b1]; exact hp)
    rw [b1] at hq2
    subst hq2
    have hG := hp.goodP hF hL
    have hf := hG.few
    have hs : Jc N p p = some true := samePl_ok (by omega) hL.sl hL.steps (by omega) (by omega) (fun t ht => by have := (hG.tools t ht).2; omega)
    have hi := Image_val (N := N) (by omega) hF hL hp
    have hi2 := Image_val (N := N) (by omega) hF2 hL2 hq
    have he : imgV (scP p n) = imgV p := by unfold imgV; rw [b3]
    rw [he] at hi2
    rw [if_neg (by simp)]
    show ((zAc N (scP p n) p.Unit).bind _) = _
    rw [q1, Option.bind_some, if_neg (by simp)]
    show (((Jc N p p).bind _).bind _) = _
    rw [hs, Option.bind_some, Option.bind_some, if_neg (by simp), hi, Option.bind_some]
    show ((zBH N (scP p n)).bind _) = _
    rw [hi2, Option.bind_some, if_pos (by simp)]
    obtain ⟨b, e1, e2⟩ := EqualR_ok (imgV p).1 (imgV p).1
    rw [e1, Option.bind_some, Option.bind_some, e2.2 rfl]
    rfl
end Go.Proofs.YtoageaoknnnfbaaGreatDoor
