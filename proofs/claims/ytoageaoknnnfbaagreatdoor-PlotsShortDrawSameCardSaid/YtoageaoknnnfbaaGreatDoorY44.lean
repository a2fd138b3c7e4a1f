/- PlotsShortDrawSame: a plot without repeats, or without steps that do nothing, draws the same. Plain. Conditions: none beyond each theorem's own. -/
import Derived.Test.YtoageaoknnnfbaaGreatDoorJ4
import Derived.Test.YtoageaoknnnfbaaGreatDoorQPSDSR
namespace Go.Proofs.YtoageaoknnnfbaaGreatDoor
theorem zdP {x : zC} (h : x.Wf) : zQQ x := by
 induction h with
 | mk f1 f2 f3 l1 f4 f5 f6 l2 f7 ih =>
  rw [zKD]
  exact ⟨f2, ⟨f3.fX, f3.fY⟩, ⟨l1, fun q hq => ⟨(f4 q hq).fX, (f4 q hq).fY⟩⟩, ⟨f5, f6⟩, l2, zOD ih⟩
theorem zdQ {p : QB} (h : p.Wf) : zHj p :=
 ⟨h.fUnit, fun t ht => ⟨(h.fTools.2 t ht).fName, fun r hr => ⟨⟨((h.fTools.2 t ht).fRects.2 r hr).fX0, ((h.fTools.2 t ht).fRects.2 r hr).fY0⟩, ((h.fTools.2 t ht).fRects.2 r hr).fX1, ((h.fTools.2 t ht).fRects.2 r hr).fY1⟩⟩, h.fSteps.1, zOD (fun x hx => zdP (h.fSteps.2 x hx))⟩
theorem zgX : zLm 7 = some ⟨#[55]⟩ := by
 unfold zLm
 rw [if_pos (by decide)]
 have : Lib.decDigits (7 : Int).toNat = [55] := by
  unfold Lib.decDigits
  rw [dif_pos (by decide)]
  rfl
 rw [this]
theorem zRa {N : Nat} (hN : 10 ≤ N) : Vl N = some true := by
 obtain ⟨N, rfl⟩ : ∃ n, N = n + 1 := ⟨N - 1, by omega⟩
 have h1 : Ji (N + 1) ⟨7, [], []⟩ = some 0 := rfl
 have h2 : zFO (N + 1) ⟨7, [], []⟩ = some (⟨#[117, 110, 105, 116, 32, 55, 10]⟩, 0) := by
  unfold zFO
  rw [h1, Option.bind_some, if_neg (by decide)]
  show (zLm 7).bind _ = _
  rw [zgX]
  rfl
 unfold Vl
 rw [h2, Option.bind_some]
 simp [zTK]
theorem zNS (p : QB) (h : p.Wf) : ∃ N, Km N p = some true := by
 obtain ⟨N, hN⟩ : ∃ N, N = Ja p.Steps + zHy p.Tools + 30000000000 := ⟨_, rfl⟩
 refine ⟨N, ?_⟩
 have hL := zdQ h
 have hF : Fu p N := by unfold Fu; omega
 have hG : FuG p N := by unfold FuG; omega
 obtain ⟨I, e, i1, i2, i3, _⟩ := zcd (N := N) (by omega) hF hL
 unfold Km
 rw [i1, Option.bind_some]
 by_cases he : e = 0
 ·obtain ⟨hp, h0, hI⟩ := i3 he
  rw [if_neg (by simpa using he)]
  have himg : ∀ q : QB, WS N q → Fu q N → zHj q → (zDN q).1 = 0 → (zDN q).2.img = (zDN p).2.img → WU N q = some (I, 0) := fun q h1 h2 h3 h4 h5 => by
   rw [zZD (by omega) h2 h3 h1]
   unfold zgZ
   rw [if_pos h4, h5, hI]
  have hj : Qn N p (I, e) = some true := by
   obtain ⟨q, q1, q2, q3, q4, q5, q6, q7, q8⟩ := zZC hF hL hp h0
   have hg := q2.zXN q3 q4
   have hf := hg.few
   have hF' := q3
   unfold Fu at hF'
   have hs : KH N q q = some true := zYn (by omega) q4.sl q4.steps (by omega) (by omega) (fun t ht => by have := (hg.tools t ht).2; omega)
   obtain ⟨b, b1, b2⟩ := zRf I I
   have hb : b = true := b2.2 rfl
   rw [hb] at b1
   unfold Qn
   rw [q1, Option.bind_some]
   show ((WU N q).bind _) = _
   rw [himg q q2 q3 q4 q5 q6, Option.bind_some]
   show ((zAf N q).bind _) = _
   rw [zUl q3 q4 q2 q8, Option.bind_some, if_pos (by rfl)]
   show ((((VC I I).bind _).bind _) : Option Bool) = _
   rw [b1, Option.bind_some, Option.bind_some, if_pos (by rfl)]
   show ((((KH N q q).bind _).bind _) : Option Bool) = _
   rw [hs, Option.bind_some, Option.bind_some, if_pos (by simp; omega), zRa (by omega)]
   rfl
  obtain ⟨f, g, f1, f2⟩ := zce hG hL hp
  rw [f1, Option.bind_some]
  by_cases hg : g = 0
  ·obtain ⟨f3, f4, f5, f6⟩ := f2 hg
   have hfl := zaZ hp
   rw [if_pos (by simpa using hg), f3, himg (zKh p) f4 f5 f6 (by rw [hfl]; exact h0) (by rw [hfl]), Option.bind_some]
   obtain ⟨b, b1, b2⟩ := zRf I I
   have hb : b = true := b2.2 rfl
   rw [hb] at b1
   rw [if_neg (by simp)]
   show ((((VC I I).bind _).bind _) : Option Bool) = _
   rw [b1, Option.bind_some, Option.bind_some, if_neg (by simp)]
   exact hj
  ·rw [if_neg (by simpa using hg)]
   exact hj
 ·rw [if_pos (by simpa using he), i2 he, zRa (by omega)]
  rfl
end Go.Proofs.YtoageaoknnnfbaaGreatDoor
