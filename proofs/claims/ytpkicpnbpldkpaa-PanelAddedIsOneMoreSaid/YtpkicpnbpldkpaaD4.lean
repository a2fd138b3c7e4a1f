/- What is added is one slot behind all others. Plain Lean about the plain functions. -/
import Derived.Test.YtpkicpnbpldkpaaD3
namespace Go.Proofs.Ytpkicpnbpldkpaa
theorem EqualS_ok : ∀ (suf pre : List TSlot), F_slices_Equal_Slot_L1 (pre ++ suf) suf pre.length = some true
  | [], pre => by rw [F_slices_Equal_Slot_L1.eq_1]
  | s :: suf, pre => by
    have := EqualS_ok suf (pre ++ [s])
    rw [F_slices_Equal_Slot_L1.eq_2, idx_mid pre suf s, Option.bind_some, eqTSlot_iff.2 rfl, if_neg (by simp)]
    simpa using this
theorem Equal_self (l : List TSlot) : F_slices_Equal_Slot l l = some true := by
  unfold F_slices_Equal_Slot
  rw [if_neg (by simp)]
  exact EqualS_ok l []
theorem addP_cases (p : TPanel) (b : ByteArray) : (openErr p ≠ 0 ∧ addP p b = (zeroP, false, openErr p)) ∨ (openErr p = 0 ∧ kindIx p.Kinds b = -1 ∧ addP p b = (zeroP, false, 9)) ∨ (openErr p = 0 ∧ addP p b = (p, false, 0)) ∨
    (openErr p = 0 ∧ kindIx p.Kinds b ≠ -1 ∧ ∃ s, fitB p s = true ∧ s.Board = b ∧ 0 ≤ s.Quarters ∧ s.Quarters ≤ 1 ∧ ((500 ≤ p.Slots.length ∧ addP p b = (zeroP, false, 2)) ∨ (p.Slots.length < 500 ∧ addP p b = (withSlots p (p.Slots ++ [s]), true, 0)))) := by
  unfold addP
  by_cases he : openErr p = 0
  · right
    by_cases hk : kindIx p.Kinds b = -1
    · left; rw [if_pos he, if_pos hk]; exact ⟨he, hk, rfl⟩
    · right
      cases hf : (candP b (srtd (xsOf p)) (srtd (ysOf p))).find? (fitB p) with
      | none => left; rw [if_pos he, if_neg hk]; exact ⟨he, rfl⟩
      | some s =>
        obtain ⟨f1, f2, f3, f4⟩ := found_spec hf
        right
        rw [if_pos he, if_neg hk]
        refine ⟨he, hk, s, f1, f2, f3, f4, ?_⟩
        simp only
        unfold resP
        by_cases h5 : 500 ≤ p.Slots.length
        · left; rw [if_pos h5]; exact ⟨h5, rfl⟩
        · right; rw [if_neg h5]; exact ⟨by omega, rfl⟩
  · left; rw [if_neg he]; exact ⟨he, rfl⟩
theorem oneMore_ok {N : Nat} {p : TPanel} (h : FuelP N p) (b : ByteArray) : F_etchhouselaw9_PanelAddedIsOneMore N p b = some true := by
  have hN := h.big
  have haw := awakeP_ok (N := N) (by omega)
  unfold F_etchhouselaw9_PanelAddedIsOneMore
  rw [Added_ok h, Option.bind_some, haw]
  simp only [Option.bind_some]
  rcases addP_cases p b with ⟨he, e⟩ | ⟨he, hk, e⟩ | ⟨he, e⟩ | ⟨he, hk, s, f1, f2, f3, f4, ⟨h5, e⟩ | ⟨h5, e⟩⟩ <;> rw [e]
  · simp [zeroP, he]
  · simp [zeroP]
  · obtain ⟨hB, hsl, hml, hs⟩ := openErr_ok he
    have hkl := hB.klen
    have hS : F_etchhouseref9_Same N p p = some true := Same_ok p (by omega) (by omega) (by omega) ⟨by omega, by omega, by omega⟩
    simp [hS]
  · simp [zeroP]
  · have hw := with_ok he h5 (by rw [f2]; exact hk) ⟨f3, by omega⟩ f1
    have hc : F_panel_CheckPanel N (withSlots p (p.Slots ++ [s])) = some 0 := by rw [checkPanelP_ok (h.slots _), hw]
    have hpre : pre (withSlots p (p.Slots ++ [s])).Slots (p.Slots.length : Int) = some p.Slots := by
      show pre (p.Slots ++ [s]) (p.Slots.length : Int) = some p.Slots
      unfold pre
      rw [if_pos ⟨by omega, by simp; omega⟩]; simp
    have hid : idx (withSlots p (p.Slots ++ [s])).Slots (p.Slots.length : Int) = some s := idx_mid p.Slots [] s
    have hlen : (((withSlots p (p.Slots ++ [s])).Slots.length : Int) == (w64 ((p.Slots.length : Int) + 1))) = true := by
      rw [w64_id (by omega) (by omega)]; simp [withSlots]
    have hsE : sEq s.Board b = true := by rw [f2]; exact sEq_iff.2 rfl
    simp [hlen, hpre, Equal_self, hid, hsE, f3, f4, hc]
end Go.Proofs.Ytpkicpnbpldkpaa
