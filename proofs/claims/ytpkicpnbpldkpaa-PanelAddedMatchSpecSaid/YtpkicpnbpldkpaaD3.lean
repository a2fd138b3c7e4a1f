/- One board more on a panel: program and reference find the same slot, and the panel with it is right. Plain Lean about the plain functions. -/
import Derived.Test.YtpkicpnbpldkpaaD2
namespace Go.Proofs.Ytpkicpnbpldkpaa
theorem ltS_iff {a b : TSlot} : ltS a b = true ↔ a.At.Y < b.At.Y ∨ (a.At.Y = b.At.Y ∧ (a.At.X < b.At.X ∨ (a.At.X = b.At.X ∧ a.Quarters < b.Quarters))) := by
  unfold ltS
  by_cases h1 : a.At.Y = b.At.Y
  · by_cases h2 : a.At.X = b.At.X
    · simp [h1, h2]
    · simp [h1, h2]
  · simp [h1]
theorem ltS_trans {a b c : TSlot} (h : ltS a b = true) (k : ltS b c = true) : ltS a c = true := by
  rw [ltS_iff] at *; omega
theorem ltS_asym {a b : TSlot} (h : ltS a b = true) : ltS b a = false := by
  rw [Bool.eq_false_iff]; intro k; rw [ltS_iff] at *; omega
theorem ltS_irr (a : TSlot) : ltS a a = false := by
  rw [Bool.eq_false_iff]; intro k; rw [ltS_iff] at k; omega
theorem ltS_eq {a b : TSlot} (hb : a.Board = b.Board) (h : ltS a b = false) (k : ltS b a = false) : a = b := by
  rw [Bool.eq_false_iff] at h k
  simp only [ne_eq, ltS_iff] at h k
  obtain ⟨n, q, ⟨x, y⟩⟩ := a
  obtain ⟨n', q', ⟨x', y'⟩⟩ := b
  simp only at hb h k
  subst hb
  have e1 : y = y' := by omega
  have e2 : x = x' := by omega
  have e3 : q = q' := by omega
  rw [e1, e2, e3]
theorem bestR_spec (p : TPanel) : ∀ (l : List TSlot) (o : Option TSlot),
    (bestR p l o = none → o = none ∧ ∀ t ∈ l, fitB p t = false) ∧
    (∀ s, bestR p l o = some s → ((s ∈ l ∧ fitB p s = true) ∨ o = some s) ∧ (∀ t ∈ l, fitB p t = true → ltS t s = false) ∧ ∀ t, o = some t → ltS t s = false)
  | [], o => ⟨fun h => ⟨h, by simp⟩, fun s h => ⟨.inr h, by simp, fun t ht => by
      have h : o = some s := h
      rw [h] at ht; cases ht; exact ltS_irr _⟩⟩
  | a :: l, o => by
    obtain ⟨i1, i2⟩ := bestR_spec p l (better p o a)
    have hst : bestR p (a :: l) o = bestR p l (better p o a) := rfl
    rw [hst]
    refine ⟨fun h => ?_, fun s h => ?_⟩
    · obtain ⟨h1, h2⟩ := i1 h
      cases o with
      | none =>
        refine ⟨rfl, fun t ht => ?_⟩
        rcases List.mem_cons.1 ht with rfl | ht
        · cases hf : fitB p t
          · rfl
          · unfold better at h1; simp [hf] at h1
        · exact h2 t ht
      | some t => unfold better at h1; simp only at h1; split at h1 <;> cases h1
    · obtain ⟨h1, h2, h3⟩ := i2 s h
      cases o with
      | none =>
        refine ⟨?_, fun t ht hf => ?_, fun t ht => by cases ht⟩
        · rcases h1 with ⟨h1, h4⟩ | h1
          · exact .inl ⟨List.mem_cons_of_mem _ h1, h4⟩
          · unfold better at h1
            simp only at h1
            split at h1
            · rename_i hf; cases h1; exact .inl ⟨by simp, hf⟩
            · cases h1
        · rcases List.mem_cons.1 ht with rfl | ht
          · exact h3 t (by unfold better; simp [hf])
          · exact h2 t ht hf
      | some u =>
        unfold better at h1 h3
        simp only at h1 h3
        by_cases hc : (ltS a u && fitB p a) = true
        · rw [if_pos hc] at h1 h3
          rw [Bool.and_eq_true] at hc
          have h4 := h3 a rfl
          refine ⟨?_, fun t ht hf => ?_, fun t ht => ?_⟩
          · rcases h1 with ⟨h1, h5⟩ | h1
            · exact .inl ⟨List.mem_cons_of_mem _ h1, h5⟩
            · cases h1; exact .inl ⟨by simp, hc.2⟩
          · rcases List.mem_cons.1 ht with rfl | ht
            · exact h4
            · exact h2 t ht hf
          · cases ht
            rw [Bool.eq_false_iff]
            intro h5
            have := ltS_trans hc.1 h5
            rw [this] at h4; cases h4
        · rw [if_neg hc] at h1 h3
          have h4 := h3 u rfl
          refine ⟨?_, fun t ht hf => ?_, fun t ht => ?_⟩
          · rcases h1 with ⟨h1, h5⟩ | h1
            · exact .inl ⟨List.mem_cons_of_mem _ h1, h5⟩
            · exact .inr h1
          · rcases List.mem_cons.1 ht with rfl | ht
            · rw [Bool.eq_false_iff]
              intro h5
              have h6 : ltS t u = false := by
                rw [Bool.eq_false_iff]
                intro h7; exact hc (by rw [h7, hf]; rfl)
              rw [Bool.eq_false_iff] at h6 h4
              rw [ltS_iff] at h5
              simp only [ne_eq, ltS_iff] at h6 h4
              omega
            · exact h2 t ht hf
          · cases ht; exact h4
theorem mem_candP {b : ByteArray} {xs ys : List Int} {s : TSlot} : s ∈ candP b xs ys ↔ ∃ y ∈ ys, ∃ x ∈ xs, s = mkS b y x 0 ∨ s = mkS b y x 1 := by
  unfold candP candX
  simp [List.mem_flatMap]
theorem mem_candR {b : ByteArray} {xs ys : List Int} {s : TSlot} : s ∈ candR b xs ys ↔ ∃ y ∈ ys, ∃ x ∈ xs, s = mkS b y x 0 ∨ s = mkS b y x 1 := by
  unfold candR candY
  simp only [List.mem_flatMap, List.mem_cons, List.not_mem_nil, or_false]
  constructor
  · rintro ⟨x, hx, y, hy, h⟩; exact ⟨y, hy, x, hx, h⟩
  · rintro ⟨y, hy, x, hx, h⟩; exact ⟨x, hx, y, hy, h⟩
theorem candP_sorted {b : ByteArray} {xs ys : List Int} (hx : xs.Pairwise fun x y => x < y) (hy : ys.Pairwise fun x y => x < y) : (candP b xs ys).Pairwise fun s t => ltS s t = true := by
  unfold candP candX
  rw [List.pairwise_flatMap]
  refine ⟨fun y _ => ?_, hy.imp fun {y y'} hlt s hs t ht => ?_⟩
  · rw [List.pairwise_flatMap]
    refine ⟨fun x _ => ?_, hx.imp fun {x x'} hlt s hs t ht => ?_⟩
    · simp [ltS_iff, mkS]
    · simp only [List.mem_cons, List.not_mem_nil, or_false] at hs ht
      rw [ltS_iff]
      rcases hs with rfl | rfl <;> rcases ht with rfl | rfl <;> exact .inr ⟨rfl, .inl hlt⟩
  · simp only [List.mem_flatMap, List.mem_cons, List.not_mem_nil, or_false] at hs ht
    obtain ⟨x, _, hs⟩ := hs
    obtain ⟨x', _, ht⟩ := ht
    rw [ltS_iff]
    rcases hs with rfl | rfl <;> rcases ht with rfl | rfl <;> exact .inl hlt
/-- Both find the same slot. -/
theorem same_found (p : TPanel) (b : ByteArray) : bestR p (candR b (xsOf p) (ysOf p)) none = (candP b (srtd (xsOf p)) (srtd (ysOf p))).find? (fitB p) := by
  have hm : ∀ s, s ∈ candP b (srtd (xsOf p)) (srtd (ysOf p)) ↔ s ∈ candR b (xsOf p) (ysOf p) := fun s => by
    rw [mem_candP, mem_candR]
    simp only [srtd_mem]
  have hb : ∀ s, s ∈ candR b (xsOf p) (ysOf p) → s.Board = b := fun s hs => by
    obtain ⟨y, _, x, _, h⟩ := mem_candR.1 hs
    rcases h with rfl | rfl <;> rfl
  obtain ⟨i1, i2⟩ := bestR_spec p (candR b (xsOf p) (ysOf p)) none
  have hp := candP_sorted (b := b) (srtd_strict (xsOf p)) (srtd_strict (ysOf p))
  cases hf : (candP b (srtd (xsOf p)) (srtd (ysOf p))).find? (fitB p) with
  | none =>
    rw [List.find?_eq_none] at hf
    cases hr : bestR p (candR b (xsOf p) (ysOf p)) none with
    | none => rfl
    | some s =>
      obtain ⟨h1, _⟩ := i2 s hr
      rcases h1 with ⟨h1, h2⟩ | h1
      · exact absurd h2 (hf s ((hm s).2 h1))
      · cases h1
  | some s =>
    obtain ⟨hs, l1, l2, hl, hn⟩ := List.find?_eq_some_iff_append.1 hf
    have hsm : s ∈ candP b (srtd (xsOf p)) (srtd (ysOf p)) := by rw [hl]; simp
    cases hr : bestR p (candR b (xsOf p) (ysOf p)) none with
    | none =>
      have := (i1 hr).2 s ((hm s).1 hsm)
      rw [hs] at this; cases this
    | some t =>
      obtain ⟨h1, h2, _⟩ := i2 t hr
      rcases h1 with ⟨h1, h3⟩ | h1
      · have h4 := h2 s ((hm s).1 hsm) hs
        have h5 : ltS t s = false := by
          have htm := (hm t).2 h1
          rw [hl] at htm hp
          rcases List.mem_append.1 htm with ha | ha
          · have := hn t ha
            rw [h3] at this; cases this
          · rcases List.mem_cons.1 ha with rfl | ha
            · exact ltS_irr _
            · have := (List.pairwise_cons.1 (List.pairwise_append.1 hp).2.1).1 t ha
              exact ltS_asym this
        rw [ltS_eq ((hb t h1).trans (hb s ((hm s).1 hsm)).symm) h5 h4]
      · cases h1
theorem slotsErr_snoc {p : TPanel} {s : TSlot} : ∀ (l : List TSlot) (prev : List TRect), slotsErr p prev l = 0 → slotErr p (prev ++ l.map (cellOf p)) s = 0 → slotsErr p prev (l ++ [s]) = 0
  | [], prev, _, h => by
    simp only [List.map_nil, List.append_nil] at h
    show slotsErr p prev [s] = 0
    unfold slotsErr
    rw [if_pos h]; rfl
  | a :: l, prev, h1, h => by
    unfold slotsErr at h1
    split at h1
    · rename_i h0
      show slotsErr p prev (a :: (l ++ [s])) = 0
      unfold slotsErr
      rw [if_pos h0]
      exact slotsErr_snoc l _ h1 (by simpa using h)
    · rename_i h0; exact absurd h1 h0
theorem slotsErr_with (p : TPanel) (l : List TSlot) : ∀ (m : List TSlot) (prev : List TRect), slotsErr (withSlots p l) prev m = slotsErr p prev m
  | [], _ => rfl
  | a :: m, prev => by
    unfold slotsErr
    have e : slotErr (withSlots p l) prev a = slotErr p prev a := rfl
    rw [e, slotsErr_with p l m]
    rfl
theorem marksErr_with {p : TPanel} {s : TSlot} : ∀ (m prev : List TPoint), marksErr p prev m = 0 → (m.any fun x => inside (cellOf p s) x) = false → marksErr (withSlots p (p.Slots ++ [s])) prev m = 0
  | [], _, _, _ => rfl
  | x :: m, prev, h1, h2 => by
    rw [List.any_cons, Bool.or_eq_false_iff] at h2
    unfold marksErr at h1
    split at h1
    · rename_i h0
      unfold marksErr
      have e : markErr (withSlots p (p.Slots ++ [s])) prev x = 0 := by
        unfold markErr at h0 ⊢
        split at h0
        · omega
        · rename_i hw
          split at h0
          · omega
          · rename_i ha
            have ha' : (((withSlots p (p.Slots ++ [s])).Slots.map (cellOf (withSlots p (p.Slots ++ [s])))).any fun r => inside r x) = false := by
              show ((p.Slots ++ [s]).map (cellOf p)).any (fun r => inside r x) = false
              rw [List.map_append, List.any_append, Bool.or_eq_false_iff]
              exact ⟨by simpa using ha, by simpa using h2.1⟩
            rw [if_neg (show ¬ (within x.X 0 (withSlots p (p.Slots ++ [s])).W = false ∨ within x.Y 0 (withSlots p (p.Slots ++ [s])).H = false) from hw), if_neg (by rw [ha']; simp)]
            exact h0
      rw [if_pos e]
      exact marksErr_with m _ h1 h2.2
    · rename_i h0; exact absurd h1 h0
/-- The panel with a slot that fits is right. -/
theorem with_ok {p : TPanel} {s : TSlot} (he : openErr p = 0) (hl : p.Slots.length < 500) (hk : kindIx p.Kinds s.Board ≠ -1) (hq : 0 ≤ s.Quarters ∧ s.Quarters ≤ 3) (hf : fitB p s = true) : openErr (withSlots p (p.Slots ++ [s])) = 0 := by
  unfold fitB at hf
  rw [Bool.and_eq_true, Bool.and_eq_true] at hf
  obtain ⟨f1, f2, f3⟩ := hf
  have f2 : ((p.Slots.map (cellOf p)).any fun d => !apart (cellOf p s) d p.Gap) = false := by simpa using f2
  have f3 : (p.Marks.any fun m => inside (cellOf p s) m) = false := by simpa using f3
  have hsE : slotErr p (p.Slots.map (cellOf p)) s = 0 := by
    unfold slotErr
    rw [if_neg hk, if_neg (by rw [within_iff.2 hq]; simp), if_neg (by rw [f1]; simp), if_neg (by rw [f2]; simp)]
  unfold openErr at he ⊢
  split at he
  · omega
  · rename_i h0
    rw [if_neg (show ¬ (within (withSlots p (p.Slots ++ [s])).W 1 1000000 = false ∨ within (withSlots p (p.Slots ++ [s])).H 1 1000000 = false ∨ within (withSlots p (p.Slots ++ [s])).Rail 0 1000000 = false ∨ within (withSlots p (p.Slots ++ [s])).Gap 0 1000000 = false) from h0)]
    split at he
    · rename_i hkE
      rw [if_pos (show checkKinds (withSlots p (p.Slots ++ [s])).Kinds = 0 from hkE)]
      split at he
      · rename_i hc
        have hc2 : cellsErr (withSlots p (p.Slots ++ [s])) = 0 := by
          unfold cellsErr at hc ⊢
          rw [if_neg (by omega)] at hc
          rw [if_neg (by simp [withSlots]; omega), slotsErr_with]
          exact slotsErr_snoc p.Slots [] hc (by simpa using hsE)
        rw [if_pos hc2]
        split at he
        · omega
        · rename_i hm
          rw [if_neg (show ¬ 10 < (withSlots p (p.Slots ++ [s])).Marks.length from hm)]
          exact marksErr_with p.Marks [] he f3
      · rename_i hc; exact absurd he hc
    · rename_i hkE; exact absurd he hkE
theorem found_spec {p : TPanel} {b : ByteArray} {s : TSlot} (h : (candP b (srtd (xsOf p)) (srtd (ysOf p))).find? (fitB p) = some s) : fitB p s = true ∧ s.Board = b ∧ 0 ≤ s.Quarters ∧ s.Quarters ≤ 1 := by
  have h1 := List.find?_some h
  have h2 := List.mem_of_find?_eq_some h
  obtain ⟨y, _, x, _, h3⟩ := mem_candP.1 h2
  refine ⟨h1, ?_⟩
  rcases h3 with rfl | rfl
  · exact ⟨rfl, by simp [mkS], by simp [mkS]⟩
  · exact ⟨rfl, by simp [mkS], by simp [mkS]⟩
/-- The reference adds what the program adds. -/
theorem AddedR_same {N : Nat} {p : TPanel} (h : FuelP N p) (b : ByteArray) : F_etchhouseref9_Added N p b = some (addP p b) := by
  have hN := h.big
  rw [AddedR_ok h]
  unfold addP
  by_cases he : openErr p = 0
  · rw [if_pos he, if_pos he]
    by_cases hk : kindIx p.Kinds b = -1
    · rw [if_pos hk, if_pos hk]
    · obtain ⟨hB, hsl, hml, hs⟩ := openErr_ok he
      rw [if_neg hk, if_neg hk, same_found]
      cases hf : (candP b (srtd (xsOf p)) (srtd (ysOf p))).find? (fitB p) with
      | none => rfl
      | some s =>
        obtain ⟨f1, f2, f3, f4⟩ := found_spec hf
        show tellR N p (some s) = some (resP p s)
        unfold tellR resP
        simp only
        by_cases h5 : p.Slots.length = 500
        · rw [if_pos h5, if_pos (by omega)]
        · rw [if_neg h5, if_neg (by omega)]
          have hw := with_ok he (by omega) (by rw [f2]; exact hk) ⟨f3, by omega⟩ f1
          have hc := checkPanel_ok (N := N) (p := withSlots p (p.Slots ++ [s])) (by omega) h.kinds h.names
          rw [hw] at hc
          unfold F_etchhouseref9_laid
          unfold withSlots at hc
          rw [hc]
          rfl
  · rw [if_neg he, if_neg he]
theorem Same_ok {N : Nat} (a : TPanel) (hk : a.Kinds.length < N) (hs : a.Slots.length < N) (hm : a.Marks.length < N) (hb : a.Kinds.length ≤ 4000000000 ∧ a.Slots.length ≤ 4000000000 ∧ a.Marks.length ≤ 4000000000) : F_etchhouseref9_Same N a a = some true := by
  have k3 : ∀ (suf pre : List TPoint) (n : Nat), a.Marks = pre ++ suf → suf.length < n → F_etchhouseref9_Same_L3 a a n pre.length = some true := by
    intro suf
    induction suf with
    | nil =>
      intro pre n h1 h2
      obtain ⟨n, rfl⟩ : ∃ m, n = m + 1 := ⟨n - 1, by omega⟩
      rw [F_etchhouseref9_Same_L3.eq_2, if_neg (by rw [h1]; simp)]
    | cons x suf ih =>
      intro pre n h1 h2
      obtain ⟨n, rfl⟩ : ∃ m, n = m + 1 := ⟨n - 1, by omega⟩
      have hl : pre.length ≤ 4000000000 := by have := hb.2.2; rw [h1] at this; simp at this; omega
      have hid : idx a.Marks (pre.length : Int) = some x := by rw [h1]; exact idx_mid pre suf x
      rw [F_etchhouseref9_Same_L3.eq_2, if_pos (by rw [h1]; exact lt_mid pre suf x), hid, Option.bind_some, Option.bind_some, eqTPoint_iff.2 rfl, if_neg (by simp), up_mid pre x (by omega)]
      exact ih (pre ++ [x]) n (by rw [h1]; simp) (by simp at h2; omega)
  have k2 : ∀ (suf pre : List TSlot) (n : Nat), a.Slots = pre ++ suf → suf.length < n → F_etchhouseref9_Same_L2 N a a n pre.length = some true := by
    intro suf
    induction suf with
    | nil =>
      intro pre n h1 h2
      obtain ⟨n, rfl⟩ : ∃ m, n = m + 1 := ⟨n - 1, by omega⟩
      rw [F_etchhouseref9_Same_L2.eq_2, if_neg (by rw [h1]; simp)]
      exact k3 a.Marks [] N rfl hm
    | cons x suf ih =>
      intro pre n h1 h2
      obtain ⟨n, rfl⟩ : ∃ m, n = m + 1 := ⟨n - 1, by omega⟩
      have hl : pre.length ≤ 4000000000 := by have := hb.2.1; rw [h1] at this; simp at this; omega
      have hid : idx a.Slots (pre.length : Int) = some x := by rw [h1]; exact idx_mid pre suf x
      rw [F_etchhouseref9_Same_L2.eq_2, if_pos (by rw [h1]; exact lt_mid pre suf x), hid, Option.bind_some, Option.bind_some, eqTSlot_iff.2 rfl, if_neg (by simp), up_mid pre x (by omega)]
      exact ih (pre ++ [x]) n (by rw [h1]; simp) (by simp at h2; omega)
  have k1 : ∀ (suf pre : List TBoardKind) (n : Nat), a.Kinds = pre ++ suf → suf.length < n → F_etchhouseref9_Same_L1 N a a n pre.length = some true := by
    intro suf
    induction suf with
    | nil =>
      intro pre n h1 h2
      obtain ⟨n, rfl⟩ : ∃ m, n = m + 1 := ⟨n - 1, by omega⟩
      rw [F_etchhouseref9_Same_L1.eq_2, if_neg (by rw [h1]; simp)]
      exact k2 a.Slots [] N rfl hs
    | cons x suf ih =>
      intro pre n h1 h2
      obtain ⟨n, rfl⟩ : ∃ m, n = m + 1 := ⟨n - 1, by omega⟩
      have hl : pre.length ≤ 4000000000 := by have := hb.1; rw [h1] at this; simp at this; omega
      have hid : idx a.Kinds (pre.length : Int) = some x := by rw [h1]; exact idx_mid pre suf x
      rw [F_etchhouseref9_Same_L1.eq_2, if_pos (by rw [h1]; exact lt_mid pre suf x), hid, Option.bind_some, Option.bind_some, eqTBoardKind_iff.2 rfl, if_neg (by simp), up_mid pre x (by omega)]
      exact ih (pre ++ [x]) n (by rw [h1]; simp) (by simp at h2; omega)
  unfold F_etchhouseref9_Same
  rw [if_neg (by simp)]
  exact k1 a.Kinds [] N rfl hk
/-- What is added is small. -/
theorem addP_small {N : Nat} {p : TPanel} (hN : 20000000 ≤ N) (b : ByteArray) : F_etchhouseref9_Same N (addP p b).1 (addP p b).1 = some true := by
  have hz : F_etchhouseref9_Same N zeroP zeroP = some true := Same_ok zeroP (by simp [zeroP]; omega) (by simp [zeroP]; omega) (by simp [zeroP]; omega) (by simp [zeroP])
  unfold addP
  by_cases he : openErr p = 0
  · obtain ⟨hB, hsl, hml, hs⟩ := openErr_ok he
    have hkl := hB.klen
    rw [if_pos he]
    by_cases hk : kindIx p.Kinds b = -1
    · rw [if_pos hk]; exact hz
    · rw [if_neg hk]
      cases (candP b (srtd (xsOf p)) (srtd (ysOf p))).find? (fitB p) with
      | none => exact Same_ok p (by omega) (by omega) (by omega) ⟨by omega, by omega, by omega⟩
      | some s =>
        show F_etchhouseref9_Same N (resP p s).1 (resP p s).1 = _
        unfold resP
        split
        · exact hz
        · exact Same_ok _ (by simp [withSlots]; omega) (by simp [withSlots]; omega) (by simp [withSlots]; omega) (by simp [withSlots]; omega)
  · rw [if_neg he]; exact hz
/-- How many slots bear a board. -/
def countB (b : ByteArray) (l : List TSlot) : Int := ((l.filter fun s => sEq s.Board b).length : Int)
def needE (n c : Int) : Option (Int × Int × Int) := if (c == 0) then some (0, 0, 13) else (dv (w64 ((w64 (n + c)) - 1)) c).bind fun q => some (q, (w64 ((w64 (q * c)) - n)), 0)
theorem countB_cons (b : ByteArray) (s : TSlot) (l : List TSlot) : countB b (s :: l) = (if sEq s.Board b = true then 1 else 0) + countB b l := by
  unfold countB
  rw [List.filter_cons]
  split <;> simp; omega
theorem Needed_loop (b : ByteArray) (n : Int) : ∀ (suf : List TSlot) (i : Nat) (c : Int), 0 ≤ c → c + suf.length ≤ 1000 → F_panel_Needed_L1 b n suf i c = needE n (c + countB b suf)
  | [], i, c, _, _ => by rw [F_panel_Needed_L1.eq_1]; show _ = needE n (c + 0); rw [Int.add_zero]; rfl
  | s :: suf, i, c, h0, h1 => by
    simp only [List.length_cons] at h1
    rw [F_panel_Needed_L1.eq_2, countB_cons]
    cases sEq s.Board b
    · rw [if_neg (by simp), if_neg (by simp), Needed_loop b n suf (i + 1) c h0 (by omega), Int.zero_add]
    · rw [if_pos rfl, if_pos rfl, w64_id (by omega) (by omega), Needed_loop b n suf (i + 1) (c + 1) (by omega) (by omega), Int.add_assoc]
theorem NeededR_loop {p : TPanel} (b : ByteArray) (n : Int) (hsl : p.Slots.length ≤ 500) : ∀ (suf pre : List TSlot) (m : Nat) (c : Int), p.Slots = pre ++ suf → suf.length < m → 0 ≤ c → c + suf.length ≤ 1000 → F_etchhouseref9_Needed_L1 p b n m c pre.length = needE n (c + countB b suf)
  | [], pre, m + 1, c, h1, _, _, _ => by rw [F_etchhouseref9_Needed_L1.eq_2, if_neg (by rw [h1]; simp)]; show _ = needE n (c + 0); rw [Int.add_zero]; rfl
  | s :: suf, pre, m + 1, c, h1, h2, h0, h3 => by
    have hl : pre.length ≤ 500 := by rw [h1] at hsl; simp at hsl; omega
    have hid : idx p.Slots (pre.length : Int) = some s := by rw [h1]; exact idx_mid pre suf s
    simp only [List.length_cons] at h2 h3
    rw [F_etchhouseref9_Needed_L1.eq_2, if_pos (by rw [h1]; exact lt_mid pre suf s), hid, Option.bind_some, up_mid pre s (by omega), countB_cons]
    cases sEq s.Board b
    · rw [if_neg (by simp), if_neg (by simp), NeededR_loop b n hsl suf (pre ++ [s]) m c (by rw [h1]; simp) (by omega) h0 (by omega), Int.zero_add]
    · rw [if_pos rfl, if_pos rfl, w64_id (by omega) (by omega), NeededR_loop b n hsl suf (pre ++ [s]) m (c + 1) (by rw [h1]; simp) (by omega) (by omega) (by omega), Int.add_assoc]
theorem needE_some (n c : Int) : ∃ r, needE n c = some r := by
  unfold needE
  by_cases h : c = 0
  · rw [if_pos (by simpa using h)]; exact ⟨_, rfl⟩
  · rw [if_neg (by simpa using h)]
    unfold dv
    rw [if_neg h]; exact ⟨_, rfl⟩
theorem Needed_same {N : Nat} {p : TPanel} (h : FuelP N p) (b : ByteArray) (n : Int) : ∃ r, F_panel_Needed N p b n = some r ∧ F_etchhouseref9_Needed N p b n = some r := by
  have hN := h.big
  unfold F_panel_Needed F_etchhouseref9_Needed
  rw [checkPanelP_ok h, checkPanel_ok (by omega) h.kinds h.names, Option.bind_some, Option.bind_some]
  by_cases he : openErr p = 0
  · obtain ⟨hB, hsl, hml, hs⟩ := openErr_ok he
    have hkl := hB.klen
    have hne : (openErr p != 0) = false := by simp [he]
    simp only [hne, Bool.false_eq_true, if_false]
    rw [kindAt_ok, kindR_ok b (by omega) h.kinds, Option.bind_some, Option.bind_some]
    by_cases hk : kindIx p.Kinds b < 0
    · rw [if_pos (by simpa using hk), if_pos (by simpa using hk)]; exact ⟨_, rfl, rfl⟩
    · rw [if_neg (by simpa using hk), if_neg (by simpa using hk), within_ok, withinR_ok, Option.bind_some, Option.bind_some]
      cases within n 0 1000000
      · exact ⟨_, rfl, rfl⟩
      · rw [if_neg (by simp), if_neg (by simp), Needed_loop b n p.Slots 0 0 (by omega) (by omega)]
        have := NeededR_loop b n hsl p.Slots [] N 0 rfl (by omega) (by omega) (by omega)
        rw [show ((([] : List TSlot).length : Nat) : Int) = 0 from rfl] at this
        rw [this]
        obtain ⟨r, hr⟩ := needE_some n (0 + countB b p.Slots)
        exact ⟨r, hr, hr⟩
  · have hne : (openErr p != 0) = true := by simpa using he
    simp only [hne, if_true]
    exact ⟨_, rfl, rfl⟩
theorem addedMatch_ok {N : Nat} {p : TPanel} (h : FuelP N p) (b : ByteArray) (n : Int) : F_etchhouselaw9_PanelAddedMatchSpec N p b n = some true := by
  have hN := h.big
  obtain ⟨r, r1, r2⟩ := Needed_same h b n
  unfold F_etchhouselaw9_PanelAddedMatchSpec
  rw [Added_ok h, AddedR_same h, r1, r2]
  simp only [Option.bind_some]
  rw [addP_small hN, Option.bind_some, awakeP_ok (by omega)]
  simp
end Go.Proofs.Ytpkicpnbpldkpaa
