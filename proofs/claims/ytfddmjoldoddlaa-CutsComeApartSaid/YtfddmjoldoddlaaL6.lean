/- CutsComeApart: the law, and enough fuel for any panel. Plain Lean about the plain functions. -/
import Derived.Test.YtfddmjoldoddlaaL3
import Derived.Test.YtfddmjoldoddlaaB0q
import Derived.Test.YtfddmjoldoddlaaLBR
namespace Go.Proofs.Ytfddmjoldoddlaa
def outP (p c : TRect) : Prop := p.X1 ≤ c.X0 ∨ c.X1 ≤ p.X0 ∨ p.Y1 ≤ c.Y0 ∨ c.Y1 ≤ p.Y0
def inP (p c : TRect) : Prop := p.X0 ≤ c.X0 ∧ c.X1 ≤ p.X1 ∧ p.Y0 ≤ c.Y0 ∧ c.Y1 ≤ p.Y1
/-- A cut goes through a cell. -/
def thr (x : TCut) (c : TRect) : Bool :=
  if ((((decide (x.Part.X1 ≤ c.X0)) || (decide (c.X1 ≤ x.Part.X0))) || (decide (x.Part.Y1 ≤ c.Y0))) || (decide (c.Y1 ≤ x.Part.Y0))) = true then false else decide ((al x.Across c).1 < x.At) && decide (x.At < (al x.Across c).2)
theorem through_ok (x : TCut) (c : TRect) : F_etchhouselaw9_through x c = some (thr x c) := by
  unfold F_etchhouselaw9_through thr
  split
  · rfl
  · cases x.Across <;> rfl
theorem crs_no0 {a : Bool} {z : Int} {l : List TRect} {c : TRect} (h : crs (l.map (al a)) z = false) (hc : c ∈ l) : (decide ((al a c).1 < z) && decide (z < (al a c).2)) = false := by
  cases hh : (decide ((al a c).1 < z) && decide (z < (al a c).2)) with
  | false => rfl
  | true =>
    have : crs (l.map (al a)) z = true := List.any_eq_true.2 ⟨_, List.mem_map_of_mem hc, hh⟩
    rw [this] at h; cases h
theorem thr_out {x : TCut} {c : TRect} (h : outP x.Part c) : thr x c = false := by
  unfold thr
  refine if_pos ?_
  simp only [Bool.or_eq_true, decide_eq_true_eq]
  rcases h with h | h | h | h
  · exact .inl (.inl (.inl h))
  · exact .inl (.inl (.inr h))
  · exact .inl (.inr h)
  · exact .inr h
theorem thr_crs {p : TRect} {a : Bool} {z : Int} {l : List TRect} {c : TRect} (h : crs (l.map (al a)) z = false) (hc : c ∈ l) : thr ⟨p, a, z⟩ c = false := by
  unfold thr
  split
  · rfl
  · exact crs_no0 h hc
theorem crs_no {a : Bool} {z : Int} {l : List TRect} {c : TRect} (h : crs (l.map (al a)) z = false) (hc : c ∈ l) (h2 : ¬ (al a c).2 ≤ z) : z ≤ (al a c).1 := by
  have := crs_no0 h hc
  simp only [Bool.and_eq_false_iff, decide_eq_false_iff_not] at this
  omega
theorem cut_clear {all : List TRect} : ∀ (n : Nat) (p : TRect) (l : List TRect), l.length ≤ n → RV l → (∀ c ∈ l, inP p c) → (∀ c ∈ all, c ∈ l ∨ outP p c) → ∀ x ∈ (cutS n p l).1, ∀ c ∈ all, thr x c = false
  | 0, p, l, _, _, _, _, x, hx, _, _ => by cases hx
  | n + 1, p, l, h, hv, hi, ho, x, hx, c, hc => by
    have key : ∀ a, (plc (l.map (al a))).2 = true → x ∈ (joinC p a (plc (l.map (al a))).1 (cutS n (lowP p a (plc (l.map (al a))).1) (bel l a (plc (l.map (al a))).1)) (cutS n (highP p a (plc (l.map (al a))).1) (abo l a (plc (l.map (al a))).1))).1 → thr x c = false := by
      intro a ha hx
      obtain ⟨s1, s2⟩ := split_pos hv ha
      have s3 := split_len l a (plc (l.map (al a))).1
      obtain ⟨q1, _, d, hd, q3⟩ := plc_spec ha
      obtain ⟨r, hr, rfl⟩ := List.mem_map.1 hd
      generalize (plc (l.map (al a))).1 = z at *
      have hri := hi r hr
      have hrv := hv r hr
      unfold joinC at hx
      split at hx
      · rcases List.mem_cons.1 hx with rfl | hx
        · rcases ho c hc with h1 | h1
          · exact thr_crs q1 h1
          · exact thr_out h1
        · rcases List.mem_append.1 hx with hx | hx
          · refine cut_clear n _ _ (by omega) hv.bel (fun c hc => ?_) (fun c hc => ?_) x hx c hc
            · obtain ⟨g1, g2⟩ := List.mem_filter.1 hc
              have g2 := of_decide_eq_true g2
              have := hi c g1
              unfold inP at *
              cases a
              · simp only [al, lowP, Bool.false_eq_true, if_false] at *; omega
              · simp only [al, lowP, if_true] at *; omega
            · rcases ho c hc with h1 | h1
              · by_cases h2 : (al a c).2 ≤ z
                · exact .inl (List.mem_filter.2 ⟨h1, by simpa using h2⟩)
                · have := crs_no q1 h1 h2
                  right
                  unfold outP
                  cases a
                  · simp only [al, lowP, Bool.false_eq_true, if_false] at *; omega
                  · simp only [al, lowP, if_true] at *; omega
              · right
                unfold outP inP at *
                cases a
                · simp only [al, lowP, Bool.false_eq_true, if_false] at *; omega
                · simp only [al, lowP, if_true] at *; omega
          · refine cut_clear n _ _ (by omega) hv.abo (fun c hc => ?_) (fun c hc => ?_) x hx c hc
            · obtain ⟨g1, g2⟩ := List.mem_filter.1 hc
              simp only [Bool.not_eq_true', decide_eq_false_iff_not] at g2
              have g3 := crs_no q1 g1 g2
              have := hi c g1
              unfold inP at *
              cases a
              · simp only [al, highP, Bool.false_eq_true, if_false] at *; omega
              · simp only [al, highP, if_true] at *; omega
            · rcases ho c hc with h1 | h1
              · by_cases h2 : (al a c).2 ≤ z
                · right
                  unfold outP
                  cases a
                  · simp only [al, highP, Bool.false_eq_true, if_false] at *; omega
                  · simp only [al, highP, if_true] at *; omega
                · exact .inl (List.mem_filter.2 ⟨h1, by simpa using h2⟩)
              · right
                unfold outP inP at *
                cases a
                · simp only [al, highP, Bool.false_eq_true, if_false] at *; omega
                · simp only [al, highP, if_true] at *; omega
      · cases hx
    unfold cutS at hx
    split at hx
    · cases hx
    · split at hx
      · exact key true (by assumption) hx
      · split at hx
        · exact key false (by assumption) hx
        · cases hx
theorem apart6 {y : List TRect × Int} {x : Int} {K : Int → Option Bool} {q : TCut} (hl : y.1.length ≤ 1000000) (h : ∀ c ∈ y.1, thr q c = false) : ∀ (suf pre : List TRect) (m : Nat), y.1 = pre ++ suf → suf.length < m →
    F_etchhouselaw9_CutsComeApart_L6 y x K q.Part.X0 q.Part.Y0 q.Part.X1 q.Part.Y1 q.Across q.At m pre.length = K (w64 (x + 1))
  | suf, pre, 0, _, h => absurd h (Nat.not_lt_zero _)
  | [], pre, m + 1, h1, h2 => by
    rw [F_etchhouselaw9_CutsComeApart_L6.eq_2, if_neg (by rw [h1]; simp)]
  | r :: suf, pre, m + 1, h1, h2 => by
    have hp : pre.length ≤ 1000000 := by rw [h1] at hl; simp at hl; omega
    have hid : idx y.1 (pre.length : Int) = some r := by rw [h1]; exact idx_mid pre suf r
    have hq := h r (by rw [h1]; simp)
    rw [F_etchhouselaw9_CutsComeApart_L6.eq_2, if_pos (by rw [h1]; exact lt_mid pre suf r), hid, Option.bind_some, through_ok, Option.bind_some, show (TCut.mk (TRect.mk q.Part.X0 q.Part.Y0 q.Part.X1 q.Part.Y1) q.Across q.At) = q from rfl, hq, if_neg (by simp), up_mid pre r (by omega)]
    exact apart6 hl h suf (pre ++ [r]) m (by rw [h1]; simp) (by simp at h2; omega)
theorem apart5 {N : Nat} {yc : List TCut × Bool × Int} {y : List TRect × Int} {ys : List TCut × Int} (hN : 3 ≤ N) (hNl : y.1.length < N) (hl : y.1.length ≤ 1000000) (hcl : yc.1.length ≤ 1000000) (hsl : ys.1.length ≤ 1000000) (h : ∀ q ∈ yc.1 ++ ys.1, ∀ c ∈ y.1, thr q c = false) : ∀ (d k m : Nat), yc.1.length + ys.1.length = k + d → d < m →
    F_etchhouselaw9_CutsComeApart_L5 N yc y ys m (k : Int) = some true
  | d, k, 0, _, h => absurd h (Nat.not_lt_zero _)
  | 0, k, m + 1, h1, h2 => by
    rw [F_etchhouselaw9_CutsComeApart_L5.eq_2, w64_id (x := (yc.1.length : Int) + ys.1.length) (by omega) (by omega), if_neg (by simp; omega), awakeP_ok hN, Option.bind_some]
  | d + 1, k, m + 1, h1, h2 => by
    have ih := apart5 hN hNl hl hcl hsl h d (k + 1) m (by omega) (by omega)
    have hup : w64 ((k : Int) + 1) = ((k + 1 : Nat) : Int) := by rw [w64_id (by omega) (by omega)]; omega
    rw [F_etchhouselaw9_CutsComeApart_L5.eq_2, w64_id (x := (yc.1.length : Int) + ys.1.length) (by omega) (by omega), if_pos (by simp; omega)]
    by_cases hk : k < yc.1.length
    · rw [if_pos (by simpa using hk), idx_nat hk, Option.bind_some]
      unfold F_etchhouselaw9_CutsComeApart_J7
      have := apart6 (x := (k : Int)) (K := F_etchhouselaw9_CutsComeApart_L5 N yc y ys m) (q := yc.1[k]) hl (h _ (List.mem_append_left _ (List.getElem_mem hk))) y.1 [] N rfl hNl
      rw [show (([] : List TRect).length : Int) = 0 from rfl] at this
      rw [this, hup, ih]
    · have hk2 : k - yc.1.length < ys.1.length := by omega
      have hw : w64 ((k : Int) - yc.1.length) = ((k - yc.1.length : Nat) : Int) := by rw [w64_id (by omega) (by omega)]; omega
      rw [if_neg (by simpa using hk), hw, idx_nat hk2, Option.bind_some]
      unfold F_etchhouselaw9_CutsComeApart_J7
      have := apart6 (x := (k : Int)) (K := F_etchhouselaw9_CutsComeApart_L5 N yc y ys m) (q := ys.1[k - yc.1.length]) hl (h _ (List.mem_append_right _ (List.getElem_mem hk2))) y.1 [] N rfl hNl
      rw [show (([] : List TRect).length : Int) = 0 from rfl] at this
      rw [this, hup, ih]
/-- The sum of the sizes of the names. -/
def namesSize : List TBoardKind → Nat
  | [] => 0
  | k :: l => k.Name.size + namesSize l
theorem namesSize_le : ∀ {l : List TBoardKind} {k : TBoardKind}, k ∈ l → k.Name.size ≤ namesSize l
  | a :: l, k, h => by
    rcases List.mem_cons.1 h with rfl | h
    · unfold namesSize; omega
    · have := namesSize_le h; unfold namesSize; omega
/-- Fuel for a panel. -/
def fuelOf (p : TPanel) : Nat := 20000000 + p.Kinds.length + namesSize p.Kinds + 1
theorem fuelP {p : TPanel} (h : p.Wf) : FuelP (fuelOf p) p :=
  ⟨by unfold fuelOf; omega, by unfold fuelOf; omega, fun k hk => ⟨(h.fKinds.2 k hk).fName, by have := namesSize_le hk; unfold fuelOf; omega⟩⟩
theorem Cells_ok {N : Nat} {p : TPanel} (hn : ∀ k ∈ p.Kinds, k.Name.size ≤ 9223372036854775807 ∧ k.Name.size < N) (he : openErr p = 0) : F_panel_Cells N p = some (p.Slots.map (cellOf p), 0) := by
  unfold F_panel_Cells
  rw [open_ok hn, if_pos he, Option.bind_some]
theorem Apart_plain (p : TPanel) (h : p.Wf) : ∃ N, F_etchhouselaw9_CutsComeApart N p = some true := by
  refine ⟨fuelOf p, ?_⟩
  have hF := fuelP h
  have hN := hF.big
  unfold F_etchhouselaw9_CutsComeApart
  rw [Cuts_ok (by omega) hF.names, Option.bind_some]
  by_cases he : openErr p = 0
  · obtain ⟨hB, hl, _, hs⟩ := openErr_ok he
    have hv : RV (p.Slots.map (cellOf p)) := fun r hr => by
      obtain ⟨s, h1, rfl⟩ := List.mem_map.1 hr
      have := (hs s h1).bd hB
      exact ⟨this.2.2.2.1, this.2.2.2.2.1⟩
    have hin : ∀ c ∈ p.Slots.map (cellOf p), inP (wholeP p) c := fun r hr => by
      obtain ⟨s, h1, rfl⟩ := List.mem_map.1 hr
      have a := (hs s h1).bd hB
      have b := hs s h1
      have b1 := b.x1; have b2 := b.y1; have b3 := hB.r0
      unfold inP wholeP
      dsimp only
      omega
    have hcl : (p.Slots.map (cellOf p)).length = p.Slots.length := List.length_map _
    have hcut := cut_clear (all := p.Slots.map (cellOf p)) p.Slots.length (wholeP p) (p.Slots.map (cellOf p)) (by omega) hv hin (fun c hc => .inl hc)
    have hlen := cutS_len p.Slots.length (wholeP p) (p.Slots.map (cellOf p)) (by omega) hv
    have l1 := scP_len (p.Slots.map (cellOf p)) true
    have l2 := scP_len (p.Slots.map (cellOf p)) false
    have hsc : ∀ q ∈ scT p (p.Slots.map (cellOf p)), ∀ c ∈ p.Slots.map (cellOf p), thr q c = false := fun q hq c hc => by
      unfold scT at hq
      rcases List.mem_append.1 hq with hq | hq
      · obtain ⟨z, hz, rfl⟩ := List.mem_map.1 hq
        unfold scP at hz
        exact thr_crs (by simpa using (List.mem_filter.1 hz).2) hc
      · obtain ⟨z, hz, rfl⟩ := List.mem_map.1 hq
        unfold scP at hz
        exact thr_crs (by simpa using (List.mem_filter.1 hz).2) hc
    have hsl : (scT p (p.Slots.map (cellOf p))).length ≤ 4000 := by unfold scT; simp; omega
    rw [if_pos he, if_neg (by simp), Cells_ok hF.names he, Option.bind_some, Scores_ok (by omega) hF.names, Option.bind_some, if_pos he]
    have hcs := cutS_small (n := p.Slots.length) (p := wholeP p) (l := p.Slots.map (cellOf p)) (by omega) hv
    generalize cutS p.Slots.length (wholeP p) (p.Slots.map (cellOf p)) = X at *
    have hmax : max 0 (w64 (((p.Slots.map (cellOf p)).length : Int) - 1)) = ((p.Slots.length - 1 : Nat) : Int) := by
      rw [w64_id (by omega) (by omega)]; omega
    rw [if_neg ?_]
    · have := apart5 (N := fuelOf p) (yc := (X.1, X.2, 0)) (y := (p.Slots.map (cellOf p), 0)) (ys := (scT p (p.Slots.map (cellOf p)), 0)) (by omega) (by dsimp only; omega) (by dsimp only; omega) (by dsimp only; omega) (by dsimp only; omega) (fun q hq => by
        rcases List.mem_append.1 hq with hq | hq
        · exact hcut q hq
        · exact hsc q hq) (X.1.length + (scT p (p.Slots.map (cellOf p))).length) 0 (fuelOf p) (by dsimp only; omega) (by omega)
      exact this
    · dsimp only
      rw [hmax]
      rcases hlen with ⟨a1, a2⟩ | a1
      · rw [a1, a2]; simp
      · rw [a1]; simp
  · rw [if_neg he, if_pos (by simpa using he), awakeP_ok (by omega)]
    simp
end Go.Proofs.Ytfddmjoldoddlaa
