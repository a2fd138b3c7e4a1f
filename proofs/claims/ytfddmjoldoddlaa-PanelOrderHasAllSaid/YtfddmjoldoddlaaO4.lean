/- PanelOrderHasAll: the law, and enough fuel for any panel. Plain Lean about the plain functions. -/
import Derived.Test.YtfddmjoldoddlaaO1
import Derived.Test.YtfddmjoldoddlaaB0q
import Derived.Test.YtfddmjoldoddlaaOBR
namespace Go.Proofs.Ytfddmjoldoddlaa
theorem ordG_ok {cs : List TRect} (hd : DX cs) : ∀ (ys : List Int) (k : Nat), ys.Pairwise (fun x y => x < y) → (∀ i, i ∈ ordG cs ys k ↔ ∃ y ∈ ys, i ∈ rowI cs cs.length y) ∧ (ordG cs ys k).Pairwise (fun i j => yAt cs i ≤ yAt cs j) ∧ (ordG cs ys k).Nodup
  | [], k, _ => ⟨fun i => by simp [ordG], .nil, .nil⟩
  | y :: ys, k, h => by
    obtain ⟨p1, p2⟩ := List.pairwise_cons.1 h
    obtain ⟨h1, h2, h3⟩ := ordG_ok hd ys (k + 1) p2
    have hr : (if k % 2 = 1 then (srow cs y).reverse else srow cs y).Perm (rowI cs cs.length y) := by
      split
      · exact (List.reverse_perm _).trans (srow_ok hd y).perm
      · exact (srow_ok hd y).perm
    have e : ordG cs (y :: ys) k = (if k % 2 = 1 then (srow cs y).reverse else srow cs y) ++ ordG cs ys (k + 1) := rfl
    rw [e]
    generalize (if k % 2 = 1 then (srow cs y).reverse else srow cs y) = r at hr
    refine ⟨fun i => ?_, ?_, ?_⟩
    · rw [List.mem_append, hr.mem_iff, h1]; simp
    · rw [List.pairwise_append]
      refine ⟨List.pairwise_of_forall_mem_list fun a ha b hb => ?_, h2, fun a ha b hb => ?_⟩
      · have a1 := (mem_rowI.1 (hr.subset ha)).2
        have b1 := (mem_rowI.1 (hr.subset hb)).2
        omega
      · have a1 := (mem_rowI.1 (hr.subset ha)).2
        obtain ⟨y', hy', hb'⟩ := (h1 b).1 hb
        have b1 := (mem_rowI.1 hb').2
        have := p1 y' hy'
        omega
    · rw [List.nodup_append]
      refine ⟨hr.nodup_iff.2 (rowI_nodup _ _ _), h3, fun a ha b hb e => ?_⟩
      subst e
      have a1 := (mem_rowI.1 (hr.subset ha)).2
      obtain ⟨y', hy', hb'⟩ := (h1 a).1 hb
      have b1 := (mem_rowI.1 hb').2
      have := p1 y' hy'
      omega
theorem ordS_ok {cs : List TRect} (hd : DX cs) : (∀ i, i ∈ ordS cs ↔ 0 ≤ i ∧ i < cs.length) ∧ (ordS cs).Pairwise (fun i j => yAt cs i ≤ yAt cs j) ∧ (ordS cs).Nodup ∧ (ordS cs).length = cs.length := by
  obtain ⟨h1, h2, h3⟩ := ordG_ok hd (srtd (cs.map (·.Y0))) 0 (srtd_strict _)
  have hm : ∀ i, i ∈ ordS cs ↔ 0 ≤ i ∧ i < cs.length := fun i => by
    unfold ordS
    rw [h1]
    constructor
    · rintro ⟨y, _, hy⟩; exact (mem_rowI.1 hy).1
    · intro h
      obtain ⟨r, r1, r2, r3, r4⟩ := at_idx h
      exact ⟨yAt cs i, (srtd_mem _ _).2 (List.mem_map.2 ⟨r, r2, r4⟩), mem_rowI.2 ⟨h, rfl⟩⟩
  refine ⟨hm, h2, h3, ?_⟩
  have : (ordS cs).Perm (ix cs.length) := (List.perm_ext_iff_of_nodup h3 (ix_nodup _)).2 fun i => (hm i).trans mem_ix.symm
  rw [this.length_eq, ix_len]
theorem ContainsI_ok (l : List Int) (m : Int) : F_slices_Contains_int l m = some (decide (m ∈ l)) := by
  have key : ∀ (l : List Int) (i : Nat), ∃ k, F_slices_Index_int_L1 m l i = some k ∧ decide (0 ≤ k) = decide (m ∈ l) := by
    intro l
    induction l with
    | nil => intro i; exact ⟨-1, rfl, rfl⟩
    | cons x l ih =>
      intro i
      rw [F_slices_Index_int_L1.eq_2]
      by_cases h : m = x
      · rw [if_pos (by simpa using h)]
        exact ⟨_, rfl, by simp [h]⟩
      · rw [if_neg (by simpa using h)]
        obtain ⟨k, k1, k2⟩ := ih (i + 1)
        exact ⟨k, k1, by rw [k2]; simp [h]⟩
  unfold F_slices_Contains_int F_slices_Index_int
  obtain ⟨k, k1, k2⟩ := key l 0
  rw [k1, Option.bind_some, k2]
theorem has_loop {N : Nat} {cs : List TRect} {l : List Int} (hN : 3 ≤ N) (hl : l.length ≤ 1000000) (hm : ∀ i ∈ l, 0 ≤ i ∧ i < cs.length) (hp : l.Pairwise (fun i j => yAt cs i ≤ yAt cs j)) (hd : l.Nodup) : ∀ (suf pre : List Int) (m : Nat), l = pre ++ suf → suf.length < m →
    F_etchhouselaw9_PanelOrderHasAll_L1 N (l, 0) (cs, 0) m (pre.length : Int) = some true
  | suf, pre, 0, _, h => absurd h (Nat.not_lt_zero _)
  | [], pre, m + 1, h1, h2 => by
    rw [F_etchhouselaw9_PanelOrderHasAll_L1.eq_2, if_neg (by rw [h1]; simp), awakeP_ok hN, Option.bind_some]
  | a :: suf, pre, m + 1, h1, h2 => by
    have hpl : pre.length ≤ 1000000 := by rw [h1] at hl; simp at hl; omega
    have hid : idx l (pre.length : Int) = some a := by rw [h1]; exact idx_mid pre suf a
    have ha := hm a (by rw [h1]; simp)
    have hpre : Proofs.Ytfddmjoldoddlaa.pre l (pre.length : Int) = some pre := by
      unfold Proofs.Ytfddmjoldoddlaa.pre
      rw [if_pos ⟨by omega, by rw [h1]; simp; omega⟩, h1]; simp
    have hno : a ∉ pre := fun hh => by
      rw [h1, List.nodup_append] at hd
      exact hd.2.2 a hh a (by simp) rfl
    have hlast : (if decide (0 < (pre.length : Int)) = true then ((some a).bind fun x198 => (idx cs x198).bind fun x199 => (idx l (w64 ((pre.length : Int) - 1))).bind fun x200 => (idx cs x200).bind fun x201 => some (decide (x199.Y0 < x201.Y0))) else some false) = some false := by
      rcases List.eq_nil_or_concat pre with h | ⟨j, b, h⟩
      · subst h; rfl
      · have h : pre = j ++ [b] := by simpa using h
        have hj : w64 ((pre.length : Int) - 1) = (j.length : Int) := by rw [w64_id (by omega) (by omega), h]; simp
        have hb : idx l (j.length : Int) = some b := by rw [h1, h]; simpa using idx_mid j (a :: suf) b
        have hbm := hm b (by rw [h1, h]; simp)
        obtain ⟨r, r1, r2, r3, r4⟩ := at_idx ha
        obtain ⟨s, s1, s2, s3, s4⟩ := at_idx hbm
        have hle : yAt cs b ≤ yAt cs a := by
          rw [h1, h] at hp
          exact (List.pairwise_append.1 hp).2.2 b (by simp) a (by simp)
        rw [if_pos (by rw [h]; simp), Option.bind_some, r1, Option.bind_some, hj, hb, Option.bind_some, s1, Option.bind_some]
        simp; omega
    rw [F_etchhouselaw9_PanelOrderHasAll_L1.eq_2, if_pos (by rw [h1]; exact lt_mid pre suf a)]
    dsimp only
    rw [hid, Option.bind_some, if_neg (by simp; omega), Option.bind_some, Option.bind_some, if_neg (by simp; omega), hpre, Option.bind_some, Option.bind_some, ContainsI_ok, Option.bind_some, Option.bind_some, if_neg (by simpa using hno), hlast, Option.bind_some, Option.bind_some, if_neg (by simp), up_mid pre a (by omega)]
    exact has_loop hN hl hm hp hd suf (pre ++ [a]) m (by rw [h1]; simp) (by simp at h2; omega)
/-- The sum of the sizes of the names. -/
def namesSize : List TBoardKind → Nat
  | [] => 0
  | k :: l => k.Name.size + namesSize l
theorem namesSize_le : ∀ {l : List TBoardKind} {k : TBoardKind}, k ∈ l → k.Name.size ≤ namesSize l
  | a :: l, k, h => by
    rcases List.mem_cons.1 h with rfl | h
    · unfold namesSize; omega
    · have := namesSize_le h; unfold namesSize; omega
/-- Fuel for a panel. -/
def fuelOf (p : TPanel) : Nat := 20000000 + p.Kinds.length + namesSize p.Kinds + 1
theorem fuelP {p : TPanel} (h : p.Wf) : FuelP (fuelOf p) p :=
  ⟨by unfold fuelOf; omega, by unfold fuelOf; omega, fun k hk => ⟨(h.fKinds.2 k hk).fName, by have := namesSize_le hk; unfold fuelOf; omega⟩⟩
theorem HasAll_plain (p : TPanel) (h : p.Wf) : ∃ N, F_etchhouselaw9_PanelOrderHasAll N p = some true := by
  refine ⟨fuelOf p, ?_⟩
  have hF := fuelP h
  have hN := hF.big
  unfold F_etchhouselaw9_PanelOrderHasAll F_panel_Cells
  rw [Order_ok (by omega) hF.names, Option.bind_some, open_ok hF.names, Option.bind_some]
  by_cases he : openErr p = 0
  · obtain ⟨hB, hl, _, hs⟩ := openErr_ok he
    obtain ⟨d1, d2⟩ := cells_DX he
    obtain ⟨g1, g2, g3, g4⟩ := ordS_ok d1
    have hcl : (p.Slots.map (cellOf p)).length = p.Slots.length := List.length_map _
    rw [if_pos he, if_pos he, if_neg (by simp), Option.bind_some, if_neg (by simp [g4])]
    exact has_loop (by omega) (by omega) (fun i hi => (g1 i).1 hi) g2 g3 (ordS (p.Slots.map (cellOf p))) [] (fuelOf p) rfl (by omega)
  · rw [if_neg he, if_pos (by simpa using he), awakeP_ok (by omega)]
    simp
end Go.Proofs.Ytfddmjoldoddlaa
