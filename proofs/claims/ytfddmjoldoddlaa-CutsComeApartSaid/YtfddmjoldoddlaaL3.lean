/- Scores: what the program computes. Plain Lean about the plain functions. -/
import Derived.Test.YtfddmjoldoddlaaL1
import Derived.Test.YtfddmjoldoddlaaA2
import Derived.Test.YtfddmjoldoddlaaD0
namespace Go.Proofs.Ytfddmjoldoddlaa
/-- The ends of cells across a direction. -/
def ends (l : List TRect) (a : Bool) : List Int := l.flatMap fun c => [(al a c).1, (al a c).2]
theorem ends_len (l : List TRect) (a : Bool) : (ends l a).length = 2 * l.length := by
  unfold ends
  induction l with
  | nil => rfl
  | cons c l ih => simp [ih]; omega
/-- The places at which nothing is cut through. -/
def scP (l : List TRect) (a : Bool) : List Int := (srtd (ends l a)).filter fun n => !crs (l.map (al a)) n
def wholeP (p : TPanel) : TRect := ⟨0, 0, p.W, p.H⟩
def scT (p : TPanel) (l : List TRect) : List TCut := (scP l true).map (TCut.mk (wholeP p) true) ++ (scP l false).map (TCut.mk (wholeP p) false)
theorem crs_any (l : List TRect) (a : Bool) (n : Int) : (l.any fun d => decide ((al a d).1 < n) && decide (n < (al a d).2)) = crs (l.map (al a)) n := by
  unfold crs
  rw [List.any_map]; rfl
theorem scores7 {p : TPanel} {y : List TRect × Int} {l2 : List Bool} {x : Int} {K : List TCut → List Bool → Int → Option (List TCut × Int)} {a : Bool} : ∀ (suf : List Int) (i : Nat) (out : List TCut), out.length + suf.length ≤ 1000000 →
    F_panel_Scores_L7 p y l2 x K a suf i out = K (out ++ (suf.filter fun n => !crs (y.1.map (al a)) n).map (TCut.mk (wholeP p) a)) l2 (w64 (x + 1))
  | [], i, out, _ => by rw [F_panel_Scores_L7.eq_1]; simp
  | n :: suf, i, out, h => by
    simp only [List.length_cons] at h
    have e : F_slices_ContainsFunc_Rect y.1 (fun z0 => F_panel_Scores_1 z0 a n) = some (crs (y.1.map (al a)) n) := by
      rw [ContainsR_ok (g := fun d => decide ((al a d).1 < n) && decide (n < (al a d).2)) (fun d _ => by
        unfold F_panel_Scores_1
        rw [along_ok, Option.bind_some]), crs_any]
    have ew : F_panel_whole p = some (wholeP p) := rfl
    rw [F_panel_Scores_L7.eq_2, e, Option.bind_some]
    cases hc : crs (y.1.map (al a)) n with
    | true =>
      rw [if_neg (by simp), scores7 suf (i + 1) out (by omega)]
      simp [hc]
    | false =>
      rw [if_pos (by simp), ew, Option.bind_some, apd_ok (by simp; omega), Option.bind_some, scores7 suf (i + 1) _ (by simp; omega)]
      simp [hc]
theorem scores6 {p : TPanel} {y : List TRect × Int} {o : List TCut} {l2 : List Bool} {x : Int} {K : List TCut → List Bool → Int → Option (List TCut × Int)} {a : Bool} (ho : o.length ≤ 10000) : ∀ (suf : List TRect) (i : Nat) (out : List Int), out.length + 2 * suf.length ≤ 10000 →
    F_panel_Scores_L6 p y o l2 x K a suf i out = K (o ++ ((srtd (out ++ ends suf a)).filter fun n => !crs (y.1.map (al a)) n).map (TCut.mk (wholeP p) a)) l2 (w64 (x + 1))
  | [], i, out, h => by
    have hs := srtd_ok (l := out) (by simp at h; omega)
    have hl : (srtd out).length ≤ 1000000 - o.length := by
      unfold srtd
      have := cpI_len (out.mergeSort fun x y => decide (x ≤ y))
      rw [List.length_mergeSort] at this
      simp at h; omega
    rw [F_panel_Scores_L6.eq_1, ← Option.bind_assoc, hs, Option.bind_some, scores7 _ 0 o (by omega)]
    simp [ends]
  | c :: suf, i, out, h => by
    simp only [List.length_cons] at h
    rw [F_panel_Scores_L6.eq_2, along_ok, Option.bind_some, apd_ok (by simp; omega), Option.bind_some, scores6 ho suf (i + 1) _ (by simp; omega)]
    simp [ends]
theorem scP_len (l : List TRect) (a : Bool) : (scP l a).length ≤ 2 * l.length := by
  unfold scP
  refine Nat.le_trans (List.length_filter_le _ _) ?_
  unfold srtd
  have := cpI_len ((ends l a).mergeSort fun x y => decide (x ≤ y))
  rw [List.length_mergeSort, ends_len] at this
  exact this
theorem Scores_ok {N : Nat} {p : TPanel} (hN : 3 ≤ N) (hn : ∀ k ∈ p.Kinds, k.Name.size ≤ 9223372036854775807 ∧ k.Name.size < N) :
    F_panel_Scores N p = some (if openErr p = 0 then (scT p (p.Slots.map (cellOf p)), 0) else ([], openErr p)) := by
  unfold F_panel_Scores
  rw [open_ok hn, Option.bind_some]
  by_cases he : openErr p = 0
  · obtain ⟨_, hl, _, _⟩ := openErr_ok he
    rw [if_pos he, if_pos he, if_neg (by simp)]
    obtain ⟨m, rfl⟩ : ∃ m, N = m + 3 := ⟨N - 3, by omega⟩
    have i0 : idx [true, false] (0 : Int) = some true := rfl
    have i1 : idx [true, false] (w64 (0 + 1)) = some false := rfl
    rw [F_panel_Scores_L5.eq_2, if_pos (by decide), i0, Option.bind_some, scores6 (by simp) _ 0 [] (by simp; omega), F_panel_Scores_L5.eq_2, if_pos (by decide), i1, Option.bind_some]
    have hs := scP_len (p.Slots.map (cellOf p)) true
    rw [List.length_map] at hs
    rw [scores6 (by unfold scP at hs; rw [List.nil_append, List.nil_append, List.length_map]; dsimp only; omega) _ 0 [] (by simp; omega), F_panel_Scores_L5.eq_2, if_neg (by decide)]
    rfl
  · rw [if_neg he, if_neg he, if_pos (by simpa using he)]
theorem Cuts_ok {N : Nat} {p : TPanel} (hN : 600 ≤ N) (hn : ∀ k ∈ p.Kinds, k.Name.size ≤ 9223372036854775807 ∧ k.Name.size < N) :
    F_panel_Cuts N p = some (if openErr p = 0 then ((cutS p.Slots.length (wholeP p) (p.Slots.map (cellOf p))).1, (cutS p.Slots.length (wholeP p) (p.Slots.map (cellOf p))).2, 0) else ([], false, openErr p)) := by
  unfold F_panel_Cuts
  rw [open_ok hn, Option.bind_some]
  have ew : F_panel_whole p = some (wholeP p) := rfl
  by_cases he : openErr p = 0
  · obtain ⟨hB, hl, _, hs⟩ := openErr_ok he
    rw [if_pos he, if_pos he, if_neg (by simp), ew, Option.bind_some, cuts_ok p.Slots.length _ _ _ (by simp) (by omega) (by simp; omega) (fun r hr => by
      obtain ⟨s, h1, rfl⟩ := List.mem_map.1 hr
      have := (hs s h1).bd hB
      exact ⟨this.2.2.2.1, this.2.2.2.2.1⟩), Option.bind_some]
  · rw [if_neg he, if_neg he, if_pos (by simpa using he)]
end Go.Proofs.Ytfddmjoldoddlaa
