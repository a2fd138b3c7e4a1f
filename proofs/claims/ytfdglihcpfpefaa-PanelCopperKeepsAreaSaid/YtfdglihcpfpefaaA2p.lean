/- The panel's check, ended: slots, marks, and the whole check of the program and of the reference. Plain Lean about the plain functions. -/
import Derived.Test.YtfdglihcpfpefaaA1p
namespace Go.Proofs.Ytfdglihcpfpefaa
-- marks
instance : DecidableEq TPoint := fun _ _ => decidable_of_iff _ eqTPoint_iff
def inside (r : TRect) (m : TPoint) : Bool := (((decide (r.X0 < m.X)) && (decide (m.X < r.X1))) && (decide (r.Y0 < m.Y))) && (decide (m.Y < r.Y1))
def markErr (p : TPanel) (prev : List TPoint) (m : TPoint) : Int :=
  if within m.X 0 p.W = false ∨ within m.Y 0 p.H = false then 1 else if ((p.Slots.map (cellOf p)).any fun r => inside r m) = true then 12 else if m ∈ prev then 7 else 0
def marksErr (p : TPanel) : List TPoint → List TPoint → Int
  | _, [] => 0
  | prev, m :: rest => if markErr p prev m = 0 then marksErr p (prev ++ [m]) rest else markErr p prev m
theorem eqP {a b : TPoint} : eqTPoint a b = decide (a = b) := by
  by_cases h : a = b
  · rw [eqTPoint_iff.2 h, decide_eq_true h]
  · rw [decide_eq_false h, Bool.eq_false_iff]; exact fun h' => h (eqTPoint_iff.1 h')
theorem ContainsP_ok (l : List TPoint) (m : TPoint) : F_slices_Contains_Point l m = some (decide (m ∈ l)) := by
  have key : ∀ (l : List TPoint) (i : Nat), F_slices_Index_Point_L1 m l i = some (ixOf (fun x => eqTPoint m x) l i) := by
    intro l
    induction l with
    | nil => intro i; rfl
    | cons x l ih =>
      intro i
      rw [F_slices_Index_Point_L1.eq_2, ih (i + 1), ixOf, show ((i + 1 : Nat) : Int) = (i : Int) + 1 by omega]
      cases eqTPoint m x <;> rfl
  unfold F_slices_Contains_Point F_slices_Index_Point
  rw [key l 0, Option.bind_some, show ((0 : Nat) : Int) = 0 from rfl, ixOf_any _ l 0 (by omega)]
  congr 1
  rw [Bool.eq_iff_iff]
  simp [eqTPoint_iff]
theorem marks_loop {p : TPanel} {y : List TRect × Int} (hy : y.1 = p.Slots.map (cellOf p)) : ∀ (suf pre : List TPoint), p.Marks = pre ++ suf → 
    F_panel_open_L1 p y suf pre.length = some (if marksErr p pre suf = 0 then (p.Slots.map (cellOf p), 0) else ([], marksErr p pre suf))
  | [], pre, hp => by rw [F_panel_open_L1.eq_1, hy]; simp [marksErr]
  | m :: suf, pre, hp => by
    have ih := marks_loop hy suf (pre ++ [m]) (by rw [hp]; simp)
    rw [show (pre ++ [m]).length = pre.length + 1 by simp] at ih
    rw [F_panel_open_L1.eq_2, ih, marksErr, markErr, hy]
    unfold F_panel_isOnPanel
    simp only [within_ok, Option.bind_some]
    cases hX : within m.X 0 p.W
    · simp
    cases hY : within m.Y 0 p.H
    · simp
    have hc : F_slices_ContainsFunc_Rect (p.Slots.map (cellOf p)) (fun z0 => F_panel_open_1 z0 m) = some ((p.Slots.map (cellOf p)).any fun r => inside r m) := ContainsR_ok (fun r _ => rfl)
    rw [hc, show Proofs.Ytfdglihcpfpefaa.pre p.Marks (pre.length : Int) = some pre by rw [hp]; unfold Proofs.Ytfdglihcpfpefaa.pre; rw [if_pos ⟨by omega, by simp; omega⟩]; simp]
    simp only [if_true, Bool.not_true, Bool.false_eq_true, if_false, Option.bind_some, or_self, reduceCtorEq, ContainsP_ok, decide_eq_true_eq]
    cases ((p.Slots.map (cellOf p)).any fun r => inside r m)
    · by_cases hm : m ∈ pre <;> simp [hm]
    · simp
/-- The panel's error. -/
def openErr (p : TPanel) : Int :=
  if within p.W 1 1000000 = false ∨ within p.H 1 1000000 = false ∨ within p.Rail 0 1000000 = false ∨ within p.Gap 0 1000000 = false then 1
  else if checkKinds p.Kinds = 0 then
    if cellsErr p = 0 then if 10 < p.Marks.length then 2 else marksErr p [] p.Marks
    else cellsErr p
  else checkKinds p.Kinds
theorem PB_of {p : TPanel} (h : ¬ (within p.W 1 1000000 = false ∨ within p.H 1 1000000 = false ∨ within p.Rail 0 1000000 = false ∨ within p.Gap 0 1000000 = false)) (hk : checkKinds p.Kinds = 0) : PB p := by
  simp only [not_or, Bool.not_eq_false] at h
  obtain ⟨h1, h2, h3, h4⟩ := h
  have h1 := within_iff.1 h1; have h2 := within_iff.1 h2; have h3 := within_iff.1 h3; have h4 := within_iff.1 h4
  unfold checkKinds at hk
  split at hk
  · omega
  · exact ⟨h1.1, h1.2, h2.1, h2.2, h3.1, h3.2, h4.1, h4.2, kindsErr_ok hk, by omega⟩
theorem open_ok {N : Nat} {p : TPanel} (hn : ∀ k ∈ p.Kinds, k.Name.size ≤ 9223372036854775807 ∧ k.Name.size < N) : F_panel_open N p = some (if openErr p = 0 then (p.Slots.map (cellOf p), 0) else ([], openErr p)) := by
  unfold F_panel_open openErr
  simp only [within_ok, Option.bind_some]
  by_cases h : within p.W 1 1000000 = false ∨ within p.H 1 1000000 = false ∨ within p.Rail 0 1000000 = false ∨ within p.Gap 0 1000000 = false
  · rw [if_pos h]
    generalize within p.W 1 1000000 = a at *
    generalize within p.H 1 1000000 = b at *
    generalize within p.Rail 0 1000000 = c at *
    generalize within p.Gap 0 1000000 = d at *
    cases a <;> cases b <;> cases c <;> cases d <;> first | rfl | exact absurd h (by decide)
  · rw [if_neg h]
    have h' := h
    simp only [not_or, Bool.not_eq_false] at h'
    obtain ⟨h1, h2, h3, h4⟩ := h'
    rw [h1, h2, h3, h4, checkKinds_ok hn]
    simp only [Bool.not_true, Bool.false_eq_true, if_false, Option.bind_some]
    by_cases hk : checkKinds p.Kinds = 0
    · have hB := PB_of h hk
      rw [hk, cells_ok hB]
      simp only [Option.bind_some, if_true, bne_self_eq_false, Bool.false_eq_true, if_false]
      by_cases hc : cellsErr p = 0
      · simp only [if_pos hc]
        simp only [bne_self_eq_false, Bool.false_eq_true, if_false]
        by_cases hm : 10 < p.Marks.length
        · simp only [if_pos hm]; rw [if_pos (by simp; omega)]; rfl
        · simp only [if_neg hm]; rw [if_neg (by simp; omega)]
          exact marks_loop rfl p.Marks [] rfl
      · simp only [if_neg hc]
        rw [if_pos (by simpa using hc)]
    · rw [if_pos (by simpa using hk), if_neg hk, if_neg hk]
-- the reference's marks
theorem openErr_ok {p : TPanel} (h : openErr p = 0) : PB p ∧ p.Slots.length ≤ 500 ∧ p.Marks.length ≤ 10 ∧ (∀ s ∈ p.Slots, SlotOk p s) := by
  unfold openErr at h
  split at h
  · omega
  · rename_i h0
    split at h
    · rename_i hk
      have hB := PB_of h0 hk
      split at h
      · rename_i hc
        unfold cellsErr at hc
        split at hc
        · omega
        · split at h
          · omega
          · exact ⟨hB, by omega, by omega, slotsErr_ok hc⟩
      · rename_i hc; exact absurd h hc
    · rename_i hk; exact absurd h hk
end Go.Proofs.Ytfdglihcpfpefaa
