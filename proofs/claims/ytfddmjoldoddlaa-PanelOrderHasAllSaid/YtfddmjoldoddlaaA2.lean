/- The panel's check, ended: slots, marks, and the whole check of the program and of the reference. Plain Lean about the plain functions. -/
import Derived.Test.YtfddmjoldoddlaaA1
namespace Go.Proofs.Ytfddmjoldoddlaa
theorem checkSlot_loop {N : Nat} {p : TPanel} (hB : PB p) (hN : p.Kinds.length < N) (hl : p.Slots.length ≤ 500) {s : TSlot} (hs : SlotOk p s) {suf : List TSlot} : ∀ (q2 q1 : List TSlot) (m : Nat), p.Slots = q1 ++ (q2 ++ s :: suf) → (∀ t ∈ q2, SlotOk p t) → q2.length < m →
    F_etchhouseref9_checkSlot_L1 N p ((q1.length + q2.length : Nat) : Int) s m q1.length = some (if ((q2.map (cellOf p)).any fun d => !apart (cellOf p s) d p.Gap) = true then 12 else 0)
  | [], q1, m + 1, hp, _, _ => by
    rw [F_etchhouseref9_checkSlot_L1.eq_2, if_neg (by simp)]; simp
  | t :: q2, q1, m + 1, hp, hq, hm => by
    have ih := checkSlot_loop (suf := suf) hB hN hl hs q2 (q1 ++ [t]) m (by rw [hp]; simp) (fun u hu => hq u (by simp [hu])) (by simp at hm; omega)
    have ht := hq t (by simp)
    have hql : q1.length ≤ 500 := by rw [hp] at hl; simp at hl; omega
    rw [show (q1 ++ [t]).length + q2.length = q1.length + (t :: q2).length by simp; omega] at ih
    rw [F_etchhouseref9_checkSlot_L1.eq_2, if_pos (by simp; omega), cellOfR_ok hB hN hs.kind (hs.bd hB).1 (hs.bd hB).2.1, Option.bind_some]
    rw [show idx p.Slots (q1.length : Int) = some t by rw [hp]; exact idx_mid _ _ _, Option.bind_some, cellOfR_ok hB hN ht.kind (ht.bd hB).1 (ht.bd hB).2.1, Option.bind_some, apartR_ok (hs.bd hB).2.2.1 (ht.bd hB).2.2.1 hB.g0 hB.g1, Option.bind_some, up_mid _ t (by omega), ih]
    rw [List.map_cons, List.any_cons]
    cases apart (cellOf p s) (cellOf p t) p.Gap <;> simp
theorem checkSlot_ok {N : Nat} {p : TPanel} (hB : PB p) (hN : p.Kinds.length < N) (hl : p.Slots.length ≤ 500) (hM : 500 < N) {s : TSlot} {pre suf : List TSlot} (hp : p.Slots = pre ++ s :: suf) (hpre : ∀ t ∈ pre, SlotOk p t) :
    F_etchhouseref9_checkSlot N p pre.length = some (slotErr p (pre.map (cellOf p)) s) := by
  have b1 := hB.w0; have b2 := hB.w1; have b3 := hB.h0; have b4 := hB.h1; have b5 := hB.r0; have b6 := hB.r1
  have hpl : pre.length ≤ 500 := by rw [hp] at hl; simp at hl; omega
  unfold F_etchhouseref9_checkSlot slotErr
  rw [show idx p.Slots (pre.length : Int) = some s by rw [hp]; exact idx_mid _ _ _, Option.bind_some, kindR_ok _ (by have := hB.klen; omega) hN, Option.bind_some]
  rcases kindIx_lo p.Kinds s.Board with hk | ⟨hk, hki, _, _⟩
  · rw [if_pos hk, hk]; simp
  have hk1 : kindIx p.Kinds s.Board ≠ -1 := by omega
  have hsz := sizeWH hB hk1 s.Quarters
  rw [if_neg (by simpa using hk), if_neg hk1, withinR_ok, Option.bind_some]
  cases hQ : within s.Quarters 0 3
  · simp
  rw [hki, Option.bind_some, sizeOfR_ok, Option.bind_some]
  unfold F_etchhouseref9_lies
  have hlies : (within s.At.X p.Rail (p.W - p.Rail - sizeW (kindOf p.Kinds s.Board) s.Quarters) && within s.At.Y p.Rail (p.H - p.Rail - sizeH (kindOf p.Kinds s.Board) s.Quarters)) = okAt p s := by
    unfold okAt within cellOf
    rw [Bool.eq_iff_iff]
    simp only [Bool.and_eq_true, decide_eq_true_eq]
    omega
  simp only [w64_id (x := p.W - p.Rail) (by omega) (by omega), w64_id (x := p.H - p.Rail) (by omega) (by omega), w64_id (x := p.W - p.Rail - sizeW (kindOf p.Kinds s.Board) s.Quarters) (by omega) (by omega), w64_id (x := p.H - p.Rail - sizeH (kindOf p.Kinds s.Board) s.Quarters) (by omega) (by omega), withinR_ok, Option.bind_some, Bool.not_true, Bool.false_eq_true, if_false, reduceCtorEq]
  have e2 : ∀ a b : Bool, ((if a = true then some b else some false).bind fun g3 => some g3) = some (a && b) := by intro a b; cases a <;> rfl
  rw [e2, hlies, Option.bind_some]
  cases hO : okAt p s
  · rfl
  have hsl : SlotOk p s := by
    have a2 := hO
    unfold okAt at a2
    simp only [Bool.and_eq_true, decide_eq_true_eq] at a2
    exact ⟨hk1, (within_iff.1 hQ).1, (within_iff.1 hQ).2, a2.1.1, a2.2.1, a2.1.2, a2.2.2⟩
  have := checkSlot_loop hB hN hl hsl pre [] N (by simpa using hp) hpre (by omega)
  simpa using this
-- marks
instance : DecidableEq TPoint := fun _ _ => decidable_of_iff _ eqTPoint_iff
def inside (r : TRect) (m : TPoint) : Bool := (((decide (r.X0 < m.X)) && (decide (m.X < r.X1))) && (decide (r.Y0 < m.Y))) && (decide (m.Y < r.Y1))
def markErr (p : TPanel) (prev : List TPoint) (m : TPoint) : Int :=
  if within m.X 0 p.W = false ∨ within m.Y 0 p.H = false then 1 else if ((p.Slots.map (cellOf p)).any fun r => inside r m) = true then 12 else if m ∈ prev then 7 else 0
def marksErr (p : TPanel) : List TPoint → List TPoint → Int
  | _, [] => 0
  | prev, m :: rest => if markErr p prev m = 0 then marksErr p (prev ++ [m]) rest else markErr p prev m
theorem eqP {a b : TPoint} : eqTPoint a b = decide (a = b) := by
  by_cases h : a = b
  · rw [eqTPoint_iff.2 h, decide_eq_true h]
  · rw [decide_eq_false h, Bool.eq_false_iff]; exact fun h' => h (eqTPoint_iff.1 h')
theorem ContainsP_ok (l : List TPoint) (m : TPoint) : F_slices_Contains_Point l m = some (decide (m ∈ l)) := by
  have key : ∀ (l : List TPoint) (i : Nat), F_slices_Index_Point_L1 m l i = some (ixOf (fun x => eqTPoint m x) l i) := by
    intro l
    induction l with
    | nil => intro i; rfl
    | cons x l ih =>
      intro i
      rw [F_slices_Index_Point_L1.eq_2, ih (i + 1), ixOf, show ((i + 1 : Nat) : Int) = (i : Int) + 1 by omega]
      cases eqTPoint m x <;> rfl
  unfold F_slices_Contains_Point F_slices_Index_Point
  rw [key l 0, Option.bind_some, show ((0 : Nat) : Int) = 0 from rfl, ixOf_any _ l 0 (by omega)]
  congr 1
  rw [Bool.eq_iff_iff]
  simp [eqTPoint_iff]
theorem marks_loop {p : TPanel} {y : List TRect × Int} (hy : y.1 = p.Slots.map (cellOf p)) : ∀ (suf pre : List TPoint), p.Marks = pre ++ suf → 
    F_panel_open_L1 p y suf pre.length = some (if marksErr p pre suf = 0 then (p.Slots.map (cellOf p), 0) else ([], marksErr p pre suf))
  | [], pre, hp => by rw [F_panel_open_L1.eq_1, hy]; simp [marksErr]
  | m :: suf, pre, hp => by
    have ih := marks_loop hy suf (pre ++ [m]) (by rw [hp]; simp)
    rw [show (pre ++ [m]).length = pre.length + 1 by simp] at ih
    rw [F_panel_open_L1.eq_2, ih, marksErr, markErr, hy]
    unfold F_panel_isOnPanel
    simp only [within_ok, Option.bind_some]
    cases hX : within m.X 0 p.W
    · simp
    cases hY : within m.Y 0 p.H
    · simp
    have hc : F_slices_ContainsFunc_Rect (p.Slots.map (cellOf p)) (fun z0 => F_panel_open_1 z0 m) = some ((p.Slots.map (cellOf p)).any fun r => inside r m) := ContainsR_ok (fun r _ => rfl)
    rw [hc, show Proofs.Ytfddmjoldoddlaa.pre p.Marks (pre.length : Int) = some pre by rw [hp]; unfold Proofs.Ytfddmjoldoddlaa.pre; rw [if_pos ⟨by omega, by simp; omega⟩]; simp]
    simp only [if_true, Bool.not_true, Bool.false_eq_true, if_false, Option.bind_some, or_self, reduceCtorEq, ContainsP_ok, decide_eq_true_eq]
    cases ((p.Slots.map (cellOf p)).any fun r => inside r m)
    · by_cases hm : m ∈ pre <;> simp [hm]
    · simp
/-- The panel's error. -/
def openErr (p : TPanel) : Int :=
  if within p.W 1 1000000 = false ∨ within p.H 1 1000000 = false ∨ within p.Rail 0 1000000 = false ∨ within p.Gap 0 1000000 = false then 1
  else if checkKinds p.Kinds = 0 then
    if cellsErr p = 0 then if 10 < p.Marks.length then 2 else marksErr p [] p.Marks
    else cellsErr p
  else checkKinds p.Kinds
theorem PB_of {p : TPanel} (h : ¬ (within p.W 1 1000000 = false ∨ within p.H 1 1000000 = false ∨ within p.Rail 0 1000000 = false ∨ within p.Gap 0 1000000 = false)) (hk : checkKinds p.Kinds = 0) : PB p := by
  simp only [not_or, Bool.not_eq_false] at h
  obtain ⟨h1, h2, h3, h4⟩ := h
  have h1 := within_iff.1 h1; have h2 := within_iff.1 h2; have h3 := within_iff.1 h3; have h4 := within_iff.1 h4
  unfold checkKinds at hk
  split at hk
  · omega
  · exact ⟨h1.1, h1.2, h2.1, h2.2, h3.1, h3.2, h4.1, h4.2, kindsErr_ok hk, by omega⟩
theorem open_ok {N : Nat} {p : TPanel} (hn : ∀ k ∈ p.Kinds, k.Name.size ≤ 9223372036854775807 ∧ k.Name.size < N) : F_panel_open N p = some (if openErr p = 0 then (p.Slots.map (cellOf p), 0) else ([], openErr p)) := by
  unfold F_panel_open openErr
  simp only [within_ok, Option.bind_some]
  by_cases h : within p.W 1 1000000 = false ∨ within p.H 1 1000000 = false ∨ within p.Rail 0 1000000 = false ∨ within p.Gap 0 1000000 = false
  · rw [if_pos h]
    generalize within p.W 1 1000000 = a at *
    generalize within p.H 1 1000000 = b at *
    generalize within p.Rail 0 1000000 = c at *
    generalize within p.Gap 0 1000000 = d at *
    cases a <;> cases b <;> cases c <;> cases d <;> first | rfl | exact absurd h (by decide)
  · rw [if_neg h]
    have h' := h
    simp only [not_or, Bool.not_eq_false] at h'
    obtain ⟨h1, h2, h3, h4⟩ := h'
    rw [h1, h2, h3, h4, checkKinds_ok hn]
    simp only [Bool.not_true, Bool.false_eq_true, if_false, Option.bind_some]
    by_cases hk : checkKinds p.Kinds = 0
    · have hB := PB_of h hk
      rw [hk, cells_ok hB]
      simp only [Option.bind_some, if_true, bne_self_eq_false, Bool.false_eq_true, if_false]
      by_cases hc : cellsErr p = 0
      · simp only [if_pos hc]
        simp only [bne_self_eq_false, Bool.false_eq_true, if_false]
        by_cases hm : 10 < p.Marks.length
        · simp only [if_pos hm]; rw [if_pos (by simp; omega)]; rfl
        · simp only [if_neg hm]; rw [if_neg (by simp; omega)]
          exact marks_loop rfl p.Marks [] rfl
      · simp only [if_neg hc]
        rw [if_pos (by simpa using hc)]
    · rw [if_pos (by simpa using hk), if_neg hk, if_neg hk]
-- the reference's marks
theorem checkMark2_ok {p : TPanel} {m : TPoint} (hl : p.Marks.length ≤ 10) {suf : List TPoint} : ∀ (q2 q1 : List TPoint) (n : Nat), p.Marks = q1 ++ (q2 ++ m :: suf) → q2.length < n →
    F_etchhouseref9_checkMark_L2 p ((q1.length + q2.length : Nat) : Int) m n q1.length = some (if m ∈ q2 then 7 else 0)
  | [], q1, n + 1, hp, _ => by rw [F_etchhouseref9_checkMark_L2.eq_2, if_neg (by simp)]; simp
  | t :: q2, q1, n + 1, hp, hn => by
    have ih := checkMark2_ok (m := m) (suf := suf) hl q2 (q1 ++ [t]) n (by rw [hp]; simp) (by simp at hn; omega)
    have hql : q1.length ≤ 10 := by rw [hp] at hl; simp at hl; omega
    rw [show (q1 ++ [t]).length + q2.length = q1.length + (t :: q2).length by simp; omega] at ih
    rw [F_etchhouseref9_checkMark_L2.eq_2, if_pos (by simp; omega), show idx p.Marks (q1.length : Int) = some t by rw [hp]; exact idx_mid _ _ _, Option.bind_some, up_mid _ t (by omega), ih, eqP]
    by_cases h : t = m
    · simp [h]
    · simp [h, Ne.symm h]
theorem checkMark1_ok {N : Nat} {p : TPanel} {i : Int} {m : TPoint} {e : Int} (hB : PB p) (hN : p.Kinds.length < N) (hl : p.Slots.length ≤ 500) (hm : F_etchhouseref9_checkMark_L2 p i m N 0 = some e) : ∀ (suf pre : List TSlot) (n : Nat), p.Slots = pre ++ suf → (∀ t ∈ suf, SlotOk p t) → suf.length < n →
    F_etchhouseref9_checkMark_L1 N p i m n pre.length = some (if ((suf.map (cellOf p)).any fun r => inside r m) = true then 12 else e)
  | [], pre, n + 1, hp, _, _ => by
    rw [F_etchhouseref9_checkMark_L1.eq_2, hp, lt_end, if_neg (by simp), hm]; simp
  | s :: suf, pre, n + 1, hp, hs, hn => by
    have ih := checkMark1_ok hB hN hl hm suf (pre ++ [s]) n (by rw [hp]; simp) (fun t ht => hs t (by simp [ht])) (by simp at hn; omega)
    have hk := hs s (by simp)
    have hql : pre.length ≤ 500 := by rw [hp] at hl; simp at hl; omega
    rw [F_etchhouseref9_checkMark_L1.eq_2, if_pos (by rw [hp]; exact lt_mid _ _ _), show idx p.Slots (pre.length : Int) = some s by rw [hp]; exact idx_mid _ _ _, Option.bind_some, cellOfR_ok hB hN hk.kind (hk.bd hB).1 (hk.bd hB).2.1, Option.bind_some, up_mid _ s (by omega), ih, List.map_cons, List.any_cons]
    show (if inside (cellOf p s) m = true then _ else _) = _
    cases inside (cellOf p s) m <;> simp
theorem checkMark_ok {N : Nat} {p : TPanel} (hB : PB p) (hN : p.Kinds.length < N) (hl : p.Slots.length ≤ 500) (hM : 500 < N) (hml : p.Marks.length ≤ 10) (hs : ∀ s ∈ p.Slots, SlotOk p s) {m : TPoint} {pre suf : List TPoint} (hp : p.Marks = pre ++ m :: suf) :
    F_etchhouseref9_checkMark N p pre.length = some (markErr p pre m) := by
  have hpl : pre.length ≤ 10 := by rw [hp] at hml; simp at hml; omega
  unfold F_etchhouseref9_checkMark markErr
  rw [show idx p.Marks (pre.length : Int) = some m by rw [hp]; exact idx_mid _ _ _, Option.bind_some]
  simp only [withinR_ok, Option.bind_some]
  cases hX : within m.X 0 p.W
  · simp
  cases hY : within m.Y 0 p.H
  · simp
  have h2 := checkMark2_ok hml (m := m) (suf := suf) pre [] N (by simpa using hp) (by omega)
  rw [show (([] : List TPoint).length + pre.length) = pre.length by simp, show (([] : List TPoint).length : Int) = 0 from rfl] at h2
  have h1 := checkMark1_ok hB hN hl h2 p.Slots [] N rfl hs (by omega)
  rw [show (([] : List TSlot).length : Int) = 0 from rfl] at h1
  simp only [Bool.not_true, Bool.false_eq_true, if_false, Option.bind_some, or_self, reduceCtorEq, h1]
theorem check3_ok {N : Nat} {p : TPanel} (hB : PB p) (hN : p.Kinds.length < N) (hl : p.Slots.length ≤ 500) (hM : 500 < N) (hml : p.Marks.length ≤ 10) (hs : ∀ s ∈ p.Slots, SlotOk p s) : ∀ (suf pre : List TPoint) (n : Nat), p.Marks = pre ++ suf → suf.length < n →
    F_etchhouseref9_CheckPanel_L3 N p n pre.length = some (marksErr p pre suf)
  | [], pre, n + 1, hp, _ => by rw [F_etchhouseref9_CheckPanel_L3.eq_2, hp, lt_end, if_neg (by simp)]; rfl
  | m :: suf, pre, n + 1, hp, hn => by
    have ih := check3_ok hB hN hl hM hml hs suf (pre ++ [m]) n (by rw [hp]; simp) (by simp at hn; omega)
    have hql : pre.length ≤ 10 := by rw [hp] at hml; simp at hml; omega
    rw [F_etchhouseref9_CheckPanel_L3.eq_2, if_pos (by rw [hp]; exact lt_mid _ _ _), checkMark_ok hB hN hl hM hml hs hp, Option.bind_some, up_mid _ m (by omega), ih, marksErr]
    by_cases h : markErr p pre m = 0 <;> simp [h]
theorem check2_ok {N : Nat} {p : TPanel} {e : Int} (hB : PB p) (hN : p.Kinds.length < N) (hl : p.Slots.length ≤ 500) (hM : 500 < N) (he : (∀ s ∈ p.Slots, SlotOk p s) → (if decide (10 < (p.Marks.length : Int)) then some 2 else F_etchhouseref9_CheckPanel_L3 N p N 0) = some e) : ∀ (suf pre : List TSlot) (n : Nat), p.Slots = pre ++ suf → (∀ t ∈ pre, SlotOk p t) → suf.length < n →
    F_etchhouseref9_CheckPanel_L2 N p n pre.length = some (if slotsErr p (pre.map (cellOf p)) suf = 0 then e else slotsErr p (pre.map (cellOf p)) suf)
  | [], pre, n + 1, hp, hpre, _ => by
    rw [F_etchhouseref9_CheckPanel_L2.eq_2, if_neg (by rw [hp, lt_end]; simp), he (by rw [hp]; simpa using hpre)]
    simp [slotsErr]
  | s :: suf, pre, n + 1, hp, hpre, hn => by
    have hql : pre.length ≤ 500 := by rw [hp] at hl; simp at hl; omega
    rw [F_etchhouseref9_CheckPanel_L2.eq_2, if_pos (by rw [hp]; exact lt_mid _ _ _), checkSlot_ok hB hN hl hM hp hpre, Option.bind_some, up_mid _ s (by omega), slotsErr]
    by_cases h : slotErr p (pre.map (cellOf p)) s = 0
    · have ih := check2_ok hB hN hl hM he suf (pre ++ [s]) n (by rw [hp]; simp) (fun t ht => by
        rcases List.mem_append.1 ht with ht | ht
        · exact hpre t ht
        · simp at ht; subst ht; exact slotErr_ok h) (by simp at hn; omega)
      rw [ih, h, List.map_append]
      simp
    · simp [h]
theorem checkPanel_ok {N : Nat} {p : TPanel} (hM : 500 < N) (hN : p.Kinds.length < N) (hn : ∀ k ∈ p.Kinds, k.Name.size ≤ 9223372036854775807 ∧ k.Name.size < N) : F_etchhouseref9_CheckPanel N p = some (openErr p) := by
  unfold F_etchhouseref9_CheckPanel openErr
  simp only [withinR_ok, Option.bind_some]
  by_cases h : within p.W 1 1000000 = false ∨ within p.H 1 1000000 = false ∨ within p.Rail 0 1000000 = false ∨ within p.Gap 0 1000000 = false
  · rw [if_pos h]
    generalize within p.W 1 1000000 = a at *
    generalize within p.H 1 1000000 = b at *
    generalize within p.Rail 0 1000000 = c at *
    generalize within p.Gap 0 1000000 = d at *
    cases a <;> cases b <;> cases c <;> cases d <;> first | rfl | exact absurd h (by decide)
  · rw [if_neg h]
    have h' := h
    simp only [not_or, Bool.not_eq_false] at h'
    obtain ⟨h1, h2, h3, h4⟩ := h'
    rw [h1, h2, h3, h4]
    simp only [Bool.not_true, Bool.false_eq_true, if_false, Option.bind_some]
    by_cases hk50 : 50 < p.Kinds.length
    · rw [if_pos (by simp; omega)]
      simp [checkKinds, hk50]
    rw [if_neg (by simp; omega)]
    have hck : checkKinds p.Kinds = kindsErr (prevOf []) p.Kinds := by simp [checkKinds, hk50, prevOf]
    have := kindsR_loop (N := N) (p := p) p.Kinds [] N rfl (by omega) hn hN rfl
    rw [show (([] : List TBoardKind).length : Int) = 0 from rfl] at this
    rw [this, ← hck]
    by_cases hk : checkKinds p.Kinds = 0
    · have hB := PB_of h hk
      rw [if_pos hk, if_pos hk]
      unfold cellsErr
      by_cases hs : 500 < p.Slots.length
      · rw [if_pos (by simp; omega), if_pos hs]; simp
      rw [if_neg (by simp; omega), if_neg hs]
      have := check2_ok (e := if 10 < p.Marks.length then 2 else marksErr p [] p.Marks) hB hN (by omega) hM (fun hsl => by
        by_cases hm : 10 < p.Marks.length
        · rw [if_pos (by simp; omega), if_pos hm]
        · rw [if_neg (by simp; omega), if_neg hm]
          exact check3_ok hB hN (by omega) hM (by omega) hsl p.Marks [] N rfl (by omega)) p.Slots [] N rfl (by simp) (by omega)
      simpa using this
    · rw [if_neg hk, if_neg hk]
theorem openErr_ok {p : TPanel} (h : openErr p = 0) : PB p ∧ p.Slots.length ≤ 500 ∧ p.Marks.length ≤ 10 ∧ (∀ s ∈ p.Slots, SlotOk p s) := by
  unfold openErr at h
  split at h
  · omega
  · rename_i h0
    split at h
    · rename_i hk
      have hB := PB_of h0 hk
      split at h
      · rename_i hc
        unfold cellsErr at hc
        split at hc
        · omega
        · split at h
          · omega
          · exact ⟨hB, by omega, by omega, slotsErr_ok hc⟩
      · rename_i hc; exact absurd h hc
    · rename_i hk; exact absurd h hk
end Go.Proofs.Ytfddmjoldoddlaa
