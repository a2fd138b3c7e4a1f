/- Plots: how much a plot counts, and all that is known of one without error. Plain. Conditions: none beyond each theorem's own. The lines of a plot: what they say, read again. Plain Lean about the plain functions. Conditions: none beyond each theorem's own. Rows of letters, lines cut, numerals read and written. Plain Lean. Conditions: none beyond each theorem's own. The words of lines: what a line says is what it is written as. Plain Lean about the plain functions. Conditions: none beyond each theorem's own. A plot's lines as a text, cut again: what is written is what is read. Plain Lean about the plain functions. Conditions: none beyond each theorem's own. Lines of a plot without error are read as they are written. Plain Lean about the plain functions. Conditions: none beyond each theorem's own. The program's text of a plot is the text of its lines. Plain Lean about the plain functions. Conditions: none beyond each theorem's own. What was read of a text: numbers and sizes; fuel for a text. Plain Lean about the plain functions. Conditions: none beyond each theorem's own. PlotsComeBack: the text of a plot, and the law. Plain Lean about the plain functions. Conditions: none beyond each theorem's own. -/
import Derived.Test.YtokanbmnoghafaaGreatDoorJ3
import Derived.Lib.ItoaLen
namespace Go.Proofs.YtokanbmnoghafaaGreatDoor
mutual
def cntS : zB → Int
  | ⟨_, _, _, _, nx, ny, l⟩ => 1 + tm nx * tm ny * zCK l
def zCK : List zB → Int
  | [] => 0
  | x :: l => cntS x + zCK l
end
theorem cntS_eq (x : zB) : cntS x = 1 + tm x.NX * tm x.NY * zCK x.Steps := by cases x; rw [cntS]
theorem zIw : zCK [] = 0 := by rw [zCK]
theorem zJz (x : zB) (l : List zB) : zCK (x :: l) = cntS x + zCK l := by rw [zCK]
theorem zEL : ∀ (k : Nat) (l : List zB), JF l ≤ k → 0 ≤ zCK l
  | _, [], _ => by rw [zIw]; omega
  | k, x :: l, hk => by
    rw [Vz, VQ] at hk
    rw [zJz, cntS_eq]
    cases k with
    | zero => omega
    | succ k =>
      have h1 := zEL k x.Steps (by omega)
      have h2 := zEL k l (by omega)
      have h3 := tm_mul x.NX x.NY
      have := Int.mul_nonneg (show 0 ≤ tm x.NX * tm x.NY by omega) h1
      omega
theorem cntL_pos (l : List zB) : 0 ≤ zCK l := zEL _ l (Nat.le_refl _)
theorem zHL {rec : List zB → Option Int} : ∀ (l : List zB) (i : Nat) (x : Int), 0 ≤ x → x ≤ 3000 → (∀ s ∈ l, rec s.Steps = some (min (zCK s.Steps) 3001)) → QN rec l i x = some (min (x + zCK l) 3001)
  | [], i, x, h0, h1, _ => by
    rw [QN, zIw]
    congr 1
    omega
  | s :: l, i, x, h0, h1, hc => by
    have c1 := hc s List.mem_cons_self
    have hn := cntL_pos s.Steps
    have hl := cntL_pos l
    have ht := tm_mul s.NX s.NY
    have key : QN rec (s :: l) i x = KI (QN rec l (i + 1)) (x + 1 + tm s.NX * tm s.NY * min (zCK s.Steps) 3001) := by
      have hpc : 0 ≤ tm s.NX * tm s.NY * min (zCK s.Steps) 3001 ∧ tm s.NX * tm s.NY * min (zCK s.Steps) 3001 ≤ 30010000 := by
        generalize tm s.NX * tm s.NY = t at *
        refine ⟨Int.mul_nonneg (by omega) (by omega), ?_⟩
        have := Int.mul_le_mul ht.2 (show min (zCK s.Steps) 3001 ≤ 3001 by omega) (by omega) (by omega); omega
      rw [QN]
      by_cases he : s.Steps = []
      · rw [if_neg (by rw [he]; simp), he, zIw, KC (by omega) (by omega), show min (0 : Int) 3001 = 0 from rfl, Int.mul_zero, Int.add_zero]
      · have : 0 < (s.Steps.length : Int) := by
          have := List.length_pos_iff.2 he; omega
        rw [if_pos (decide_eq_true this), times_ok, Option.bind_some, c1, Option.bind_some, KC (x := tm s.NX * tm s.NY * min (zCK s.Steps) 3001) (by omega) (by omega), KC (x := x + 1) (by omega) (by omega), KC (by omega) (by omega)]
    rw [key, zJz, cntS_eq]
    unfold KI
    by_cases hs : zCK s.Steps ≤ 3001
    · rw [Int.min_eq_left hs]
      have hp := Int.mul_nonneg (show 0 ≤ tm s.NX * tm s.NY by omega) hn
      generalize tm s.NX * tm s.NY * zCK s.Steps = v at *
      by_cases hb : 3000 < x + 1 + v
      · rw [if_pos (decide_eq_true hb)]; congr 1; omega
      · rw [if_neg (by simpa using hb), zHL l (i + 1) _ (by omega) (by omega) (fun y hy => hc y (List.mem_cons_of_mem _ hy))]
        congr 2; omega
    · rw [Int.min_eq_right (by omega)]
      have h1 := Int.mul_le_mul_of_nonneg_right ht.1 (show (0 : Int) ≤ 3001 by omega)
      have h2 := Int.mul_le_mul_of_nonneg_right ht.1 hn
      generalize tm s.NX * tm s.NY * 3001 = u at *
      generalize tm s.NX * tm s.NY * zCK s.Steps = v at *
      rw [if_pos (decide_eq_true (by omega))]; congr 1; omega
theorem zJy : ∀ (k : Nat) (l : List zB) (N : Nat), JF l ≤ k → k + 5 ≤ N → VM N l = some (min (zCK l) 3001)
  | k, l, N, hk, hN => by
    obtain ⟨N, rfl⟩ : ∃ n, N = n + 1 := ⟨N - 1, by omega⟩
    have := zHL (rec := VM N) l 0 0 (by omega) (by omega) (fun s hs => by
      have h1 := Vv hs
      have h2 := VQ s
      cases k with
      | zero => omega
      | succ k => exact zJy k s.Steps N (by omega) (by omega))
    rw [Int.zero_add] at this
    exact this
mutual
def VldS (p : zi) : Int → zB → Prop
  | d, ⟨k, n, a, ps, nx, ny, l⟩ => zDq p ⟨k, n, a, ps, nx, ny, l⟩ d = 0 ∧ zDh p (d + 1) l
def zDh (p : zi) : Int → List zB → Prop
  | _, [] => True
  | d, x :: l => VldS p d x ∧ zDh p d l
end
theorem zGB (p : zi) (d : Int) (x : zB) : VldS p d x ↔ zDq p x d = 0 ∧ zDh p (d + 1) x.Steps := by cases x; rw [VldS]
theorem zI6 (p : zi) (d : Int) : zDh p d [] := by rw [zDh]; trivial
theorem zCA (p : zi) (d : Int) (x : zB) (l : List zB) : zDh p d (x :: l) ↔ VldS p d x ∧ zDh p d l := by rw [zDh]
theorem VldL_iff (p : zi) (d : Int) (l : List zB) : zDh p d l ↔ ∀ x ∈ l, VldS p d x := by
  induction l with
  | nil => exact ⟨fun _ _ h => (by cases h), fun _ => zI6 p d⟩
  | cons x l ih => rw [zCA, ih, List.forall_mem_cons]
structure StepOk (p : zi) (s : zB) (d : Int) : Prop where
  kind : 1 ≤ s.Kind ∧ s.Kind ≤ 8
  name : s.Kind ≠ 3 → s.Name = ByteArray.empty
  at_ : s.Kind ≠ 4 → s.Kind ≠ 5 → s.Kind ≠ 6 → s.Kind ≠ 8 → s.At = ⟨0, 0⟩
  points : s.Kind ≠ 7 → s.Points = []
  rep : s.Kind ≠ 8 → s.NX = 0 ∧ s.NY = 0 ∧ s.Steps = []
  tool : s.Kind = 3 → 0 ≤ zEo s.Name p.Tools
  place : WR s.At p.Unit = true
  area : s.Kind = 7 → s.Points.all (fun q => WR q p.Unit) = true ∧ 4 ≤ s.Points.length ∧ s.Points.length ≤ 2000 ∧ zJI s.Points s.Points 0 = true
  times : s.Kind = 8 → (1 ≤ s.NX ∧ s.NX ≤ 100) ∧ (1 ≤ s.NY ∧ s.NY ≤ 100) ∧ s.Steps ≠ [] ∧ d < 5
theorem zHI (s : zB) : fieldsB s = true ↔ (s.Kind ≠ 3 → s.Name = ByteArray.empty) ∧ (s.Kind ≠ 4 → s.Kind ≠ 5 → s.Kind ≠ 6 → s.Kind ≠ 8 → s.At = ⟨0, 0⟩) ∧ (s.Kind ≠ 7 → s.Points = []) ∧ (s.Kind ≠ 8 → s.NX = 0 ∧ s.NY = 0 ∧ s.Steps = []) := by
  unfold fieldsB
  have e1 : ((s.Points.length : Int) == 0) = true ↔ s.Points = [] := by rw [beq_iff_eq]; exact ⟨fun h => List.eq_nil_of_length_eq_zero (by omega), fun h => by rw [h]; rfl⟩
  have e2 : ((s.Steps.length : Int) == 0) = true ↔ s.Steps = [] := by rw [beq_iff_eq]; exact ⟨fun h => List.eq_nil_of_length_eq_zero (by omega), fun h => by rw [h]; rfl⟩
  simp only [Bool.and_eq_true, Bool.or_eq_true, e1, e2, WA, zDc, beq_iff_eq]
  constructor
  · rintro ⟨⟨⟨a, b⟩, c⟩, d⟩
    refine ⟨fun h => a.resolve_left h, fun h4 h5 h6 h8 => b.resolve_left (by rintro (((h | h) | h) | h) <;> contradiction), fun h => c.resolve_left h, fun h => ?_⟩
    have := d.resolve_left h
    exact ⟨this.1.1, this.1.2, this.2⟩
  · rintro ⟨a, b, c, d⟩
    refine ⟨⟨⟨Classical.or_iff_not_imp_left.2 a, Classical.or_iff_not_imp_left.2 fun h => b (fun e => h (.inl (.inl (.inl e)))) (fun e => h (.inl (.inl (.inr e)))) (fun e => h (.inl (.inr e))) (fun e => h (.inr e))⟩, Classical.or_iff_not_imp_left.2 c⟩, Classical.or_iff_not_imp_left.2 fun h => ⟨⟨(d h).1, (d h).2.1⟩, (d h).2.2⟩⟩
theorem zGS {p : zi} {s : zB} {d : Int} : zDq p s d = 0 ↔ StepOk p s d := by
  unfold zDq
  by_cases hk : 1 ≤ s.Kind ∧ s.Kind ≤ 8
  · rw [if_neg (by simpa using hk)]
    cases hf : fieldsB s
    · rw [if_pos (by rfl)]
      refine ⟨fun h => (by cases h), fun h => ?_⟩
      have := (zHI s).2 ⟨h.name, h.at_, h.points, h.rep⟩
      rw [hf] at this; cases this
    · obtain ⟨f1, f2, f3, f4⟩ := (zHI s).1 hf
      rw [if_neg (by simp)]
      by_cases h3 : s.Kind = 3 ∧ zEo s.Name p.Tools < 0
      · rw [if_pos (by simpa using h3)]
        exact ⟨fun h => (by cases h), fun h => by have := h.tool h3.1; omega⟩
      · rw [if_neg (by simpa using h3)]
        cases hp : WR s.At p.Unit
        · rw [if_pos (by rfl)]
          exact ⟨fun h => (by cases h), fun h => by have := h.place; rw [hp] at this; cases this⟩
        · rw [if_neg (by simp)]
          have ht : s.Kind = 3 → 0 ≤ zEo s.Name p.Tools := fun h => by
            by_cases h' : zEo s.Name p.Tools < 0
            · exact absurd ⟨h, h'⟩ h3
            · omega
          by_cases h7 : s.Kind = 7
          · rw [if_pos (by simpa using h7)]
            have hall : (s.Points.any (fun q => !WR q p.Unit)) = !s.Points.all (fun q => WR q p.Unit) := by
              rw [List.all_eq_not_any_not, Bool.not_not]
            rw [hall]
            cases ha : s.Points.all (fun q => WR q p.Unit)
            · rw [if_pos (by rfl)]
              exact ⟨fun h => (by cases h), fun h => by have := (h.area h7).1; rw [ha] at this; cases this⟩
            · rw [if_neg (by simp)]
              unfold zI0
              by_cases h1 : 2000 < (s.Points.length : Int)
              · rw [if_pos h1]; exact ⟨fun h => (by cases h), fun h => by have := (h.area h7).2.2.1; omega⟩
              · rw [if_neg h1]
                by_cases h2 : (s.Points.length : Int) < 4
                · rw [if_pos h2]; exact ⟨fun h => (by cases h), fun h => by have := (h.area h7).2.1; omega⟩
                · rw [if_neg h2]
                  cases hr : zJI s.Points s.Points 0
                  · simp only [Bool.false_eq_true, if_false]
                    exact ⟨fun h => (by cases h), fun h => by have := (h.area h7).2.2.2; rw [hr] at this; cases this⟩
                  · simp only [if_true]
                    exact ⟨fun _ => ⟨hk, f1, f2, f3, f4, ht, hp, fun _ => ⟨ha, by omega, by omega, hr⟩, fun h8 => by omega⟩, fun _ => trivial⟩
          · rw [if_neg (by simpa using h7)]
            by_cases h8 : s.Kind = 8
            · rw [if_pos (by simpa using h8)]
              unfold repE
              by_cases hx : (1 ≤ s.NX ∧ s.NX ≤ 100) ∧ (1 ≤ s.NY ∧ s.NY ≤ 100)
              · rw [if_neg (by simp; omega)]
                by_cases h0 : (s.Steps.length : Int) = 0
                · rw [if_pos h0]
                  exact ⟨fun h => (by cases h), fun h => absurd (List.eq_nil_of_length_eq_zero (by omega)) (h.times h8).2.2.1⟩
                · rw [if_neg h0]
                  by_cases h5 : 5 ≤ d
                  · rw [if_pos h5]; exact ⟨fun h => (by cases h), fun h => by have := (h.times h8).2.2.2; omega⟩
                  · rw [if_neg h5]
                    exact ⟨fun _ => ⟨hk, f1, f2, f3, f4, ht, hp, fun h => absurd h h7, fun _ => ⟨hx.1, hx.2, fun e => h0 (by rw [e]; rfl), by omega⟩⟩, fun _ => rfl⟩
              · rw [if_pos (by simp; omega)]
                exact ⟨fun h => (by cases h), fun h => absurd ⟨(h.times h8).1, (h.times h8).2.1⟩ hx⟩
            · rw [if_neg (by simpa using h8)]
              exact ⟨fun _ => ⟨hk, f1, f2, f3, f4, ht, hp, fun h => absurd h h7, fun h => absurd h h8⟩, fun _ => rfl⟩
  · rw [if_pos (by simp; omega)]
    exact ⟨fun h => (by cases h), fun h => absurd h.kind hk⟩
theorem vld_loop {p : zi} {d : Int} (hu : 1 ≤ p.Unit ∧ p.Unit ≤ 1000) {rec : zi → List zB → Int → Option Int} : ∀ (l : List zB) (i : Nat), (∀ s ∈ l, s.Points.length ≤ 9223372036854775807) → (∀ s ∈ l, StepOk p s d → ∃ e, rec p s.Steps (w64 (d + 1)) = some e ∧ (e = 0 ↔ zDh p (d + 1) s.Steps)) →
    ∃ e, Qn p d rec l i = some e ∧ (e = 0 ↔ zDh p d l)
  | [], i, _, _ => ⟨0, rfl, fun _ => zI6 p d, fun _ => rfl⟩
  | s :: l, i, hp, hr => by
    rw [Qn, zF6 hu (hp s List.mem_cons_self), Option.bind_some]
    by_cases h0 : zDq p s d = 0
    · rw [if_neg (by simp [h0])]
      obtain ⟨e, e1, e2⟩ := hr s List.mem_cons_self (zGS.1 h0)
      rw [e1, Option.bind_some]
      by_cases h1 : e = 0
      · rw [if_neg (by simp [h1])]
        obtain ⟨f, f1, f2⟩ := vld_loop hu l (i + 1) (fun x hx => hp x (List.mem_cons_of_mem _ hx)) (fun x hx => hr x (List.mem_cons_of_mem _ hx))
        exact ⟨f, f1, f2.trans (by rw [zCA, zGB]; exact ⟨fun h => ⟨⟨h0, e2.1 h1⟩, h⟩, fun h => h.2⟩)⟩
      · rw [if_pos (by simpa using h1)]
        exact ⟨e, rfl, fun h => absurd h h1, fun h => absurd (e2.2 ((zGB _ _ _).1 ((zCA _ _ _ _).1 h).1).2) h1⟩
    · rw [if_pos (by simpa using h0)]
      exact ⟨_, rfl, fun h => absurd h h0, fun h => absurd ((zGB _ _ _).1 ((zCA _ _ _ _).1 h).1).1 h0⟩
theorem vld_ok {p : zi} (hu : 1 ≤ p.Unit ∧ p.Unit ≤ 1000) : ∀ (k : Nat) (l : List zB) (N : Nat) (d : Int), JF l ≤ k → k + 5 ≤ N → zCG l → 0 ≤ d → d ≤ 5 → ∃ e, KA N p l d = some e ∧ (e = 0 ↔ zDh p d l)
  | k, l, N, d, hk, hN, hA, h0, h1 => by
    obtain ⟨N, rfl⟩ : ∃ n, N = n + 1 := ⟨N - 1, by omega⟩
    refine vld_loop hu l 0 (fun s hs => ((zBv s).1 (zBW hA hs)).2.2.1.1) fun s hs ho => ?_
    have a1 := Vv hs
    have a2 := VQ s
    have a3 := (zBv s).1 (zBW hA hs)
    by_cases h8 : s.Kind = 8
    · have := (ho.times h8).2.2.2
      rw [KC (by omega) (by omega)]
      cases k with
      | zero => omega
      | succ k => exact vld_ok hu k s.Steps N (d + 1) (by omega) (by omega) a3.2.2.2.2.2 (by omega) (by omega)
    · obtain ⟨N, rfl⟩ : ∃ n, N = n + 1 := ⟨N - 1, by omega⟩
      rw [(ho.rep h8).2.2]
      exact ⟨0, rfl, fun _ => zI6 _ _, fun _ => rfl⟩
def ordT : List zS → Prop
  | a :: b :: l => (sLt b.Name a.Name || sEq b.Name a.Name) = false ∧ ordT (b :: l)
  | _ => True
structure zFI (N : Nat) (p : zi) : Prop where
  unit : 1 ≤ p.Unit ∧ p.Unit ≤ 1000
  few : p.Tools.length ≤ 200
  tools : ∀ t ∈ p.Tools, KP N t.Name = some true ∧ zAj t p.Unit = 0
  ord : ordT p.Tools
  cnt : zCK p.Steps ≤ 3000
  steps : zDh p 0 p.Steps
theorem ordT_snoc (a : List zS) (x y : zS) : ordT (a ++ [x] ++ [y]) ↔ ordT (a ++ [x]) ∧ (sLt y.Name x.Name || sEq y.Name x.Name) = false := by
  induction a with
  | nil => simp [ordT]
  | cons z a ih =>
    cases a with
    | nil => simp [ordT]
    | cons w a =>
      simp only [List.cons_append, ordT] at ih ⊢
      rw [ih, and_assoc]
theorem zJZ {N : Nat} {p : zi} (hN : Fu p N) (hL : zI9 p) (hu : 1 ≤ p.Unit ∧ p.Unit ≤ 1000) : ∀ (suf pre : List zS), p.Tools = pre ++ suf → p.Tools.length ≤ 200 → 
    ∃ e, QT N p suf pre.length = some e ∧ ((∀ t ∈ pre, KP N t.Name = some true ∧ zAj t p.Unit = 0) → ordT pre → (e = 0 ↔ zFI N p))
  | [], pre, he, hl => by
    have hN' := hN
    unfold Fu at hN'
    obtain ⟨e, e1, e2⟩ := vld_ok hu (JF p.Steps) p.Steps N 0 (Nat.le_refl _) (by omega) hL.steps (by omega) (by omega)
    rw [QT, zJy (JF p.Steps) p.Steps N (Nat.le_refl _) (by omega), Option.bind_some]
    by_cases hc : 3000 < min (zCK p.Steps) 3001
    · rw [if_pos (decide_eq_true hc)]
      exact ⟨2, rfl, fun _ _ => ⟨fun h => (by cases h), fun h => by have := h.cnt; omega⟩⟩
    · rw [if_neg (by simpa using hc), e1]
      refine ⟨e, rfl, fun h ho => ⟨fun h0 => ⟨hu, hl, ?_, ?_, by omega, e2.1 h0⟩, fun h => e2.2 h.steps⟩⟩
      · rw [he, List.append_nil]; exact h
      · rw [he, List.append_nil]; exact ho
  | t :: l, pre, he, hl => by
    have hlen : p.Tools.length = pre.length + (l.length + 1) := by rw [he]; simp
    have hmem : t ∈ p.Tools := by rw [he]; simp
    have hsz := zD9 hmem
    have hN' := hN
    unfold Fu at hN'
    obtain ⟨b, b1, _⟩ := zJ3 (N := N) (hL.tools t hmem).1 (by omega)
    rw [QT, zF4 hu b1, Option.bind_some]
    cases b
    · exact ⟨5, rfl, fun _ _ => ⟨fun h => (by cases h), fun h => by have := (h.tools t hmem).1; rw [b1] at this; cases this⟩⟩
    simp only [if_true]
    by_cases h0 : zAj t p.Unit = 0
    · have hz0 : (zAj t p.Unit != 0) = false := by simp [h0]
      simp only [hz0, Bool.false_eq_true, if_false]
      obtain ⟨e, e1, e2⟩ := zJZ hN hL hu l (pre ++ [t]) (by rw [he]; simp) hl
      rw [show (pre ++ [t]).length = pre.length + 1 by simp] at e1
      have hall : (∀ x ∈ pre, KP N x.Name = some true ∧ zAj x p.Unit = 0) → ∀ x ∈ pre ++ [t], KP N x.Name = some true ∧ zAj x p.Unit = 0 := fun h x hx => by
        rcases List.mem_append.1 hx with hx | hx
        · exact h x hx
        · simp at hx; subst hx; exact ⟨b1, h0⟩
      rcases List.eq_nil_or_concat pre with hz | ⟨pre0, u, hz⟩
      · subst hz
        rw [if_neg (by simp), Option.bind_some, if_neg (by simp), e1]
        exact ⟨e, rfl, fun h _ => e2 (hall h) trivial⟩
      · rw [List.concat_eq_append] at hz
        subst hz
        have hpl : ((pre0 ++ [u]).length : Int) - 1 = (pre0.length : Int) := by simp
        rw [if_pos (by simp), hpl, KC (by omega) (by simp at hlen; omega), show idx p.Tools (pre0.length : Int) = some u by rw [he, List.append_assoc]; exact VX _ _ _, Option.bind_some, Option.bind_some]
        cases ho : (sLt t.Name u.Name || sEq t.Name u.Name)
        · rw [if_neg (by simp), e1]
          exact ⟨e, rfl, fun h h' => e2 (hall h) ((ordT_snoc _ _ _).2 ⟨h', ho⟩)⟩
        · rw [if_pos rfl]
          refine ⟨8, rfl, fun _ _ => ⟨fun h => (by cases h), fun h => ?_⟩⟩
          have := h.ord
          rw [he] at this
          have key : ∀ (a : List zS), ordT (a ++ u :: t :: l) → (sLt t.Name u.Name || sEq t.Name u.Name) = false := fun a => by
            induction a with
            | nil => exact fun h => h.1
            | cons z a ih =>
              cases a with
              | nil => exact fun h => h.2.1
              | cons w a => exact fun h => ih h.2
          rw [List.append_assoc] at this
          have := key pre0 this
          rw [ho] at this; cases this
    · have hz0 : (zAj t p.Unit != 0) = true := by simpa using h0
      simp only [hz0, if_true]
      exact ⟨_, rfl, fun _ _ => ⟨fun h => absurd h h0, fun h => absurd (h.tools t hmem).2 h0⟩⟩
theorem zI8 {N : Nat} {p : zi} (hN : Fu p N) (hL : zI9 p) : Qg N p = some 0 ↔ zFI N p := by
  have hw : Jh p.Unit 1 1000 = some (decide (1 ≤ p.Unit) && decide (p.Unit ≤ 1000)) := rfl
  unfold Qg
  rw [hw, Option.bind_some]
  by_cases hu : 1 ≤ p.Unit ∧ p.Unit ≤ 1000
  · rw [if_neg (by simpa using hu)]
    by_cases ht : 200 < (p.Tools.length : Int)
    · rw [if_pos (decide_eq_true ht)]
      exact ⟨fun h => (by cases h), fun h => by have := h.few; omega⟩
    · rw [if_neg (by simpa using ht)]
      obtain ⟨e, e1, e2⟩ := zJZ hN hL hu p.Tools [] rfl (by omega)
      have := e2 (fun _ h => by cases h) trivial
      rw [show ([] : List zS).length = 0 from rfl] at e1
      rw [e1]
      exact ⟨fun h => this.1 (Option.some.inj h), fun h => congrArg some (this.2 h)⟩
  · rw [if_pos (by simp; omega)]
    exact ⟨fun h => (by cases h), fun h => absurd h.unit hu⟩
mutual
def lnsS : zB → List (Option Ln)
  | ⟨k, n, a, ps, nx, ny, l⟩ => if k = 8 then some (.rep ⟨k, n, a, ps, nx, ny, []⟩) :: (VZ l ++ [some .done]) else [some (.step ⟨k, n, a, ps, nx, ny, l⟩)]
def VZ : List zB → List (Option Ln)
  | [] => []
  | x :: l => lnsS x ++ VZ l
end
theorem zDT (x : zB) : lnsS x = if x.Kind = 8 then some (.rep (Wq x [])) :: (VZ x.Steps ++ [some .done]) else [some (.step x)] := by cases x; rw [lnsS]; rfl
theorem zBV : VZ [] = [] := by rw [VZ]
theorem zAa (x : zB) (l : List zB) : VZ (x :: l) = lnsS x ++ VZ l := by rw [VZ]
def zDz (p : zi) : List (Option Ln) := some (.unit p.Unit) :: (p.Tools.map (fun t => some (Ln.tool t)) ++ VZ p.Steps)
theorem topS_steps (x : zB) : Wq x x.Steps = x := by cases x; rfl
theorem zFa : ∀ (k : Nat) (l : List zB), JF l ≤ k → ∀ (n m : Nat) (inner : Bool) (rest : List (Option Ln)) (out : List zB), (VZ l ++ rest).length < n → rest.length < m → Qt n inner (VZ l ++ rest) out = Qt m inner rest (out ++ l)
  | _, [], _, n, m, inner, rest, out, hn, hm => by
    rw [zBV, List.nil_append] at hn ⊢
    rw [List.append_nil]
    exact zCX n m inner rest out hn hm
  | k, x :: l, hk, n, m, inner, rest, out, hn, hm => by
    rw [Vz, VQ] at hk
    cases k with
    | zero => omega
    | succ k =>
      have he : out ++ x :: l = (out ++ [x]) ++ l := by simp
      rw [he]
      rw [zAa, zDT] at hn ⊢
      by_cases h8 : x.Kind = 8
      · rw [if_pos h8] at hn ⊢
        have e : (some (Ln.rep (Wq x [])) :: (VZ x.Steps ++ [some Ln.done]) ++ VZ l) ++ rest = some (.rep (Wq x [])) :: (VZ x.Steps ++ (some .done :: (VZ l ++ rest))) := by simp
        rw [e] at hn ⊢
        cases n with
        | zero => omega
        | succ n =>
          rw [List.length_cons] at hn
          have i1 := zFa k x.Steps (by omega) n ((VZ l ++ rest).length + 2) true (some .done :: (VZ l ++ rest)) [] (by omega) (by simp)
          have i2 : Qt ((VZ l ++ rest).length + 2) true (some .done :: (VZ l ++ rest)) ([] ++ x.Steps) = (x.Steps, VZ l ++ rest, false) := by rw [Qt, if_pos rfl]; rfl
          rw [Qt, i1, i2]
          have e3 : (⟨(Wq x []).Kind, (Wq x []).Name, (Wq x []).At, (Wq x []).Points, (Wq x []).NX, (Wq x []).NY, x.Steps⟩ : zB) = x := topS_steps x
          simp only [Bool.false_eq_true, if_false, e3]
          exact zFa k l (by omega) n m inner rest (out ++ [x]) (by simp at hn ⊢; omega) hm
      · rw [if_neg h8] at hn ⊢
        have e : ([some (Ln.step x)] ++ VZ l) ++ rest = some (.step x) :: (VZ l ++ rest) := by simp
        rw [e] at hn ⊢
        cases n with
        | zero => omega
        | succ n =>
          rw [List.length_cons] at hn
          rw [Qt]
          exact zFa k l (by omega) n m inner rest (out ++ [x]) (by omega) hm
theorem lnsL_notool : ∀ (l : List zB) (t : zS) (ls : List (Option Ln)), VZ l ≠ some (.tool t) :: ls
  | [], t, ls => by rw [zBV]; simp
  | x :: l, t, ls => by
    rw [zAa, zDT]
    split <;> simp
theorem refT_map : ∀ (T a : List zS) (ls : List (Option Ln)), (∀ t ls', ls ≠ some (.tool t) :: ls') → zAW (T.map (fun t => some (Ln.tool t)) ++ ls) a = (a ++ T, ls)
  | [], a, ls, h => by rw [List.map_nil, List.nil_append, zBC h, List.append_nil]
  | t :: T, a, ls, h => by
    rw [List.map_cons, List.cons_append, zEV, refT_map T _ ls h]
    simp
theorem spec_lns (p : zi) : zCt (zDz p) = .inr p := by
  have e : zCt (zDz p) = zDN p.Unit (zAW (p.Tools.map (fun t => some (Ln.tool t)) ++ VZ p.Steps) []).1 ((p.Tools.map (fun t => some (Ln.tool t)) ++ VZ p.Steps).length + 1) (zAW (p.Tools.map (fun t => some (Ln.tool t)) ++ VZ p.Steps) []).2 := rfl
  rw [e, refT_map _ _ _ (lnsL_notool _)]
  have h := zFa (JF p.Steps) p.Steps (Nat.le_refl _) ((VZ p.Steps).length + 1) 1 false [] [] (by simp) (by simp)
  rw [List.append_nil] at h
  have h2 : Qt 1 false [] ([] ++ p.Steps) = (p.Steps, [], false) := rfl
  unfold zDN
  rw [h, h2]
  rfl
def zJ2 (ls : List (Option Ln)) : Prop := (∀ s, some (Ln.step s) ∈ ls → s.Kind ≠ 8) ∧ ∀ s, some (Ln.rep s) ∈ ls → s.Kind = 8 ∧ s.Steps = []
theorem zJ2.suf {ls ls' : List (Option Ln)} (h : zJ2 ls) (hs : ls' <:+ ls) : zJ2 ls' := ⟨fun s hm => h.1 s (hs.subset hm), fun s hm => h.2 s (hs.subset hm)⟩
theorem zFc : ∀ (n : Nat) (inner : Bool) (ls : List (Option Ln)) (out : List zB), zJ2 ls → (Qt n inner ls out).2.2 = false →
    ∃ l, (Qt n inner ls out).1 = out ++ l ∧ ls = VZ l ++ ((if inner = true then [some Ln.done] else []) ++ (Qt n inner ls out).2.1) ∧ (inner = false → (Qt n inner ls out).2.1 = [])
  | 0, _, ls, out, _, h => by rw [Qt] at h; cases h
  | n + 1, inner, [], out, _, h => by
    rw [Qt] at h ⊢
    have h : inner = false := h
    subst h
    exact ⟨[], by simp, by rw [zBV]; rfl, fun _ => rfl⟩
  | n + 1, inner, some (.step s) :: ls, out, hk, h => by
    rw [Qt] at h ⊢
    obtain ⟨l, l1, l2, l3⟩ := zFc n inner ls (out ++ [s]) (hk.suf (List.suffix_cons _ _)) h
    refine ⟨s :: l, by rw [l1]; simp, ?_, l3⟩
    rw [zAa, zDT, if_neg (hk.1 s (by simp)), List.append_assoc, ← l2]
    rfl
  | n + 1, inner, some (.rep s) :: ls, out, hk, h => by
    rw [Qt] at h ⊢
    have hk' := hk.suf (List.suffix_cons _ _)
    obtain ⟨h8, h0⟩ := hk.2 s (by simp)
    have ih := zFc n true ls [] hk'
    have hsuf := zBS n true ls []
    generalize Qt n true ls [] = R at *
    obtain ⟨o, rest, bad⟩ := R
    cases bad
    · simp only [Bool.false_eq_true, if_false] at h ⊢
      obtain ⟨m, m1, m2, _⟩ := ih rfl
      simp only [List.nil_append, if_true] at m1 m2
      subst m1
      obtain ⟨l, l1, l2, l3⟩ := zFc n inner rest (out ++ [⟨s.Kind, s.Name, s.At, s.Points, s.NX, s.NY, o⟩]) (hk'.suf hsuf) h
      refine ⟨⟨s.Kind, s.Name, s.At, s.Points, s.NX, s.NY, o⟩ :: l, by rw [l1]; simp, ?_, l3⟩
      have e : Wq (⟨s.Kind, s.Name, s.At, s.Points, s.NX, s.NY, o⟩ : zB) [] = s := zGR h0
      rw [zAa, zDT, if_pos (show (⟨s.Kind, s.Name, s.At, s.Points, s.NX, s.NY, o⟩ : zB).Kind = 8 from h8), e, List.append_assoc, ← l2, m2]
      simp
    · simp only [if_true] at h
      cases h
  | n + 1, inner, some .done :: ls, out, _, h => by
    rw [Qt] at h ⊢
    cases inner
    · rw [if_neg (by simp)] at h; cases h
    · rw [if_pos rfl]
      exact ⟨[], by simp, by rw [zBV]; rfl, fun h => by cases h⟩
  | n + 1, inner, some (.unit _) :: ls, out, _, h => by cases h
  | n + 1, inner, some (.tool _) :: ls, out, _, h => by cases h
  | n + 1, inner, none :: ls, out, _, h => by cases h
theorem refT_inv : ∀ (ls : List (Option Ln)) (a : List zS), ∃ T, (zAW ls a).1 = a ++ T ∧ ls = T.map (fun t => some (Ln.tool t)) ++ (zAW ls a).2
  | [], a => by
    rw [zBC (by simp)]
    exact ⟨[], by simp, rfl⟩
  | l :: ls, a => by
    by_cases h : ∃ t, l = some (.tool t)
    · obtain ⟨t, rfl⟩ := h
      obtain ⟨T, h1, h2⟩ := refT_inv ls (a ++ [t])
      rw [zEV]
      exact ⟨t :: T, by rw [h1]; simp, by rw [List.map_cons, List.cons_append, ← h2]⟩
    · rw [zBC fun t ls' e => h ⟨t, (List.cons.inj e).1⟩]
      exact ⟨[], by simp, rfl⟩
theorem spec_inv {ls : List (Option Ln)} (hk : zJ2 ls) {p : zi} (h : zCt ls = .inr p) : ls = zDz p := by
  cases ls with
  | nil => cases h
  | cons l ls =>
    cases l with
    | none => cases h
    | some l =>
      cases l with
      | tool t => cases h
      | step s => cases h
      | rep s => cases h
      | done => cases h
      | unit n =>
        have h : zDN n (zAW ls []).1 (ls.length + 1) (zAW ls []).2 = .inr p := h
        obtain ⟨T, t1, t2⟩ := refT_inv ls []
        have ts := (zET ls [] 0).2.1
        have hk' := (hk.suf (List.suffix_cons _ _)).suf ts
        rw [t1] at h
        generalize (zAW ls []).2 = ls2 at *
        have ih := zFc (ls2.length + 1) false ls2 [] hk'
        unfold zDN at h
        generalize Qt (ls2.length + 1) false ls2 [] = R at *
        obtain ⟨o, rest, bad⟩ := R
        cases bad
        · obtain ⟨m, m1, m2, m3⟩ := ih rfl
          have m3 : rest = [] := m3 rfl
          have m1 : o = [] ++ m := m1
          subst m3 m1
          rw [if_neg (by simp)] at h
          injection h with h
          subst h
          rw [t2, m2]
          simp [zDz]
        · rw [if_pos rfl] at h
          cases h
def mkB (l : List UInt8) : ByteArray := ⟨l.toArray⟩
theorem zAX (l : List UInt8) : bs (mkB l) = l := by simp [bs, mkB]
theorem mkB_bs (s : ByteArray) : mkB (bs s) = s := zFE (zAX _)
theorem zAm (l : List UInt8) : (mkB l).size = l.length := by rw [Jz, zAX]
theorem mkB_app (a b : List UInt8) : mkB a ++ mkB b = mkB (a ++ b) := zFE (by rw [bs_app, zAX, zAX, zAX])
theorem zAu {a b : List UInt8} (h : a.length + b.length ≤ 9223372036854775807) : zAv (mkB a) (mkB b) = some (mkB (a ++ b)) := by
  unfold zAv
  rw [if_pos (by rw [zAm, zAm]; exact h), mkB_app]
theorem zDP {a b : List UInt8} (h : a.length + b.length ≤ 140737488355328) : sbW (mkB a) (mkB b) = some (mkB (a ++ b)) := by
  unfold sbW
  rw [if_pos (by rw [zAm, zAm]; exact h), mkB_app]
def it (n : Int) : List UInt8 := Lib.itoa n
theorem cut_at {a b : List UInt8} (h : (10 : UInt8) ∉ a) : Qp (mkB (a ++ 10 :: b)) = (mkB a, mkB b, true) := by
  unfold Qp
  rw [zAX]
  have : Lib.cut (a ++ 10 :: b) [10] = (a, b, true) := by
    unfold Lib.cut
    rw [zDV 10 a b h, if_pos (by omega)]
    simp
  rw [this]; rfl
theorem cut_inv {t : ByteArray} (h : (Qp t).2.2 = true) : bs t = bs (Qp t).1 ++ 10 :: bs (Qp t).2.1 := by
  have e1 : bs (Qp t).1 = (Lib.cut (bs t) [10]).1 := zAX _
  have e2 : bs (Qp t).2.1 = (Lib.cut (bs t) [10]).2.1 := zAX _
  have e3 : (Lib.cut (bs t) [10]).2.2 = true := h
  rw [e1, e2]
  by_cases hm : (10 : UInt8) ∈ bs t
  · obtain ⟨a, b, he, ha⟩ := List.eq_append_cons_of_mem hm
    have : Lib.cut (bs t) [10] = (a, b, true) := by
      rw [he]
      unfold Lib.cut
      rw [zDV 10 a b ha, if_pos (by omega)]
      simp
    rw [this]; exact he
  · have : Lib.cut (bs t) [10] = (bs t, [], false) := by
      unfold Lib.cut
      rw [index_no 10 _ hm]; rfl
    rw [this] at e3; cases e3
def dvl (b : UInt8) : Nat := b.toNat - 48
def valA : List UInt8 → Nat → Nat
  | [], acc => acc
  | b :: l, acc => valA l (acc * 10 + dvl b)
def val (acc : Nat) (l : List UInt8) : Nat := valA l acc
theorem zER (acc : Nat) : val acc [] = acc := rfl
theorem zCC (acc : Nat) (b : UInt8) (l : List UInt8) : val acc (b :: l) = val (acc * 10 + (b.toNat - 48)) l := by
  rw [show b.toNat - 48 = dvl b from rfl]
  unfold val
  rw [valA]
theorem zHK : ∀ (l : List UInt8) (acc : Nat), l.all Vg = true → Lib.decFrom acc l = some (val acc l)
  | [], acc, _ => by rw [zER]; rfl
  | b :: l, acc, h => by
    rw [List.all_cons, Bool.and_eq_true] at h
    have hb := h.1
    simp [Vg] at hb
    have : Lib.digitVal b = some (b.toNat - 48) := if_pos hb
    rw [zCC, ← zHK l _ h.2, Lib.decFrom, this]
theorem zIH : ∀ (l : List UInt8) (acc : Nat) (b : UInt8), val acc (l ++ [b]) = val acc l * 10 + (b.toNat - 48)
  | [], acc, b => by rw [List.nil_append, zCC, zER, zER]
  | x :: l, acc, b => by
    rw [List.cons_append, zCC, zCC, zIH l]
theorem val_ge : ∀ (l : List UInt8) (acc : Nat), acc ≤ val acc l
  | [], acc => by rw [zER]; exact Nat.le_refl _
  | x :: l, acc => by
    rw [zCC]
    have h := val_ge l (acc * 10 + (x.toNat - 48))
    omega
theorem val_pos {x : UInt8} {t : List UInt8} (h1 : Vg x = true) (h2 : x ≠ 48) : 1 ≤ val 0 (x :: t) := by
  simp [Vg] at h1
  have hx2 : x.toNat ≠ 48 := fun e => h2 (UInt8.toNat_inj.1 e)
  rw [zCC]
  have h := val_ge t (0 * 10 + (x.toNat - 48))
  omega
theorem zJa {b : UInt8} (h : Vg b = true) : UInt8.ofNat (48 + (b.toNat - 48)) = b := by
  simp [Vg] at h
  rw [show 48 + (b.toNat - 48) = b.toNat by omega]; simp
theorem zEs {u : Nat} (h : ¬ u < 10) : Lib.decDigits u = Lib.decDigits (u / 10) ++ [UInt8.ofNat (48 + u % 10)] := by
  conv => lhs; rw [Lib.decDigits]
  rw [dif_neg h]
theorem dec_val : ∀ (n : Nat) (l : List UInt8), l.length = n → l ≠ [] → l.all Vg = true → (l.head? ≠ some 48 ∨ l = [48]) → Lib.decDigits (val 0 l) = l
  | 0, l, hl, hne, _, _ => absurd (List.eq_nil_of_length_eq_zero hl) hne
  | n + 1, l, hl, hne, hd, hh => by
    obtain ⟨l', b, rfl⟩ : ∃ l' b, l = l' ++ [b] := ⟨l.dropLast, l.getLast hne, (List.dropLast_concat_getLast hne).symm⟩
    rw [List.all_append, Bool.and_eq_true] at hd
    have hb : Vg b = true := by simpa using hd.2
    have hb' := hb
    simp [Vg] at hb'
    rw [zIH]
    cases hl' : l' with
    | nil =>
      rw [zER, Nat.zero_mul, Nat.zero_add, Lib.decDigits_one (by omega), zJa hb]
      rfl
    | cons x t =>
      have hx : x ≠ 48 := by
        rcases hh with hh | hh
        · rw [hl'] at hh; intro e; subst e; exact hh rfl
        · rw [hl'] at hh; simp at hh
      have hxd : Vg x = true := by
        have := hd.1
        rw [hl', List.all_cons, Bool.and_eq_true] at this; exact this.1
      have hv : 1 ≤ val 0 l' := by rw [hl']; exact val_pos hxd hx
      have ih := dec_val n l' (by simpa using hl) (by rw [hl']; simp) hd.1 (.inl (by rw [hl']; simpa using hx))
      rw [← hl', zEs (by omega)]
      rw [show (val 0 l' * 10 + (b.toNat - 48)) / 10 = val 0 l' by omega, show (val 0 l' * 10 + (b.toNat - 48)) % 10 = b.toNat - 48 by omega, ih, zJa hb]
theorem zHH {k : Nat} (h : k < 10) : Vg (UInt8.ofNat (48 + k)) = true ∧ (UInt8.ofNat (48 + k)).toNat = 48 + k := by
  have : (UInt8.ofNat (48 + k)).toNat = 48 + k := by
    rw [UInt8.toNat_ofNat']; omega
  exact ⟨by unfold Vg; rw [this]; simp; omega, this⟩
theorem zGs : ∀ (k n : Nat), n < 10 ^ (k + 1) → (Lib.decDigits n).all Vg = true ∧ val 0 (Lib.decDigits n) = n ∧ 1 ≤ (Lib.decDigits n).length ∧ (Lib.decDigits n).length ≤ k + 1 ∧ ((Lib.decDigits n).head? ≠ some 48 ∨ n = 0)
  | 0, n, h => by
    have h : n < 10 := by simpa using h
    obtain ⟨h1, h2⟩ := zHH h
    rw [Lib.decDigits_one h]
    refine ⟨by rw [List.all_cons, h1]; rfl, by rw [zCC, zER, h2]; omega, by simp, by simp, ?_⟩
    by_cases h0 : n = 0
    · exact .inr h0
    · left
      simp only [List.head?_cons, ne_eq, Option.some.injEq]
      intro e
      have : (UInt8.ofNat (48 + n)).toNat = 48 := by rw [e]; rfl
      omega
  | k + 1, n, h => by
    by_cases hn : n < 10
    · have := zGs 0 n (by simpa using hn)
      refine ⟨this.1, this.2.1, this.2.2.1, by have := this.2.2.2.1; omega, this.2.2.2.2⟩
    · obtain ⟨i1, i2, i3, i4, i5⟩ := zGs k (n / 10) (by rw [Nat.pow_succ] at h; omega)
      obtain ⟨h1, h2⟩ := zHH (k := n % 10) (by omega)
      rw [zEs hn]
      refine ⟨by rw [List.all_append, i1, List.all_cons, h1]; rfl, by rw [zIH, i2, h2]; omega, by simp, by simp; omega, ?_⟩
      left
      cases hd : Lib.decDigits (n / 10) with
      | nil => rw [hd] at i3; simp at i3
      | cons x t =>
        rw [hd] at i5
        rcases i5 with i5 | i5
        · simpa using i5
        · omega
theorem dig_ne {l : List UInt8} (h : l.all Vg = true) : neg l = false ∧ dgs l = l := by
  rcases zFk l with ⟨_, h2⟩ | ⟨h1, h2⟩
  · rw [h2] at h; simp at h; exact absurd h.1 (by decide)
  · exact ⟨h1, h2.symm⟩
theorem zDd {l : List UInt8} (h1 : 1 ≤ l.length) (h : l.all Vg = true) : Lib.decNat l = some (val 0 l) := by
  unfold Lib.decNat
  rw [zHK l 0 h]
  cases l with
  | nil => simp at h1
  | cons => rfl
theorem it_numV {x : ByteArray} (h : Vw x = true) : it (zFj x) = bs x := by
  unfold Vw numL at h
  simp only [Bool.and_eq_true, decide_eq_true_eq, Bool.not_eq_true', Bool.and_eq_false_iff, Bool.not_eq_false', decide_eq_false_iff_not] at h
  obtain ⟨⟨⟨h1, h2⟩, h3⟩, h4⟩ := h
  have hne : dgs (bs x) ≠ [] := fun e => by rw [e] at h1; simp at h1
  unfold it zFj
  rcases zFk (bs x) with ⟨hn, hd⟩ | ⟨hn, hd⟩
  · have h5 : (dgs (bs x)).head? ≠ some 48 := by
      rcases h4 with h4 | h4
      · exact h4
      · rw [h4] at hd; simp [dgs] at hd
    have hv := dec_val _ (dgs (bs x)) rfl hne h3 (.inl h5)
    have hpos : 1 ≤ val 0 (dgs (bs x)) := by
      cases hx : dgs (bs x) with
      | nil => exact absurd hx hne
      | cons b t =>
        rw [hx] at h5 h3
        rw [List.all_cons, Bool.and_eq_true] at h3
        exact val_pos h3.1 (fun e => h5 (by rw [e]; rfl))
    have ha : Lib.atoi (bs x) = some (-((val 0 (dgs (bs x)) : Nat) : Int)) := by
      conv => lhs; rw [hd]
      simp [Lib.atoi, zDd h1 h3]
    rw [ha]
    show Lib.itoa (-((val 0 (dgs (bs x)) : Nat) : Int)) = _
    rw [Lib.itoa_neg _ hpos, hv, ← hd]
  · have h5 : (dgs (bs x)).head? ≠ some 48 ∨ dgs (bs x) = [48] := by
      rcases h4 with h4 | h4
      · exact .inl h4
      · exact .inr (hd.symm.trans h4)
    have hv := dec_val _ (dgs (bs x)) rfl hne h3 h5
    have ha : Lib.atoi (bs x) = some ((val 0 (dgs (bs x)) : Nat) : Int) := by
      have hdn := zDd h1 h3
      cases hx : bs x with
      | nil => rw [← hd, hx] at hne; exact absurd rfl hne
      | cons b r =>
        rw [← hd, hx] at h3 hdn
        rw [hx] at hd
        rw [← hd]
        have hb : b ≠ 45 ∧ b ≠ 43 := by
          rw [List.all_cons, Bool.and_eq_true] at h3
          constructor
          · intro e; subst e; exact absurd h3.1 (by decide)
          · intro e; subst e; exact absurd h3.1 (by decide)
        simp [Lib.atoi, hb.1, hb.2, hdn]
    rw [ha]
    show Lib.itoa ((val 0 (dgs (bs x)) : Nat) : Int) = _
    rw [Lib.itoa_nonneg, hv, ← hd]
theorem num_it {n : Int} (h : -1000000 ≤ n ∧ n ≤ 1000000) : Vw (mkB (it n)) = true ∧ zFj (mkB (it n)) = n ∧ rowOk (mkB (it n)) = true := by
  obtain ⟨i1, i2, i3, i4, i5⟩ := zGs 8 n.natAbs (by have : (10 : Nat) ^ 9 = 1000000000 := rfl; omega)
  have hrow : ∀ b : UInt8, Vg b = true → zEj b = true := fun b hb => by
    simp [Vg] at hb; simp [zEj]; omega
  have hra : (Lib.decDigits n.natAbs).all zEj = true := List.all_eq_true.2 fun b hb => hrow b (List.all_eq_true.1 i1 b hb)
  unfold Vw zFj rowOk
  simp only [zAX]
  by_cases hn : n < 0
  · have e : it n = 45 :: Lib.decDigits n.natAbs := by unfold it Lib.itoa; rw [if_pos hn]
    have h0 : (Lib.decDigits n.natAbs).head? ≠ some 48 := by
      rcases i5 with i5 | i5
      · exact i5
      · omega
    rw [e]
    refine ⟨?_, ?_, ?_⟩
    · unfold numL
      simp only [dgs]
      simp [i1, i3, i4, h0]
    · simp [Lib.atoi, zDd i3 i1, i2]; omega
    · rw [List.all_cons, hra]; rfl
  · have e : it n = Lib.decDigits n.natAbs := by
      unfold it Lib.itoa; rw [if_neg hn]; congr 1; omega
    obtain ⟨d1, d2⟩ := dig_ne i1
    rw [e]
    refine ⟨?_, ?_, ?_⟩
    · unfold numL
      rw [d2]
      have h4 : (decide ((Lib.decDigits n.natAbs).head? = some 48) && !decide (Lib.decDigits n.natAbs = [48])) = false := by
        rcases i5 with i5 | i5
        · simp [i5]
        · rw [i5]
          have : Lib.decDigits 0 = [48] := Lib.decDigits_one (by omega)
          rw [this]; simp
      rw [h4]
      simp [i1, i3, i4]
    · have hdn := zDd i3 i1
      cases hx : Lib.decDigits n.natAbs with
      | nil => rw [hx] at i3; simp at i3
      | cons b r =>
        rw [hx] at hdn i1 i2
        have hb : b ≠ 45 ∧ b ≠ 43 := by
          rw [List.all_cons, Bool.and_eq_true] at i1
          constructor
          · intro e; subst e; exact absurd i1.1 (by decide)
          · intro e; subst e; exact absurd i1.1 (by decide)
        simp [Lib.atoi, hb.1, hb.2, hdn, i2]; omega
    · rw [hra]
      cases hx : Lib.decDigits n.natAbs with
      | nil => rw [hx] at i3; simp at i3
      | cons b r => rfl
def nb (n : Int) : ByteArray := mkB (it n)
def ptN : List zU → List ByteArray
  | [] => []
  | q :: l => nb q.X :: nb q.Y :: ptN l
def rcN : List JO → List ByteArray
  | [] => []
  | r :: l => nb r.X0 :: nb r.Y0 :: nb r.X1 :: nb r.Y1 :: rcN l
def lwS (s : zB) : List ByteArray :=
  if s.Kind = 1 then [wb .dark] else if s.Kind = 2 then [wb .clear] else if s.Kind = 3 then [wb .use, s.Name]
  else if s.Kind = 4 then [wb .move, nb s.At.X, nb s.At.Y] else if s.Kind = 5 then [wb .flash, nb s.At.X, nb s.At.Y] else if s.Kind = 6 then [wb .line, nb s.At.X, nb s.At.Y]
  else if s.Kind = 7 then wb .area :: ptN s.Points
  else if s.Kind = 8 then [wb .rept, nb s.NX, nb s.NY, nb s.At.X, nb s.At.Y] else []
def lw : Ln → List ByteArray
  | .unit n => [wb .unit, nb n]
  | .tool t => wb .tool :: t.Name :: rcN t.Rects
  | .step s => lwS s
  | .rep s => lwS s
  | .done => [wb .done]
theorem nb_numV {x : ByteArray} (h : Vw x = true) : nb (zFj x) = x := zFE (by unfold nb; rw [zAX, it_numV h])
theorem zFh {l : List ByteArray} {m : List Int} (h : nums l = some m) : m.map nb = l := by
  unfold nums at h
  split at h
  · rename_i ha
    obtain rfl := Option.some.inj h
    rw [List.map_map]
    have : ∀ l : List ByteArray, l.all Vw = true → l.map (nb ∘ zFj) = l := fun l => by
      induction l with
      | nil => intro _; rfl
      | cons x l ih =>
        intro h
        rw [List.all_cons, Bool.and_eq_true] at h
        rw [List.map_cons, ih h.2, Function.comp_apply, nb_numV h.1]
    exact this l ha
  · cases h
theorem ptN_pts : ∀ (n : Nat) (m : List Int), m.length ≤ n → m.length % 2 = 0 → ptN (pts m) = m.map nb
  | _, [], _, _ => rfl
  | _, [a], _, h => by simp at h
  | 0, a :: b :: l, hn, _ => by simp at hn
  | n + 1, a :: b :: l, hn, h => by
    rw [pts, ptN, ptN_pts n l (by simp at hn; omega) (by simp at h; omega)]
    rfl
theorem rcN_rcs : ∀ (n : Nat) (m : List Int), m.length ≤ n → m.length % 4 = 0 → rcN (rcs m) = m.map nb
  | _, [], _, _ => rfl
  | _, [a], _, h => by simp at h
  | _, [a, b], _, h => by simp at h
  | _, [a, b, c], _, h => by simp at h
  | 0, a :: b :: c :: d :: l, hn, _ => by simp at hn
  | n + 1, a :: b :: c :: d :: l, hn, h => by
    rw [rcs, rcN, rcN_rcs n l (by simp at hn; omega) (by simp at h; omega)]
    rfl
theorem lnPt_lw {k : Int} {d : Wd} {r : List ByteArray} {l : Ln} (h : zA6 k (nums r) = some l) (hk : ∀ x y : Int, lwS ⟨k, e0, ⟨x, y⟩, [], 0, 0, []⟩ = [wb d, nb x, nb y]) : lw l = wb d :: r := by
  obtain ⟨x, y, e, rfl⟩ := Ve h
  show lwS _ = _
  rw [hk, ← zFh e]; rfl
theorem lnOf_lw {ws : List ByteArray} {l : Ln} (h : WE ws = some l) : lw l = ws := by
  cases ws with
  | nil => cases h
  | cons k r =>
    rw [KL] at h
    cases hd : Vy k with
    | none => rw [hd] at h; cases h
    | some d =>
      rw [hd, Option.bind_some] at h
      rw [zEQ hd]
      cases d with
      | rept =>
        obtain ⟨a, b, c, d, e, rfl⟩ := zBG (show zCw (nums r) = _ from h)
        rw [← zFh e]; rfl
      | unit =>
        have h : zBE (nums r) = some l := h
        unfold zBE at h
        split at h
        · rename_i n e
          obtain rfl := Option.some.inj h
          rw [← zFh e]; rfl
        · cases h
      | tool =>
        cases r with
        | nil => cases h
        | cons nm r2 =>
          have h : (if rowOk nm = true then zBF nm (nums r2) else none) = some l := h
          split at h
          · obtain ⟨m, e, hm, rfl⟩ := zCZ h
            show wb .tool :: nm :: rcN (rcs m) = _
            rw [rcN_rcs m.length m (Nat.le_refl _) hm.2, zFh e]
          · cases h
      | dark =>
        have h : (if r = [] then some (Ln.step (st0 1)) else none) = some l := h
        split at h
        · rename_i hr; obtain rfl := Option.some.inj h; rw [hr]; rfl
        · cases h
      | clear =>
        have h : (if r = [] then some (Ln.step (st0 2)) else none) = some l := h
        split at h
        · rename_i hr; obtain rfl := Option.some.inj h; rw [hr]; rfl
        · cases h
      | done =>
        have h : (if r = [] then some Ln.done else none) = some l := h
        split at h
        · rename_i hr; obtain rfl := Option.some.inj h; rw [hr]; rfl
        · cases h
      | use =>
        cases r with
        | nil => cases h
        | cons nm r2 =>
          cases r2 with
          | nil =>
            have h : (if rowOk nm = true then some (Ln.step ⟨3, nm, ⟨0, 0⟩, [], 0, 0, []⟩) else none) = some l := h
            split at h
            · obtain rfl := Option.some.inj h; rfl
            · cases h
          | cons _ _ => cases h
      | move => exact lnPt_lw h fun _ _ => rfl
      | flash => exact lnPt_lw h fun _ _ => rfl
      | line => exact lnPt_lw h fun _ _ => rfl
      | area =>
        obtain ⟨m, e, h2, rfl⟩ := zAb (show zBH (nums r) = _ from h)
        show wb .area :: ptN (pts m) = _
        rw [ptN_pts m.length m (Nat.le_refl _) h2, zFh e]
def NB (n : Int) : Prop := -1000000 ≤ n ∧ n ≤ 1000000
theorem zEC {m : List Int} (h : ∀ n ∈ m, NB n) : nums (m.map nb) = some m := by
  unfold nums
  have h1 : (m.map nb).all Vw = true := by
    rw [List.all_eq_true]
    intro x hx
    obtain ⟨n, hn, rfl⟩ := List.mem_map.1 hx
    exact (num_it (h n hn)).1
  rw [if_pos h1, List.map_map]
  congr 1
  refine (List.map_congr_left fun n hn => ?_).trans (List.map_id m)
  exact (num_it (h n hn)).2.1
def ptI : List zU → List Int
  | [] => []
  | q :: l => q.X :: q.Y :: ptI l
def rcI : List JO → List Int
  | [] => []
  | r :: l => r.X0 :: r.Y0 :: r.X1 :: r.Y1 :: rcI l
theorem zHc : ∀ l : List zU, ptN l = (ptI l).map nb
  | [] => rfl
  | q :: l => by rw [ptN, ptI, zHc l]; rfl
theorem zHa : ∀ l : List JO, rcN l = (rcI l).map nb
  | [] => rfl
  | q :: l => by rw [rcN, rcI, zHa l]; rfl
theorem pts_ptI : ∀ l : List zU, pts (ptI l) = l
  | [] => rfl
  | q :: l => by rw [ptI, pts, pts_ptI l]
theorem rcs_rcI : ∀ l : List JO, rcs (rcI l) = l
  | [] => rfl
  | q :: l => by rw [rcI, rcs, rcs_rcI l]
theorem ptI_len : ∀ l : List zU, (ptI l).length = 2 * l.length
  | [] => rfl
  | q :: l => by rw [ptI]; simp [ptI_len l]; omega
theorem rcI_len : ∀ l : List JO, (rcI l).length = 4 * l.length
  | [] => rfl
  | q :: l => by rw [rcI]; simp [rcI_len l]; omega
theorem ptI_nb {l : List zU} (h : ∀ q ∈ l, NB q.X ∧ NB q.Y) : ∀ n ∈ ptI l, NB n := by
  induction l with
  | nil => intro n hn; cases hn
  | cons q l ih =>
    intro n hn
    have hq := h q (by simp)
    rw [ptI] at hn
    rcases List.mem_cons.1 hn with rfl | hn
    · exact hq.1
    rcases List.mem_cons.1 hn with rfl | hn
    · exact hq.2
    exact ih (fun x hx => h x (by simp [hx])) n hn
theorem rcI_nb {l : List JO} (h : ∀ q ∈ l, (NB q.X0 ∧ NB q.Y0) ∧ NB q.X1 ∧ NB q.Y1) : ∀ n ∈ rcI l, NB n := by
  induction l with
  | nil => intro n hn; cases hn
  | cons q l ih =>
    intro n hn
    have hq := h q (by simp)
    rw [rcI] at hn
    rcases List.mem_cons.1 hn with rfl | hn
    · exact hq.1.1
    rcases List.mem_cons.1 hn with rfl | hn
    · exact hq.1.2
    rcases List.mem_cons.1 hn with rfl | hn
    · exact hq.2.1
    rcases List.mem_cons.1 hn with rfl | hn
    · exact hq.2.2
    exact ih (fun x hx => h x (by simp [hx])) n hn
def RepB (s : zB) : Prop := s.Kind = 8 ∧ (NB s.NX ∧ NB s.NY) ∧ (NB s.At.X ∧ NB s.At.Y) ∧ s.Name = e0 ∧ s.Points = [] ∧ s.Steps = []
def LnB : Ln → Prop
  | .unit n => NB n
  | .tool t => rowOk t.Name = true ∧ t.Rects ≠ [] ∧ ∀ q ∈ t.Rects, (NB q.X0 ∧ NB q.Y0) ∧ NB q.X1 ∧ NB q.Y1
  | .step s => s.Kind ≠ 8 ∧ (1 ≤ s.Kind ∧ s.Kind ≤ 8) ∧ (if s.Kind = 3 then rowOk s.Name = true else s.Name = e0) ∧ (if s.Kind = 4 ∨ s.Kind = 5 ∨ s.Kind = 6 then NB s.At.X ∧ NB s.At.Y else s.At = ⟨0, 0⟩) ∧ (if s.Kind = 7 then ∀ q ∈ s.Points, NB q.X ∧ NB q.Y else s.Points = []) ∧ s.NX = 0 ∧ s.NY = 0 ∧ s.Steps = []
  | .rep s => RepB s
  | .done => True
theorem zAn (d : Wd) (r : List ByteArray) : WE (wb d :: r) = lnW r d := by
  rw [KL, wdOf_wb, Option.bind_some]
theorem lw_lnOf {l : Ln} (h : LnB l) : WE (lw l) = some l := by
  cases l with
  | unit n =>
    show WE (wb .unit :: [n].map nb) = _
    rw [zAn]
    show zBE (nums ([n].map nb)) = _
    rw [zEC (by intro x hx; simp at hx; subst hx; exact h)]
    rfl
  | tool t =>
    obtain ⟨h1, h2, h3⟩ := h
    show WE (wb .tool :: (t.Name :: rcN t.Rects)) = _
    rw [zAn]
    show (if rowOk t.Name = true then zBF t.Name (nums (rcN t.Rects)) else none) = _
    rw [if_pos h1, zHa, zEC (rcI_nb h3)]
    show (if (rcI t.Rects).length ≠ 0 ∧ (rcI t.Rects).length % 4 = 0 then some (Ln.tool ⟨t.Name, rcs (rcI t.Rects)⟩) else none) = _
    have := List.length_pos_iff.2 h2
    rw [rcI_len, if_pos ⟨by omega, by omega⟩, rcs_rcI]
  | done =>
    show WE (wb .done :: []) = _
    rw [zAn]; rfl
  | rep s =>
    obtain ⟨k, nm, ⟨ax, ay⟩, ps, nx, ny, ss⟩ := s
    obtain ⟨h1, h2, h3, h4, h5, h6⟩ := h
    simp only at h1 h2 h3 h4 h5 h6
    subst h1 h4 h5 h6
    show WE (wb .rept :: [nx, ny, ax, ay].map nb) = _
    rw [zAn]
    show zCw (nums ([nx, ny, ax, ay].map nb)) = _
    rw [zEC (by intro x hx; simp at hx; rcases hx with rfl | rfl | rfl | rfl <;> first | exact h2.1 | exact h2.2 | exact h3.1 | exact h3.2)]
    rfl
  | step s =>
    obtain ⟨k, nm, ⟨ax, ay⟩, ps, nx, ny, ss⟩ := s
    obtain ⟨h1, h2, h3, h4, h5, h6, h7, h8⟩ := h
    simp only at h1 h2 h3 h4 h5 h6 h7 h8
    subst h6 h7 h8
    have pt : ∀ (d : Wd), (NB ax ∧ NB ay) → nums [nb ax, nb ay] = some [ax, ay] := fun d h => by
      show nums ([ax, ay].map nb) = _
      exact zEC (by intro x hx; simp at hx; rcases hx with rfl | rfl <;> first | exact h.1 | exact h.2)
    have hk : k = 1 ∨ k = 2 ∨ k = 3 ∨ k = 4 ∨ k = 5 ∨ k = 6 ∨ k = 7 := by omega
    rcases hk with rfl | rfl | rfl | rfl | rfl | rfl | rfl
    · simp at h3 h4 h5
      obtain ⟨rfl, rfl⟩ := h4
      subst h3 h5
      show WE (wb .dark :: []) = _
      rw [zAn]; rfl
    · simp at h3 h4 h5
      obtain ⟨rfl, rfl⟩ := h4
      subst h3 h5
      show WE (wb .clear :: []) = _
      rw [zAn]; rfl
    · simp at h3 h4 h5
      obtain ⟨rfl, rfl⟩ := h4
      subst h5
      show WE (wb .use :: [nm]) = _
      rw [zAn]
      show (if rowOk nm = true then some (Ln.step ⟨3, nm, ⟨0, 0⟩, [], 0, 0, []⟩) else none) = _
      rw [if_pos h3]
    · simp at h3 h4 h5
      subst h3 h5
      show WE (wb .move :: [nb ax, nb ay]) = _
      rw [zAn]
      show zA6 4 (nums [nb ax, nb ay]) = _
      rw [pt .move h4]; rfl
    · simp at h3 h4 h5
      subst h3 h5
      show WE (wb .flash :: [nb ax, nb ay]) = _
      rw [zAn]
      show zA6 5 (nums [nb ax, nb ay]) = _
      rw [pt .flash h4]; rfl
    · simp at h3 h4 h5
      subst h3 h5
      show WE (wb .line :: [nb ax, nb ay]) = _
      rw [zAn]
      show zA6 6 (nums [nb ax, nb ay]) = _
      rw [pt .line h4]; rfl
    · simp at h3 h4
      obtain ⟨rfl, rfl⟩ := h4
      subst h3
      have h5 : ∀ q ∈ ps, NB q.X ∧ NB q.Y := by simpa using h5
      show WE (wb .area :: ptN ps) = _
      rw [zAn]
      show zBH (nums (ptN ps)) = _
      rw [zHc, zEC (ptI_nb h5)]
      show (if (ptI ps).length % 2 = 0 then some (Ln.step ⟨7, e0, ⟨0, 0⟩, pts (ptI ps), 0, 0, []⟩) else none) = _
      rw [ptI_len, if_pos (by omega), pts_ptI]
def lnT (ws : List ByteArray) : List UInt8 := Lib.join (ws.map bs) [32] ++ [10]
def lb : Option Ln → List UInt8
  | some l => lnT (lw l)
  | none => []
def txB (ls : List (Option Ln)) : List UInt8 := (ls.map lb).flatten
theorem txB_nil : txB [] = [] := rfl
theorem zFT (l : Option Ln) (ls : List (Option Ln)) : txB (l :: ls) = lb l ++ txB ls := rfl
theorem zHX (a b : List (Option Ln)) : txB (a ++ b) = txB a ++ txB b := by
  unfold txB; rw [List.map_append, List.flatten_append]
theorem mem_join (b : UInt8) : ∀ (l : List (List UInt8)), b ∈ Lib.join l [32] → b = 32 ∨ ∃ w ∈ l, b ∈ w
  | [], h => by cases h
  | [w], h => by rw [Lib.join_one] at h; exact .inr ⟨w, by simp, h⟩
  | w :: x :: r, h => by
    rw [zFo, List.mem_append, List.mem_cons] at h
    rcases h with h | h | h
    · exact .inr ⟨w, by simp, h⟩
    · exact .inl h
    · rcases mem_join b (x :: r) h with e | ⟨y, hy, e⟩
      · exact .inl e
      · exact .inr ⟨y, List.mem_cons_of_mem _ hy, e⟩
def RowW (ws : List ByteArray) : Prop := ∀ w ∈ ws, (bs w).all zEj = true
theorem row_of {s : ByteArray} (h : rowOk s = true) : (bs s).all zEj = true := by
  unfold rowOk at h
  rw [Bool.and_eq_true] at h
  exact h.2
theorem zBi {n : Int} (h : NB n) : (bs (nb n)).all zEj = true := row_of (num_it h).2.2
theorem rowC_not {l : List UInt8} (h : l.all zEj = true) : (32 : UInt8) ∉ l ∧ (10 : UInt8) ∉ l := by
  rw [List.all_eq_true] at h
  exact ⟨fun hm => absurd (h _ hm) (by decide), fun hm => absurd (h _ hm) (by decide)⟩
theorem JB {w : ByteArray} {ws : List ByteArray} (h : (bs w).all zEj = true) (hs : RowW ws) : RowW (w :: ws) := fun x hx => by
  rcases List.mem_cons.1 hx with rfl | hx
  · exact h
  · exact hs x hx
theorem zAk : RowW [] := fun x hx => by cases hx
theorem rowW_map {l : List Int} (h : ∀ n ∈ l, NB n) : RowW (l.map nb) := fun x hx => by
  obtain ⟨n, hn, rfl⟩ := List.mem_map.1 hx
  exact zBi (h n hn)
theorem lw_row {l : Ln} (h : LnB l) : RowW (lw l) ∧ lw l ≠ [] := by
  cases l with
  | unit n => exact ⟨JB (row_of (zCB _)) (JB (zBi h) zAk), by simp [lw]⟩
  | done => exact ⟨JB (row_of (zCB _)) zAk, by simp [lw]⟩
  | tool t =>
    obtain ⟨h1, h2, h3⟩ := h
    refine ⟨JB (row_of (zCB _)) (JB (row_of h1) ?_), by simp [lw]⟩
    rw [zHa]; exact rowW_map (rcI_nb h3)
  | rep s =>
    obtain ⟨h1, h2, h3, h4, h5, h6⟩ := h
    have e : lw (.rep s) = [wb .rept, nb s.NX, nb s.NY, nb s.At.X, nb s.At.Y] := by
      show lwS s = _
      unfold lwS; rw [h1]; rfl
    rw [e]
    exact ⟨JB (row_of (zCB _)) (JB (zBi h2.1) (JB (zBi h2.2) (JB (zBi h3.1) (JB (zBi h3.2) zAk)))), by simp⟩
  | step s =>
    obtain ⟨h1, h2, h3, h4, h5, h6, h7, h8⟩ := h
    have hk : s.Kind = 1 ∨ s.Kind = 2 ∨ s.Kind = 3 ∨ s.Kind = 4 ∨ s.Kind = 5 ∨ s.Kind = 6 ∨ s.Kind = 7 := by omega
    show RowW (lwS s) ∧ lwS s ≠ []
    unfold lwS
    rcases hk with k | k | k | k | k | k | k <;> rw [k] at h3 h4 h5 ⊢
    · exact ⟨JB (row_of (zCB _)) zAk, by simp⟩
    · exact ⟨JB (row_of (zCB _)) zAk, by simp⟩
    · exact ⟨JB (row_of (zCB _)) (JB (row_of (by simpa using h3)) zAk), by simp⟩
    · have h4 : NB s.At.X ∧ NB s.At.Y := by simpa using h4
      exact ⟨JB (row_of (zCB _)) (JB (zBi h4.1) (JB (zBi h4.2) zAk)), by simp⟩
    · have h4 : NB s.At.X ∧ NB s.At.Y := by simpa using h4
      exact ⟨JB (row_of (zCB _)) (JB (zBi h4.1) (JB (zBi h4.2) zAk)), by simp⟩
    · have h4 : NB s.At.X ∧ NB s.At.Y := by simpa using h4
      exact ⟨JB (row_of (zCB _)) (JB (zBi h4.1) (JB (zBi h4.2) zAk)), by simp⟩
    · have h5 : ∀ q ∈ s.Points, NB q.X ∧ NB q.Y := by simpa using h5
      refine ⟨JB (row_of (zCB _)) ?_, by simp⟩
      rw [zHc]; exact rowW_map (ptI_nb h5)
def LnsB (ls : List (Option Ln)) : Prop := ∀ l ∈ ls, ∃ x, l = some x ∧ LnB x
theorem join_row {ws : List ByteArray} (h : RowW ws) : (10 : UInt8) ∉ Lib.join (ws.map bs) [32] := fun hm => by
  rcases mem_join 10 _ hm with e | ⟨w, hw, hb⟩
  · exact absurd e (by decide)
  · obtain ⟨x, hx, rfl⟩ := List.mem_map.1 hw
    exact (rowC_not (h x hx)).2 hb
theorem words_row {ws : List ByteArray} (h : RowW ws) (hn : ws ≠ []) : words (mkB (Lib.join (ws.map bs) [32])) = ws := by
  cases ws with
  | nil => exact absurd rfl hn
  | cons w r => exact words_of (zAX _) fun x hx => (rowC_not (h x hx)).1
theorem zOf_tx : ∀ (ls : List (Option Ln)) (n : Nat), LnsB ls → (txB ls).length < n → (zOf n (mkB (txB ls))).map lnZ = ls
  | [], n, _, hn => by
    cases n with
    | zero => omega
    | succ n => rw [zOf, zAX, txB_nil]; rfl
  | l :: ls, n, h, hn => by
    obtain ⟨x, rfl, hx⟩ := h l (by simp)
    obtain ⟨r1, r2⟩ := lw_row hx
    have e : txB (some x :: ls) = Lib.join ((lw x).map bs) [32] ++ 10 :: txB ls := by
      rw [zFT]
      show lnT (lw x) ++ txB ls = _
      unfold lnT; simp
    cases n with
    | zero => omega
    | succ n =>
      rw [e] at hn ⊢
      rw [List.length_append, List.length_cons] at hn
      rw [zOf, zAX, if_neg (by simp), cut_at (join_row r1), List.map_cons, zOf_tx ls n (fun y hy => h y (List.mem_cons_of_mem _ hy)) (by omega)]
      congr 1
      show (if true = true then WE (words (mkB (Lib.join ((lw x).map bs) [32]))) else none) = some x
      rw [if_pos rfl, words_row r1 r2, lw_lnOf hx]
theorem linesL_tx {ls : List (Option Ln)} (h : LnsB ls) : WZ (mkB (txB ls)) = ls := by
  unfold WZ
  exact zOf_tx ls _ h (by rw [zAm]; omega)
theorem zOf_back : ∀ (n : Nat) (t : ByteArray), t.size < n → (∀ z ∈ zOf n t, lnZ z ≠ none) → bs t = txB ((zOf n t).map lnZ)
  | 0, t, h, _ => by omega
  | n + 1, t, h, hz => by
    rw [zOf] at hz ⊢
    cases hne : (bs t).isEmpty
    · rw [hne] at hz
      rw [if_neg (by simp)] at hz ⊢
      have hc := zF1 hne
      have h1 := hz _ (List.mem_cons_self)
      rw [List.map_cons, zFT, ← zOf_back n (Qp t).2.1 (by omega) (fun z hm => hz z (List.mem_cons_of_mem _ hm))]
      unfold lnZ at h1 ⊢
      simp only at h1 ⊢
      cases he : (Qp t).2.2 with
      | false => rw [he] at h1; exact absurd rfl h1
      | true =>
        rw [he, if_pos rfl] at h1
        rw [if_pos rfl]
        cases hl : WE (words (Qp t).1) with
        | none => exact absurd hl h1
        | some l =>
          show bs t = lnT (lw l) ++ _
          rw [lnOf_lw hl]
          unfold lnT
          rw [zIG, cut_inv he]
          simp
    · rw [if_pos rfl]
      exact List.isEmpty_iff.1 hne
theorem zGc : ∀ (k : Nat) (l : List zB), JF l ≤ k → none ∉ VZ l
  | _, [], _ => by rw [zBV]; simp
  | k, x :: l, hk => by
    rw [Vz, VQ] at hk
    cases k with
    | zero => omega
    | succ k =>
      have i1 := zGc k x.Steps (by omega)
      have i2 := zGc k l (by omega)
      rw [zAa, zDT]
      split <;> simp [i1, i2]
theorem lnsP_some (p : zi) : none ∉ zDz p := by
  have := zGc _ p.Steps (Nat.le_refl _)
  simp [zDz, this]
theorem lnOf_kind {ws : List ByteArray} {l : Ln} (h : WE ws = some l) : (∀ s, l = .step s → s.Kind ≠ 8) ∧ ∀ s, l = .rep s → s.Kind = 8 ∧ s.Steps = [] := by
  cases ws with
  | nil => cases h
  | cons k r =>
    rw [KL] at h
    cases hd : Vy k with
    | none => rw [hd] at h; cases h
    | some d =>
      rw [hd, Option.bind_some] at h
      have ofS : ∀ {s0 : zB}, l = .step s0 → s0.Kind ≠ 8 → (∀ s, l = .step s → s.Kind ≠ 8) ∧ ∀ s, l = .rep s → s.Kind = 8 ∧ s.Steps = [] := fun e hk => by
        subst e
        exact ⟨fun s e => by injection e with e; subst e; exact hk, fun s e => by cases e⟩
      have pt : ∀ k : Int, k ≠ 8 → zA6 k (nums r) = some l → (∀ s, l = .step s → s.Kind ≠ 8) ∧ ∀ s, l = .rep s → s.Kind = 8 ∧ s.Steps = [] := fun k hk h => by
        obtain ⟨x, y, e, he⟩ := Ve h
        exact ofS he hk
      cases d with
      | rept =>
        obtain ⟨a, b, c, d, e, rfl⟩ := zBG (show zCw (nums r) = _ from h)
        exact ⟨fun s e => (by cases e), fun s e => by injection e with e; subst e; exact ⟨rfl, rfl⟩⟩
      | unit =>
        have h : zBE (nums r) = some l := h
        unfold zBE at h
        split at h
        · obtain rfl := Option.some.inj h
          exact ⟨fun s e => (by cases e), fun s e => by cases e⟩
        · cases h
      | tool =>
        cases r with
        | nil => cases h
        | cons nm r2 =>
          have h : (if rowOk nm = true then zBF nm (nums r2) else none) = some l := h
          split at h
          · obtain ⟨m, e, hm, rfl⟩ := zCZ h
            exact ⟨fun s e => (by cases e), fun s e => by cases e⟩
          · cases h
      | dark =>
        have h : (if r = [] then some (Ln.step (st0 1)) else none) = some l := h
        split at h
        · exact ofS (Option.some.inj h).symm (by show (1 : Int) ≠ 8; omega)
        · cases h
      | clear =>
        have h : (if r = [] then some (Ln.step (st0 2)) else none) = some l := h
        split at h
        · exact ofS (Option.some.inj h).symm (by show (2 : Int) ≠ 8; omega)
        · cases h
      | done =>
        have h : (if r = [] then some Ln.done else none) = some l := h
        split at h
        · obtain rfl := Option.some.inj h
          exact ⟨fun s e => (by cases e), fun s e => by cases e⟩
        · cases h
      | use =>
        cases r with
        | nil => cases h
        | cons nm r2 =>
          cases r2 with
          | nil =>
            have h : (if rowOk nm = true then some (Ln.step ⟨3, nm, ⟨0, 0⟩, [], 0, 0, []⟩) else none) = some l := h
            split at h
            · exact ofS (Option.some.inj h).symm (by show (3 : Int) ≠ 8; omega)
            · cases h
          | cons _ _ => cases h
      | move => exact pt 4 (by omega) h
      | flash => exact pt 5 (by omega) h
      | line => exact pt 6 (by omega) h
      | area =>
        obtain ⟨m, e, h2, he⟩ := zAb (show zBH (nums r) = _ from h)
        exact ofS he (by show (7 : Int) ≠ 8; omega)
theorem lnZ_kind {z : Zl} {l : Ln} (h : lnZ z = some l) : (∀ s, l = .step s → s.Kind ≠ 8) ∧ ∀ s, l = .rep s → s.Kind = 8 ∧ s.Steps = [] := by
  unfold lnZ at h
  split at h
  · exact lnOf_kind h
  · cases h
theorem linesL_kind (t : ByteArray) : zJ2 (WZ t) := by
  unfold WZ
  refine ⟨fun s hs => ?_, fun s hs => ?_⟩
  · obtain ⟨z, _, e⟩ := List.mem_map.1 hs
    exact (lnZ_kind e).1 s rfl
  · obtain ⟨z, _, e⟩ := List.mem_map.1 hs
    exact (lnZ_kind e).2 s rfl
theorem text_back {t : ByteArray} {p : zi} (h : zCt (WZ t) = .inr p) : t = mkB (txB (zDz p)) := by
  have e := spec_inv (linesL_kind t) h
  apply zFE
  rw [zAX, ← e]
  unfold WZ at e ⊢
  refine zOf_back _ t (by omega) fun z hz hn => ?_
  have : none ∈ zDz p := by rw [← e, ← hn]; exact List.mem_map_of_mem hz
  exact lnsP_some p this
theorem zJb (s : ByteArray) : ∀ (m : Nat) (pre suf : List UInt8), bs s = pre ++ suf → pre.all zEj = true → (bs s).length ≤ 9223372036854775807 → Qv s m pre.length = some true → rowOk s = true
  | 0, _, _, _, _, _, h => by cases h
  | m + 1, pre, [], hb, hp, hl, h => by
    unfold Qv at h
    have : decide ((pre.length : Int) < (s.size : Int)) = false := decide_eq_false (by rw [Jz, hb]; simp)
    rw [this] at h
    simp only [Bool.false_eq_true, if_false, Option.some.injEq, Bool.and_eq_true, decide_eq_true_eq] at h
    rw [Jz] at h
    unfold rowOk
    have h2 : (bs s).all zEj = true := by rw [hb]; simpa using hp
    rw [h2]
    cases hx : bs s with
    | nil => rw [hx] at h; simp at h
    | cons _ _ => rfl
  | m + 1, pre, c :: suf, hb, hp, hl, h => by
    have hlen : (bs s).length = pre.length + (suf.length + 1) := by rw [hb]; simp
    unfold Qv at h
    have h1 : decide ((pre.length : Int) < (s.size : Int)) = true := decide_eq_true (by rw [Jz]; omega)
    have hc : zBm s (pre.length : Int) = some (c.toNat : Int) := strAt_bs (by rw [hb]; simp)
    rw [h1, if_pos rfl, hc, Option.bind_some] at h
    split at h
    · cases h
    · rename_i hn
      have hr : zEj c = true := by
        unfold zEj
        simp only [Bool.and_eq_true, Bool.or_eq_true, Bool.not_eq_true', Bool.or_eq_false_iff, Bool.and_eq_false_iff, decide_eq_true_eq, decide_eq_false_iff_not, bne_iff_ne, ne_eq, beq_iff_eq] at hn
        simp only [Bool.and_eq_true, decide_eq_true_eq]
        omega
      have e : w64 ((pre.length : Int) + 1) = ((pre ++ [c]).length : Int) := by
        rw [zGQ (by omega) (by omega)]; simp
      rw [e] at h
      exact zJb s m (pre ++ [c]) suf (by rw [hb]; simp) (by simp [hp, hr]) hl h
theorem name_row {N : Nat} {s : ByteArray} (hs : s.size ≤ 9223372036854775807) (h : KP N s = some true) : rowOk s = true :=
  zJb s N [] (bs s) rfl rfl (by rw [← Jz]; exact hs) h
theorem zEf {n u : Int} (hu : 1 ≤ u) (h : zCS n u = true) : NB n := by
  unfold zCS at h
  simp only [Bool.and_eq_true, decide_eq_true_eq] at h
  have : (1000000 : Int) / u ≤ 1000000 := Int.ediv_le_self _ (by omega)
  exact ⟨by omega, by omega⟩
theorem fitPt_nb {q : zU} {u : Int} (hu : 1 ≤ u) (h : WR q u = true) : NB q.X ∧ NB q.Y := by
  unfold WR at h
  rw [Bool.and_eq_true] at h
  exact ⟨zEf hu h.1, zEf hu h.2⟩
theorem zGY {u : Int} (hu : 1 ≤ u) : ∀ {l : List JO}, zEA u l = 0 → ∀ r ∈ l, (NB r.X0 ∧ NB r.Y0) ∧ NB r.X1 ∧ NB r.Y1
  | [], _, r, hr => by cases hr
  | x :: l, h, r, hr => by
    unfold zEA at h
    split at h
    · rename_i h0
      rcases List.mem_cons.1 hr with rfl | hr
      · unfold rectE at h0
        split at h0
        · rename_i hf
          simp only [Bool.and_eq_true] at hf
          exact ⟨⟨zEf hu hf.1.1.1, zEf hu hf.1.1.2⟩, zEf hu hf.1.2, zEf hu hf.2⟩
        · cases h0
      · exact zGY hu h r hr
    · rename_i h0; exact absurd h h0
theorem tool_lnB {t : zS} {u : Int} (hu : 1 ≤ u) (hr : rowOk t.Name = true) (h : zAj t u = 0) : LnB (.tool t) := by
  unfold zAj at h
  split at h
  · cases h
  rename_i h0
  split at h
  · cases h
  exact ⟨hr, fun e => h0 (by rw [e]; rfl), zGY hu h⟩
theorem step_lnB {p : zi} (hu : 1 ≤ p.Unit) (hn : ∀ t ∈ p.Tools, rowOk t.Name = true) {s : zB} {d : Int} (h : StepOk p s d) : LnB (if s.Kind = 8 then .rep (Wq s []) else .step s) := by
  have hpl := fitPt_nb hu h.place
  by_cases h8 : s.Kind = 8
  · rw [if_pos h8]
    obtain ⟨n1, n2, _⟩ := h.times h8
    exact ⟨h8, ⟨⟨by show _ ≤ s.NX; omega, by show s.NX ≤ _; omega⟩, ⟨by show _ ≤ s.NY; omega, by show s.NY ≤ _; omega⟩⟩, hpl, h.name (by omega), h.points (by omega), rfl⟩
  · rw [if_neg h8]
    have hr := h.rep h8
    refine ⟨h8, h.kind, ?_, ?_, ?_, hr.1, hr.2.1, hr.2.2⟩
    · split
      · rename_i h3
        obtain ⟨t, ht, e⟩ := zJQ (nm := s.Name) (l := p.Tools) (by have := h.tool h3; omega)
        rw [← e]; exact hn t ht
      · rename_i h3; exact h.name h3
    · split
      · exact hpl
      · rename_i h4
        exact h.at_ (fun e => h4 (.inl e)) (fun e => h4 (.inr (.inl e))) (fun e => h4 (.inr (.inr e))) h8
    · split
      · rename_i h7
        intro q hq
        exact fitPt_nb hu (List.all_eq_true.1 (h.area h7).1 q hq)
      · rename_i h7; exact h.points h7
theorem zId {p : zi} (hu : 1 ≤ p.Unit) (hn : ∀ t ∈ p.Tools, rowOk t.Name = true) : ∀ (k : Nat) (l : List zB) (d : Int), JF l ≤ k → zDh p d l → LnsB (VZ l)
  | _, [], _, _, _ => by rw [zBV]; intro x hx; cases hx
  | k, s :: l, d, hk, h => by
    rw [Vz, VQ] at hk
    rw [zCA, zGB] at h
    cases k with
    | zero => omega
    | succ k =>
      have i1 := zId hu hn k s.Steps (d + 1) (by omega) h.1.2
      have i2 := zId hu hn k l d (by omega) h.2
      have i3 := step_lnB hu hn (zGS.1 h.1.1)
      rw [zAa, zDT]
      intro x hx
      rcases List.mem_append.1 hx with hx | hx
      · split at hx
        · rename_i h8
          rw [if_pos h8] at i3
          rcases List.mem_cons.1 hx with rfl | hx
          · exact ⟨_, rfl, i3⟩
          · rcases List.mem_append.1 hx with hx | hx
            · exact i1 x hx
            · simp at hx; subst hx; exact ⟨_, rfl, trivial⟩
        · rename_i h8
          rw [if_neg h8] at i3
          simp at hx; subst hx; exact ⟨_, rfl, i3⟩
      · exact i2 x hx
theorem zFI.row {N : Nat} {p : zi} (hL : zI9 p) (h : zFI N p) : ∀ t ∈ p.Tools, rowOk t.Name = true := fun t ht => name_row (hL.tools t ht).1 (h.tools t ht).1
theorem lnsP_lnB {N : Nat} {p : zi} (hL : zI9 p) (h : zFI N p) : LnsB (zDz p) := by
  have hu := h.unit
  intro x hx
  rcases List.mem_cons.1 hx with rfl | hx
  · exact ⟨_, rfl, ⟨by omega, by omega⟩⟩
  rcases List.mem_append.1 hx with hx | hx
  · obtain ⟨t, ht, rfl⟩ := List.mem_map.1 hx
    exact ⟨_, rfl, tool_lnB hu.1 (h.row hL t ht) (h.tools t ht).2⟩
  · exact zId hu.1 (h.row hL) _ p.Steps 0 (Nat.le_refl _) h.steps x hx
def sp (ws : List ByteArray) : List UInt8 := ((ws.map bs).map (32 :: ·)).flatten
theorem zBf : sp [] = [] := rfl
theorem zFV (w : ByteArray) (r : List ByteArray) : sp (w :: r) = 32 :: (bs w ++ sp r) := rfl
theorem zG7 (n : Int) (r : List ByteArray) : sp (nb n :: r) = 32 :: (it n ++ sp r) := by rw [zFV]; unfold nb; rw [zAX]
theorem zAK (w : ByteArray) (r : List ByteArray) : lnT (w :: r) = bs w ++ (sp r ++ [10]) := by
  unfold lnT sp
  rw [List.map_cons, Lib.join_cons]
  unfold Lib.joinTail
  rw [List.append_assoc]
  rfl
theorem itF_ok {n : Int} (h : NB n) : zEp n = some (mkB (it n)) := if_pos ⟨by have := h.1; omega, by have := h.2; omega⟩
theorem zAo {n : Int} (h : NB n) : (it n).length ≤ 21 := Lib.itoa_length_le n (by have := h.1; omega) (by have := h.2; omega)
theorem spN_len : ∀ {l : List Int}, (∀ n ∈ l, NB n) → (sp (l.map nb)).length ≤ 22 * l.length
  | [], _ => by simp [zBf]
  | n :: l, h => by
    have h1 := zAo (h n (by simp))
    have h2 := spN_len (l := l) fun x hx => h x (List.mem_cons_of_mem _ hx)
    rw [List.map_cons, zG7]
    simp; omega
theorem spP_len {l : List zU} (h : ∀ q ∈ l, NB q.X ∧ NB q.Y) : (sp (ptN l)).length ≤ 44 * l.length := by
  have := spN_len (ptI_nb h)
  rw [ptI_len] at this
  rw [zHc]; omega
theorem spR_len {l : List JO} (h : ∀ q ∈ l, (NB q.X0 ∧ NB q.Y0) ∧ NB q.X1 ∧ NB q.Y1) : (sp (rcN l)).length ≤ 88 * l.length := by
  have := spN_len (rcI_nb h)
  rw [rcI_len] at this
  rw [zHa]; omega
theorem e32 : (⟨#[32]⟩ : ByteArray) = mkB [32] := rfl
theorem e10 : (⟨#[10]⟩ : ByteArray) = mkB [10] := rfl
theorem zHD : ∀ (l : List zU) (i : Nat) (x : List UInt8), (∀ q ∈ l, NB q.X ∧ NB q.Y) → x.length + 44 * l.length ≤ 4611686018427387904 → Jp l i (mkB x) = some (mkB (x ++ sp (ptN l)))
  | [], i, x, _, _ => by rw [Jp, ptN, zBf, List.append_nil]
  | q :: l, i, x, h, hs => by
    have h1 := h q List.mem_cons_self
    have hx := zAo h1.1
    have hy := zAo h1.2
    rw [List.length_cons] at hs
    rw [Jp, itF_ok h1.1, Option.bind_some, e32, zAu (by simp; omega), Option.bind_some, zAu (by simp; omega), Option.bind_some, itF_ok h1.2, Option.bind_some, zAu (by simp; omega), Option.bind_some,
      zAu (by simp; omega), Option.bind_some, zHD l (i + 1) _ (fun a ha => h a (List.mem_cons_of_mem _ ha)) (by simp; omega), ptN, zG7, zG7]
    simp
theorem zJY {l : List zU} (h : ∀ q ∈ l, NB q.X ∧ NB q.Y) (hl : l.length ≤ 10000) : KF l = some (mkB (sp (ptN l))) := by
  unfold KF
  have := zHD l 0 [] h (by simp; omega)
  rw [List.nil_append] at this
  exact this
theorem zFf {α : Type} {l : List zU} {a m : List UInt8} {k : ByteArray → Option α} (h : ∀ q ∈ l, NB q.X ∧ NB q.Y) (hl : l.length ≤ 2000) (ha : a.length ≤ 10) (hm : m.length ≤ 1000000000000) :
    ((KF l).bind fun y => (zAv (mkB a) y).bind fun t => (zAv t (⟨#[10]⟩)).bind fun t => (sbW (mkB m) t).bind k) = k (mkB (m ++ (a ++ (sp (ptN l) ++ [10])))) := by
  have := spP_len h
  rw [zJY h (by omega), Option.bind_some, zAu (by omega), Option.bind_some, e10, zAu (by simp; omega), Option.bind_some, zDP (by simp; omega), Option.bind_some, List.append_assoc]
def StB (s : zB) : Prop := LnB (if s.Kind = 8 then .rep (Wq s []) else .step s) ∧ s.Points.length ≤ 2000 ∧ s.Name.size ≤ 40
structure WS (s : zB) : Prop where
  kind : 1 ≤ s.Kind ∧ s.Kind ≤ 8
  at_ : s.Kind = 4 ∨ s.Kind = 5 ∨ s.Kind = 6 ∨ s.Kind = 8 → NB s.At.X ∧ NB s.At.Y
  pts : s.Kind = 7 → ∀ q ∈ s.Points, NB q.X ∧ NB q.Y
  n : s.Kind = 8 → NB s.NX ∧ NB s.NY
theorem StB.ws {s : zB} (h : StB s) : WS s := by
  obtain ⟨h, _, _⟩ := h
  by_cases h8 : s.Kind = 8
  · rw [if_pos h8] at h
    obtain ⟨h1, h2, h3, h4, h5, h6⟩ := h
    exact ⟨by omega, fun _ => h3, fun h => by omega, fun _ => h2⟩
  · rw [if_neg h8] at h
    obtain ⟨h1, h2, h3, h4, h5, _⟩ := h
    refine ⟨h2, fun h => ?_, fun h => ?_, fun h => absurd h h8⟩
    · rw [if_pos (by omega)] at h4; exact h4
    · rw [if_pos h] at h5; exact h5
theorem txS_eq (x : zB) : txB (lnsS x) = lnT (lwS x) ++ (if x.Kind = 8 then txB (VZ x.Steps) ++ lnT [wb .done] else []) := by
  rw [zDT]
  split
  · rw [zFT, zHX]
    show lnT (lwS (Wq x [])) ++ (txB (VZ x.Steps) ++ (lnT [wb .done] ++ [])) = _
    rw [List.append_nil]; rfl
  · show lnT (lwS x) ++ [] = _
    rfl
theorem lnT_len {x : zB} (h : StB x) : (lnT (lwS x)).length ≤ 90000 := by
  have hw := h.ws
  obtain ⟨_, hp, hn⟩ := h
  have hk : x.Kind = 1 ∨ x.Kind = 2 ∨ x.Kind = 3 ∨ x.Kind = 4 ∨ x.Kind = 5 ∨ x.Kind = 6 ∨ x.Kind = 7 ∨ x.Kind = 8 := by have := hw.kind; omega
  have wl : ∀ d : Wd, (bs (wb d)).length ≤ 6 := fun d => by cases d <;> decide
  rcases hk with k | k | k | k | k | k | k | k <;> unfold lwS <;> simp only [k, show ((2 : Int) = 1) = False by simp, show ((3 : Int) = 1) = False by simp, show ((3 : Int) = 2) = False by simp, if_true, if_false, show ((4 : Int) = 1) = False by simp, show ((4 : Int) = 2) = False by simp, show ((4 : Int) = 3) = False by simp,
    show ((5 : Int) = 1) = False by simp, show ((5 : Int) = 2) = False by simp, show ((5 : Int) = 3) = False by simp, show ((5 : Int) = 4) = False by simp, show ((6 : Int) = 1) = False by simp, show ((6 : Int) = 2) = False by simp, show ((6 : Int) = 3) = False by simp, show ((6 : Int) = 4) = False by simp, show ((6 : Int) = 5) = False by simp,
    show ((7 : Int) = 1) = False by simp, show ((7 : Int) = 2) = False by simp, show ((7 : Int) = 3) = False by simp, show ((7 : Int) = 4) = False by simp, show ((7 : Int) = 5) = False by simp, show ((7 : Int) = 6) = False by simp,
    show ((8 : Int) = 1) = False by simp, show ((8 : Int) = 2) = False by simp, show ((8 : Int) = 3) = False by simp, show ((8 : Int) = 4) = False by simp, show ((8 : Int) = 5) = False by simp, show ((8 : Int) = 6) = False by simp, show ((8 : Int) = 7) = False by simp] <;> rw [zAK]
  · have := wl .dark; simp [zBf]; omega
  · have := wl .clear; simp [zBf]; omega
  · have := wl .use; have := Jz x.Name; simp [zFV, zBf]; omega
  · have h4 := hw.at_ (by omega)
    have := wl .move; have := zAo h4.1; have := zAo h4.2; simp [zG7, zBf]; omega
  · have h4 := hw.at_ (by omega)
    have := wl .flash; have := zAo h4.1; have := zAo h4.2; simp [zG7, zBf]; omega
  · have h4 := hw.at_ (by omega)
    have := wl .line; have := zAo h4.1; have := zAo h4.2; simp [zG7, zBf]; omega
  · have := spP_len (hw.pts k)
    have := wl .area; simp; omega
  · have h4 := hw.at_ (by omega)
    have hn := hw.n k
    have := wl .rept; have := zAo h4.1; have := zAo h4.2; have := zAo hn.1; have := zAo hn.2; simp [zG7, zBf]; omega
theorem txS_len {x : zB} (h : StB x) (hs : (txB (VZ x.Steps)).length ≤ 100000 * VW x.Steps) : (txB (lnsS x)).length ≤ 100000 * zIa x := by
  have h1 := lnT_len h
  have h2 : (lnT [wb .done]).length = 5 := by decide
  rw [txS_eq, zEY, List.length_append]
  split
  · rw [List.length_append, h2]; omega
  · simp; omega
theorem vld_StB {p : zi} (hu : 1 ≤ p.Unit) (hn : ∀ t ∈ p.Tools, rowOk t.Name = true) {l : List zB} {d : Int} (h : zDh p d l) (hg : zBX 40 l) : ∀ x ∈ l, StB x ∧ zDh p (d + 1) x.Steps ∧ zBX 40 x.Steps := fun x hx => by
  have h1 := (zGB p d x).1 ((VldL_iff p d l).1 h x hx)
  have h2 := (goodT_eq 40 x).1 (zJt hg hx)
  exact ⟨⟨step_lnB hu hn (zGS.1 h1.1), h2.1.1, h2.1.2⟩, h1.2, h2.2⟩
theorem tx_len {p : zi} (hu : 1 ≤ p.Unit) (hn : ∀ t ∈ p.Tools, rowOk t.Name = true) : ∀ (k : Nat) (l : List zB) (d : Int), JF l ≤ k → zDh p d l → zBX 40 l → (txB (VZ l)).length ≤ 100000 * VW l
  | _, [], _, _, _, _ => by rw [zBV, zHE]; exact Nat.le_refl _
  | k, x :: l, d, hk, h, hg => by
    rw [Vz, VQ] at hk
    obtain ⟨h1, h2, h3⟩ := vld_StB hu hn h hg x (by simp)
    cases k with
    | zero => omega
    | succ k =>
      have i1 := tx_len hu hn k x.Steps (d + 1) (by omega) h2 h3
      have i2 := tx_len hu hn k l d (by omega) ((zCA _ _ _ _).1 h).2 ((zFC _ _ _).1 hg).2
      have := txS_len h1 i1
      rw [zAa, zHX, zDS, List.length_append]; omega
theorem zG0 {rec : ByteArray → List zB → Option ByteArray} : ∀ (l : List zB) (i : Nat) (m : List UInt8), (∀ x ∈ l, StB x ∧ (txB (VZ x.Steps)).length ≤ 100000 * VW x.Steps ∧ ∀ m : List UInt8, m.length + 100000 * VW x.Steps ≤ 1000000000000 → rec (mkB m) x.Steps = some (mkB (m ++ txB (VZ x.Steps)))) →
    m.length + 100000 * VW l ≤ 1000000000000 → zt rec l i (mkB m) = some (mkB (m ++ txB (VZ l)))
  | [], i, m, _, _ => by rw [zt, zBV, txB_nil, List.append_nil]
  | x :: l, i, m, h, hs => by
    obtain ⟨hx, hz, hr⟩ := h x List.mem_cons_self
    have hw := hx.ws
    have hsz := txS_len hx hz
    have hln := lnT_len hx
    rw [zDS, zEY] at hs
    rw [zEY] at hsz
    have go : ∀ y : List UInt8, y = m ++ txB (lnsS x) → zt rec l (i + 1) (mkB y) = some (mkB (m ++ txB (VZ (x :: l)))) := by
      intro y hy
      rw [zG0 l (i + 1) y (fun z hz => h z (List.mem_cons_of_mem _ hz)) (by rw [hy, List.length_append]; omega), hy, zAa, zHX, List.append_assoc]
    have hnp := hx.2.1
    have hnm := hx.2.2
    have one : ∀ q ∈ [x.At], x.Kind = 4 ∨ x.Kind = 5 ∨ x.Kind = 6 ∨ x.Kind = 8 → NB q.X ∧ NB q.Y := fun q hq hk => by
      simp at hq; subst hq; exact hw.at_ hk
    rw [txS_eq] at go
    unfold lwS at go
    rw [zt]
    by_cases k1 : x.Kind = 1
    · simp only [k1, beq_self_eq_true, if_true, show ((1 : Int) = 8) = False by simp, if_false] at go ⊢
      rw [show (⟨#[100, 97, 114, 107, 10]⟩ : ByteArray) = mkB (lnT [wb .dark]) from rfl, zDP (by show m.length + 5 ≤ _; omega), Option.bind_some]
      exact go _ (by rw [List.append_nil])
    rw [if_neg (by simpa using k1)]
    by_cases k2 : x.Kind = 2
    · simp only [k2, beq_self_eq_true, if_true, show ((2 : Int) = 1) = False by simp, show ((2 : Int) = 8) = False by simp, if_false] at go ⊢
      rw [show (⟨#[99, 108, 101, 97, 114, 10]⟩ : ByteArray) = mkB (lnT [wb .clear]) from rfl, zDP (by show m.length + 6 ≤ _; omega), Option.bind_some]
      exact go _ (by rw [List.append_nil])
    rw [if_neg (by simpa using k2)]
    by_cases k3 : x.Kind = 3
    · simp only [k3, beq_self_eq_true, if_true, show ((3 : Int) = 1) = False by simp, show ((3 : Int) = 2) = False by simp, show ((3 : Int) = 8) = False by simp, if_false] at go ⊢
      have hb := Jz x.Name
      rw [show (⟨#[117, 115, 101, 32]⟩ : ByteArray) = mkB (bs (wb .use) ++ [32]) from rfl]
      have e : x.Name = mkB (bs x.Name) := (mkB_bs _).symm
      have h4 : (bs (wb .use) ++ [32]).length = 4 := rfl
      rw [e, zAu (by omega), Option.bind_some, e10, zAu (by rw [List.length_append, h4, List.length_singleton]; omega), Option.bind_some, zDP (by rw [List.length_append, List.length_append, h4, List.length_singleton]; omega), Option.bind_some]
      refine go _ ?_
      rw [zAK, zFV, zBf, List.append_nil]
      simp
    rw [if_neg (by simpa using k3)]
    by_cases k4 : x.Kind = 4
    · simp only [k4, beq_self_eq_true, if_true, show ((4 : Int) = 1) = False by simp, show ((4 : Int) = 2) = False by simp, show ((4 : Int) = 3) = False by simp, show ((4 : Int) = 8) = False by simp, if_false] at go ⊢
      exact (zFf (l := [x.At]) (a := bs (wb .move)) (m := m) (fun q hq => one q hq (by omega)) (by simp) (by decide) (by omega)).trans (go _ (by rw [List.append_nil, zAK]; rfl))
    rw [if_neg (by simpa using k4)]
    by_cases k5 : x.Kind = 5
    · simp only [k5, beq_self_eq_true, if_true, show ((5 : Int) = 1) = False by simp, show ((5 : Int) = 2) = False by simp, show ((5 : Int) = 3) = False by simp, show ((5 : Int) = 4) = False by simp, show ((5 : Int) = 8) = False by simp, if_false] at go ⊢
      exact (zFf (l := [x.At]) (a := bs (wb .flash)) (m := m) (fun q hq => one q hq (by omega)) (by simp) (by decide) (by omega)).trans (go _ (by rw [List.append_nil, zAK]; rfl))
    rw [if_neg (by simpa using k5)]
    by_cases k6 : x.Kind = 6
    · simp only [k6, beq_self_eq_true, if_true, show ((6 : Int) = 1) = False by simp, show ((6 : Int) = 2) = False by simp, show ((6 : Int) = 3) = False by simp, show ((6 : Int) = 4) = False by simp, show ((6 : Int) = 5) = False by simp, show ((6 : Int) = 8) = False by simp, if_false] at go ⊢
      exact (zFf (l := [x.At]) (a := bs (wb .line)) (m := m) (fun q hq => one q hq (by omega)) (by simp) (by decide) (by omega)).trans (go _ (by rw [List.append_nil, zAK]; rfl))
    rw [if_neg (by simpa using k6)]
    by_cases k7 : x.Kind = 7
    · simp only [k7, beq_self_eq_true, if_true, show ((7 : Int) = 1) = False by simp, show ((7 : Int) = 2) = False by simp, show ((7 : Int) = 3) = False by simp, show ((7 : Int) = 4) = False by simp, show ((7 : Int) = 5) = False by simp, show ((7 : Int) = 6) = False by simp, show ((7 : Int) = 8) = False by simp, if_false] at go ⊢
      exact (zFf (l := x.Points) (a := bs (wb .area)) (m := m) (hw.pts k7) (by omega) (by decide) (by omega)).trans (go _ (by rw [List.append_nil, zAK]))
    rw [if_neg (by simpa using k7)]
    have k8 : x.Kind = 8 := by have := hw.kind; omega
    simp only [k8, beq_self_eq_true, if_true, show ((8 : Int) = 1) = False by simp, show ((8 : Int) = 2) = False by simp, show ((8 : Int) = 3) = False by simp, show ((8 : Int) = 4) = False by simp, show ((8 : Int) = 5) = False by simp, show ((8 : Int) = 6) = False by simp, show ((8 : Int) = 7) = False by simp, if_false] at go ⊢
    have hl := lnT_len hx
    have e8 : lnT (lwS x) = bs (wb .rept) ++ (sp (ptN [zU.mk x.NX x.NY, x.At]) ++ [10]) := by
      unfold lwS
      simp only [k8, if_true, show ((8 : Int) = 1) = False by simp, show ((8 : Int) = 2) = False by simp, show ((8 : Int) = 3) = False by simp, show ((8 : Int) = 4) = False by simp, show ((8 : Int) = 5) = False by simp, show ((8 : Int) = 6) = False by simp, show ((8 : Int) = 7) = False by simp, if_false]
      rw [zAK]; rfl
    have two : ∀ q ∈ [zU.mk x.NX x.NY, x.At], NB q.X ∧ NB q.Y := fun q hq => by
      simp at hq
      rcases hq with rfl | rfl
      · exact hw.n k8
      · exact hw.at_ (by omega)
    have hd : (⟨#[100, 111, 110, 101, 10]⟩ : ByteArray) = mkB (lnT [wb .done]) := rfl
    have hd5 : (lnT [wb .done]).length = 5 := rfl
    rw [e8] at hl
    refine (zFf (l := [zU.mk x.NX x.NY, x.At]) (a := bs (wb .rept)) (m := m) two (by simp) (by decide) (by omega)).trans ?_
    rw [hr _ (by rw [List.length_append]; omega), Option.bind_some, hd, zDP (by rw [List.length_append, List.length_append, hd5]; omega), Option.bind_some]
    refine go _ ?_
    rw [show lnT [wb .rept, nb x.NX, nb x.NY, nb x.At.X, nb x.At.Y] = bs (wb .rept) ++ (sp (ptN [zU.mk x.NX x.NY, x.At]) ++ [10]) from zAK _ _]
    simp only [List.append_assoc]
theorem zEn {p : zi} (hu : 1 ≤ p.Unit) (hn : ∀ t ∈ p.Tools, rowOk t.Name = true) : ∀ (k : Nat) (l : List zB) (N : Nat) (d : Int), JF l ≤ k → k + 5 ≤ N → zDh p d l → zBX 40 l → ∀ m : List UInt8, m.length + 100000 * VW l ≤ 1000000000000 → KU N (mkB m) l = some (mkB (m ++ txB (VZ l)))
  | k, l, N, d, hk, hN, h, hg => by
    obtain ⟨N, rfl⟩ : ∃ n, N = n + 1 := ⟨N - 1, by omega⟩
    intro m hm
    refine zG0 l 0 m (fun x hx => ?_) hm
    have h1 := Vv hx
    have h2 := VQ x
    obtain ⟨b1, b2, b3⟩ := vld_StB hu hn h hg x hx
    cases k with
    | zero => omega
    | succ k => exact ⟨b1, tx_len hu hn k x.Steps (d + 1) (by omega) b2 b3, zEn hu hn k x.Steps N (d + 1) (by omega) (by omega) b2 b3⟩
theorem linesL_fine {t : ByteArray} (ht : t.size ≤ 200000) : zJB (WZ t) ∧ (WZ t).length ≤ 200000 := by
  have hl := zOf_len (t.size + 1) t
  have hz := zOf_sz (t.size + 1) t 200000 ht
  unfold WZ
  refine ⟨fun l hm => ?_, by rw [List.length_map]; omega⟩
  obtain ⟨z, hzm, e⟩ := List.mem_map.1 hm
  have hs := hz z hzm
  unfold lnZ at e
  split at e
  · have hw := zJO z.1
    exact lnOf_fine (fun w hw => by have := words_size hw; omega) (by omega) e
  · cases e
theorem spec_fine {ls : List (Option Ln)} (hf : zJB ls) (hl : ls.length ≤ 200000) {p : zi} (h : zCt ls = .inr p) : J64 p.Unit ∧ (∀ t ∈ p.Tools, FineT t) ∧ p.Tools.length ≤ 200000 ∧ zCG p.Steps ∧ p.Steps.length ≤ 200000 := by
  cases ls with
  | nil => cases h
  | cons l ls =>
    cases l with
    | none => cases h
    | some l =>
      cases l with
      | tool t => cases h
      | step s => cases h
      | rep s => cases h
      | done => cases h
      | unit n =>
        have h : zDN n (zAW ls []).1 (ls.length + 1) (zAW ls []).2 = .inr p := h
        have hn : J64 n := hf (.unit n) (by simp)
        have hf' := hf.suf (List.suffix_cons _ _)
        simp at hl
        obtain ⟨t1, t2⟩ := zJW ls [] hf' (fun t h => by cases h)
        have t3 := (zET ls [] 0).2.1
        simp at t2
        generalize (zAW ls []).1 = T at *
        generalize (zAW ls []).2 = ls2 at *
        obtain ⟨s1, s2⟩ := zEW (ls2.length + 1) false ls2 [] (by omega) (hf'.suf t3) (by rw [zCG]; trivial)
        unfold zDN at h
        split at h
        · cases h
        · injection h with h
          subst h
          simp at s2
          exact ⟨hn, t1, by show T.length ≤ _; omega, s1, by show (Qt (ls2.length + 1) false ls2 []).1.length ≤ _; omega⟩
theorem awake_ok {N : Nat} (hN : 20000 ≤ N) : JD N = some true := by
  obtain ⟨N, rfl⟩ : ∃ n, N = n + 1 := ⟨N - 1, by omega⟩
  have h1 : Qg (N + 1) ⟨7, [], []⟩ = some 0 := rfl
  have h2 : zEp 7 = some ⟨#[55]⟩ := by
    unfold zEp Lib.itoa
    rw [if_pos (by decide), if_neg (by decide), Lib.decDigits]
    rfl
  have h3 : zAv ⟨#[117, 110, 105, 116, 32]⟩ ⟨#[55]⟩ = some ⟨#[117, 110, 105, 116, 32, 55]⟩ := by decide
  have h4 : zAv ⟨#[117, 110, 105, 116, 32, 55]⟩ ⟨#[10]⟩ = some ⟨#[117, 110, 105, 116, 32, 55, 10]⟩ := by decide
  have h5 : sbW ByteArray.empty ⟨#[117, 110, 105, 116, 32, 55, 10]⟩ = some ⟨#[117, 110, 105, 116, 32, 55, 10]⟩ := by decide
  unfold JD Ky
  rw [h1, Option.bind_some, if_neg (by decide)]
  show ((zEp 7).bind _).bind _ = _
  rw [h2, Option.bind_some, h3, Option.bind_some, h4, Option.bind_some, h5, Option.bind_some, JP]
  have h6 : KU (N + 1) ⟨#[117, 110, 105, 116, 32, 55, 10]⟩ [] = some ⟨#[117, 110, 105, 116, 32, 55, 10]⟩ := rfl
  show ((KU (N + 1) ⟨#[117, 110, 105, 116, 32, 55, 10]⟩ []).bind _).bind _ = _
  rw [h6, Option.bind_some]
  have h7 : sEq (⟨#[117, 110, 105, 116, 32, 55, 10]⟩ : ByteArray) ⟨#[117, 110, 105, 116, 32, 55, 10]⟩ = true := WA.2 rfl
  show some ((0 : Int) == 0 && sEq (⟨#[117, 110, 105, 116, 32, 55, 10]⟩ : ByteArray) ⟨#[117, 110, 105, 116, 32, 55, 10]⟩) = some true
  rw [h7]; rfl
def zEX : List zS → Nat
  | [] => 0
  | t :: l => t.Rects.length + zEX l
theorem zHA {t : zS} : ∀ {l : List zS}, t ∈ l → t.Rects.length ≤ zEX l
  | x :: l, h => by
    rw [zEX]
    rcases List.mem_cons.1 h with e | e
    · subst e; omega
    · have := zHA e; omega
def fuelT (t : ByteArray) : Nat := match zCt (WZ t) with
  | .inl _ => 3000000
  | .inr p => JF p.Steps + zDL p.Tools + zEX p.Tools + 3000000
theorem fuelT_le (t : ByteArray) : 3000000 ≤ fuelT t := by unfold fuelT; split <;> omega
def outT (b : List UInt8) : ByteArray × Int := if 200000 < (b.length : Int) then (⟨#[]⟩, 2) else (mkB b, 0)
def RW (r : JO) : Prop := (NB r.X0 ∧ NB r.Y0) ∧ NB r.X1 ∧ NB r.Y1
theorem zHC {k : ByteArray → Option (ByteArray × Int)} : ∀ (l : List JO) (i : Nat) (m : List UInt8), (∀ r ∈ l, RW r) → m.length + 88 * l.length + 1 ≤ 1000000000000 → KV k l i (mkB m) = k (mkB (m ++ (sp (rcN l) ++ [10])))
  | [], i, m, _, hs => by
    rw [KV, e10, zDP (by simp at hs ⊢; omega), Option.bind_some]; rfl
  | r :: l, i, m, h, hs => by
    have h1 := h r List.mem_cons_self
    have two : ∀ q ∈ [zU.mk r.X0 r.Y0, zU.mk r.X1 r.Y1], NB q.X ∧ NB q.Y := fun q hq => by
      simp at hq
      rcases hq with rfl | rfl
      · exact h1.1
      · exact h1.2
    have hl := spP_len two
    rw [List.length_cons] at hs
    rw [KV, zJY two (by simp), Option.bind_some, zDP (by simp at hl ⊢; omega), Option.bind_some, zHC l (i + 1) _ (fun x hx => h x (List.mem_cons_of_mem _ hx)) (by simp at hl ⊢; omega)]
    congr 2
    show (m ++ sp [nb r.X0, nb r.Y0, nb r.X1, nb r.Y1]) ++ (sp (rcN l) ++ [10]) = m ++ (sp (nb r.X0 :: nb r.Y0 :: nb r.X1 :: nb r.Y1 :: rcN l) ++ [10])
    simp [zFV, zBf]
structure TW (t : zS) : Prop where
  nm : t.Name.size ≤ 40
  nr : t.Rects.length ≤ 2000
  rs : ∀ r ∈ t.Rects, RW r
def toolB (t : zS) : List UInt8 := lb (some (.tool t))
theorem toolB_eq (t : zS) : toolB t = (bs (wb .tool) ++ [32]) ++ (bs t.Name ++ (sp (rcN t.Rects) ++ [10])) := by
  show lnT (wb .tool :: t.Name :: rcN t.Rects) = _
  rw [zAK, zFV]
  simp
theorem toolB_len {t : zS} (h : TW t) : (toolB t).length ≤ 200000 := by
  have h1 := spR_len h.rs
  have h2 := h.nm
  have h3 := h.nr
  have h4 := Jz t.Name
  have h5 : (bs (wb .tool) ++ [32]).length = 5 := rfl
  rw [toolB_eq, List.length_append, h5]
  simp; omega
def zIK (l : List zS) : List UInt8 := txB (l.map fun t => some (Ln.tool t))
theorem toolsB_cons (t : zS) (l : List zS) : zIK (t :: l) = toolB t ++ zIK l := rfl
theorem zHB {N : Nat} {p : zi} (hu : 1 ≤ p.Unit) (hn : ∀ t ∈ p.Tools, rowOk t.Name = true) (hN : JF p.Steps + 5 ≤ N) (hv : zDh p 0 p.Steps) (hg : zBX 40 p.Steps) (hnd : VW p.Steps ≤ 3000) : ∀ (l : List zS) (i : Nat) (m : List UInt8), (∀ t ∈ l, TW t) → m ≠ [] → m.length + 200000 * l.length ≤ 100000000000 →
    JP N p l i (mkB m) = some (outT (m ++ (zIK l ++ txB (VZ p.Steps))))
  | [], i, m, _, h1, hs => by
    rw [JP, zEn hu hn (JF p.Steps) p.Steps N 0 (Nat.le_refl _) hN hv hg m (by omega), Option.bind_some]
    unfold sbL
    rw [Option.bind_some]
    show (if decide (200000 < ((mkB (m ++ txB (VZ p.Steps))).size : Int)) = true then _ else _) = some (outT (m ++ txB (VZ p.Steps)))
    unfold outT
    rw [zAm]
    by_cases hb : 200000 < ((m ++ txB (VZ p.Steps)).length : Int)
    · rw [if_pos (decide_eq_true hb), if_pos hb]
    · rw [if_neg (by simpa using hb), if_neg hb]
      have h0 : (mkB (m ++ txB (VZ p.Steps))).size ≠ 0 := by
        have := List.length_pos_iff.2 h1
        rw [zAm, List.length_append]; omega
      unfold sbS
      rw [if_pos h0]; rfl
  | t :: l, i, m, h, h1, hs => by
    have ht := h t List.mem_cons_self
    have hz := toolB_len ht
    have h5 : (bs (wb .tool) ++ [32]).length = 5 := rfl
    have hb := Jz t.Name
    have hnm := ht.nm
    have hr := ht.nr
    rw [List.length_cons] at hs
    have e : t.Name = mkB (bs t.Name) := (mkB_bs _).symm
    have ec : zAv (⟨#[116, 111, 111, 108, 32]⟩ : ByteArray) t.Name = some (mkB ((bs (wb .tool) ++ [32]) ++ bs t.Name)) := by
      conv => lhs; rw [e]
      exact zAu (a := bs (wb .tool) ++ [32]) (b := bs t.Name) (by omega)
    rw [JP, ec, Option.bind_some, zDP (by rw [List.length_append, h5]; omega), Option.bind_some, zHC t.Rects 0 _ ht.rs (by rw [List.length_append, List.length_append, h5]; omega)]
    have e2 : (m ++ ((bs (wb .tool) ++ [32]) ++ bs t.Name)) ++ (sp (rcN t.Rects) ++ [10]) = m ++ toolB t := by rw [toolB_eq]; simp
    rw [e2, zHB hu hn hN hv hg hnd l (i + 1) _ (fun x hx => h x (List.mem_cons_of_mem _ hx)) (by simp [h1]) (by rw [List.length_append]; omega), toolsB_cons]
    simp
theorem tw_of {N : Nat} {p : zi} (hG : zJ4 p) (h : zFI N p) : ∀ t ∈ p.Tools, TW t := fun t ht => by
  refine ⟨(hG.tools t ht).1, (hG.tools t ht).2, ?_⟩
  have h2 := (h.tools t ht).2
  unfold zAj at h2
  split at h2
  · cases h2
  split at h2
  · cases h2
  exact zGY h.unit.1 h2
theorem Text_ok {N : Nat} {p : zi} (hN : Fu p N) (hL : zI9 p) (hG : zJ4 p) (hc : Qg N p = some 0) (h : zFI N p) : Ky N p = some (outT (txB (zDz p))) := by
  have hN' := hN
  unfold Fu at hN'
  have hu := h.unit
  have hnb : NB p.Unit := ⟨by omega, by omega⟩
  have hi := zAo hnb
  have hfew := h.few
  have hul : (bs (wb .unit) ++ [32]).length = 5 := rfl
  unfold Ky
  rw [hc, Option.bind_some, if_neg (by decide), itF_ok hnb, Option.bind_some]
  rw [show (⟨#[117, 110, 105, 116, 32]⟩ : ByteArray) = mkB (bs (wb .unit) ++ [32]) from rfl, zAu (by omega), Option.bind_some, e10, zAu (by rw [List.length_append]; simp at hul ⊢; omega), Option.bind_some]
  rw [show ByteArray.empty = mkB [] from rfl, zDP (by simp at hul ⊢; omega), Option.bind_some, List.nil_append]
  rw [zHB hu.1 (h.row hL) (by omega) h.steps hG.steps hG.nd p.Tools 0 _ (tw_of hG h) (by simp) (by simp at hul ⊢; omega)]
  have e : txB (zDz p) = ((bs (wb .unit) ++ [32]) ++ it p.Unit) ++ [10] ++ (zIK p.Tools ++ txB (VZ p.Steps)) := by
    unfold zDz
    rw [zFT, zHX]
    show lnT [wb .unit, nb p.Unit] ++ _ = _
    rw [zAK, zG7, zBf]
    simp [zIK]
  rw [e]
theorem J1_ok {N : Nat} {t : ByteArray} (hN : fuelT t ≤ N) : QR N t = some true := by
  have hN3 := fuelT_le t
  have hP := Reads_ok (N := N) (by omega) t
  unfold QR
  have fail : ∀ n e : Int, e ≠ 0 → KX N t = some (zP, n, e) → ((KX N t).bind fun y114 => if (y114.2.2 != 0) then (if (y114.1.Unit == 0) then (JD N).bind fun KW => some KW else some false).bind fun zGq => some zGq else (Ky N y114.1).bind fun zEh => (if ((zEh.2 == 0) && (sEq zEh.1 t)) then (JD N).bind fun zJF => some zJF else some false).bind fun g122 => some g122) = some true := fun n e he h => by
    rw [h, Option.bind_some, if_pos (by simpa using he), if_pos (by rfl), awake_ok (by omega)]
    rfl
  by_cases ht : 200000 < t.size
  · rw [if_pos ht] at hP
    exact fail 0 2 (by omega) hP
  · rw [if_neg ht] at hP
    obtain ⟨hf, hl⟩ := linesL_fine (t := t) (by omega)
    have hfu : fuelT t = match zCt (WZ t) with
      | .inl _ => 3000000
      | .inr p => JF p.Steps + zDL p.Tools + zEX p.Tools + 3000000 := rfl
    cases hs : zCt (WZ t) with
    | inl n =>
      rw [hs] at hP
      exact fail n 10 (by omega) hP
    | inr p =>
      obtain ⟨p1, p2, p3, p4, p5⟩ := spec_fine hf hl hs
      have hb := text_back hs
      rw [hs] at hP hfu
      simp only at hfu
      have hFu : Fu p N := by unfold Fu; omega
      have hL : zI9 p := ⟨p1, fun t h => ⟨(p2 t h).1, (p2 t h).2.2⟩, by omega, p4⟩
      obtain ⟨e, c1, c2, c3⟩ := zGI hFu hL
      have hP : KX N t = (Qg N p).bind fun e => if e != 0 then some (zP, 0, e) else some (p, 0, 0) := hP
      rw [c1, Option.bind_some] at hP
      by_cases he : e = 0
      · subst he
        rw [if_neg (by decide)] at hP
        have hT := Text_ok hFu hL (c3 rfl) c1 ((zI8 hFu hL).1 c1)
        have hsz : (txB (zDz p)).length = t.size := by rw [← zAm, ← hb]
        have ho : outT (txB (zDz p)) = (t, 0) := by
          unfold outT
          rw [if_neg (by omega), ← hb]
        rw [hP, Option.bind_some, if_neg (by simp), hT, Option.bind_some, ho, if_pos (by simp [WA]), awake_ok (by omega)]
        rfl
      · rw [if_pos (by simpa using he)] at hP
        exact fail 0 e he hP
def zC5 (p : zi) (t : ByteArray) : Nat := fuelT t + JF p.Steps + zDL p.Tools + zEX p.Tools + p.Tools.length + 3000000
theorem comeBack_ok {p : zi} {t : ByteArray} (hL : zI9 p) (ht : p.Tools.length ≤ 9223372036854775807) (hr : ∀ t ∈ p.Tools, t.Rects.length ≤ 9223372036854775807) : JK (zC5 p t) p t = some true := by
  have hJ := J1_ok (N := zC5 p t) (t := t) (by unfold zC5; omega)
  have hFu : Fu p (zC5 p t) := by unfold Fu zC5; omega
  have hsame := samePl_ok (N := zC5 p t) (p := p) (by unfold zC5; omega) hL.sl hL.steps (by unfold zC5; omega) ht (fun x h => ⟨by have := zHA h; unfold zC5; omega, hr x h⟩)
  have hN3 : 3000000 ≤ zC5 p t := by unfold zC5; omega
  generalize zC5 p t = N at *
  obtain ⟨e, c1, _, c3⟩ := zGI hFu hL
  unfold JK
  by_cases he : e = 0
  · subst he
    have hok := (zI8 hFu hL).1 c1
    rw [Text_ok hFu hL (c3 rfl) c1 hok, Option.bind_some]
    unfold outT
    by_cases hb : 200000 < ((txB (zDz p)).length : Int)
    · rw [if_pos hb, if_neg (by decide)]
      exact hJ
    · rw [if_neg hb, if_pos (by rfl)]
      have hR := Reads_ok (N := N) (by omega) (mkB (txB (zDz p)))
      rw [zAm, if_neg (by omega), linesL_tx (lnsP_lnB hL hok), spec_lns] at hR
      have hR : KX N (mkB (txB (zDz p))) = (Qg N p).bind fun e => if e != 0 then some (zP, 0, e) else some (p, 0, 0) := hR
      rw [c1, Option.bind_some, if_neg (by decide)] at hR
      show ((KX N (mkB (txB (zDz p)))).bind _) = _
      rw [hR, Option.bind_some, if_pos (by rfl), if_neg (by simp), hsame, Option.bind_some, Option.bind_some, Option.bind_some, if_neg (by simp)]
      exact hJ
  · have hT : Ky N p = some (⟨#[]⟩, e) := by
      unfold Ky
      rw [c1, Option.bind_some, if_pos (by simpa using he)]
    rw [hT, Option.bind_some, if_neg (by simpa using he)]
    exact hJ
end Go.Proofs.YtokanbmnoghafaaGreatDoor
