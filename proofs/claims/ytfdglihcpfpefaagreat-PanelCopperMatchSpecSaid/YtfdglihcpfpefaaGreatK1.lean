/- Copper of a panel: program and reference. Plain Lean about the plain functions. -/
import Derived.Test.YtfdglihcpfpefaaGreatB0a
import Derived.Test.YtfdglihcpfpefaaGreatS4t
import Derived.Test.YtfdglihcpfpefaaGreatT2
import Derived.Test.YtfdglihcpfpefaaGreatU1
namespace Go.Proofs.YtfdglihcpfpefaaGreat
def atX (p : TPanel) (s : TSlot) : Int := if s.Quarters = 1 then s.At.X + (kindOf p.Kinds s.Board).H else if s.Quarters = 2 then s.At.X + (kindOf p.Kinds s.Board).W else s.At.X
def atY (p : TPanel) (s : TSlot) : Int := if s.Quarters = 2 then s.At.Y + (kindOf p.Kinds s.Board).H else if s.Quarters = 3 then s.At.Y + (kindOf p.Kinds s.Board).W else s.At.Y
def turnT (p : TPanel) (s : TSlot) : TTurn := ⟨false, s.Quarters, ⟨atX p s, atY p s⟩⟩
theorem kindWH {p : TPanel} (hB : PB p) {s : TSlot} (hs : SlotOk p s) : 1 ≤ (kindOf p.Kinds s.Board).W ∧ (kindOf p.Kinds s.Board).W ≤ 1000000 ∧ 1 ≤ (kindOf p.Kinds s.Board).H ∧ (kindOf p.Kinds s.Board).H ≤ 1000000 := by
  rcases kindIx_lo p.Kinds s.Board with h' | ⟨_, _, hm, _⟩
  · exact absurd h' hs.kind
  · exact hB.kinds _ hm
theorem at_cell {p : TPanel} (hB : PB p) {s : TSlot} (hs : SlotOk p s) : (s.Quarters = 0 ∨ s.Quarters = 1 ∨ s.Quarters = 2 ∨ s.Quarters = 3) ∧
    (s.Quarters = 0 → atX p s = s.At.X ∧ atY p s = s.At.Y ∧ (cellOf p s).X1 = s.At.X + (kindOf p.Kinds s.Board).W ∧ (cellOf p s).Y1 = s.At.Y + (kindOf p.Kinds s.Board).H) ∧
    (s.Quarters = 1 → atX p s = s.At.X + (kindOf p.Kinds s.Board).H ∧ atY p s = s.At.Y ∧ (cellOf p s).X1 = s.At.X + (kindOf p.Kinds s.Board).H ∧ (cellOf p s).Y1 = s.At.Y + (kindOf p.Kinds s.Board).W) ∧
    (s.Quarters = 2 → atX p s = s.At.X + (kindOf p.Kinds s.Board).W ∧ atY p s = s.At.Y + (kindOf p.Kinds s.Board).H ∧ (cellOf p s).X1 = s.At.X + (kindOf p.Kinds s.Board).W ∧ (cellOf p s).Y1 = s.At.Y + (kindOf p.Kinds s.Board).H) ∧
    (s.Quarters = 3 → atX p s = s.At.X ∧ atY p s = s.At.Y + (kindOf p.Kinds s.Board).W ∧ (cellOf p s).X1 = s.At.X + (kindOf p.Kinds s.Board).H ∧ (cellOf p s).Y1 = s.At.Y + (kindOf p.Kinds s.Board).W) := by
  have h0 := hs.q0
  have h1 := hs.q1
  refine ⟨by omega, fun h => ?_, fun h => ?_, fun h => ?_, fun h => ?_⟩ <;> simp [atX, atY, cellOf, sizeW, sizeH, h]
theorem turnOf_ok {p : TPanel} (hB : PB p) {s : TSlot} (hs : SlotOk p s) : F_panel_turnOf p s = some (turnT p s) := by
  obtain ⟨bx, by_, _⟩ := hs.bd hB
  have hk := kindWH hB hs
  rcases kindIx_lo p.Kinds s.Board with h' | ⟨_, hi, _, _⟩
  · exact absurd h' hs.kind
  unfold F_panel_turnOf F_panel_turnOf_J1
  rw [kindAt_ok, Option.bind_some, hi, Option.bind_some]
  rw [w64_id (x := s.At.X + (kindOf p.Kinds s.Board).H) (by omega) (by omega), w64_id (x := s.At.X + (kindOf p.Kinds s.Board).W) (by omega) (by omega), w64_id (x := s.At.Y + (kindOf p.Kinds s.Board).H) (by omega) (by omega), w64_id (x := s.At.Y + (kindOf p.Kinds s.Board).W) (by omega) (by omega)]
  unfold turnT atX atY
  have e : s.Quarters = 0 ∨ s.Quarters = 1 ∨ s.Quarters = 2 ∨ s.Quarters = 3 := by have := hs.q0; have := hs.q1; omega
  rcases e with e | e | e | e <;> simp [e]
theorem turnOfR_ok {N : Nat} {p : TPanel} (hB : PB p) (hN : p.Kinds.length < N) {s : TSlot} (hs : SlotOk p s) : F_etchhouseref9_turnOf N p s = some (turnT p s) := by
  obtain ⟨bx, by_, _⟩ := hs.bd hB
  have hk := kindWH hB hs
  rcases kindIx_lo p.Kinds s.Board with h' | ⟨_, hi, _, _⟩
  · exact absurd h' hs.kind
  unfold F_etchhouseref9_turnOf F_etchhouseref9_turnOf_J1
  rw [kindR_ok _ (by have := hB.klen; omega) hN, Option.bind_some, hi, Option.bind_some]
  rw [w64_id (x := s.At.X + (kindOf p.Kinds s.Board).H) (by omega) (by omega), w64_id (x := s.At.X + (kindOf p.Kinds s.Board).W) (by omega) (by omega), w64_id (x := s.At.Y + (kindOf p.Kinds s.Board).H) (by omega) (by omega), w64_id (x := s.At.Y + (kindOf p.Kinds s.Board).W) (by omega) (by omega)]
  unfold turnT atX atY
  have e : s.Quarters = 0 ∨ s.Quarters = 1 ∨ s.Quarters = 2 ∨ s.Quarters = 3 := by have := hs.q0; have := hs.q1; omega
  rcases e with e | e | e | e <;> simp [e]
theorem turnT_chk {p : TPanel} (hB : PB p) {s : TSlot} (hs : SlotOk p s) : chk (turnT p s) = true := by
  obtain ⟨bx, by_, _, d1, d2, d3, d4, d5, d6⟩ := hs.bd hB
  obtain ⟨e, e0, e1, e2, e3⟩ := at_cell hB hs
  have hk := kindWH hB hs
  have hc : (cellOf p s).X0 = s.At.X ∧ (cellOf p s).Y0 = s.At.Y := ⟨rfl, rfl⟩
  have h0 := hs.q0; have h1 := hs.q1
  refine chk_iff.2 ⟨⟨h0, h1⟩, ?_, ?_⟩
  · show -1000000 ≤ atX p s ∧ atX p s ≤ 1000000
    rcases e with e | e | e | e
    · have := e0 e; omega
    · have := e1 e; omega
    · have := e2 e; omega
    · have := e3 e; omega
  · show -1000000 ≤ atY p s ∧ atY p s ≤ 1000000
    rcases e with e | e | e | e
    · have := e0 e; omega
    · have := e1 e; omega
    · have := e2 e; omega
    · have := e3 e; omega
/-- All copper of the slots. -/
def copL (p : TPanel) (nm : ByteArray) (r : List TRect) (l : List TSlot) : List TRect := (l.filter fun s => sEq s.Board nm).flatMap fun s => r.map (tr (turnT p s))
theorem copL_cons (p : TPanel) (nm : ByteArray) (r : List TRect) (s : TSlot) (l : List TSlot) : copL p nm r (s :: l) = (if sEq s.Board nm = true then r.map (tr (turnT p s)) else []) ++ copL p nm r l := by
  unfold copL
  rw [List.filter_cons]
  split
  · rw [List.flatMap_cons]
  · rfl
theorem copL_len (p : TPanel) (nm : ByteArray) (r : List TRect) : ∀ l : List TSlot, (copL p nm r l).length ≤ r.length * l.length
  | [] => by simp [copL]
  | s :: l => by
    rw [copL_cons, List.length_append, List.length_cons, Nat.mul_succ]
    have := copL_len p nm r l
    split
    · simp; omega
    · simp; omega
theorem copL_r9 {p : TPanel} {nm : ByteArray} {r : List TRect} (hB : PB p) (hr : ∀ x ∈ r, ROk x) {l : List TSlot} (hs : ∀ s ∈ l, SlotOk p s) : ∀ x ∈ copL p nm r l, R9 x := fun x hx => by
  unfold copL at hx
  obtain ⟨s, hm, hx⟩ := List.mem_flatMap.1 hx
  obtain ⟨y, hy, rfl⟩ := List.mem_map.1 hx
  exact tr_r9 (turnT_chk hB (hs s (List.mem_filter.1 hm).1)) (hr y hy)
section
variable {N : Nat} (hN : 10000000000 ≤ N) {p : TPanel} {nm : ByteArray} {r : List TRect} (hB : PB p) (hrl : r.length ≤ 2000) (hr : ∀ x ∈ r, ROk x)
include hN hr
theorem L4_ok {t : TTurn} (ht : chk t = true) {K : List TRect → Option (List TRect × Int)} : ∀ (suf : List TRect) (i : Nat) (out : List TRect), (∀ x ∈ suf, x ∈ r) → out.length + suf.length ≤ 100000000 → F_panel_Copper_L4 N K t suf i out = K (out ++ suf.map (tr t))
  | [], i, out, _, _ => by rw [F_panel_Copper_L4.eq_1]; simp
  | x :: suf, i, out, h, hl => by
    simp only [List.length_cons] at hl
    rw [F_panel_Copper_L4.eq_2, TurnRect_ok (by omega) ht (hr x (h x (by simp))), Option.bind_some, apd_ok (by simp; omega), Option.bind_some, L4_ok ht suf (i + 1) _ (fun y hy => h y (by simp [hy])) (by simp; omega)]
    simp
include hB hrl
theorem L3_ok : ∀ (suf : List TSlot) (i : Nat) (out : List TRect), (∀ s ∈ suf, SlotOk p s) → out.length + 2000 * suf.length ≤ 100000000 → F_panel_Copper_L3 N p nm r suf i out = ((F_shape_SetOf N (out ++ copL p nm r suf)).bind fun y174 => (F_shape_Set__Told N y174).bind fun y176 => some (y176.1, y176.2))
  | [], i, out, _, _ => by rw [F_panel_Copper_L3.eq_1]; simp [copL]
  | s :: suf, i, out, h, hl => by
    simp only [List.length_cons] at hl
    rw [F_panel_Copper_L3.eq_2, copL_cons]
    by_cases hs : sEq s.Board nm = true
    · rw [if_pos hs, if_pos hs, turnOf_ok hB (h s (by simp)), Option.bind_some, L4_ok hN hr (turnT_chk hB (h s (by simp))) r 0 out (fun _ h => h) (by omega), L3_ok suf (i + 1) _ (fun q hq => h q (by simp [hq])) (by simp; omega)]
      simp
    · rw [if_neg hs, if_neg hs, L3_ok suf (i + 1) _ (fun q hq => h q (by simp [hq])) (by omega)]
      simp
theorem L5r_ok {s : TSlot} (hs : SlotOk p s) (hk : p.Kinds.length < N) {j : Int} (hj : idx p.Slots j = some s) {K : List TRect → Int → Option (List TRect × Int)} (hb : sEq s.Board nm = true) : ∀ (suf pre : List TRect) (m : Nat) (out : List TRect), r = pre ++ suf → suf.length < m → out.length + suf.length ≤ 100000000 →
    F_etchhouseref9_Copper_L5 N p nm r j K m out pre.length = K (out ++ suf.map (tr (turnT p s))) (w64 (j + 1))
  | suf, pre, 0, out, _, h, _ => absurd h (Nat.not_lt_zero _)
  | [], pre, m + 1, out, h1, _, _ => by
    rw [F_etchhouseref9_Copper_L5.eq_2, if_neg (by rw [h1]; simp), Option.bind_some, if_neg (by simp)]; simp
  | x :: suf, pre, m + 1, out, h1, h2, h3 => by
    have hpl : pre.length ≤ 2000 := by rw [h1] at hrl; simp at hrl; omega
    have hid : idx r (pre.length : Int) = some x := by rw [h1]; exact idx_mid pre suf x
    simp only [List.length_cons] at h2 h3
    rw [F_etchhouseref9_Copper_L5.eq_2, if_pos (by rw [h1]; exact lt_mid pre suf x), hj, Option.bind_some, hb, Option.bind_some, if_pos rfl, hid, Option.bind_some, Option.bind_some, turnOfR_ok hB hk hs, Option.bind_some, TurnRectR_ok (by omega) (turnT_chk hB hs) (hr x (by rw [h1]; simp)), Option.bind_some, apd_ok (by simp; omega), Option.bind_some, up_mid pre x (by omega), L5r_ok hs hk hj hb suf (pre ++ [x]) m _ (by rw [h1]; simp) (by omega) (by simp; omega)]
    simp
theorem L4r_ok (hk : p.Kinds.length < N) (hsl : p.Slots.length ≤ 500) (hso : ∀ s ∈ p.Slots, SlotOk p s) : ∀ (suf pre : List TSlot) (m : Nat) (out : List TRect), p.Slots = pre ++ suf → suf.length < m → out.length + 2000 * suf.length ≤ 100000000 →
    F_etchhouseref9_Copper_L4 N p nm r m out pre.length = ((F_etchhouseref1_Canonical N (out ++ copL p nm r suf)).bind fun y263 => if (decide (2000 < (y263.length : Int))) then some (([] : List TRect), 2) else some (y263, 0))
  | suf, pre, 0, out, _, h, _ => absurd h (Nat.not_lt_zero _)
  | [], pre, m + 1, out, h1, _, _ => by
    rw [F_etchhouseref9_Copper_L4.eq_2, if_neg (by rw [h1]; simp)]; simp [copL]
  | s :: suf, pre, m + 1, out, h1, h2, h3 => by
    have hpl : pre.length ≤ 500 := by rw [h1] at hsl; simp at hsl; omega
    have hid : idx p.Slots (pre.length : Int) = some s := by rw [h1]; exact idx_mid pre suf s
    have hs := hso s (by rw [h1]; simp)
    simp only [List.length_cons] at h2 h3
    rw [F_etchhouseref9_Copper_L4.eq_2, if_pos (by rw [h1]; exact lt_mid pre suf s), copL_cons]
    by_cases hb : sEq s.Board nm = true
    · have := L5r_ok hN hB hrl hr hs hk hid (K := F_etchhouseref9_Copper_L4 N p nm r m) hb r [] N out rfl (by omega) (by omega)
      rw [show ((([] : List TRect).length : Nat) : Int) = 0 from rfl] at this
      rw [this, up_mid pre s (by omega), L4r_ok hk hsl hso suf (pre ++ [s]) m _ (by rw [h1]; simp) (by omega) (by simp; omega), if_pos hb]
      simp
    · have hstep : F_etchhouseref9_Copper_L5 N p nm r pre.length (F_etchhouseref9_Copper_L4 N p nm r m) N out 0 = F_etchhouseref9_Copper_L4 N p nm r m out (w64 ((pre.length : Int) + 1)) := by
        obtain ⟨k, hk'⟩ : ∃ k, N = k + 1 := ⟨N - 1, by omega⟩
        have hf : F_etchhouseref9_Copper_L5 N p nm r pre.length (F_etchhouseref9_Copper_L4 N p nm r m) N out 0 = F_etchhouseref9_Copper_L5 N p nm r pre.length (F_etchhouseref9_Copper_L4 N p nm r m) (k + 1) out 0 := congrArg (fun z => F_etchhouseref9_Copper_L5 N p nm r pre.length (F_etchhouseref9_Copper_L4 N p nm r m) z out 0) hk'
        rw [hf, F_etchhouseref9_Copper_L5.eq_2, hid, Option.bind_some]
        rw [Bool.not_eq_true] at hb
        rw [hb]
        by_cases h0 : decide ((0 : Int) < (r.length : Int)) = true
        · rw [if_pos h0, Option.bind_some, if_neg (by simp)]
        · rw [if_neg h0, Option.bind_some, if_neg (by simp)]
      rw [hstep, up_mid pre s (by omega), L4r_ok hk hsl hso suf (pre ++ [s]) m _ (by rw [h1]; simp) (by omega) (by omega), if_neg hb]
      simp
end
/-- A rectangle that does not lie on its board. -/
def offB (k : TBoardKind) (x : TRect) : Bool := ((decide (x.X0 < 0) || decide (x.Y0 < 0)) || decide (k.W < x.X1)) || decide (k.H < x.Y1)
theorem In_ok {N : Nat} (hN : 10000000000 ≤ N) {r : List TRect} (h : regionErr r = 0) {k : TBoardKind} (hk : 1 ≤ k.W ∧ k.W ≤ 1000000 ∧ 1 ≤ k.H ∧ k.H ≤ 1000000) : ∃ y, F_shape_SetOf N [(TRect.mk 0 0 k.W k.H)] = some y ∧ F_shape_Set__In N ((setB r).map toP) y = some (!r.any (offB k)) := by
  obtain ⟨_, hl, hok, hr⟩ := regionErr_ok h
  have hb9 : ∀ x ∈ [(TRect.mk 0 0 k.W k.H)], ROk x := by
    intro x hx
    simp at hx
    subst hx
    constructor <;> simp only <;> omega
  obtain ⟨bs, is⟩ := setB_ok (ROk.ne hok)
  obtain ⟨bb, ib⟩ := setB_ok (ROk.ne hb9)
  obtain ⟨s1, s2⟩ := setB_len r
  obtain ⟨t1, t2⟩ := setB_len [(TRect.mk 0 0 k.W k.H)]
  obtain ⟨C, c1, c2, c3, c4, c5⟩ := Merge_ok (k := fun p q => p && !q) (f := fun z0 z1 => F_shape_Set__Less_1 z0 z1) (fun _ _ => rfl) rfl hN (R1 := 2000) (R2 := 1) bs bb (fun b hb => by have := s2 b hb; omega) (fun b hb => by have := t2 b hb; simpa using this) (by omega) (by simp at t1; omega)
  refine ⟨_, SetOf_ok hN (by simp) (fun x hx => (hb9 x hx).r9), ?_⟩
  unfold F_shape_Set__In F_shape_Set__Less
  rw [c1, Option.bind_some, Option.bind_some]
  have hC : ∀ x y, InB x y C ↔ InR x y r ∧ ¬ ((0 ≤ x ∧ x < k.W) ∧ 0 ≤ y ∧ y < k.H) := fun x y => by
    rw [c3]
    have hbox : InB x y (setB [(TRect.mk 0 0 k.W k.H)]) ↔ ((0 ≤ x ∧ x < k.W) ∧ 0 ≤ y ∧ y < k.H) := by
      rw [ib]; unfold InR; simp
    unfold Kept
    constructor
    · rintro ⟨p, q', hp, hq, hk⟩
      simp at hk
      exact ⟨(is x y).1 (hp.1 hk.1), fun h => by have := hq.2 (hbox.2 h); rw [hk.2] at this; cases this⟩
    · rintro ⟨h1, h2⟩
      exact ⟨true, false, ⟨fun _ => (is x y).2 h1, fun _ => rfl⟩, ⟨fun h => Bool.noConfusion h, fun h => absurd (hbox.1 h) h2⟩, rfl⟩
  congr 1
  rw [Bool.eq_iff_iff, Bool.not_eq_true', List.any_eq_false]
  constructor
  · intro h0 x hx hoff
    have hnil : C = [] := by simpa using h0
    have hx' := hok x hx
    have hxx := hx'.x; have hxy := hx'.y
    have h1 : ¬ InB x.X0 x.Y0 C := by rw [hnil]; exact InS_nil
    have h2 : ¬ InB (x.X1 - 1) (x.Y1 - 1) C := by rw [hnil]; exact InS_nil
    have k1 : (0 ≤ x.X0 ∧ x.X0 < k.W) ∧ 0 ≤ x.Y0 ∧ x.Y0 < k.H := Classical.byContradiction fun hn => h1 ((hC _ _).2 ⟨⟨x, hx, ⟨by omega, by omega⟩, by omega, by omega⟩, hn⟩)
    have k2 : (0 ≤ x.X1 - 1 ∧ x.X1 - 1 < k.W) ∧ 0 ≤ x.Y1 - 1 ∧ x.Y1 - 1 < k.H := Classical.byContradiction fun hn => h2 ((hC _ _).2 ⟨⟨x, hx, ⟨by omega, by omega⟩, by omega, by omega⟩, hn⟩)
    unfold offB at hoff
    simp only [Bool.or_eq_true, decide_eq_true_eq] at hoff
    omega
  · intro h0
    have hnil : C = [] := c2.uniq (m := []) ⟨⟨0, trivial⟩, by simp⟩ fun x y => by
      refine ⟨fun hx => ?_, fun hx => absurd hx InS_nil⟩
      obtain ⟨⟨q, hq, h1, h2⟩, h3⟩ := (hC x y).1 hx
      have := h0 q hq
      unfold offB at this
      simp only [Bool.or_eq_true, decide_eq_true_eq] at this
      exact absurd ⟨by omega, by omega⟩ h3
    rw [hnil]; rfl
def copperV (p : TPanel) (nm : ByteArray) (r : List TRect) : List TRect × Int :=
  if openErr p = 0 then if kindIx p.Kinds nm < 0 then ([], 9) else if regionErr r = 0 then if r.any (offB (kindAtI p.Kinds (kindIx p.Kinds nm))) = true then ([], 1) else toldV (setB (copL p nm r p.Slots)) else ([], regionErr r) else ([], openErr p)
theorem copL_small {p : TPanel} {nm : ByteArray} {r : List TRect} (hl : p.Slots.length ≤ 500) (hr : r.length ≤ 2000) : (copL p nm r p.Slots).length ≤ 1000000 ∧ (setB (copL p nm r p.Slots)).length ≤ 2000000 ∧ (rectsB (setB (copL p nm r p.Slots))).length ≤ 2000000000000 := by
  have h1 := copL_len p nm r p.Slots
  have h2 : r.length * p.Slots.length ≤ 2000 * 500 := Nat.mul_le_mul hr hl
  obtain ⟨s1, s2⟩ := setB_len (copL p nm r p.Slots)
  have h3 := rectsB_len (R := 1000000) (l := setB (copL p nm r p.Slots)) fun b hb => by have := s2 b hb; omega
  exact ⟨by omega, by omega, by omega⟩
theorem Copper_ok {N : Nat} (hN : 10000000000 ≤ N) {p : TPanel} (hF : FuelP N p) (nm : ByteArray) (r : List TRect) : F_panel_Copper N p nm r = some (copperV p nm r) := by
  unfold F_panel_Copper copperV
  rw [checkPanelP_ok hF, Option.bind_some]
  by_cases h0 : openErr p = 0
  · obtain ⟨hB, hsl, _, hso⟩ := openErr_ok h0
    rw [if_neg (by simpa using h0), if_pos h0, kindAt_ok, Option.bind_some]
    by_cases hk : kindIx p.Kinds nm < 0
    · rw [if_pos (by simpa using hk), if_pos hk]
    · rw [if_neg (by simpa using hk), if_neg hk, CheckRegion_ok hN, Option.bind_some]
      by_cases h : regionErr r = 0
      · obtain ⟨_, hl, hok, hr⟩ := regionErr_ok h
        rcases kindIx_lo p.Kinds nm with h' | ⟨_, hi, hm, _⟩
        · omega
        have hkw := hB.kinds _ hm
        obtain ⟨y, y1, y2⟩ := In_ok hN h (k := kindOf p.Kinds nm) hkw
        obtain ⟨z1, z2, z3⟩ := copL_small (nm := nm) hsl hl
        rw [if_neg (by simpa using h), if_pos h, SetOf_ok hN (by omega) (fun x hx => (hok x hx).r9), Option.bind_some, hi, Option.bind_some, Option.bind_some, y1, Option.bind_some, y2, Option.bind_some, Bool.not_not]
        show _ = some (if r.any (offB (kindOf p.Kinds nm)) = true then ([], 1) else toldV (setB (copL p nm r p.Slots)))
        cases r.any (offB (kindOf p.Kinds nm))
        · rw [if_neg (by simp), if_neg (by simp), L3_ok hN hB hl hok p.Slots 0 [] hso (by simp; omega), List.nil_append, SetOf_ok hN (by omega) (copL_r9 hB hok hso), Option.bind_some, Told_ok hN (by omega) (by omega)]; rfl
        · rfl
      · rw [if_pos (by simpa using h), if_neg h]
  · rw [if_pos (by simpa using h0), if_neg h0]
theorem CopperR_ok {N : Nat} (hN : 10000000000 ≤ N) {p : TPanel} (hF : FuelP N p) (nm : ByteArray) (r : List TRect) : F_etchhouseref9_Copper N p nm r = some (copperV p nm r) := by
  unfold F_etchhouseref9_Copper copperV
  rw [checkPanel_ok (by have := hF.big; omega) hF.kinds hF.names, Option.bind_some]
  by_cases h0 : openErr p = 0
  · obtain ⟨hB, hsl, _, hso⟩ := openErr_ok h0
    rw [if_neg (by simpa using h0), if_pos h0, kindR_ok nm (by have := hB.klen; omega) hF.kinds, Option.bind_some]
    by_cases hk : kindIx p.Kinds nm < 0
    · rw [if_pos (by simpa using hk), if_pos hk]
    · rw [if_neg (by simpa using hk), if_neg hk, CheckRegionR_ok hN, Option.bind_some]
      by_cases h : regionErr r = 0
      · obtain ⟨_, hl, hok, hr⟩ := regionErr_ok h
        rcases kindIx_lo p.Kinds nm with h' | ⟨_, hi, hm, _⟩
        · omega
        have hkw := hB.kinds _ hm
        obtain ⟨z1, z2, z3⟩ := copL_small (nm := nm) hsl hl
        rw [if_neg (by simpa using h), if_pos h]
        have fin : F_etchhouseref9_Copper_L4 N p nm r N [] 0 = some (toldV (setB (copL p nm r p.Slots))) := by
          have := L4r_ok hN (nm := nm) hB hl hok hF.kinds hsl hso p.Slots [] N [] rfl (by omega) (by simp; omega)
          rw [show ((([] : List TSlot).length : Nat) : Int) = 0 from rfl, List.nil_append] at this
          rw [this, Canonical_ok hN (by omega) (by omega), Option.bind_some]
          unfold toldV
          by_cases h2 : 2000 < (rectsB (setB (copL p nm r p.Slots))).length
          · rw [if_pos (by simp; omega), if_pos h2]
          · rw [if_neg (by simp; omega), if_neg h2]
        have loop : ∀ (suf pre : List TRect) (m : Nat), r = pre ++ suf → suf.length < m → F_etchhouseref9_Copper_L1 N p nm r (kindIx p.Kinds nm) m pre.length = some (if suf.any (offB (kindOf p.Kinds nm)) = true then ([], 1) else toldV (setB (copL p nm r p.Slots))) := by
          intro suf
          induction suf with
          | nil =>
            intro pre m h1 h2
            obtain ⟨m, rfl⟩ : ∃ k, m = k + 1 := ⟨m - 1, by omega⟩
            rw [F_etchhouseref9_Copper_L1.eq_2, if_neg (by rw [h1]; simp), fin]; rfl
          | cons x suf ih =>
            intro pre m h1 h2
            obtain ⟨m, rfl⟩ : ∃ k, m = k + 1 := ⟨m - 1, by omega⟩
            have hpl : pre.length ≤ 2000 := by rw [h1] at hl; simp at hl; omega
            have hid : idx r (pre.length : Int) = some x := by rw [h1]; exact idx_mid pre suf x
            rw [F_etchhouseref9_Copper_L1.eq_2, if_pos (by rw [h1]; exact lt_mid pre suf x), hid, hi, up_mid pre x (by omega), ih (pre ++ [x]) m (by rw [h1]; simp) (by simp at h2; omega), List.any_cons]
            have ho : offB (kindOf p.Kinds nm) x = (((decide (x.X0 < 0) || decide (x.Y0 < 0)) || decide ((kindOf p.Kinds nm).W < x.X1)) || decide ((kindOf p.Kinds nm).H < x.Y1)) := rfl
            rw [ho]
            generalize suf.any (offB (kindOf p.Kinds nm)) = z
            simp only [Option.bind_some]
            generalize decide (x.X0 < 0) = b1
            generalize decide (x.Y0 < 0) = b2
            generalize decide ((kindOf p.Kinds nm).W < x.X1) = b3
            generalize decide ((kindOf p.Kinds nm).H < x.Y1) = b4
            cases b1 <;> cases b2 <;> cases b3 <;> cases b4 <;> simp
        have := loop r [] N rfl (by omega)
        exact this
      · rw [if_pos (by simpa using h), if_neg h]
  · rw [if_pos (by simpa using h0), if_neg h0]
end Go.Proofs.YtfdglihcpfpefaaGreat
