/- Slots, turns and points of a panel, as the program and the reference compute them. Plain Lean about the plain functions. -/
import Derived.Test.YtpkicpnbpldkpaaA2
namespace Go.Proofs.Ytpkicpnbpldkpaa
def rotX (q x y : Int) : Int := if q = 0 then x else if q = 1 then -y else if q = 2 then -x else y
def rotY (q x y : Int) : Int := if q = 0 then y else if q = 1 then x else if q = 2 then -y else -x
def Bd (x : Int) : Prop := -1000000000 ≤ x ∧ x ≤ 1000000000
theorem turn_ok {N : Nat} {p : TPoint} {t : TTurn} (hN : 5 ≤ N) (hf : t.Flip = false) (hq : 0 ≤ t.Quarters ∧ t.Quarters ≤ 3) (hx : Bd p.X) (hy : Bd p.Y) (hax : Bd t.At.X) (hay : Bd t.At.Y) :
    F_shape_TurnPoint N p t = some ⟨rotX t.Quarters p.X p.Y + t.At.X, rotY t.Quarters p.X p.Y + t.At.Y⟩ := by
  obtain ⟨m, rfl⟩ : ∃ m, N = m + 5 := ⟨N - 5, by omega⟩
  obtain ⟨fl, q, ⟨ax, ay⟩⟩ := t
  obtain ⟨px, py⟩ := p
  unfold Bd at *
  simp only at hf hq hx hy hax hay
  subst hf
  unfold F_shape_TurnPoint F_shape_TurnPoint_J2
  have e : q = 0 ∨ q = 1 ∨ q = 2 ∨ q = 3 := by omega
  rcases e with rfl | rfl | rfl | rfl
  · simp (disch := omega) [F_shape_TurnPoint_L1, w64_id, rotX, rotY]
  · simp (disch := omega) [F_shape_TurnPoint_L1, w64_id, rotX, rotY]
  · simp (disch := omega) [F_shape_TurnPoint_L1, w64_id, rotX, rotY]
  · simp (disch := omega) [F_shape_TurnPoint_L1, w64_id, rotX, rotY]
theorem turnR_ok {N : Nat} {p : TPoint} {t : TTurn} (hN : 5 ≤ N) (hf : t.Flip = false) (hq : 0 ≤ t.Quarters ∧ t.Quarters ≤ 3) (hx : Bd p.X) (hy : Bd p.Y) (hax : Bd t.At.X) (hay : Bd t.At.Y) :
    F_etchhouseref1_TurnPoint N p t = some ⟨rotX t.Quarters p.X p.Y + t.At.X, rotY t.Quarters p.X p.Y + t.At.Y⟩ := by
  obtain ⟨m, rfl⟩ : ∃ m, N = m + 5 := ⟨N - 5, by omega⟩
  obtain ⟨fl, q, ⟨ax, ay⟩⟩ := t
  obtain ⟨px, py⟩ := p
  unfold Bd at *
  simp only at hf hq hx hy hax hay
  subst hf
  unfold F_etchhouseref1_TurnPoint F_etchhouseref1_around F_etchhouseref1_around_J2
  have e : q = 0 ∨ q = 1 ∨ q = 2 ∨ q = 3 := by omega
  rcases e with rfl | rfl | rfl | rfl
  · simp (disch := omega) [F_etchhouseref1_around_L1, w64_id, rotX, rotY]
  · simp (disch := omega) [F_etchhouseref1_around_L1, w64_id, rotX, rotY]
  · simp (disch := omega) [F_etchhouseref1_around_L1, w64_id, rotX, rotY]
  · simp (disch := omega) [F_etchhouseref1_around_L1, w64_id, rotX, rotY]
/-- Where the turn of a slot lies. -/
def atX (p : TPanel) (s : TSlot) : Int := if s.Quarters = 1 then s.At.X + (kindOf p.Kinds s.Board).H else if s.Quarters = 2 then s.At.X + (kindOf p.Kinds s.Board).W else s.At.X
def atY (p : TPanel) (s : TSlot) : Int := if s.Quarters = 2 then s.At.Y + (kindOf p.Kinds s.Board).H else if s.Quarters = 3 then s.At.Y + (kindOf p.Kinds s.Board).W else s.At.Y
def turnT (p : TPanel) (s : TSlot) : TTurn := ⟨false, s.Quarters, ⟨atX p s, atY p s⟩⟩
theorem kindWH {p : TPanel} (hB : PB p) {s : TSlot} (hs : SlotOk p s) : 1 ≤ (kindOf p.Kinds s.Board).W ∧ (kindOf p.Kinds s.Board).W ≤ 1000000 ∧ 1 ≤ (kindOf p.Kinds s.Board).H ∧ (kindOf p.Kinds s.Board).H ≤ 1000000 := by
  rcases kindIx_lo p.Kinds s.Board with h' | ⟨_, _, hm, _⟩
  · exact absurd h' hs.kind
  · exact hB.kinds _ hm
/-- The slot's turn, its corner and its cell. -/
theorem at_cell {p : TPanel} (hB : PB p) {s : TSlot} (hs : SlotOk p s) : (s.Quarters = 0 ∨ s.Quarters = 1 ∨ s.Quarters = 2 ∨ s.Quarters = 3) ∧
    (s.Quarters = 0 → atX p s = s.At.X ∧ atY p s = s.At.Y ∧ (cellOf p s).X1 = s.At.X + (kindOf p.Kinds s.Board).W ∧ (cellOf p s).Y1 = s.At.Y + (kindOf p.Kinds s.Board).H) ∧
    (s.Quarters = 1 → atX p s = s.At.X + (kindOf p.Kinds s.Board).H ∧ atY p s = s.At.Y ∧ (cellOf p s).X1 = s.At.X + (kindOf p.Kinds s.Board).H ∧ (cellOf p s).Y1 = s.At.Y + (kindOf p.Kinds s.Board).W) ∧
    (s.Quarters = 2 → atX p s = s.At.X + (kindOf p.Kinds s.Board).W ∧ atY p s = s.At.Y + (kindOf p.Kinds s.Board).H ∧ (cellOf p s).X1 = s.At.X + (kindOf p.Kinds s.Board).W ∧ (cellOf p s).Y1 = s.At.Y + (kindOf p.Kinds s.Board).H) ∧
    (s.Quarters = 3 → atX p s = s.At.X ∧ atY p s = s.At.Y + (kindOf p.Kinds s.Board).W ∧ (cellOf p s).X1 = s.At.X + (kindOf p.Kinds s.Board).H ∧ (cellOf p s).Y1 = s.At.Y + (kindOf p.Kinds s.Board).W) := by
  have h0 := hs.q0
  have h1 := hs.q1
  refine ⟨by omega, fun h => ?_, fun h => ?_, fun h => ?_, fun h => ?_⟩ <;> simp [atX, atY, cellOf, sizeW, sizeH, h]
theorem turnOf_ok {p : TPanel} (hB : PB p) {s : TSlot} (hs : SlotOk p s) : F_panel_turnOf p s = some (turnT p s) := by
  obtain ⟨bx, by_, _⟩ := hs.bd hB
  have hk := kindWH hB hs
  rcases kindIx_lo p.Kinds s.Board with h' | ⟨_, hi, _, _⟩
  · exact absurd h' hs.kind
  unfold F_panel_turnOf F_panel_turnOf_J1
  rw [kindAt_ok, Option.bind_some, hi, Option.bind_some]
  rw [w64_id (x := s.At.X + (kindOf p.Kinds s.Board).H) (by omega) (by omega), w64_id (x := s.At.X + (kindOf p.Kinds s.Board).W) (by omega) (by omega), w64_id (x := s.At.Y + (kindOf p.Kinds s.Board).H) (by omega) (by omega), w64_id (x := s.At.Y + (kindOf p.Kinds s.Board).W) (by omega) (by omega)]
  unfold turnT atX atY
  have e : s.Quarters = 0 ∨ s.Quarters = 1 ∨ s.Quarters = 2 ∨ s.Quarters = 3 := by have := hs.q0; have := hs.q1; omega
  rcases e with e | e | e | e <;> simp [e]
theorem turnOfR_ok {N : Nat} {p : TPanel} (hB : PB p) (hN : p.Kinds.length < N) {s : TSlot} (hs : SlotOk p s) : F_etchhouseref9_turnOf N p s = some (turnT p s) := by
  obtain ⟨bx, by_, _⟩ := hs.bd hB
  have hk := kindWH hB hs
  rcases kindIx_lo p.Kinds s.Board with h' | ⟨_, hi, _, _⟩
  · exact absurd h' hs.kind
  unfold F_etchhouseref9_turnOf F_etchhouseref9_turnOf_J1
  rw [kindR_ok _ (by have := hB.klen; omega) hN, Option.bind_some, hi, Option.bind_some]
  rw [w64_id (x := s.At.X + (kindOf p.Kinds s.Board).H) (by omega) (by omega), w64_id (x := s.At.X + (kindOf p.Kinds s.Board).W) (by omega) (by omega), w64_id (x := s.At.Y + (kindOf p.Kinds s.Board).H) (by omega) (by omega), w64_id (x := s.At.Y + (kindOf p.Kinds s.Board).W) (by omega) (by omega)]
  unfold turnT atX atY
  have e : s.Quarters = 0 ∨ s.Quarters = 1 ∨ s.Quarters = 2 ∨ s.Quarters = 3 := by have := hs.q0; have := hs.q1; omega
  rcases e with e | e | e | e <;> simp [e]
theorem turnT_bd {p : TPanel} (hB : PB p) {s : TSlot} (hs : SlotOk p s) : Bd (atX p s) ∧ Bd (atY p s) ∧ (-1000000 ≤ atX p s ∧ atX p s ≤ 1000000) ∧ (-1000000 ≤ atY p s ∧ atY p s ≤ 1000000) := by
  obtain ⟨bx, by_, _, d1, d2, d3, d4, d5, d6⟩ := hs.bd hB
  obtain ⟨e, e0, e1, e2, e3⟩ := at_cell hB hs
  have hk := kindWH hB hs
  have hc : (cellOf p s).X0 = s.At.X ∧ (cellOf p s).Y0 = s.At.Y := ⟨rfl, rfl⟩
  unfold Bd
  rcases e with e | e | e | e
  · have := e0 e; omega
  · have := e1 e; omega
  · have := e2 e; omega
  · have := e3 e; omega
-- slot turns
def slotTurn (p : TPanel) (i : Int) : TTurn × Int :=
  if openErr p = 0 then if within i 0 ((p.Slots.length : Int) - 1) = true then (match p.Slots[i.toNat]? with | some s => (turnT p s, 0) | none => (⟨false, 0, ⟨0, 0⟩⟩, 9)) else (⟨false, 0, ⟨0, 0⟩⟩, 9)
  else (⟨false, 0, ⟨0, 0⟩⟩, openErr p)
/-- What is known of enough fuel. -/
structure FuelP (N : Nat) (p : TPanel) : Prop where
  big : 20000000 ≤ N
  kinds : p.Kinds.length < N
  names : ∀ k ∈ p.Kinds, k.Name.size ≤ 9223372036854775807 ∧ k.Name.size < N
theorem checkPanelP_ok {N : Nat} {p : TPanel} (h : FuelP N p) : F_panel_CheckPanel N p = some (openErr p) := by
  unfold F_panel_CheckPanel
  rw [open_ok h.names, Option.bind_some]
  by_cases he : openErr p = 0 <;> simp [he]
theorem slotTurn_ok {N : Nat} {p : TPanel} (h : FuelP N p) (i : Int) : F_panel_SlotTurn N p i = some (slotTurn p i) := by
  unfold F_panel_SlotTurn slotTurn
  rw [checkPanelP_ok h, Option.bind_some]
  by_cases he : openErr p = 0
  · obtain ⟨hB, hsl, _, hso⟩ := openErr_ok he
    rw [he]
    simp only [bne_self_eq_false, Bool.false_eq_true, if_false, if_true, within_ok, Option.bind_some]
    rw [w64_id (by omega) (by omega)]
    cases hw : within i 0 ((p.Slots.length : Int) - 1)
    · rfl
    have w1 := within_iff.1 hw
    obtain ⟨s, hi, hmem⟩ := idx_lt (l := p.Slots) (i := i) (by omega) (by omega)
    rw [hi, hmem]
    simp only [Bool.not_true, Bool.false_eq_true, if_false, Option.bind_some]
    rw [turnOf_ok hB (hso s (List.mem_of_getElem? hmem))]
    rfl
  · simp [he]
theorem slotTurnR_ok {N : Nat} {p : TPanel} (h : FuelP N p) (i : Int) : F_etchhouseref9_SlotTurn N p i = some (slotTurn p i) := by
  unfold F_etchhouseref9_SlotTurn slotTurn
  rw [checkPanel_ok (by have := h.big; omega) h.kinds h.names, Option.bind_some]
  by_cases he : openErr p = 0
  · obtain ⟨hB, hsl, _, hso⟩ := openErr_ok he
    rw [he]
    simp only [bne_self_eq_false, Bool.false_eq_true, if_false, if_true, withinR_ok, Option.bind_some]
    rw [w64_id (by omega) (by omega)]
    cases hw : within i 0 ((p.Slots.length : Int) - 1)
    · rfl
    have w1 := within_iff.1 hw
    obtain ⟨s, hi, hmem⟩ := idx_lt (l := p.Slots) (i := i) (by omega) (by omega)
    rw [hi, hmem]
    simp only [Bool.not_true, Bool.false_eq_true, if_false, Option.bind_some]
    rw [turnOfR_ok hB h.kinds (hso s (List.mem_of_getElem? hmem))]
    rfl
  · simp [he]
-- to the panel
def toP (p : TPanel) (s : TSlot) (a : TPoint) : TPoint := ⟨rotX s.Quarters a.X a.Y + atX p s, rotY s.Quarters a.X a.Y + atY p s⟩
def toPanel (p : TPanel) (i : Int) (a : TPoint) : TPoint × Int :=
  if openErr p = 0 then if within i 0 ((p.Slots.length : Int) - 1) = true then
    (match p.Slots[i.toNat]? with
    | some s => if within a.X 0 (kindOf p.Kinds s.Board).W = true ∧ within a.Y 0 (kindOf p.Kinds s.Board).H = true then (toP p s a, 0) else (⟨0, 0⟩, 1)
    | none => (⟨0, 0⟩, 9)) else (⟨0, 0⟩, 9)
  else (⟨0, 0⟩, openErr p)
theorem toPanel_ok {N : Nat} {p : TPanel} (h : FuelP N p) (i : Int) (a : TPoint) : F_panel_ToPanel N p i a = some (toPanel p i a) := by
  unfold F_panel_ToPanel
  rw [slotTurn_ok h, Option.bind_some]
  unfold slotTurn toPanel
  by_cases he : openErr p = 0
  · obtain ⟨hB, hsl, _, hso⟩ := openErr_ok he
    simp only [if_pos he]
    cases hw : within i 0 ((p.Slots.length : Int) - 1)
    · simp
    have w1 := within_iff.1 hw
    obtain ⟨s, hi, hmem⟩ := idx_lt (l := p.Slots) (i := i) (by omega) (by omega)
    have hs := hso s (List.mem_of_getElem? hmem)
    have hk := kindWH hB hs
    rcases kindIx_lo p.Kinds s.Board with h' | ⟨_, hki, _, _⟩
    · exact absurd h' hs.kind
    simp only [hi, hmem, if_true, bne_self_eq_false, Bool.false_eq_true, if_false, Option.bind_some, kindAt_ok, hki, within_ok]
    cases hX : within a.X 0 (kindOf p.Kinds s.Board).W
    · simp
    cases hY : within a.Y 0 (kindOf p.Kinds s.Board).H
    · simp
    have wx := within_iff.1 hX
    have wy := within_iff.1 hY
    obtain ⟨t1, t2, _⟩ := turnT_bd hB hs
    simp only [Bool.not_true, Bool.false_eq_true, if_false, Option.bind_some, and_self, if_true]
    rw [turn_ok (by have := h.big; omega) rfl ⟨hs.q0, hs.q1⟩ (by unfold Bd; omega) (by unfold Bd; omega) t1 t2]
    rfl
  · simp [he]
theorem toPanelR_ok {N : Nat} {p : TPanel} (h : FuelP N p) (i : Int) (a : TPoint) : F_etchhouseref9_ToPanel N p i a = some (toPanel p i a) := by
  unfold F_etchhouseref9_ToPanel
  rw [slotTurnR_ok h, Option.bind_some]
  unfold slotTurn toPanel
  by_cases he : openErr p = 0
  · obtain ⟨hB, hsl, _, hso⟩ := openErr_ok he
    simp only [if_pos he]
    cases hw : within i 0 ((p.Slots.length : Int) - 1)
    · simp
    have w1 := within_iff.1 hw
    obtain ⟨s, hi, hmem⟩ := idx_lt (l := p.Slots) (i := i) (by omega) (by omega)
    have hs := hso s (List.mem_of_getElem? hmem)
    have hk := kindWH hB hs
    rcases kindIx_lo p.Kinds s.Board with h' | ⟨_, hki, _, _⟩
    · exact absurd h' hs.kind
    simp only [hi, hmem, if_true, bne_self_eq_false, Bool.false_eq_true, if_false, Option.bind_some, kindR_ok s.Board (by have := hB.klen; omega) h.kinds, hki, withinR_ok]
    cases hX : within a.X 0 (kindOf p.Kinds s.Board).W
    · simp
    cases hY : within a.Y 0 (kindOf p.Kinds s.Board).H
    · simp
    have wx := within_iff.1 hX
    have wy := within_iff.1 hY
    obtain ⟨t1, t2, _⟩ := turnT_bd hB hs
    simp only [Bool.not_true, Bool.false_eq_true, if_false, Option.bind_some, and_self, if_true]
    rw [turnR_ok (by have := h.big; omega) rfl ⟨hs.q0, hs.q1⟩ (by unfold Bd; omega) (by unfold Bd; omega) t1 t2]
    rfl
  · simp [he]
-- to a board
def inC (r : TRect) (a : TPoint) : Bool := within a.X r.X0 r.X1 && within a.Y r.Y0 r.Y1
def backQ (q : Int) : Int := if q = 0 then 0 else 4 - q
def toB (p : TPanel) (s : TSlot) (a : TPoint) : TPoint := ⟨rotX (backQ s.Quarters) (a.X - atX p s) (a.Y - atY p s), rotY (backQ s.Quarters) (a.X - atX p s) (a.Y - atY p s)⟩
def onBoard (p : TPanel) (a : TPoint) : List TSlot → Int → Int × TPoint × Bool × Int
  | [], _ => (0, ⟨0, 0⟩, false, 0)
  | s :: rest, i => if inC (cellOf p s) a = true then (i, toB p s a, true, 0) else onBoard p a rest (i + 1)
theorem tmod4 {q : Int} (h0 : 0 ≤ q) (h1 : q ≤ 3) : Int.tmod (w64 (4 - q)) 4 = backQ q := by
  rw [w64_id (by omega) (by omega)]
  have e : q = 0 ∨ q = 1 ∨ q = 2 ∨ q = 3 := by omega
  rcases e with rfl | rfl | rfl | rfl <;> rfl
theorem rot_sub (q x y a b : Int) : rotX q x y + -(rotX q a b) = rotX q (x - a) (y - b) ∧ rotY q x y + -(rotY q a b) = rotY q (x - a) (y - b) := by
  unfold rotX rotY
  split
  · omega
  · split
    · omega
    · split <;> omega
theorem rot_bd {q x y c : Int} (hx : -c ≤ x ∧ x ≤ c) (hy : -c ≤ y ∧ y ≤ c) : (-c ≤ rotX q x y ∧ rotX q x y ≤ c) ∧ (-c ≤ rotY q x y ∧ rotY q x y ≤ c) := by
  unfold rotX rotY
  split
  · omega
  · split
    · omega
    · split <;> omega
theorem eif (a b : Bool) : (if a = true then some b else some false) = some (a && b) := by cases a <;> rfl
theorem checkTurn_ok {t : TTurn} (hq : 0 ≤ t.Quarters ∧ t.Quarters ≤ 3) (hx : -1000000 ≤ t.At.X ∧ t.At.X ≤ 1000000) (hy : -1000000 ≤ t.At.Y ∧ t.At.Y ≤ 1000000) : F_shape_CheckTurn t = some 0 := by
  unfold F_shape_CheckTurn F_shape_IsPoint F_shape_IsAt F_shape_within
  simp [hq, hx, hy]
theorem back_ok {N : Nat} {p : TPanel} (h : 5 ≤ N) (hB : PB p) {s : TSlot} (hs : SlotOk p s) {a : TPoint} (hx : 0 ≤ a.X ∧ a.X ≤ 1000000) (hy : 0 ≤ a.Y ∧ a.Y ≤ 1000000) {K : TPoint → Option (Int × TPoint × Bool × Int)} :
    ((F_shape_Back N (turnT p s)).bind fun y21 => (F_shape_TurnPoint N a y21.1).bind K) = K (toB p s a) := by
  obtain ⟨t1, t2, t3, t4⟩ := turnT_bd hB hs
  have hq0 := hs.q0; have hq1 := hs.q1
  have hb : 0 ≤ backQ s.Quarters ∧ backQ s.Quarters ≤ 3 := by unfold backQ; split <;> omega
  unfold F_shape_Back
  rw [show F_shape_CheckTurn (turnT p s) = some 0 from checkTurn_ok ⟨hq0, hq1⟩ t3 t4, Option.bind_some, if_neg (by simp), if_pos (by rfl)]
  show ((F_shape_Back_J1 N (turnT p s) (Int.tmod (w64 (4 - s.Quarters)) 4)).bind _) = _
  rw [tmod4 hq0 hq1]
  unfold F_shape_Back_J1
  rw [show (turnT p s).Flip = false from rfl, turn_ok (p := (turnT p s).At) (t := ⟨false, backQ s.Quarters, ⟨0, 0⟩⟩) h rfl hb t1 t2 (by unfold Bd; simp) (by unfold Bd; simp), Option.bind_some, Option.bind_some]
  simp only [turnT]
  obtain ⟨r1, r2⟩ := rot_bd (q := backQ s.Quarters) (x := atX p s) (y := atY p s) (c := 1000000) (by omega) (by omega)
  simp only [Int.add_zero]
  rw [w64_id (x := 0 - rotX (backQ s.Quarters) (atX p s) (atY p s)) (by omega) (by omega), w64_id (x := 0 - rotY (backQ s.Quarters) (atX p s) (atY p s)) (by omega) (by omega)]
  rw [turn_ok h rfl hb (by unfold Bd; omega) (by unfold Bd; omega) (by unfold Bd; simp; omega) (by unfold Bd; simp; omega), Option.bind_some]
  obtain ⟨s1, s2⟩ := rot_sub (backQ s.Quarters) a.X a.Y (atX p s) (atY p s)
  congr 1
  unfold toB
  simp only [TPoint.mk.injEq]
  exact ⟨by rw [← s1]; omega, by rw [← s2]; omega⟩
theorem backR_ok {N : Nat} {p : TPanel} (h : 5 ≤ N) (hB : PB p) {s : TSlot} (hs : SlotOk p s) {a : TPoint} (hx : 0 ≤ a.X ∧ a.X ≤ 1000000) (hy : 0 ≤ a.Y ∧ a.Y ≤ 1000000) :
    F_etchhouseref1_TurnPoint N (TPoint.mk (w64 (a.X - (turnT p s).At.X)) (w64 (a.Y - (turnT p s).At.Y))) (TTurn.mk false (Int.tmod (w64 (4 - (turnT p s).Quarters)) 4) (TPoint.mk 0 0)) = some (toB p s a) := by
  obtain ⟨t1, t2, t3, t4⟩ := turnT_bd hB hs
  have hq0 := hs.q0; have hq1 := hs.q1
  have hb : 0 ≤ backQ s.Quarters ∧ backQ s.Quarters ≤ 3 := by unfold backQ; split <;> omega
  simp only [turnT]
  rw [tmod4 hq0 hq1, w64_id (x := a.X - atX p s) (by omega) (by omega), w64_id (x := a.Y - atY p s) (by omega) (by omega), turnR_ok h rfl hb (by unfold Bd; simp; omega) (by unfold Bd; simp; omega) (by unfold Bd; simp) (by unfold Bd; simp)]
  simp [toB]
theorem toBoard_loop {N : Nat} {p : TPanel} (h : 5 ≤ N) (hB : PB p) {a : TPoint} (hx : 0 ≤ a.X ∧ a.X ≤ 1000000) (hy : 0 ≤ a.Y ∧ a.Y ≤ 1000000) : ∀ (suf pre : List TSlot), p.Slots = pre ++ suf → (∀ s ∈ suf, SlotOk p s) →
    F_panel_ToBoard_L1 N p a (suf.map (cellOf p)) pre.length = some (onBoard p a suf pre.length)
  | [], pre, _, _ => rfl
  | s :: suf, pre, hp, hs => by
    have ih := toBoard_loop h hB hx hy suf (pre ++ [s]) (by rw [hp]; simp) (fun t ht => hs t (by simp [ht]))
    rw [show (pre ++ [s]).length = pre.length + 1 by simp] at ih
    rw [List.map_cons, F_panel_ToBoard_L1.eq_2, ih]
    simp only [within_ok, Option.bind_some]
    rw [eif, Option.bind_some, show idx p.Slots (pre.length : Int) = some s by rw [hp]; exact idx_mid _ _ _, Option.bind_some, turnOf_ok hB (hs s (by simp)), Option.bind_some, back_ok h hB (hs s (by simp)) hx hy, onBoard]
    show (if inC (cellOf p s) a = true then _ else _) = _
    cases inC (cellOf p s) a <;> simp
theorem toBoardR_loop {N : Nat} {p : TPanel} (h : FuelP N p) (hB : PB p) (hl : p.Slots.length ≤ 500) {a : TPoint} (hx : 0 ≤ a.X ∧ a.X ≤ 1000000) (hy : 0 ≤ a.Y ∧ a.Y ≤ 1000000) : ∀ (suf pre : List TSlot) (m : Nat), p.Slots = pre ++ suf → (∀ s ∈ suf, SlotOk p s) → suf.length < m →
    F_etchhouseref9_ToBoard_L1 N p a m pre.length = some (onBoard p a suf pre.length)
  | [], pre, m + 1, hp, _, _ => by
    rw [F_etchhouseref9_ToBoard_L1.eq_2, if_neg (by rw [hp, lt_end]; simp)]; rfl
  | s :: suf, pre, m + 1, hp, hs, hm => by
    have ih := toBoardR_loop h hB hl hx hy suf (pre ++ [s]) m (by rw [hp]; simp) (fun t ht => hs t (by simp [ht])) (by simp at hm; omega)
    have hql : pre.length ≤ 500 := by rw [hp] at hl; simp at hl; omega
    have hk := hs s (by simp)
    rw [F_etchhouseref9_ToBoard_L1.eq_2, if_pos (by rw [hp]; exact lt_mid _ _ _), show idx p.Slots (pre.length : Int) = some s by rw [hp]; exact idx_mid _ _ _, Option.bind_some, cellOfR_ok hB h.kinds hk.kind (hk.bd hB).1 (hk.bd hB).2.1, Option.bind_some, up_mid _ s (by omega), ih]
    simp only [withinR_ok, Option.bind_some]
    rw [eif, Option.bind_some, turnOfR_ok hB h.kinds hk, Option.bind_some, backR_ok (by have := h.big; omega) hB hk hx hy, onBoard]
    show (if inC (cellOf p s) a = true then _ else _) = _
    have e : ((pre ++ [s]).length : Int) = (pre.length : Int) + 1 := by simp
    rw [e]
    cases inC (cellOf p s) a <;> simp
def toBoard (p : TPanel) (a : TPoint) : Int × TPoint × Bool × Int :=
  if openErr p = 0 then if within a.X 0 p.W = true ∧ within a.Y 0 p.H = true then onBoard p a p.Slots 0 else (0, ⟨0, 0⟩, false, 1)
  else (0, ⟨0, 0⟩, false, openErr p)
theorem toBoard_ok {N : Nat} {p : TPanel} (h : FuelP N p) (a : TPoint) : F_panel_ToBoard N p a = some (toBoard p a) := by
  unfold F_panel_ToBoard toBoard
  rw [open_ok h.names, Option.bind_some]
  by_cases he : openErr p = 0
  · obtain ⟨hB, hsl, _, hso⟩ := openErr_ok he
    have := hB.w1; have := hB.h1
    simp only [if_pos he, bne_self_eq_false, Bool.false_eq_true, if_false]
    unfold F_panel_isOnPanel
    simp only [within_ok, Option.bind_some]
    cases hX : within a.X 0 p.W
    · simp
    cases hY : within a.Y 0 p.H
    · simp
    have wx := within_iff.1 hX
    have wy := within_iff.1 hY
    simp only [if_true, Option.bind_some, Bool.not_true, Bool.false_eq_true, if_false, and_self]
    exact toBoard_loop (by have := h.big; omega) hB (by omega) (by omega) p.Slots [] rfl hso
  · simp [he]
theorem toBoardR_ok {N : Nat} {p : TPanel} (h : FuelP N p) (a : TPoint) : F_etchhouseref9_ToBoard N p a = some (toBoard p a) := by
  unfold F_etchhouseref9_ToBoard toBoard
  rw [checkPanel_ok (by have := h.big; omega) h.kinds h.names, Option.bind_some]
  by_cases he : openErr p = 0
  · obtain ⟨hB, hsl, _, hso⟩ := openErr_ok he
    have := hB.w1; have := hB.h1
    simp only [if_pos he, he, bne_self_eq_false, Bool.false_eq_true, if_false, withinR_ok, Option.bind_some]
    cases hX : within a.X 0 p.W
    · simp
    cases hY : within a.Y 0 p.H
    · simp
    have wx := within_iff.1 hX
    have wy := within_iff.1 hY
    simp only [if_true, Option.bind_some, Bool.not_true, Bool.false_eq_true, if_false, and_self]
    exact toBoardR_loop h hB hsl (by omega) (by omega) p.Slots [] N rfl hso (by have := h.big; omega)
  · simp [he]
theorem awakeP_ok {N : Nat} (hN : 3 ≤ N) : F_etchhouselaw9_awake N = some true := by
  obtain ⟨m, rfl⟩ : ∃ m, N = m + 3 := ⟨N - 3, by omega⟩
  rfl
theorem pointsMatch_ok {N : Nat} {p : TPanel} (h : FuelP N p) (i : Int) (a : TPoint) : F_etchhouselaw9_PanelPointsMatchSpec N p i a = some true := by
  unfold F_etchhouselaw9_PanelPointsMatchSpec
  rw [slotTurn_ok h, slotTurnR_ok h, toPanel_ok h, toPanelR_ok h, toBoard_ok h, toBoardR_ok h, awakeP_ok (by have := h.big; omega)]
  simp only [Option.bind_some]
  simp [eqTTurn_iff.2 rfl, eqTPoint_iff.2 rfl]
end Go.Proofs.Ytpkicpnbpldkpaa
