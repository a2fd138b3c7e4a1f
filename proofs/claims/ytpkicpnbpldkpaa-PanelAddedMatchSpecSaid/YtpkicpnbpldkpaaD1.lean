/- One board more on a panel: what the program finds. Plain Lean about the plain functions. -/
import Derived.Test.YtpkicpnbpldkpaaB0a
import Derived.Test.YtpkicpnbpldkpaaD0
namespace Go.Proofs.Ytpkicpnbpldkpaa
/-- The panel with other slots. -/
def withSlots (p : TPanel) (l : List TSlot) : TPanel := ⟨p.W, p.H, p.Rail, p.Gap, p.Kinds, l, p.Marks⟩
def zeroP : TPanel := ⟨0, 0, 0, 0, [], [], []⟩
theorem FuelP.slots {N : Nat} {p : TPanel} (h : FuelP N p) (l : List TSlot) : FuelP N (withSlots p l) := ⟨h.big, h.kinds, h.names⟩
def mkS (b : ByteArray) (y x q : Int) : TSlot := ⟨b, q, ⟨x, y⟩⟩
/-- A slot that fits on the panel, beside all others. -/
def fitB (p : TPanel) (s : TSlot) : Bool := okAt p s && (!((p.Slots.map (cellOf p)).any fun d => !apart (cellOf p s) d p.Gap) && !(p.Marks.any fun m => inside (cellOf p s) m))
def xsOf (p : TPanel) : List Int := p.Rail :: p.Slots.map fun s => (cellOf p s).X1 + p.Gap
def ysOf (p : TPanel) : List Int := p.Rail :: p.Slots.map fun s => (cellOf p s).Y1 + p.Gap
def candX (b : ByteArray) (y : Int) (xs : List Int) : List TSlot := xs.flatMap fun x => [mkS b y x 0, mkS b y x 1]
def candP (b : ByteArray) (xs ys : List Int) : List TSlot := ys.flatMap fun y => candX b y xs
/-- What is told of a slot that was found. -/
def resP (p : TPanel) (s : TSlot) : TPanel × Bool × Int := if 500 ≤ p.Slots.length then (zeroP, false, 2) else (withSlots p (p.Slots ++ [s]), true, 0)
def pick (p : TPanel) (l : List TSlot) (K : Option (TPanel × Bool × Int)) : Option (TPanel × Bool × Int) :=
  match l.find? (fitB p) with
  | some s => some (resP p s)
  | none => K
theorem pick_nil (p : TPanel) (K : Option (TPanel × Bool × Int)) : pick p [] K = K := rfl
theorem pick_cons (p : TPanel) (s : TSlot) (l : List TSlot) (K : Option (TPanel × Bool × Int)) : pick p (s :: l) K = if fitB p s then some (resP p s) else pick p l K := by
  unfold pick
  rw [List.find?_cons]
  cases fitB p s <;> rfl
theorem pick_append (p : TPanel) (l m : List TSlot) (K : Option (TPanel × Bool × Int)) : pick p (l ++ m) K = pick p l (pick p m K) := by
  induction l with
  | nil => rfl
  | cons s l ih => rw [List.cons_append, pick_cons, pick_cons, ih]
theorem ContainsQ_ok {g : TPoint → Bool} {f : TPoint → Option Bool} {l : List TPoint} (h : ∀ x ∈ l, f x = some (g x)) : F_slices_ContainsFunc_Point l f = some (l.any g) := by
  have key : ∀ (l : List TPoint) (i : Nat), (∀ x ∈ l, f x = some (g x)) → F_slices_IndexFunc_Point_L1 f l i = some (ixOf g l i) := by
    intro l
    induction l with
    | nil => intro i _; rfl
    | cons x l ih =>
      intro i h
      rw [F_slices_IndexFunc_Point_L1.eq_2, h x (by simp), Option.bind_some, ih (i + 1) (fun y hy => h y (by simp [hy])), ixOf, show ((i + 1 : Nat) : Int) = (i : Int) + 1 by omega]
      cases g x <;> rfl
  unfold F_slices_ContainsFunc_Point F_slices_IndexFunc_Point
  rw [key l 0 h, Option.bind_some, show ((0 : Nat) : Int) = 0 from rfl, ixOf_any g l 0 (by omega)]
def Lim (x : Int) : Prop := 0 ≤ x ∧ x ≤ 2000000
section
variable {p : TPanel} {b : ByteArray} (hB : PB p) (hk : kindIx p.Kinds b ≠ -1)
include hB hk
theorem mk_cell {x y q : Int} (hx : Lim x) (hy : Lim y) : RB (cellOf p (mkS b y x q)) ∧ (TRect.mk x y (w64 (x + sizeW (kindOf p.Kinds b) q)) (w64 (y + sizeH (kindOf p.Kinds b) q))) = cellOf p (mkS b y x q) := by
  have hs := sizeWH hB hk q
  unfold Lim at hx hy
  refine ⟨?_, ?_⟩
  · unfold RB cellOf mkS
    dsimp only
    omega
  · rw [w64_id (by omega) (by omega), w64_id (by omega) (by omega)]; rfl
theorem isOn_ok {x y q : Int} : F_panel_isOn p (cellOf p (mkS b y x q)) = some (okAt p (mkS b y x q)) := by
  have hs := sizeWH hB hk q
  have b1 := hB.w1; have b2 := hB.h1; have b3 := hB.r0; have b4 := hB.r1; have b5 := hB.w0; have b6 := hB.h0
  unfold F_panel_isOn okAt
  rw [w64_id (x := p.W - p.Rail) (by omega) (by omega), w64_id (x := p.H - p.Rail) (by omega) (by omega)]
  congr 1
  rw [Bool.eq_iff_iff]
  simp only [Bool.and_eq_true, decide_eq_true_eq]
  unfold cellOf mkS
  dsimp only
  omega
end
theorem lims {p : TPanel} (hB : PB p) (hs : ∀ s ∈ p.Slots, SlotOk p s) : (∀ x ∈ xsOf p, Lim x) ∧ ∀ y ∈ ysOf p, Lim y := by
  have b1 := hB.r0; have b2 := hB.r1; have b3 := hB.g0; have b4 := hB.g1
  refine ⟨fun x hx => ?_, fun x hx => ?_⟩
  · rcases List.mem_cons.1 hx with rfl | hx
    · exact ⟨by omega, by omega⟩
    · obtain ⟨s, hsm, rfl⟩ := List.mem_map.1 hx
      have := (hs s hsm).bd hB
      exact ⟨by omega, by omega⟩
  · rcases List.mem_cons.1 hx with rfl | hx
    · exact ⟨by omega, by omega⟩
    · obtain ⟨s, hsm, rfl⟩ := List.mem_map.1 hx
      have := (hs s hsm).bd hB
      exact ⟨by omega, by omega⟩
section
variable {N : Nat} {p : TPanel} {b : ByteArray} {y102 : List TRect × Int} {k : Int} (hN : 20000000 ≤ N) (hB : PB p) (hk : kindIx p.Kinds b ≠ -1) (hs : ∀ s ∈ p.Slots, SlotOk p s) (hml : p.Marks.length ≤ 10) (hsl : p.Slots.length ≤ 500)
  (hC : y102.1 = p.Slots.map (cellOf p)) (hi : idx p.Kinds k = some (kindOf p.Kinds b))
include hB hk hs hml hsl hC hi
theorem added_q {x y q : Int} {K : Option (TPanel × Bool × Int)} (hx : Lim x) (hy : Lim y) (hq : q < 2) (m : Nat) :
    F_panel_Added_L8 p b y102 k y K x (m + 1) q = if fitB p (mkS b y x q) then some (resP p (mkS b y x q)) else F_panel_Added_L8 p b y102 k y K x m (w64 (q + 1)) := by
  obtain ⟨hR, he⟩ := mk_cell (q := q) hB hk hx hy
  have hkl := hB.klen
  rw [F_panel_Added_L8.eq_2, if_pos (by simpa using hq), hi, Option.bind_some, sizeOf_ok, Option.bind_some]
  simp only [he]
  have c1 : F_slices_ContainsFunc_Rect y102.1 (fun z0 => F_panel_Added_1 z0 (cellOf p (mkS b y x q)) p) = some ((p.Slots.map (cellOf p)).any fun d => !apart (cellOf p (mkS b y x q)) d p.Gap) := by
    rw [hC]
    refine ContainsR_ok fun d hd => ?_
    obtain ⟨s, hsm, rfl⟩ := List.mem_map.1 hd
    unfold F_panel_Added_1
    rw [apart_ok hR ((hs s hsm).bd hB).2.2.1 hB.g0 hB.g1, Option.bind_some]
  have c2 : F_slices_ContainsFunc_Point p.Marks (fun z0 => F_panel_Added_2 z0 (cellOf p (mkS b y x q))) = some (p.Marks.any fun m => inside (cellOf p (mkS b y x q)) m) := ContainsQ_ok fun m _ => rfl
  rw [isOn_ok hB hk, Option.bind_some, c1, c2]
  unfold fitB
  cases okAt p (mkS b y x q)
  · simp
  · cases (p.Slots.map (cellOf p)).any fun d => !apart (cellOf p (mkS b y x q)) d p.Gap
    · cases p.Marks.any fun m => inside (cellOf p (mkS b y x q)) m
      · simp only [Bool.not_true, Bool.false_eq_true, if_false, Option.bind_some, Bool.not_false, Bool.and_self, if_true]
        unfold resP
        by_cases h5 : 500 ≤ p.Slots.length
        · rw [if_pos (by simp; omega), if_pos h5]; rfl
        · rw [if_neg (by simp; omega), if_neg h5]
          unfold F_slices_Clone_Slot F_panel_own F_slices_Clone_BoardKind F_slices_Clone_Point
          rw [apd_ok (by simp; omega), Option.bind_some, Option.bind_some, apd_ok (by simp; omega), Option.bind_some, apd_ok (by simp; omega), apd_ok (by simp; omega)]
          rfl
      · simp
    · simp
include hN
theorem added_x {y : Int} {K : Option (TPanel × Bool × Int)} (hy : Lim y) : ∀ (xs : List Int) (i : Nat), (∀ x ∈ xs, Lim x) → F_panel_Added_L7 N p b y102 k K y xs i = pick p (candX b y xs) K
  | [], i, _ => by rw [F_panel_Added_L7.eq_1]; rfl
  | x :: xs, i, h => by
    obtain ⟨m, hm⟩ : ∃ m, N = m + 3 := ⟨N - 3, by omega⟩
    have hx := h x (by simp)
    have ih := added_x (K := K) hy xs (i + 1) (fun z hz => h z (by simp [hz]))
    have s0 := added_q hB hk hs hml hsl hC hi (q := 0) (K := pick p (candX b y xs) K) hx hy (by omega) (m + 2)
    have s1 := added_q hB hk hs hml hsl hC hi (q := 1) (K := pick p (candX b y xs) K) hx hy (by omega) (m + 1)
    have s2 : F_panel_Added_L8 p b y102 k y (pick p (candX b y xs) K) x (m + 1) 2 = pick p (candX b y xs) K := by rw [F_panel_Added_L8.eq_2, if_neg (by simp)]
    rw [w64_id (by omega) (by omega)] at s0 s1
    rw [F_panel_Added_L7.eq_2, ih, hm, s0]
    rw [show (0 : Int) + 1 = 1 from rfl, s1]
    rw [show (1 : Int) + 1 = 2 from rfl, s2]
    show _ = pick p ([mkS b y x 0, mkS b y x 1] ++ candX b y xs) K
    rw [pick_append, pick_cons, pick_cons, pick_nil]
theorem added_y {xs : List Int} (hx : ∀ x ∈ xs, Lim x) : ∀ (ys : List Int) (i : Nat), (∀ y ∈ ys, Lim y) → F_panel_Added_L5 N p b y102 k xs ys i = pick p (candP b xs ys) (some (p, false, 0))
  | [], i, _ => by
    have hkl := hB.klen
    rw [F_panel_Added_L5.eq_1]
    unfold F_slices_Clone_Slot F_panel_own F_slices_Clone_BoardKind F_slices_Clone_Point
    rw [apd_ok (by simp; omega), Option.bind_some, Option.bind_some, apd_ok (by simp; omega), apd_ok (by simp; omega)]
    rfl
  | y :: ys, i, h => by
    have ih := added_y hx ys (i + 1) (fun z hz => h z (by simp [hz]))
    rw [F_panel_Added_L5.eq_2, added_x hN hB hk hs hml hsl hC hi (h y (by simp)) xs 0 hx, ih]
    show _ = pick p (candX b y xs ++ candP b xs ys) _
    rw [pick_append]
theorem added_l : ∀ (suf : List TSlot) (i : Nat) (l m : List Int), (∀ s ∈ suf, s ∈ p.Slots) → l.length + suf.length ≤ 1000 → m.length + suf.length ≤ 1000 → l ++ (suf.map fun s => (cellOf p s).X1 + p.Gap) = xsOf p → m ++ (suf.map fun s => (cellOf p s).Y1 + p.Gap) = ysOf p →
    F_panel_Added_L1 N p b y102 k (suf.map (cellOf p)) i l m = pick p (candP b (srtd (xsOf p)) (srtd (ysOf p))) (some (p, false, 0))
  | [], i, l, m, _, hl, hm, e1, e2 => by
    simp only [List.map_nil, List.append_nil] at e1 e2 hl hm
    subst e1 e2
    obtain ⟨l1, l2⟩ := lims hB hs
    rw [List.map_nil, F_panel_Added_L1.eq_1, srtI_ok (by simp at hl; omega), Option.bind_some, srtI_ok (by simp at hm; omega), Option.bind_some]
    unfold cpI
    rw [Option.bind_some, Option.bind_some]
    exact added_y hN hB hk hs hml hsl hC hi (fun x hx => l1 x ((srtd_mem _ _).1 hx)) _ 0 (fun y hy => l2 y ((srtd_mem _ _).1 hy))
  | s :: suf, i, l, m, hm, hl, hm2, e1, e2 => by
    have hb := (hs s (hm s (by simp))).bd hB
    have b3 := hB.g0; have b4 := hB.g1
    simp only [List.length_cons] at hl hm2
    rw [List.map_cons, F_panel_Added_L1.eq_2, w64_id (x := (cellOf p s).X1 + p.Gap) (by omega) (by omega), w64_id (x := (cellOf p s).Y1 + p.Gap) (by omega) (by omega), apd_ok (by simp; omega), Option.bind_some, apd_ok (by simp; omega), Option.bind_some]
    exact added_l suf (i + 1) _ _ (fun t ht => hm t (by simp [ht])) (by simp; omega) (by simp; omega) (by rw [← e1]; simp) (by rw [← e2]; simp)
end
/-- What the program adds. -/
def addP (p : TPanel) (b : ByteArray) : TPanel × Bool × Int :=
  if openErr p = 0 then
    if kindIx p.Kinds b = -1 then (zeroP, false, 9)
    else match (candP b (srtd (xsOf p)) (srtd (ysOf p))).find? (fitB p) with
      | some s => resP p s
      | none => (p, false, 0)
  else (zeroP, false, openErr p)
theorem Added_ok {N : Nat} {p : TPanel} (h : FuelP N p) (b : ByteArray) : F_panel_Added N p b = some (addP p b) := by
  have hN := h.big
  unfold F_panel_Added addP
  rw [open_ok h.names, Option.bind_some]
  by_cases he : openErr p = 0
  · obtain ⟨hB, hsl, hml, hs⟩ := openErr_ok he
    rw [if_pos he, if_pos he, if_neg (by simp), kindAt_ok, Option.bind_some]
    rcases kindIx_lo p.Kinds b with hk | ⟨h0, hi, _, _⟩
    · rw [if_pos (by simp [hk]), if_pos hk]; rfl
    · have hk : kindIx p.Kinds b ≠ -1 := by omega
      rw [if_neg (by simp; omega), if_neg hk]
      have := added_l (y102 := (p.Slots.map (cellOf p), 0)) hN hB hk hs hml hsl rfl hi p.Slots 0 [p.Rail] [p.Rail] (fun _ h => h) (by simp; omega) (by simp; omega) rfl rfl
      rw [this]
      unfold pick
      cases (candP b (srtd (xsOf p)) (srtd (ysOf p))).find? (fitB p) <;> rfl
  · rw [if_neg he, if_neg he, if_pos (by simpa using he)]; rfl
end Go.Proofs.Ytpkicpnbpldkpaa
