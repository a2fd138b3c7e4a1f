/- AreaOf, Lowest, Use, and the law package's awake. -/
import Derived.Test.YtpkicpnbpldkpaaP9
import Derived.Test.YtpkicpnbpldkpaaB3
namespace Go.Proofs.Ytpkicpnbpldkpaa
open Go.RowKit
def areaRc (r : Rc) : Int := (r.X1 - r.X0) * (r.Y1 - r.Y0)
def areaOf : List Rc → Int
  | [] => 0
  | r :: l => areaRc r + areaOf l
theorem areaOf_snoc (x : Rc) : ∀ l, areaOf (l ++ [x]) = areaOf l + areaRc x
  | [] => by simp [areaOf]
  | r :: l => by rw [List.cons_append]; unfold areaOf; rw [areaOf_snoc x l]; omega
/-- A rectangle whose sides are at most so long. -/
def RcBd (r : Rc) : Prop := -3000000 ≤ r.X0 ∧ r.X0 ≤ 3000000 ∧ -3000000 ≤ r.Y0 ∧ r.Y0 ≤ 3000000 ∧ -3000000 ≤ r.X1 ∧ r.X1 ≤ 3000000 ∧ -3000000 ≤ r.Y1 ∧ r.Y1 ≤ 3000000
theorem mul_bd {a b : Int} (h1 : -6000000 ≤ a) (h2 : a ≤ 6000000) (h3 : -6000000 ≤ b) (h4 : b ≤ 6000000) : -36000000000000 ≤ a * b ∧ a * b ≤ 36000000000000 := by
  have e : (a.natAbs * b.natAbs) ≤ 6000000 * 6000000 := Nat.mul_le_mul (by omega) (by omega)
  have e2 : (a * b).natAbs = a.natAbs * b.natAbs := Int.natAbs_mul a b
  omega
theorem areaRc_bd {r : Rc} (h : RcBd r) : -36000000000000 ≤ areaRc r ∧ areaRc r ≤ 36000000000000 := by
  unfold RcBd at h
  exact mul_bd (by omega) (by omega) (by omega) (by omega)
theorem areaOf_bd : ∀ (l : List Rc), (∀ r ∈ l, RcBd r) → -36000000000000 * (l.length : Int) ≤ areaOf l ∧ areaOf l ≤ 36000000000000 * (l.length : Int)
  | [], _ => by simp [areaOf]
  | r :: l, h => by
    have h1 := areaRc_bd (h r (by simp))
    have h2 := areaOf_bd l (fun x hx => h x (by simp [hx]))
    unfold areaOf
    rw [List.length_cons]
    omega
set_option maxHeartbeats 1000000
theorem AreaOf_any (l : List Rc) (v : Value) (w : World) (hl : Sl w 4 Rc.enc v l) (hlen : l.length ≤ 100000) (hbd : ∀ r ∈ l, RcBd r) :
    Calls Try.prog 88 #[v] w fun e w' => e = .returned (.int .i64 (areaOf l)) ∧ Below w.heap.size w w' := by
  obtain ⟨A, c, rfl, h1, h2, h3⟩ := hl
  unfold maxLen at h2
  go_enter Try.func88, Try.ntmps88
  go_wp2
  go_loopw [3, 8] (fun n i wr => ∃ k : Nat, k ≤ l.length ∧ i = .int .i64 k ∧ n = .int .i64 (areaOf (l.take k)) ∧ Below w.heap.size w wr) (fun _ i _ => l.length - (intOf i).toNat)
  case atStart => exact ⟨0, Nat.zero_le _, rfl, rfl, Below.refl _ _⟩
  case round =>
    obtain ⟨k, hk, rfl, rfl, hb⟩ := hrel
    by_cases hlt : k < l.length
    · obtain ⟨b, off, rfl, hbl, hc⟩ := h3 (by omega)
      obtain ⟨x, hx⟩ := get_of_lt hlt
      have hcs := cells4 hb hbl hc hx rfl
      have hbr : b < wr.heap.size := by have := hb.size; omega
      have hlts := lts hbr
      have hxb := hbd x (get_mem hx)
      have hab := areaOf_bd (l.take k) (fun r hr => hbd r (List.mem_of_mem_take hr))
      have hkl : (l.take k).length = k := by simp; omega
      have HT : Hid (areaOf (l.take (k + 1)) = areaOf (l.take k) + (x.X1 - x.X0) * (x.Y1 - x.Y0)) := by rw [take_at hx]; exact areaOf_snoc x _
      have hmb := areaRc_bd hxb
      unfold areaRc at hmb
      obtain ⟨m1, m2⟩ := hmb
      obtain ⟨x1, x2, x3, x4, x5, x6, x7, x8⟩ := hxb
      have hab1 : -36000000000000 * (k : Int) ≤ areaOf (l.take k) := by rw [hkl] at hab; exact hab.1
      have hab2 : areaOf (l.take k) ≤ 36000000000000 * (k : Int) := by rw [hkl] at hab; exact hab.2
      have Hb := hid hb
      clear h3 hc hx hb hbd hkl hab
      generalize areaOf (l.take k) = ar at *
      go_wp2
      go_roundw
      case rel => exact ⟨k + 1, by omega, by go_num, by rw [HT.out], bthen Hb.out (by repeat (first | exact Below.refl _ _ | assumption | (with_reducible refine Below.drew ?_) | (with_reducible refine below_drewN ?_ _) | (with_reducible refine Below.alloc ?_ (by simp <;> omega) _)))⟩
      case measure => simp [intOf]; omega
    · rw [take_all hlt]
      go_wp2
      go_ret
      exact ⟨rfl, hb⟩
def share (n d : Int) : Int × Int := (n / ((Nat.gcd n.toNat d.toNat : Nat) : Int), d / ((Nat.gcd n.toNat d.toNat : Nat) : Int))
theorem gcd_step (a b : Nat) : Nat.gcd b (a % b) = Nat.gcd a b := by rw [Nat.gcd_comm, ← Nat.gcd_rec, Nat.gcd_comm]
theorem Lowest_any (n d : Int) (w : World) (hn : 0 ≤ n) (hn2 : n ≤ 9000000000000000000) (hd : 1 ≤ d) (hd2 : d ≤ 9000000000000000000) :
    Calls Try.prog 87 #[.int .i64 n, .int .i64 d] w fun e w' => e = .returned (.agg #[.int .i64 (share n d).1, .int .i64 (share n d).2]) ∧ Below w.heap.size w w' := by
  obtain ⟨x, rfl⟩ := Int.eq_ofNat_of_zero_le hn
  obtain ⟨y, rfl⟩ := Int.eq_ofNat_of_zero_le (show 0 ≤ d by omega)
  go_enter Try.func87, Try.ntmps87
  go_wp2
  go_loopw [5, 6] (fun u v wr => ∃ a b : Nat, u = .int .i64 a ∧ v = .int .i64 b ∧ Nat.gcd a b = Nat.gcd x y ∧ a ≤ 9000000000000000000 ∧ b ≤ 9000000000000000000 ∧ Below (w.alloc (.cells #[.int .i64 0, .int .i64 0] 70)).heap.size (w.alloc (.cells #[.int .i64 0, .int .i64 0] 70)) wr) (fun _ v _ => (intOf v).toNat)
  case atStart => exact ⟨x, y, rfl, rfl, rfl, by omega, by omega, Below.refl _ _⟩
  case round =>
    obtain ⟨a, b, rfl, rfl, hg, ha, hb, hw⟩ := hrel
    have Hg := hid hg
    have Hw := hid hw
    clear hg hw
    by_cases hb0 : b = 0
    · have hga : a = Nat.gcd x y := by have := Hg.out; rw [hb0, Nat.gcd_zero_right] at this; exact this
      have hgp : 0 < Nat.gcd x y := Nat.gcd_pos_of_pos_right _ (by omega)
      have hap : 1 ≤ a := by omega
      have hne : ((b : Int) != 0) = false := by simp [hb0]
      have hae : ((a : Int) == 0) = false := by simp; omega
      have Hga := hid hga
      have hd1 : 0 ≤ (x : Int) / (a : Int) ∧ (x : Int) / (a : Int) ≤ 9000000000000000000 := ⟨Int.ediv_nonneg (by omega) (by omega), Int.le_trans (Int.ediv_le_self _ (by omega)) (by omega)⟩
      have hd2 : 0 ≤ (y : Int) / (a : Int) ∧ (y : Int) / (a : Int) ≤ 9000000000000000000 := ⟨Int.ediv_nonneg (by omega) (by omega), Int.le_trans (Int.ediv_le_self _ (by omega)) (by omega)⟩
      have hq1 : IntKind.i64.wrap ((x : Int) / (a : Int)) = (x : Int) / (a : Int) := IntWalk.i64_in _ (by omega)
      have hq2 : IntKind.i64.wrap ((y : Int) / (a : Int)) = (y : Int) / (a : Int) := IntWalk.i64_in _ (by omega)
      have hane : ¬ a = 0 := by omega
      clear hga hgp hb0 ha
      go_wp2
      have hbw : wr.heap[w.heap.size]? = some (.cells #[.int .i64 0, .int .i64 0] 70 (0, 0)) := (Hw.out.block _ (by simp)).trans (heap_new _ _ _ rfl)
      have hcc := fun j => cell_of_row _ _ j _ _ _ hbw
      have hff := fun j => frozen_of_row _ _ j _ _ hbw
      have Hbw := hid hbw
      clear hbw
      clear hn hn2 hd
      go_region
      all_goals go_wp2
      have hsh : share (x : Int) (y : Int) = ((x : Int) / (a : Int), (y : Int) / (a : Int)) := by rw [Hga.out]; rfl
      have hC := fun v0 v1 j => cell_of_row _ _ j _ _ _ (set2 (v0 := v0) (v1 := v1) Hbw.out)
      have Hw1 : Below w.heap.size w wr := Below.trans (by repeat (first | exact Below.refl _ _ | assumption | (with_reducible refine Below.drew ?_) | (with_reducible refine below_drewN ?_ _) | (with_reducible refine Below.alloc ?_ (by simp <;> omega) _))) (Hw.out.mono (by simp))
      refine bodyPost_ret (v := .agg #[.int .i64 (share x y).1, .int .i64 (share x y).2]) ?_ rfl ⟨rfl, (((Hw1.setCell (by simp) _).setCell (by simp) _)).drew⟩
      rw [hsh]
      simp [results, Try.results87, go_sem, hC]
    · have hne : ((b : Int) != 0) = true := by simp; omega
      have hbe : ((b : Int) == 0) = false := by simp; omega
      have hmod : a % b < b := Nat.mod_lt _ (by omega)
      have hmod2 : ((a : Int) % (b : Int)) = ((a % b : Nat) : Int) := by omega
      have hgs := hid (gcd_step a b)
      go_wp2
      go_quiet (fail)
      go_wp2
      go_roundw
      case rel => exact ⟨b, a % b, rfl, by rw [← hmod2], hgs.out.trans Hg.out, by omega, by omega, below_drewN Hw.out _⟩
      case measure => simp [intOf]; omega
theorem openErr_bd {p : Panel} (h : openErr p = 0) : PanelBd p ∧ p.Slots.length ≤ 500 ∧ cellsErr p = 0 := by
  refine ⟨?_, marksOk_len h, ?_⟩
  · unfold openErr at h
    split at h
    · omega
    · rename_i hn
      split at h
      · rename_i h1; exact absurd h h1
      · rename_i h1
        have h1 := Classical.not_not.1 h1
        have a1 : within p.W 1 1000000 = true := by cases hh : within p.W 1 1000000 <;> simp_all
        have a2 : within p.H 1 1000000 = true := by cases hh : within p.H 1 1000000 <;> simp_all
        have a3 : within p.Rail 0 1000000 = true := by cases hh : within p.Rail 0 1000000 <;> simp_all
        have a4 : within p.Gap 0 1000000 = true := by cases hh : within p.Gap 0 1000000 <;> simp_all
        exact panelBd_of a1 a2 a3 a4 h1
  · unfold openErr at h
    split at h
    · omega
    · split at h
      · rename_i h1; exact absurd h h1
      · split at h
        · rename_i h1; exact absurd h h1
        · rename_i h1; exact Classical.not_not.1 h1
/-- What a right slot has. -/
def SlotOk (p : Panel) (s : Slot) : Prop := 0 ≤ kindIdx p.Kinds s.Board ∧ 0 ≤ s.Q ∧ s.Q ≤ 3 ∧ 0 ≤ s.At.X ∧ s.At.X ≤ p.W ∧ 0 ≤ s.At.Y ∧ s.At.Y ≤ p.H ∧ isOn p (cellOf p s) = true
theorem slotsErr_ok {p : Panel} : ∀ (l : List Slot) (pre : List Rc), slotsErr p pre l = 0 → ∀ s ∈ l, SlotOk p s
  | [], _, _, s, hs => by simp at hs
  | a :: l, pre, h, s, hs => by
    unfold slotsErr at h
    split at h
    · omega
    · rename_i h1
      split at h
      · omega
      · rename_i h2
        split at h
        · omega
        · rename_i h3
          split at h
          · omega
          · rcases List.mem_cons.1 hs with rfl | hs
            · have a1 : within s.Q 0 3 = true := by cases hh : within s.Q 0 3 <;> simp_all
              have a2 : within s.At.X 0 p.W = true := by cases hh : within s.At.X 0 p.W <;> simp_all
              have a3 : within s.At.Y 0 p.H = true := by cases hh : within s.At.Y 0 p.H <;> simp_all
              have a4 : isOn p (cellOf p s) = true := by cases hh : isOn p (cellOf p s) <;> simp_all
              have := within_iff.1 a1; have := within_iff.1 a2; have := within_iff.1 a3
              exact ⟨by omega, by omega, by omega, by omega, by omega, by omega, by omega, a4⟩
            · exact slotsErr_ok l _ h s hs
theorem slots_ok {p : Panel} (h : openErr p = 0) : ∀ s ∈ p.Slots, SlotOk p s := by
  have h2 := (openErr_bd h).2.2
  unfold cellsErr at h2
  split at h2
  · omega
  · exact slotsErr_ok _ _ h2
theorem sizeWH_bd {p : Panel} (hB : PanelBd p) {s : Slot} (h : 0 ≤ kindIdx p.Kinds s.Board) : 1 ≤ sizeW (kindOf p.Kinds s.Board) s.Q ∧ sizeW (kindOf p.Kinds s.Board) s.Q ≤ 1000000 ∧ 1 ≤ sizeH (kindOf p.Kinds s.Board) s.Q ∧ sizeH (kindOf p.Kinds s.Board) s.Q ≤ 1000000 := by
  have := hB.kinds _ (get_mem (kindOf_get h))
  unfold sizeW sizeH
  split <;> omega
theorem cell_bd {p : Panel} (h : openErr p = 0) : ∀ r ∈ p.Slots.map (cellOf p), RcBd r ∧ 0 ≤ r.X0 ∧ r.X0 < r.X1 ∧ 0 ≤ r.Y0 ∧ r.Y0 < r.Y1 ∧ r.X1 ≤ p.W - p.Rail ∧ r.Y1 ≤ p.H - p.Rail ∧ p.Rail ≤ r.X0 ∧ p.Rail ≤ r.Y0 := by
  intro r hr
  obtain ⟨s, hs, rfl⟩ := List.mem_map.1 hr
  obtain ⟨k1, k2, k3, k4, k5, k6, k7, k8⟩ := slots_ok h s hs
  obtain ⟨hB, _, _⟩ := openErr_bd h
  have hsz := sizeWH_bd hB k1
  have b1 := hB.w1; have b2 := hB.h1; have b3 := hB.r0
  unfold isOn at k8
  simp only [Bool.and_eq_true, decide_eq_true_eq] at k8
  unfold RcBd
  unfold cellOf at *
  dsimp only at *
  omega
/-- Use: its share and fault. -/
noncomputable def useS (p : Panel) : Int × Int := if openErr p = 0 then share (areaOf (p.Slots.map (cellOf p))) (p.W * p.H) else (0, 0)
theorem areaOf_nonneg : ∀ (l : List Rc), (∀ r ∈ l, r.X0 ≤ r.X1 ∧ r.Y0 ≤ r.Y1) → 0 ≤ areaOf l
  | [], _ => Int.le_refl _
  | r :: l, h => by
    have h1 := h r (by simp)
    have h2 := areaOf_nonneg l (fun x hx => h x (by simp [hx]))
    have h3 : 0 ≤ areaRc r := Int.mul_nonneg (by omega) (by omega)
    unfold areaOf; omega
theorem Use_any (p : Panel) (kv sv mv : Value) (w : World) (hok : PanelOk w p kv sv mv) : Calls Try.prog 41 #[.agg #[.int .i64 p.W, .int .i64 p.H, .int .i64 p.Rail, .int .i64 p.Gap, kv, sv, mv]] w fun e w' => e = .returned (.tuple #[.agg #[.int .i64 (useS p).1, .int .i64 (useS p).2], .int .i64 (openErr p)]) ∧ Below w.heap.size w w' := by
  have Hok := hid hok
  clear hok
  go_enter Try.func41, Try.ntmps41
  go_wp2_with fail
  refine (open_any p kv sv mv _ (Hok.out.ext (by repeat (first | exact Below.refl _ _ | assumption | (with_reducible refine Below.drew ?_) | (with_reducible refine below_drewN ?_ _) | (with_reducible refine Below.alloc ?_ (by simp <;> omega) _))))).mono ?_
  rintro e w1 ⟨v, rfl, ho, hb1⟩
  have hb1c := bcell hb1
  have hw1 : Below w.heap.size w w1 := Below.trans (by repeat (first | exact Below.refl _ _ | assumption | (with_reducible refine Below.drew ?_) | (with_reducible refine below_drewN ?_ _) | (with_reducible refine Below.alloc ?_ (by simp <;> omega) _))) (hb1.mono (by simp; omega))
  have hB1 : w1.heap[w.heap.size + 1]? = some (.cells #[.int .i64 0, .int .i64 0] 70 (0, 0)) := (hb1.block _ (by simp)).trans (heap_new _ _ _ (by simp))
  have hz1 : w.heap.size + 1 < w1.heap.size ∧ w.heap.size < w1.heap.size := by have := hb1.size; simp at this; omega
  by_cases hoe : openErr p = 0
  · obtain ⟨hbd, hlen, _⟩ := openErr_bd hoe
    have hcb := cell_bd hoe
    rw [if_pos hoe] at ho
    have hu : useS p = share (areaOf (p.Slots.map (cellOf p))) (p.W * p.H) := if_pos hoe
    have Hu := hid hu
    have h1 := areaOf_bd (p.Slots.map (cellOf p)) (fun r hr => (hcb r hr).1)
    have h2 := areaOf_nonneg (p.Slots.map (cellOf p)) (fun r hr => by have := hcb r hr; omega)
    have hl2 : (p.Slots.map (cellOf p)).length ≤ 500 := by simp; omega
    have cA := hid (fun w2 (hx : Below w1.heap.size w1 w2) => AreaOf_any (p.Slots.map (cellOf p)) v w2 ((ho.ext hx).sl (fun x _ => Rc.len x)) (by omega) (fun r hr => (hcb r hr).1))
    have hm1 : 1 * 1 ≤ p.W * p.H := Int.mul_le_mul hbd.w0 hbd.h0 (by omega) (by have := hbd.w0; omega)
    have hm2 : p.W * p.H ≤ 1000000 * 1000000 := Int.mul_le_mul hbd.w1 hbd.h1 (by have := hbd.h0; omega) (by omega)
    generalize hA : areaOf (p.Slots.map (cellOf p)) = ar at *
    have cL := hid (fun w2 => Lowest_any ar (p.W * p.H) w2 h2 (by omega) (by omega) (by omega))
    clear hA h1 h2 hl2 hcb hlen hu ho hb1
    have Hoe := hid hoe
    rw [hoe]
    clear hoe
    go_wp2
    refine wp_region_lat_tail 8 (by kernel_rfl) (by kernel_rfl) ?_
    simp only [List.take_succ_cons, List.take_zero, List.drop_succ_cons, List.drop_zero]
    repeat (go_big_quiet_step ((first | (go_at_call 88; exact lat_of (cA.out _ (lat_below _ _))) | (go_at_call 87; exact lat_of (cL.out _)))))
    refine wpQuiet_nil ?_
    intro w2 hb2
    have hb2c := bcell hb2
    have hB2 := (hb2.block _ hz1.1).trans hB1
    have hcc := fun j => cell_of_row _ _ j _ _ _ hB2
    have hff := fun j => frozen_of_row _ _ j _ _ hB2
    have HB2 := hid hB2
    have hw2 := bthen hw1 hb2
    clear hB2 hB1
    go_wp2
    have hC := fun v0 v1 j => cell_of_row _ _ j _ _ _ (set2 (v0 := v0) (v1 := v1) HB2.out)
    refine bodyPost_ret (v := .tuple #[.agg #[.int .i64 (useS p).1, .int .i64 (useS p).2], .int .i64 0]) ?_ rfl ⟨by rw [Hoe.out], ((hw2.setCell (by simp) _).setCell (by simp) _)⟩
    rw [Hu.out]
    simp [results, Try.results41, go_sem, hC]
  · have hu : useS p = (0, 0) := if_neg hoe
    have hoe' : (openErr p != 0) = true := bne_iff_ne.2 hoe
    have hcc := fun j => cell_of_row _ _ j _ _ _ hB1
    have hff := fun j => frozen_of_row _ _ j _ _ hB1
    have HB1 := hid hB1
    have Hu := hid hu
    clear hoe ho hu hB1 hb1c
    go_wp2
    have hC := fun v0 v1 j => cell_of_row _ _ j _ _ _ (set2 (v0 := v0) (v1 := v1) HB1.out)
    refine bodyPost_ret (v := .tuple #[.agg #[.int .i64 (useS p).1, .int .i64 (useS p).2], .int .i64 (openErr p)]) ?_ rfl ⟨rfl, ((hw1.setCell (by simp) _).setCell (by simp) _)⟩
    rw [Hu.out]
    simp [results, Try.results41, go_sem, hC]
/-- The law package's awake: always true. -/
theorem awake_any (w : World) : Calls Try.prog 15 #[] w fun e w' => e = .returned (.bool true) ∧ Below w.heap.size w w' := by
  have hP : PanelOk w ⟨1, 1, 0, 0, [], [], []⟩ (.slice none 0 0) (.slice none 0 0) (.slice none 0 0) := ⟨Sl.nil _ _ _, Sl.nil _ _ _, Sl.nil _ _ _, fun k hk => by simp at hk⟩
  have hE : openErr ⟨1, 1, 0, 0, [], [], []⟩ = 0 := by simp [openErr, within, checkKinds, kindsErr, cellsErr, slotsErr, marksErr]
  have hU : useS ⟨1, 1, 0, 0, [], [], []⟩ = (0, 1) := by unfold useS; rw [if_pos hE]; simp [areaOf, share]
  have c := hid (Use_any ⟨1, 1, 0, 0, [], [], []⟩ _ _ _ w hP)
  rw [hE, hU] at c
  dsimp only at c
  clear hP hE hU
  go_enter Try.func15, Try.ntmps15
  go_wp2_with fail
  refine c.out.mono ?_
  rintro e w1 ⟨rfl, hb1⟩
  go_wp2
  go_ret
  exact ⟨rfl, bthen hb1 (by repeat (first | exact Below.refl _ _ | assumption | (with_reducible refine Below.drew ?_) | (with_reducible refine below_drewN ?_ _) | (with_reducible refine Below.alloc ?_ (by simp <;> omega) _)))⟩
end Go.Proofs.Ytpkicpnbpldkpaa
