/- Tabs. -/
import Derived.Test.YtpkicpnbpldkpaaPB
import Derived.Maps.AppendAt
import Derived.Deep.RegionHeldLaw
import Derived.Deep.AppendLies
namespace Go.Proofs.Ytpkicpnbpldkpaa
open Go.RowKit
theorem info_Pt : (Try.prog.info? 32).map (fun i => (i.zero, i.size, i.bytes)) = some (some (.agg #[.int .i64 0, .int .i64 0]), 2, 16) := by kernel_rfl
theorem partN_two (len most : Int) : 2 ≤ partN len most := by unfold partN; omega
theorem sideTabs_len (c : Rc) (i : Nat) (len n : Int) (k : Nat) : (sideTabs c i len n k).length = k := by simp [sideTabs]
theorem sideTabs_snoc (c : Rc) (i : Nat) (len n : Int) (k : Nat) : sideTabs c i len n (k + 1) = sideTabs c i len n k ++ [tabPt c i (len * ((k : Int) + 1) / n)] := by simp [sideTabs, List.range_succ]
theorem tabsTo_snoc (c : Rc) (most : Int) (m : Nat) : tabsTo c most (m + 1) = tabsTo c most m ++ sideAll c most m := by simp [tabsTo, List.range_succ]
theorem manyTabs_snoc (c : Rc) (most : Int) (m : Nat) : manyTabs c most (m + 1) = manyTabs c most m + (partN (partLen c m) most - 1) := by simp [manyTabs, List.range_succ]
theorem tabsTo_len (c : Rc) (most : Int) : ∀ m : Nat, ((tabsTo c most m).length : Int) = manyTabs c most m
  | 0 => rfl
  | m + 1 => by
    have ih := tabsTo_len c most m
    have h2 := partN_two (partLen c m) most
    rw [tabsTo_snoc, manyTabs_snoc, List.length_append, Int.natCast_add, ih]
    unfold sideAll
    rw [sideTabs_len]; omega
theorem manyTabs_mono (c : Rc) (most : Int) (m : Nat) : ∀ n : Nat, m ≤ n → manyTabs c most m ≤ manyTabs c most n
  | 0, h => by rw [show m = 0 by omega]; exact Int.le_refl _
  | n + 1, h => by
    rcases Nat.lt_or_ge n m with h1 | h1
    · rw [show m = n + 1 by omega]; exact Int.le_refl _
    · have := manyTabs_mono c most m n h1
      have h2 := partN_two (partLen c n) most
      rw [manyTabs_snoc]; omega
def cnr (c : Rc) : Nat → Pt
  | 0 => ⟨c.X0, c.Y0⟩
  | 1 => ⟨c.X1, c.Y0⟩
  | 2 => ⟨c.X1, c.Y1⟩
  | _ => ⟨c.X0, c.Y1⟩
theorem dirs (c : Rc) (hx : c.X0 < c.X1) (hy : c.Y0 < c.Y1) (i : Nat) (hi : i < 4) : ∃ dx dy : Int, -1 ≤ dx ∧ dx ≤ 1 ∧ -1 ≤ dy ∧ dy ≤ 1 ∧ ((cnr c ((i + 1) % 4)).X - (cnr c i).X).tdiv (partLen c i) = dx ∧ ((cnr c ((i + 1) % 4)).Y - (cnr c i).Y).tdiv (partLen c i) = dy ∧
    ∀ d, tabPt c i d = ⟨(cnr c i).X + dx * d, (cnr c i).Y + dy * d⟩ := by
  have q1 : ∀ a b : Int, a < b → (b - a).tdiv (b - a) = 1 := fun a b h => Int.tdiv_self (by omega)
  have q2 : ∀ a b : Int, a < b → (a - b).tdiv (b - a) = -1 := fun a b h => by rw [show a - b = -(b - a) by omega, Int.neg_tdiv, q1 a b h]
  match i, hi with
  | 0, _ => exact ⟨1, 0, by omega, by omega, by omega, by omega, q1 _ _ hx, by simp [cnr], fun d => by simp [cnr, tabPt]⟩
  | 1, _ => exact ⟨0, 1, by omega, by omega, by omega, by omega, by simp [cnr], q1 _ _ hy, fun d => by simp [cnr, tabPt]⟩
  | 2, _ => exact ⟨-1, 0, by omega, by omega, by omega, by omega, q2 _ _ hx, by simp [cnr], fun d => by simp [cnr, tabPt, Int.sub_eq_add_neg]⟩
  | 3, _ => exact ⟨0, -1, by omega, by omega, by omega, by omega, by simp [cnr], q2 _ _ hy, fun d => by simp [cnr, tabPt, Int.sub_eq_add_neg]⟩
theorem partLen_bd (c : Rc) (hx : c.X0 < c.X1) (hy : c.Y0 < c.Y1) (h : RcBd c) (i : Int) : 1 ≤ partLen c i ∧ partLen c i ≤ 6000000 := by
  unfold RcBd at h; unfold partLen; split <;> omega
theorem cnr_bd (c : Rc) (h : RcBd c) (i : Nat) : -3000000 ≤ (cnr c i).X ∧ (cnr c i).X ≤ 3000000 ∧ -3000000 ≤ (cnr c i).Y ∧ (cnr c i).Y ≤ 3000000 := by
  unfold RcBd at h; unfold cnr; split <;> (dsimp only; omega)
theorem alloc1 {B : Nat} {w : World} (o : Obj) (h : B ≤ w.heap.size) : Below B w (w.alloc o) := (Below.refl _ w).alloc h _
theorem alloc2 {B : Nat} {w : World} (o o' : Obj) (h : B ≤ w.heap.size) : Below B w ((w.alloc o).alloc o') := ((Below.refl _ w).alloc h _).alloc (by simp; omega) _
def TabsPost (p : Panel) (slot most : Int) (w : World) (e : Ending) (w' : World) : Prop :=
  ∃ v, e = .returned (.tuple #[v, .int .i64 (tabsErr p slot most)]) ∧ Own w' w.heap.size 32 2 Pt.enc v (tabs p slot most) ∧ Below w.heap.size w w'
theorem TabsPost.err {p : Panel} {slot most : Int} {w w' : World} {f : Int} (h : tabsErr p slot most = f) (hf : f ≠ 0) (hb : Below w.heap.size w w') : TabsPost p slot most w (.returned (.tuple #[.slice none 0 0, .int .i64 f])) w' :=
  ⟨_, by rw [h], by unfold tabs; rw [if_neg (by rw [h]; exact hf)]; exact Own.nil _ _ _ _ _, hb⟩
theorem TabsPost.ok {p : Panel} {slot most : Int} {w w' : World} {v : Value} (h : tabsErr p slot most = 0) (ho : Own w' w.heap.size 32 2 Pt.enc v (tabs p slot most)) (hb : Below w.heap.size w w') : TabsPost p slot most w (.returned (.tuple #[v, .int .i64 0])) w' :=
  ⟨_, by rw [h], ho, hb⟩
set_option maxHeartbeats 4000000
set_option maxRecDepth 100000 in
theorem Tabs_any (p : Panel) (kv sv mv : Value) (slot most : Int) (w : World) (hok : PanelOk w p kv sv mv) : Calls Try.prog 16 #[.agg #[.int .i64 p.W, .int .i64 p.H, .int .i64 p.Rail, .int .i64 p.Gap, kv, sv, mv], .int .i64 slot, .int .i64 most] w (TabsPost p slot most w) := by
  have Hok := hid hok
  clear hok
  have HT : Hid (tabsErr p slot most = if openErr p ≠ 0 then openErr p else if within slot 0 ((p.Slots.length : Int) - 1) = false then 9 else if within most 1 1000000 = false then 1
    else if 2000 < manyTabs (cellOf p ((p.Slots[slot.toNat]?).getD ⟨ByteArray.empty, 0, ⟨0, 0⟩⟩)) most 4 then 2 else 0) := rfl
  go_enter Try.func16, Try.ntmps16
  go_wp2_with fail
  refine (open_any p kv sv mv _ (Hok.out.ext (by repeat (first | exact Below.refl _ _ | assumption | (with_reducible refine Below.drew ?_) | (with_reducible refine below_drewN ?_ _) | (with_reducible refine Below.alloc ?_ (by simp <;> omega) _))))).mono ?_
  rintro e w1 ⟨v, rfl, ho, hb1⟩
  have hb1c := bcell hb1
  have hw1 : Below w.heap.size w w1 := Below.trans (by repeat (first | exact Below.refl _ _ | assumption | (with_reducible refine Below.drew ?_) | (with_reducible refine below_drewN ?_ _) | (with_reducible refine Below.alloc ?_ (by simp <;> omega) _))) (hb1.mono (by simp; omega))
  have hz1 : w.heap.size + 1 < w1.heap.size ∧ w.heap.size < w1.heap.size := by have := hb1.size; simp at this; omega
  by_cases hoe : openErr p ≠ 0
  · have HE := hid (fun w' => TabsPost.err (w := w) (w' := w') (HT.out.trans (if_pos hoe)) hoe)
    have hoe' : (openErr p != 0) = true := bne_iff_ne.2 hoe
    clear hoe ho
    go_wp2
    go_ret2
    exact HE.out _ hw1
  have HT2 := hid (HT.out.trans (if_neg hoe))
  have hoe := Classical.not_not.1 hoe
  obtain ⟨hbd, hlen, _⟩ := openErr_bd hoe
  have hcb := cell_bd hoe
  rw [if_pos hoe] at ho
  have hll : (p.Slots.map (cellOf p)).length = p.Slots.length := by simp
  obtain ⟨A, c, rfl, h1, h2, h3⟩ := ho.sl (fun x _ => Rc.len x)
  unfold maxLen at h2
  rw [hll] at h1 h3 ⊢
  rw [hoe]
  clear HT hoe hll ho
  have c1 := hid (fun w => within_46 slot 0 ((p.Slots.length : Int) - 1) w)
  have c2 := hid (fun w => within_46 most 1 1000000 w)
  have hM1 : Hid (w1.heap[w.heap.size + 1]? = some (.cells #[.int .i64 most] 3 (0, 0))) := (hb1.block _ (by simp)).trans (heap_new _ _ _ (by simp))
  cases hq1 : within slot 0 ((p.Slots.length : Int) - 1) with
  | false =>
    rw [hq1] at c1 HT2
    have HE := hid (fun w' => TabsPost.err (w := w) (w' := w') (show tabsErr p slot most = 9 from HT2.out) (by omega))
    clear hq1
    go_wp2_with (go_at_call 46; (with_reducible refine (c1.out _).mono ?_); rintro e w' ⟨rfl, rfl⟩)
    go_ret2
    exact HE.out _ hw1
  | true =>
  rw [hq1] at c1 HT2
  obtain ⟨q10, q11⟩ := within_iff.1 hq1
  clear hq1
  cases hq2 : within most 1 1000000 with
  | false =>
    rw [hq2] at c2 HT2
    have HE := hid (fun w' => TabsPost.err (w := w) (w' := w') (show tabsErr p slot most = 1 from HT2.out) (by omega))
    clear hq2
    go_wp2_with (first | (go_at_call 46; (with_reducible refine (c1.out _).mono ?_); rintro e w' ⟨rfl, rfl⟩) | (go_at_call 46; (with_reducible refine (c2.out _).mono ?_); rintro e w' ⟨rfl, rfl⟩))
    go_ret2
    exact HE.out _ hw1
  | true =>
  rw [hq2] at c2 HT2
  obtain ⟨q20, q21⟩ := within_iff.1 hq2
  clear hq2
  obtain ⟨b, off, rfl, hbl, hc⟩ := h3 (by omega)
  obtain ⟨k, rfl⟩ := Int.eq_ofNat_of_zero_le q10
  obtain ⟨s, hs⟩ := get_of_lt (l := p.Slots) (k := k) (by omega)
  have hsm : (p.Slots.map (cellOf p))[k]? = some (cellOf p s) := by simp [hs]
  have hcs := cells4 (Below.refl w1.heap.size w1) hbl hc hsm rfl
  have hbr := lts hbl
  obtain ⟨hR, r1, r2, r3, r4, _⟩ := hcb _ (get_mem hsm)
  have HS : Hid (tabsErr p k most = if 2000 < manyTabs (cellOf p s) most 4 then 2 else 0) := by
    have := HT2.out
    rw [show ((k : Int)).toNat = k from rfl, hs] at this
    exact this
  have HV : Hid (tabs p k most = if tabsErr p k most = 0 then tabsTo (cellOf p s) most 4 else []) := by
    show tabs p k most = _
    unfold tabs
    rw [show ((k : Int)).toNat = k from rfl, hs]; rfl
  clear HT2 h3 hc hs hsm hcb hbd
  generalize cellOf p s = d at *
  have hpb := partLen_bd d r2 r4 hR
  have hcb := cnr_bd d hR
  have hdr := dirs d r2 r4
  have HR := hid hR
  have Hdr := hid hdr
  have Hpb := hid hpb
  have Hcb := hid hcb
  clear hR hdr hpb hcb
  go_wp2_with (first | (go_at_call 46; (with_reducible refine (c1.out _).mono ?_); rintro e w' ⟨rfl, rfl⟩) | (go_at_call 46; (with_reducible refine (c2.out _).mono ?_); rintro e w' ⟨rfl, rfl⟩))
  generalize hW : (World.alloc (World.alloc w1 (.cells #[.int .i64 d.X0, .int .i64 d.Y0, .int .i64 d.X1, .int .i64 d.Y1] 42)) (.cells #[.int .i64 d.X0, .int .i64 d.Y0, .int .i64 d.X1, .int .i64 d.Y0, .int .i64 d.X1, .int .i64 d.Y1, .int .i64 d.X0, .int .i64 d.Y1] 32)) = W
  have hWb : Below w1.heap.size w1 W := by rw [← hW]; exact (by repeat (first | exact Below.refl _ _ | assumption | (with_reducible refine Below.drew ?_) | (with_reducible refine below_drewN ?_ _) | (with_reducible refine Below.alloc ?_ (by simp <;> omega) _)))
  have hWs : W.heap.size = w1.heap.size + 2 := by rw [← hW]; simp
  have HD : Hid (W.heap[w1.heap.size]? = some (.cells #[.int .i64 d.X0, .int .i64 d.Y0, .int .i64 d.X1, .int .i64 d.Y1] 42 (0, 0))) := by rw [← hW]; exact heap_old (heap_new _ _ _ rfl)
  have HC : Hid (W.heap[w1.heap.size + 1]? = some (.cells #[.int .i64 d.X0, .int .i64 d.Y0, .int .i64 d.X1, .int .i64 d.Y0, .int .i64 d.X1, .int .i64 d.Y1, .int .i64 d.X0, .int .i64 d.Y1] 32 (0, 0))) := by rw [← hW]; exact heap_new _ _ _ (by simp)
  have HM : Hid (W.heap[w.heap.size + 1]? = some (.cells #[.int .i64 most] 3 (0, 0))) := (hWb.block _ hz1.1).trans hM1.out
  have hwW : Below w.heap.size w W := bthen hw1 hWb
  have HWb := hid hWb
  have HWs := hid hWs
  have HwW := hid hwW
  have cT := hid (fun (i : Int) w2 (hx : Below W.heap.size W w2) => Tabs1_any d most i w1.heap.size (w.heap.size + 1) 3 w2 ((hx.block _ (by omega)).trans HD.out) ((hx.block _ (by omega)).trans HM.out) HR.out (by omega) (by omega) q20 q21)
  have HN := hid (fun i => partN_bd (len := partLen d i) (most := most) (by have := (Hpb.out i).1; omega) (by have := (Hpb.out i).2; omega) q20 (by omega))
  clear hW hWb hwW hb1c hb1 hw1 hWs hcs hbr hbl
  clear r1 r2 r3 r4
  go_loopw [13, 70] (fun n i wr => ∃ m : Nat, m ≤ 4 ∧ i = .int .i64 m ∧ n = .int .i64 (manyTabs d most m) ∧ 0 ≤ manyTabs d most m ∧ manyTabs d most m ≤ 20000000 * (m : Int) ∧ Below W.heap.size W wr) (fun _ i _ => 4 - (intOf i).toNat)
  case atStart => exact ⟨0, Nat.zero_le _, rfl, rfl, Int.le_refl _, Int.le_refl _, Below.refl _ _⟩
  case round =>
    obtain ⟨m, hm, rfl, rfl, hn0, hn1, hb⟩ := hrel
    by_cases hlt : m < 4
    · have HS1 := hid (manyTabs_snoc d most m)
      have cT1 := hid (cT.out m wr hb)
      obtain ⟨n1, n2, n3, n4⟩ := HN.out m
      have Hb := hid hb
      clear hb
      generalize partN (partLen d m) most = pn at *
      generalize partLen d m = pl at *
      generalize manyTabs d most m = mt at *
      go_wp2_with fail
      refine cT1.out.mono ?_
      rintro e w2 ⟨rfl, hb2⟩
      go_wp2
      go_roundw
      case rel => exact ⟨m + 1, by omega, by go_num, by rw [HS1.out], by rw [HS1.out]; omega, by rw [HS1.out]; omega, bthen Hb.out hb2⟩
      case measure => simp [intOf]; omega
    · have hm4 : m = 4 := by omega
      subst hm4
      have hwr : Below w.heap.size w wr := bthen HwW.out hb
      by_cases hbig : 2000 < manyTabs d most 4
      · have HE := hid (fun w' => TabsPost.err (w := w) (w' := w') (show tabsErr p k most = 2 from HS.out.trans (if_pos hbig)) (by omega))
        clear hb HC HD HM
        go_wp2
        go_ret2
        exact HE.out _ hwr
      have HS0 := hid (HS.out.trans (if_neg hbig))
      have HV0 := hid (HV.out.trans (if_pos HS0.out))
      have HL := hid (fun m hm => Int.le_trans (manyTabs_mono d most m 4 hm) (Int.not_lt.1 hbig))
      have Hb := hid hb
      have Hwr := hid hwr
      have cT2 := hid (fun (i : Int) w2 (hx : Below wr.heap.size wr w2) => cT.out i w2 (bthen hb hx))
      have HC2 : Hid (wr.heap[w1.heap.size + 1]? = some (.cells #[.int .i64 d.X0, .int .i64 d.Y0, .int .i64 d.X1, .int .i64 d.Y0, .int .i64 d.X1, .int .i64 d.Y1, .int .i64 d.X0, .int .i64 d.Y1] 32 (0, 0))) := (hb.block _ (by have := HWs.out; omega)).trans HC.out
      have hsz : w1.heap.size + 1 < wr.heap.size := by have := hb.size; have := HWs.out; omega
      clear HS HV hb hwr HC cT hn0 hn1 hm hlt
      have hle : manyTabs d most 4 ≤ 2000 := Int.not_lt.1 hbig
      clear hbig
      go_wp2
      obtain ⟨X, hX⟩ : ∃ X, X = wr := ⟨wr, rfl⟩
      subst hX
      have hK := fun j => cell_of_row X (w1.heap.size + 1) j _ _ _ HC2.out
      have hck : ∀ j : Nat, j < 4 → X.cell? ⟨w1.heap.size + 1, j * 2, none⟩ = some (.int .i64 (cnr d j).X) ∧ X.cell? ⟨w1.heap.size + 1, j * 2 + 1, none⟩ = some (.int .i64 (cnr d j).Y) := by
        intro j hj
        match j, hj with
        | 0, _ => exact ⟨hK 0, hK 1⟩
        | 1, _ => exact ⟨hK 2, hK 3⟩
        | 2, _ => exact ⟨hK 4, hK 5⟩
        | 3, _ => exact ⟨hK 6, hK 7⟩
      have Hck := hid hck
      clear hK hck HM HD HC2
      go_loopw [17, 88] (fun v i x => ∃ m : Nat, m ≤ 4 ∧ i = .int .i64 m ∧ Own x X.heap.size 32 2 Pt.enc v (tabsTo d most m) ∧ Below X.heap.size X x) (fun _ i _ => 4 - (intOf i).toNat)
      case atStart => exact ⟨0, Nat.zero_le _, rfl, Own.nil _ _ _ _ _, Below.refl _ _⟩
      case round =>
        obtain ⟨m, hm, rfl, hown, hb⟩ := hrel
        have Hown := hid hown
        have Hb := hid hb
        clear hown
        by_cases hlt : m < 4
        · obtain ⟨m1, hm1⟩ : ∃ m1 : Nat, m1 = (m + 1) % 4 := ⟨_, rfl⟩
          have hm1i : ((m : Int) + 1) % 4 = (m1 : Int) := by omega
          have hm1l : m1 < 4 := by omega
          obtain ⟨dx, dy, x1, x2, x3, x4, e1, e2, e3⟩ := Hdr.out m hlt
          rw [← hm1] at e1 e2
          have E3 := hid e3
          obtain ⟨p1, p2, p3, p4⟩ := Hcb.out m
          obtain ⟨p5, p6, p7, p8⟩ := Hcb.out m1
          obtain ⟨l1, l2⟩ := Hpb.out m
          obtain ⟨n1, n2, n3, n4⟩ := HN.out m
          have cT3 := hid (fun w2 hx => cT2.out m w2 hx)
          have hc1 := Hck.out m hlt
          have hc2 := Hck.out m1 hm1l
          have hc : wr.cell? ⟨w1.heap.size + 1, m * 2, none⟩ = some (.int .i64 (cnr d m).X) ∧ wr.cell? ⟨w1.heap.size + 1, m * 2 + 1, none⟩ = some (.int .i64 (cnr d m).Y) := ⟨(hb.cell (p := ⟨_, _, _⟩) hsz).trans hc1.1, (hb.cell (p := ⟨_, _, _⟩) hsz).trans hc1.2⟩
          have hc' : wr.cell? ⟨w1.heap.size + 1, m1 * 2, none⟩ = some (.int .i64 (cnr d m1).X) ∧ wr.cell? ⟨w1.heap.size + 1, m1 * 2 + 1, none⟩ = some (.int .i64 (cnr d m1).Y) := ⟨(hb.cell (p := ⟨_, _, _⟩) hsz).trans hc2.1, (hb.cell (p := ⟨_, _, _⟩) hsz).trans hc2.2⟩
          have hXs : X.heap.size ≤ wr.heap.size := hb.size
          have hszr : w1.heap.size + 1 < wr.heap.size := by have := hb.size; omega
          have hlts := lts hszr
          have hpl : partLen d m = partLen d (m : Int) := rfl
          have HSA : Hid (sideAll d most m = sideTabs d m (partLen d m) (partN (partLen d m) most) (partN (partLen d m) most - 1).toNat) := rfl
          have HTS := hid (tabsTo_snoc d most m)
          have HTL := hid (tabsTo_len d most m)
          have HMS := hid (manyTabs_snoc d most m)
          have HL1 := hid (HL.out (m + 1) (by omega))
          have E1 := hid e1
          have E2 := hid e2
          clear hb hc1 hc2 hm1 e1 e2 e3 hpl n1 n2
          generalize partN (partLen d m) most = pn at *
          generalize partLen d m = pl at *
          generalize hpx : cnr d m = P at *
          generalize hqx : cnr d m1 = Q at *
          clear hpx hqx
          go_wp2_with fail
          refine (cT3.out _ (Hb.out.trans (alloc2 _ _ hXs))).mono ?_
          rintro e w2 ⟨rfl, hb2⟩
          have hg1 : Hid (w2.heap[wr.heap.size]? = some (.cells #[.int .i64 P.X, .int .i64 P.Y] 32 (0, 0))) := (hb2.block _ (by simp; omega)).trans (heap_old (heap_new _ _ _ rfl))
          have hg2 : Hid (w2.heap[wr.heap.size + 1]? = some (.cells #[.int .i64 Q.X, .int .i64 Q.Y] 32 (0, 0))) := (hb2.block _ (by simp)).trans (heap_new _ _ _ (by simp))
          have hw2 : Below X.heap.size X w2 := Hb.out.trans ((alloc2 _ _ hXs).trans (hb2.mono (by simp; omega)))
          have hwr2 : Below wr.heap.size wr w2 := (alloc2 _ _ (Nat.le_refl _)).trans (hb2.mono (by simp; omega))
          have hz2 : wr.heap.size + 1 < w2.heap.size := by have := hb2.size; simp at this; omega
          have Hw2 := hid hw2
          have Ho2 := hid (Hown.out.ext hwr2)
          have Hlt := hid Hown.out.lt
          clear hb2 hw2 hwr2 hc hc' hlts
          obtain ⟨Y, hY⟩ : ∃ Y, Y = wr := ⟨wr, rfl⟩
          subst hY
          go_wp2
          go_loopw [17, 23] (fun v i x => ∃ n : Nat, (n : Int) ≤ pn - 1 ∧ i = .int .i64 ((n : Int) + 1) ∧ Own x X.heap.size 32 2 Pt.enc v (tabsTo d most m ++ sideTabs d m pl pn n) ∧ v.ownBlock ≠ some Y.heap.size ∧ v.ownBlock ≠ some (Y.heap.size + 1) ∧
            x.heap[Y.heap.size]? = some (.cells #[.int .i64 P.X, .int .i64 P.Y] 32 (0, 0)) ∧ x.heap[Y.heap.size + 1]? = some (.cells #[.int .i64 Q.X, .int .i64 Q.Y] 32 (0, 0)) ∧ Y.heap.size + 1 < x.heap.size ∧ Below X.heap.size X x) (fun _ i _ => (pn - intOf i).toNat)
          case atStart =>
            refine ⟨0, by omega, rfl, ?_, fun h => ?_, fun h => ?_, hg1.out, hg2.out, hz2, Hw2.out⟩
            · rw [show tabsTo d most m ++ sideTabs d m pl pn 0 = tabsTo d most m from List.append_nil _]; exact Ho2.out
            · have := (Hlt.out _ h).2; omega
            · have := (Hlt.out _ h).2; omega
          case round =>
            obtain ⟨n, hn, rfl, hown, hne1, hne2, hb1, hb2, hsz3, hb⟩ := hrel
            by_cases hln : (n : Int) + 1 < pn
            · have Hown := hid hown
              have Hb := hid hb
              have Hb1 := hid hb1
              have Hb2 := hid hb2
              have hcP := fun j => cell_of_row wr _ j _ _ _ hb1
              have hsz4 := Nat.lt_of_succ_lt hsz3
              have hpl0 : ¬ pl = 0 := by omega
              have hcQ := fun j => cell_of_row wr _ j _ _ _ hb2
              have m1a : 0 ≤ pl * ((n : Int) + 1) := Int.mul_nonneg (by omega) (by omega)
              have m1b : pl * ((n : Int) + 1) ≤ 6000000 * 20000000 := Int.mul_le_mul l2 (by omega) (by omega) (by omega)
              have m2a : 0 ≤ pl * ((n : Int) + 1) / pn := Int.ediv_nonneg m1a (by omega)
              have m2b : pl * ((n : Int) + 1) / pn ≤ 120000000000000 := Int.le_trans (Int.ediv_le_self _ m1a) (by omega)
              have hdm : ∀ x a : Int, -1 ≤ x → x ≤ 1 → 0 ≤ a → a ≤ 120000000000000 → -120000000000000 ≤ x * a ∧ x * a ≤ 120000000000000 := by
                intro x a h1 h2 h3 h4
                have : x = -1 ∨ x = 0 ∨ x = 1 := by omega
                rcases this with rfl | rfl | rfl <;> omega
              obtain ⟨m3a, m3b⟩ := hdm dx _ x1 x2 m2a m2b
              obtain ⟨m4a, m4b⟩ := hdm dy _ x3 x4 m2a m2b
              have HST := hid (sideTabs_snoc d m pl pn n)
              have HE3 := hid (E3.out (pl * ((n : Int) + 1) / pn))
              have ee1 := E1.out
              have ee2 := E2.out
              have hnl : (tabsTo d most m ++ sideTabs d m pl pn n).length ≤ 2000 + n := by
                have h1 := HTL.out; have h2 := HMS.out; have h3 := HL1.out
                rw [List.length_append, sideTabs_len]; omega
              clear hown hb hb1 hb2 hdm
              obtain ⟨i0, hi, hz0, hz1, hz2⟩ := info_parts info_Pt
              generalize hpre : tabsTo d most m ++ sideTabs d m pl pn n = pre at *
              have Hpre := hid hpre
              clear hpre
              go_wp2_with fail
              clear hcP hcQ
              obtain ⟨c1, c2⟩ := (⟨cell_of_row wr _ 0 _ _ _ Hb1.out, cell_of_row wr _ 1 _ _ _ Hb1.out⟩ : wr.cell? ⟨Y.heap.size, 0, none⟩ = some (.int .i64 P.X) ∧ wr.cell? ⟨Y.heap.size, 1, none⟩ = some (.int .i64 P.Y))
              obtain ⟨c3, c4⟩ := (⟨cell_of_row wr _ 0 _ _ _ Hb2.out, cell_of_row wr _ 1 _ _ _ Hb2.out⟩ : wr.cell? ⟨Y.heap.size + 1, 0, none⟩ = some (.int .i64 Q.X) ∧ wr.cell? ⟨Y.heap.size + 1, 1, none⟩ = some (.int .i64 Q.Y))
              have hsX : X.heap.size ≤ wr.heap.size := Hb.out.size
              have hs63 : pre.length + 1 ≤ maxLen := by unfold maxLen; omega
              have hs64 : (pre.length + 1) * 16 ≤ 140737488355328 := by omega
              generalize hat0 : pl * ((n : Int) + 1) / pn = at0 at *
              have hwa := IntWalk.i64_in (Q.X - P.X) (by omega)
              have hwb := IntWalk.i64_in (Q.Y - P.Y) (by omega)
              have hwc := IntWalk.i64_in dx (by omega)
              have hwd := IntWalk.i64_in dy (by omega)
              have hwe := IntWalk.i64_in (dx * at0) (by omega)
              have hwf := IntWalk.i64_in (dy * at0) (by omega)
              have hwg := IntWalk.i64_in (P.X + dx * at0) (by omega)
              have hwh := IntWalk.i64_in (P.Y + dy * at0) (by omega)
              go_region_held_law (fun w' => w'.cell? ⟨Y.heap.size, 0, none⟩ = some (.int .i64 P.X) ∧ w'.cell? ⟨Y.heap.size, 1, none⟩ = some (.int .i64 P.Y) ∧ w'.cell? ⟨Y.heap.size + 1, 0, none⟩ = some (.int .i64 Q.X) ∧ w'.cell? ⟨Y.heap.size + 1, 1, none⟩ = some (.int .i64 Q.Y))
                (first
                  | go_keep
                  | (go_split_ands
                     refine ⟨?_, ?_, ?_, ?_⟩
                     · (rw [hgrow.cell_far _ (by simp; omega) (Ne.symm hne1)]; assumption)
                     · (rw [hgrow.cell_far _ (by simp; omega) (Ne.symm hne1)]; assumption)
                     · (rw [hgrow.cell_far _ (by simp; omega) (Ne.symm hne2)]; assumption)
                     · (rw [hgrow.cell_far _ (by simp; omega) (Ne.symm hne2)]; assumption)))
                ((refine step_append_lies _ (by rfl) _ _ _ (by rfl) X.heap.size 32 i0 _ 2 16 Try.underlying24 hi hz0 hz1 hz2 rfl (by omega) u17 pre.length (pre.flatMap Pt.enc) (by rfl) ((World.ownsRow.alloc Hown.out _).drew)
                    ⟨wr.heap.size, 0, none⟩ 1 1 [.int .i64 (P.X + dx * at0), .int .i64 (P.Y + dy * at0)] (by rfl) (by rfl) (World.news_of_block (cs := #[.int .i64 (P.X + dx * at0), .int .i64 (P.Y + dy * at0)]) (t := 32) (fr := (0, 0)) (by exact heap_alloc_new wr _)) (by simp [Value.oneCell'])
                    (by omega) hs63 hs64 (by simp; omega) (wr.heap.size + 1) (by simp) ?_; intro gg cap w1' hown1 hgrow hat hlt'))
              go_wp2
              go_roundw
              case rel =>
                refine ⟨n + 1, by omega, by go_num, ?_, fun h => ?_, fun h => ?_, ?_, ?_, ?_, ?_⟩
                · rw [HST.out, ← List.append_assoc, Hpre.out, HE3.out]
                  exact Own.snoc (l2 := [(⟨P.X + dx * at0, P.Y + dy * at0⟩ : Pt)]) rfl rfl rfl hown1
                · have hgg : some gg = some Y.heap.size := h
                  rcases hat with h1 | h1
                  · exact hne1 (h1.trans hgg)
                  · have := Option.some.inj hgg; omega
                · have hgg : some gg = some (Y.heap.size + 1) := h
                  rcases hat with h1 | h1
                  · exact hne2 (h1.trans hgg)
                  · have := Option.some.inj hgg; omega
                · exact (hgrow.block _ (by simp; omega) (Ne.symm hne1)).trans (heap_old Hb1.out)
                · exact (hgrow.block _ (by simp; omega) (Ne.symm hne2)).trans (heap_old Hb2.out)
                · have := hgrow.size; simp at this; omega
                · exact ((Hb.out.alloc hsX _).drew).grown hgrow (by simp; omega) (fun k hk => (Hown.out.lt k hk).1)
              case measure => simp [intOf]; omega
            · have hnn : (pn - 1).toNat = n := by omega
              have HTS2 : Hid (tabsTo d most (m + 1) = tabsTo d most m ++ sideTabs d m pl pn n) := by
                have := HTS.out.trans (by rw [HSA.out]); rw [hnn] at this; exact this
              clear hnn hb1 hb2
              have Hown := hid hown
              have Hb := hid hb
              clear hown hb
              go_wp2
              go_roundw
              case rel => exact ⟨_, _, _, _, _, _, _, _, _, ⟨m + 1, by omega, by go_num, by rw [HTS2.out]; exact Hown.out, Hb.out⟩, rfl, rfl, rfl, rfl, rfl, rfl, rfl, rfl, rfl⟩
              case measure => simp [intOf]; omega
        · have hm4 : m = 4 := by omega
          subst hm4
          have HO := hid (TabsPost.ok (p := p) (slot := k) (most := most) (w := w) (w' := wr) (v := u17) HS0.out (by rw [HV0.out]; exact Hown.out.base_le Hwr.out.size) (bthen Hwr.out hb))
          clear hb hlt
          go_wp2
          go_ret2
          exact HO.out
end Go.Proofs.Ytpkicpnbpldkpaa
