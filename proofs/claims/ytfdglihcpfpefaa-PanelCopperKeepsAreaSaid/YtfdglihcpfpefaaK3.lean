/- Copper of a panel keeps its area. Plain Lean about the plain functions. -/
import Derived.Test.YtfdglihcpfpefaaK1p
import Derived.Test.YtfdglihcpfpefaaU8
namespace Go.Proofs.Ytfdglihcpfpefaa
/-- Two rectangles that have no square in common. -/
def Sep (a b : TRect) : Prop := a.X1 ≤ b.X0 ∨ b.X1 ≤ a.X0 ∨ a.Y1 ≤ b.Y0 ∨ b.Y1 ≤ a.Y0
theorem squares_sep : ∀ {l : List TRect}, (∀ r ∈ l, ROk r) → l.Pairwise Sep → sumI (fun y => sumI (fun x => ind (InR x y l)) (-1000000) 2000000) (-1000000) 2000000 = arR l
  | [], _, _ => by
    rw [sumI_congr (h := fun _ => 0) fun y _ _ => by
      rw [sumI_congr (g := fun x => ind (InR x y [])) (h := fun _ => 0) fun x _ _ => ind_no (by unfold InR; simp), sumI_zero], sumI_zero]; rfl
  | r :: l, h, hs => by
    have hr := h r (by simp)
    have hp := List.pairwise_cons.1 hs
    have h0 := hr.x0; have h1 := hr.x1; have h2 := hr.y0; have h3 := hr.y1; have h4 := hr.x; have h5 := hr.y
    have e : ∀ x y, ind (InR x y (r :: l)) = (if r.Y0 ≤ y ∧ y < r.Y1 then (if r.X0 ≤ x ∧ x < r.X1 then 1 else 0) else 0) + ind (InR x y l) := fun x y => by
      by_cases hx : (r.X0 ≤ x ∧ x < r.X1) ∧ (r.Y0 ≤ y ∧ y < r.Y1)
      · have hn : ¬ InR x y l := fun ⟨q, hq, q1, q2⟩ => by
          have := hp.1 q hq
          unfold Sep at this
          omega
        rw [if_pos hx.2, if_pos hx.1, ind_no hn]
        exact if_pos ⟨r, by simp, hx.1, hx.2⟩
      · have hiff : InR x y (r :: l) ↔ InR x y l := ⟨fun ⟨q, hq, q1, q2⟩ => by
          rcases List.mem_cons.1 hq with rfl | hq
          · exact absurd ⟨q1, q2⟩ hx
          · exact ⟨q, hq, q1, q2⟩, fun ⟨q, hq, q1, q2⟩ => ⟨q, List.mem_cons_of_mem _ hq, q1, q2⟩⟩
        rw [ind_congr hiff]
        by_cases hy : r.Y0 ≤ y ∧ y < r.Y1
        · rw [if_pos hy, if_neg (fun hx' => hx ⟨hx', hy⟩), Int.zero_add]
        · rw [if_neg hy, Int.zero_add]
    have e2 : sumI (fun y => sumI (fun x => ind (InR x y (r :: l))) (-1000000) 2000000) (-1000000) 2000000 = sumI (fun y => (if r.Y0 ≤ y ∧ y < r.Y1 then (r.X1 - r.X0) else 0) + sumI (fun x => ind (InR x y l)) (-1000000) 2000000) (-1000000) 2000000 := sumI_congr fun y _ _ => by
      have e3 : sumI (fun x => if r.Y0 ≤ y ∧ y < r.Y1 then (if r.X0 ≤ x ∧ x < r.X1 then 1 else 0) else 0) (-1000000) 2000000 = if r.Y0 ≤ y ∧ y < r.Y1 then (r.X1 - r.X0) else 0 := by
        by_cases hy : r.Y0 ≤ y ∧ y < r.Y1
        · rw [if_pos hy, sumI_congr (h := fun x => if r.X0 ≤ x ∧ x < r.X1 then 1 else 0) fun x _ _ => by rw [if_pos hy], sumI_box (by omega) (by omega) (by omega), Int.one_mul]
        · rw [if_neg hy, sumI_congr (h := fun _ => 0) fun x _ _ => by rw [if_neg hy], sumI_zero]
      rw [sumI_congr (h := fun x => (if r.Y0 ≤ y ∧ y < r.Y1 then (if r.X0 ≤ x ∧ x < r.X1 then 1 else 0) else 0) + ind (InR x y l)) fun x _ _ => e x y, sumI_add, e3]
    rw [e2, sumI_add, squares_sep (fun q hq => h q (by simp [hq])) hp.2, sumI_box (by omega) (by omega) (by omega), arR]
theorem area_setB {l : List TRect} (h : ∀ r ∈ l, ROk r) (hs : l.Pairwise Sep) : arR (rectsB (setB l)) = arR l := by
  obtain ⟨b1, b2⟩ := setB_ok (ROk.ne h)
  obtain ⟨lo, hc⟩ := b1.can
  rw [← squares_rects hc b1.row (rectsB_rok b1 fun x y hx => InR_lim h ((b2 x y).1 hx)), ← squares_sep h hs]
  unfold squares
  exact sumI_congr fun y _ _ => sumI_congr fun x _ _ => ind_congr (b2 x y)
/-- The rectangles of bands have no square in common. -/
theorem sep_rectsB : ∀ {l : List Bd} {lo : Int}, CanB lo l → (∀ b ∈ l, ∃ lo, Can lo b.2.2) → (rectsB l).Pairwise Sep
  | [], _, _, _ => List.Pairwise.nil
  | b :: l, lo, h, hr => by
    obtain ⟨lo', hb⟩ := hr b (by simp)
    rw [rectsB_cons]
    refine List.pairwise_append.2 ⟨?_, sep_rectsB h.2.2.2.2 (fun c hc => hr c (by simp [hc])), fun x hx y hy => ?_⟩
    · unfold rectsOf
      rw [List.pairwise_map]
      have key : ∀ {s : List (Int × Int)} {lo : Int}, Can lo s → s.Pairwise fun p q => p.2 ≤ q.1 := by
        intro s
        induction s with
        | nil => intro lo _; exact List.Pairwise.nil
        | cons p s ih =>
          intro lo hc
          exact List.pairwise_cons.2 ⟨fun q hq => by have := hc.2.2.mem q hq; omega, ih hc.2.2⟩
      exact (key hb).imp fun {p q} hpq => .inl hpq
    · obtain ⟨s, hs, rfl⟩ := List.mem_map.1 hx
      obtain ⟨c, hc, t, ht, rfl⟩ := mem_rectsB.1 hy
      have := h.2.2.2.2.mem c hc
      exact .inr (.inr (.inl (by show b.2.1 ≤ c.1; omega)))
theorem tr_sep {p : TPanel} {s : TSlot} (hq : 0 ≤ s.Quarters ∧ s.Quarters ≤ 3) {a b : TRect} (ha : ROk a) (hb : ROk b) (h : Sep a b) : Sep (tr (turnT p s) a) (tr (turnT p s) b) := by
  have h1 := ha.x; have h2 := ha.y; have h3 := hb.x; have h4 := hb.y
  obtain ⟨x0, y0, x1, y1⟩ := a
  obtain ⟨u0, v0, u1, v1⟩ := b
  unfold Sep at *
  simp only at h h1 h2 h3 h4
  rcases q_cases hq with e | e | e | e <;> simp [tr, tk, turnT, rX, rY, e] <;> omega
theorem tr_area {p : TPanel} {s : TSlot} (hq : 0 ≤ s.Quarters ∧ s.Quarters ≤ 3) {a : TRect} (ha : ROk a) : ((tr (turnT p s) a).X1 - (tr (turnT p s) a).X0) * ((tr (turnT p s) a).Y1 - (tr (turnT p s) a).Y0) = (a.X1 - a.X0) * (a.Y1 - a.Y0) := by
  have h1 := ha.x; have h2 := ha.y
  obtain ⟨x0, y0, x1, y1⟩ := a
  simp only at h1 h2
  have key : ((tr (turnT p s) ⟨x0, y0, x1, y1⟩).X1 - (tr (turnT p s) ⟨x0, y0, x1, y1⟩).X0 = x1 - x0 ∧ (tr (turnT p s) ⟨x0, y0, x1, y1⟩).Y1 - (tr (turnT p s) ⟨x0, y0, x1, y1⟩).Y0 = y1 - y0) ∨ ((tr (turnT p s) ⟨x0, y0, x1, y1⟩).X1 - (tr (turnT p s) ⟨x0, y0, x1, y1⟩).X0 = y1 - y0 ∧ (tr (turnT p s) ⟨x0, y0, x1, y1⟩).Y1 - (tr (turnT p s) ⟨x0, y0, x1, y1⟩).Y0 = x1 - x0) := by
    rcases q_cases hq with e | e | e | e <;> simp [tr, tk, turnT, rX, rY, e] <;> omega
  rcases key with ⟨k1, k2⟩ | ⟨k1, k2⟩
  · rw [k1, k2]
  · rw [k1, k2]; exact Int.mul_comm _ _
/-- What lies on its board lies, turned, in the cell. -/
theorem tr_cell {p : TPanel} (hB : PB p) {s : TSlot} (hs : SlotOk p s) {a : TRect} (ha : ROk a) (ho : offB (kindOf p.Kinds s.Board) a = false) : ((cellOf p s).X0 ≤ (tr (turnT p s) a).X0 ∧ (tr (turnT p s) a).X1 ≤ (cellOf p s).X1) ∧ ((cellOf p s).Y0 ≤ (tr (turnT p s) a).Y0 ∧ (tr (turnT p s) a).Y1 ≤ (cellOf p s).Y1) := by
  have h1 := ha.x; have h2 := ha.y
  unfold offB at ho
  simp only [Bool.or_eq_false_iff, decide_eq_false_iff_not] at ho
  obtain ⟨e, e0, e1, e2, e3⟩ := at_cell hB hs
  have hc : (cellOf p s).X0 = s.At.X ∧ (cellOf p s).Y0 = s.At.Y := ⟨rfl, rfl⟩
  obtain ⟨x0, y0, x1, y1⟩ := a
  simp only at h1 h2 ho
  rcases e with e | e | e | e
  · have k := e0 e
    simp [tr, tk, turnT, rX, rY, e, k.1, k.2.1]
    omega
  · have k := e1 e
    simp [tr, tk, turnT, rX, rY, e, k.1, k.2.1]
    omega
  · have k := e2 e
    simp [tr, tk, turnT, rX, rY, e, k.1, k.2.1]
    omega
  · have k := e3 e
    simp [tr, tk, turnT, rX, rY, e, k.1, k.2.1]
    omega
/-- The cells lie apart. -/
theorem slots_apart {p : TPanel} (hg : 0 ≤ p.Gap) : ∀ {l : List TSlot} {prev : List TRect}, slotsErr p prev l = 0 → (∀ s ∈ l, ∀ d ∈ prev, Sep (cellOf p s) d) ∧ l.Pairwise fun s t => Sep (cellOf p s) (cellOf p t)
  | [], prev, _ => ⟨by simp, List.Pairwise.nil⟩
  | s :: l, prev, h => by
    unfold slotsErr at h
    split at h
    · rename_i h1
      obtain ⟨i1, i2⟩ := slots_apart hg h
      have hno : (prev.any fun d => !apart (cellOf p s) d p.Gap) = false := by
        unfold slotErr at h1
        split at h1
        · omega
        · split at h1
          · omega
          · split at h1
            · omega
            · split at h1
              · omega
              · rename_i h5; exact Bool.eq_false_iff.2 h5
      have hs : ∀ d ∈ prev, Sep (cellOf p s) d := fun d hd => by
        rw [List.any_eq_false] at hno
        have := hno d hd
        unfold apart at this
        simp only [Bool.not_eq_true', Bool.not_eq_false, Bool.or_eq_true, decide_eq_true_eq] at this
        unfold Sep
        omega
      refine ⟨fun t ht d hd => ?_, List.pairwise_cons.2 ⟨fun t ht => ?_, i2⟩⟩
      · rcases List.mem_cons.1 ht with rfl | ht
        · exact hs d hd
        · exact i1 t ht d (by simp [hd])
      · have := i1 t ht (cellOf p s) (by simp)
        unfold Sep at *
        omega
    · rename_i h1; exact absurd h h1
theorem openErr_slots {p : TPanel} (h : openErr p = 0) : slotsErr p [] p.Slots = 0 := by
  unfold openErr at h
  split at h
  · omega
  · split at h
    · split at h
      · rename_i hc
        unfold cellsErr at hc
        split at hc
        · omega
        · exact hc
      · rename_i hc; exact absurd h hc
    · rename_i hk; exact absurd h hk
theorem arR_append' : ∀ l m : List TRect, arR (l ++ m) = arR l + arR m := arR_append
theorem arR_turned {p : TPanel} {s : TSlot} (hq : 0 ≤ s.Quarters ∧ s.Quarters ≤ 3) : ∀ {r : List TRect}, (∀ x ∈ r, ROk x) → arR (r.map (tr (turnT p s))) = arR r
  | [], _ => rfl
  | x :: r, h => by rw [List.map_cons, arR, arR, tr_area hq (h x (by simp)), arR_turned hq fun y hy => h y (by simp [hy])]
/-- How often a board is on a panel. -/
def cntB (nm : ByteArray) : List TSlot → Int
  | [] => 0
  | s :: l => (if sEq s.Board nm = true then 1 else 0) + cntB nm l
theorem cntB_lim (nm : ByteArray) : ∀ l : List TSlot, 0 ≤ cntB nm l ∧ cntB nm l ≤ l.length
  | [] => ⟨Int.le_refl _, by simp [cntB]⟩
  | s :: l => by
    have := cntB_lim nm l
    unfold cntB
    rw [List.length_cons]
    split <;> omega
theorem copL_area {p : TPanel} {nm : ByteArray} {r : List TRect} (hr : ∀ x ∈ r, ROk x) : ∀ {l : List TSlot}, (∀ s ∈ l, SlotOk p s) → arR (copL p nm r l) = cntB nm l * arR r
  | [], _ => by simp [copL, cntB, arR]
  | s :: l, h => by
    rw [copL_cons, arR_append, copL_area hr fun t ht => h t (by simp [ht]), cntB, Int.add_mul]
    have hs := h s (by simp)
    split
    · rw [arR_turned ⟨hs.q0, hs.q1⟩ hr, Int.one_mul]
    · rw [Int.zero_mul]; rfl
/-- All copper lies within its cells, and no two pieces have a square in common. -/
theorem copL_sep {p : TPanel} {nm : ByteArray} {r : List TRect} (hB : PB p) (hr : ∀ x ∈ r, ROk x) (hsep : r.Pairwise Sep) : ∀ {l : List TSlot}, (∀ s ∈ l, SlotOk p s) → (∀ s ∈ l, s.Board = nm → ∀ x ∈ r, offB (kindOf p.Kinds s.Board) x = false) → l.Pairwise (fun s t => Sep (cellOf p s) (cellOf p t)) →
    (copL p nm r l).Pairwise Sep ∧ ∀ y ∈ copL p nm r l, ∃ s ∈ l, (((cellOf p s).X0 ≤ y.X0 ∧ y.X1 ≤ (cellOf p s).X1) ∧ ((cellOf p s).Y0 ≤ y.Y0 ∧ y.Y1 ≤ (cellOf p s).Y1)) ∧ y.X0 < y.X1 ∧ y.Y0 < y.Y1
  | [], _, _, _ => ⟨List.Pairwise.nil, by simp [copL]⟩
  | s :: l, hs, ho, hp => by
    obtain ⟨hp1, hp2⟩ := List.pairwise_cons.1 hp
    obtain ⟨i1, i2⟩ := copL_sep hB hr hsep (l := l) (fun t ht => hs t (by simp [ht])) (fun t ht => ho t (by simp [ht])) hp2
    rw [copL_cons]
    have hso := hs s (by simp)
    by_cases hb : sEq s.Board nm = true
    · rw [if_pos hb]
      have hnm : s.Board = nm := sEq_iff.1 hb
      have hin : ∀ y ∈ r.map (tr (turnT p s)), (((cellOf p s).X0 ≤ y.X0 ∧ y.X1 ≤ (cellOf p s).X1) ∧ ((cellOf p s).Y0 ≤ y.Y0 ∧ y.Y1 ≤ (cellOf p s).Y1)) ∧ y.X0 < y.X1 ∧ y.Y0 < y.Y1 := fun y hy => by
        obtain ⟨x, hx, rfl⟩ := List.mem_map.1 hy
        have := tr_r9 (turnT_chk hB hso) (hr x hx)
        exact ⟨tr_cell hB hso (hr x hx) (ho s (by simp) hnm x hx), this.x, this.y⟩
      refine ⟨List.pairwise_append.2 ⟨?_, i1, fun y hy z hz => ?_⟩, fun y hy => ?_⟩
      · rw [List.pairwise_map]
        exact hsep.imp_of_mem fun {x z} hx hz h => tr_sep ⟨hso.q0, hso.q1⟩ (hr x hx) (hr z hz) h
      · have h1 := hin y hy
        obtain ⟨t, ht, h2⟩ := i2 z hz
        have := hp1 t ht
        unfold Sep at *
        omega
      · rcases List.mem_append.1 hy with hy | hy
        · exact ⟨s, by simp, hin y hy⟩
        · obtain ⟨t, ht, h2⟩ := i2 y hy
          exact ⟨t, by simp [ht], h2⟩
    · rw [if_neg hb]
      refine ⟨by simpa using i1, fun y hy => ?_⟩
      obtain ⟨t, ht, h2⟩ := i2 y (by simpa using hy)
      exact ⟨t, by simp [ht], h2⟩
theorem copper_area {p : TPanel} {nm : ByteArray} {r x : List TRect} (h : copperV p nm r = (x, 0)) : openErr p = 0 ∧ regionErr r = 0 ∧ regionErr x = 0 ∧ arR x = cntB nm p.Slots * arR r := by
  unfold copperV at h
  split at h
  · rename_i h0
    split at h
    · injection h with _ e; cases e
    · rename_i hk
      split at h
      · rename_i hreg
        split at h
        · injection h with _ e; cases e
        · rename_i hoff
          obtain ⟨hB, hsl, _, hso⟩ := openErr_ok h0
          obtain ⟨_, hl, hok, hrr⟩ := regionErr_ok hreg
          obtain ⟨bs, _⟩ := setB_ok (ROk.ne hok)
          obtain ⟨lo, hc⟩ := bs.can
          have hsep : r.Pairwise Sep := by have := sep_rectsB hc bs.row; rw [hrr] at this; exact this
          obtain ⟨k1, k2⟩ := copL_sep (nm := nm) hB hok hsep hso (fun s hs hnm x hx => by
            rw [Bool.not_eq_true, List.any_eq_false] at hoff
            have := hoff x hx
            rw [Bool.not_eq_true] at this
            subst hnm
            exact this) (slots_apart hB.g0 (openErr_slots h0)).2
          have hrok : ∀ y ∈ copL p nm r p.Slots, ROk y := fun y hy => by
            obtain ⟨s, hs, h1, h2⟩ := k2 y hy
            obtain ⟨_, _, _, d1, d2, d3, d4, d5, d6⟩ := (hso s hs).bd hB
            exact ⟨by omega, by omega, by omega, by omega, h2.1, h2.2⟩
          unfold toldV at h
          split at h
          · injection h with _ e; cases e
          · rename_i hn
            injection h with e _
            subst e
            obtain ⟨b1, b2⟩ := setB_ok (ROk.ne hrok)
            refine ⟨h0, hreg, region_of b1 (fun x y hx => InR_lim hrok ((b2 x y).1 hx)) (by omega), ?_⟩
            rw [area_setB hrok k1, copL_area hok hso]
      · rename_i hreg; injection h with _ e; exact absurd e hreg
  · rename_i h0; injection h with _ e; exact absurd e h0
theorem copperV_err {p : TPanel} {nm : ByteArray} {r : List TRect} (h : (copperV p nm r).2 ≠ 0) : (copperV p nm r).1 = [] := by
  unfold copperV at *
  by_cases h0 : openErr p = 0
  · rw [if_pos h0] at h ⊢
    by_cases hk : kindIx p.Kinds nm < 0
    · rw [if_pos hk]
    · rw [if_neg hk] at h ⊢
      by_cases hr : regionErr r = 0
      · rw [if_pos hr] at h ⊢
        by_cases ho : r.any (offB (kindAtI p.Kinds (kindIx p.Kinds nm))) = true
        · rw [if_pos ho]
        · rw [if_neg ho] at h ⊢
          unfold toldV at *
          by_cases h2 : 2000 < (rectsB (setB (copL p nm r p.Slots))).length
          · rw [if_pos h2]
          · rw [if_neg h2] at h; exact absurd rfl h
      · rw [if_neg hr]
  · rw [if_neg h0]
theorem area_loop {N : Nat} (hN : 10000000000 ≤ N) {p : TPanel} {nm : ByteArray} {r : List TRect} {y : List TRect × Int} (hsl : p.Slots.length ≤ 500) (hr : regionErr r = 0) (hy : regionErr y.1 = 0) (ha : arR y.1 = cntB nm p.Slots * arR r) : F_etchhouselaw9_PanelCopperKeepsArea_L1 N p nm r y N 0 0 = some true := by
  have loop : ∀ (suf pre : List TSlot) (m : Nat) (n : Int), p.Slots = pre ++ suf → suf.length < m → 0 ≤ n → n ≤ pre.length → F_etchhouselaw9_PanelCopperKeepsArea_L1 N p nm r y m n pre.length = some ((w64 ((n + cntB nm suf) * arR r)) == arR y.1) := by
    intro suf
    induction suf with
    | nil =>
      intro pre m n h1 h2 h3 h4
      obtain ⟨m, rfl⟩ : ∃ k, m = k + 1 := ⟨m - 1, by omega⟩
      rw [F_etchhouselaw9_PanelCopperKeepsArea_L1.eq_2, if_neg (by rw [h1]; simp), Area_ok hN, Option.bind_some, Area_ok hN, Option.bind_some, awakeP_ok (by omega)]
      unfold areaV
      rw [if_pos hr, if_pos hy]
      have : n + cntB nm [] = n := by simp [cntB]
      rw [this]
      cases w64 (n * arR r) == arR y.1 <;> simp
    | cons s suf ih =>
      intro pre m n h1 h2 h3 h4
      obtain ⟨m, rfl⟩ : ∃ k, m = k + 1 := ⟨m - 1, by omega⟩
      have hpl : pre.length ≤ 500 := by rw [h1] at hsl; simp at hsl; omega
      have hid : idx p.Slots (pre.length : Int) = some s := by rw [h1]; exact idx_mid pre suf s
      rw [F_etchhouselaw9_PanelCopperKeepsArea_L1.eq_2, if_pos (by rw [h1]; exact lt_mid pre suf s), hid, Option.bind_some, up_mid pre s (by omega), w64_id (x := n + 1) (by omega) (by omega), cntB]
      by_cases hb : sEq s.Board nm = true
      · rw [if_pos hb, if_pos hb, ih (pre ++ [s]) m (n + 1) (by rw [h1]; simp) (by simp at h2; omega) (by omega) (by simp; omega), show n + (1 + cntB nm suf) = n + 1 + cntB nm suf by omega]
      · rw [if_neg hb, if_neg hb, ih (pre ++ [s]) m n (by rw [h1]; simp) (by simp at h2; omega) h3 (by simp; omega), Int.zero_add]
  have := loop p.Slots [] N 0 rfl (by omega) (Int.le_refl _) (by simp)
  rw [show ((([] : List TSlot).length : Nat) : Int) = 0 from rfl, Int.zero_add, ← ha] at this
  rw [this]
  obtain ⟨_, hl, hok, _⟩ := regionErr_ok hy
  have := arR_lim hok
  rw [w64_id (by omega) (by omega)]
  simp
end Go.Proofs.Ytfdglihcpfpefaa
