/- TopPartsForPanels: what boards of panels need of each type. Plain Lean about the plain functions. Conditions: none beyond each theorem's own. -/
import Derived.Test.YtejfmgjfdnmmgaaGreatDoorJ3
import Derived.Test.YtejfmgjfdnmmgaaGreatDoorQTPFPR
namespace Go.Proofs.YtejfmgjfdnmmgaaGreatDoor
/-- How many slots bear a board. -/
def countB (b : ByteArray) (l : List TSlot) : Int := ((l.filter fun s => sEq s.Board b).length : Int)
def needE (n c : Int) : Option (Int × Int × Int) := if (c == 0) then some (0, 0, 13) else (dv (w64 ((w64 (n + c)) - 1)) c).bind fun q => some (q, (w64 ((w64 (q * c)) - n)), 0)
theorem countB_cons (b : ByteArray) (s : TSlot) (l : List TSlot) : countB b (s :: l) = (if sEq s.Board b = true then 1 else 0) + countB b l := by
  unfold countB
  rw [List.filter_cons]
  split <;> simp; omega
theorem Needed_loop (b : ByteArray) (n : Int) : ∀ (suf : List TSlot) (i : Nat) (c : Int), 0 ≤ c → c + suf.length ≤ 1000 → F_panel_Needed_L1 b n suf i c = needE n (c + countB b suf)
  | [], i, c, _, _ => by rw [F_panel_Needed_L1.eq_1]; show _ = needE n (c + 0); rw [Int.add_zero]; rfl
  | s :: suf, i, c, h0, h1 => by
    simp only [List.length_cons] at h1
    rw [F_panel_Needed_L1.eq_2, countB_cons]
    cases sEq s.Board b
    · rw [if_neg (by simp), if_neg (by simp), Needed_loop b n suf (i + 1) c h0 (by omega), Int.zero_add]
    · rw [if_pos rfl, if_pos rfl, w64_id (by omega) (by omega), Needed_loop b n suf (i + 1) (c + 1) (by omega) (by omega), Int.add_assoc]

theorem slots_loop (N : Nat) (b : ByteArray) (n : Int) (B : List TBody) (l : List TPlace) (y : Int × Int × Int) : ∀ (suf : List TSlot) (i : Nat) (c : Int), 0 ≤ c → c + suf.length ≤ 1000 →
    F_etchhousetop_TopPartsForPanels_L1 N b n B l y suf i c = F_etchhousetop_TopPartsForPanels_L1 N b n B l y [] 0 (c + countB b suf)
  | [], i, c, _, _ => by rw [F_etchhousetop_TopPartsForPanels_L1.eq_1, F_etchhousetop_TopPartsForPanels_L1.eq_1]; show _ = _; rw [show c + countB b [] = c from Int.add_zero c]
  | s :: suf, i, c, h0, h1 => by
    simp only [List.length_cons] at h1
    rw [F_etchhousetop_TopPartsForPanels_L1.eq_2, countB_cons]
    cases sEq s.Board b
    · rw [if_neg (by simp), if_neg (by simp), slots_loop N b n B l y suf (i + 1) c h0 (by omega), Int.zero_add]
    · rw [if_pos rfl, if_pos rfl, w64_id (by omega) (by omega), slots_loop N b n B l y suf (i + 1) (c + 1) (by omega) (by omega), Int.add_assoc]
theorem same_loop {N : Nat} (hN : 10 ≤ N) {n : Int} {y : Int × Int × Int} {k : Int} (hk : w64 (n + y.2.1) = k) (hk1 : 1 ≤ k ∧ k ≤ 1000) {r : List TCount} (hr : ∀ x ∈ r, 1 ≤ x.Many ∧ x.Many ≤ 1000) : ∀ (suf pre : List TCount), r = pre ++ suf →
    F_etchhousetop_TopPartsForPanels_L2 N n y (r.map (sclT k), 0) suf pre.length = some true
  | [], pre, _ => by rw [F_etchhousetop_TopPartsForPanels_L2.eq_1, alive_ok hN]; rfl
  | x :: suf, pre, h => by
    have hid : idx (r.map (sclT k)) (pre.length : Int) = some (sclT k x) := by
      have : r.map (sclT k) = pre.map (sclT k) ++ sclT k x :: suf.map (sclT k) := by rw [h]; simp
      rw [this]
      have h2 := idx_mid (pre.map (sclT k)) (suf.map (sclT k)) (sclT k x)
      rw [List.length_map] at h2; exact h2
    have hx := hr x (by rw [h]; simp)
    have ih := same_loop hN hk hk1 hr suf (pre ++ [x]) (by rw [h]; simp)
    rw [List.length_append] at ih
    have hb : x.Many * k ≤ 1000 * 1000 := Int.mul_le_mul hx.2 hk1.2 (by omega) (by omega)
    have hb0 : 0 ≤ x.Many * k := Int.mul_nonneg (by omega) (by omega)
    rw [F_etchhousetop_TopPartsForPanels_L2.eq_2, hid, Option.bind_some, hk, w64_id (by omega) (by omega)]
    have e1 : sEq x.Type_ (sclT k x).Type_ = true := sEq_refl _
    rw [e1]
    simp only [Bool.not_true, Bool.false_eq_true, if_false, Option.bind_some]
    have e2 : (x.Many * k != (sclT k x).Many) = false := by show (x.Many * k != x.Many * k) = false; simp
    rw [e2]
    exact ih
theorem top_ok {N : Nat} {p : TPanel} {B : List TBody} (h : FuelP N p) (hB : FuelM N B) (b : ByteArray) (n : Int) (l : List TPlace) : F_etchhousetop_TopPartsForPanels N p b n B l = some true := by
  have hN := h.big
  have ha := alive_ok (N := N) (by omega)
  unfold F_etchhousetop_TopPartsForPanels F_panel_Needed
  rw [checkPanelP_ok h, Option.bind_some]
  by_cases he : openErr p = 0
  · obtain ⟨hPB, hsl, hml, hs⟩ := openErr_ok he
    rw [if_neg (by simp [he]), kindAt_ok, Option.bind_some]
    by_cases hk : kindIx p.Kinds b < 0
    · rw [if_pos (by simpa using hk), Option.bind_some, if_pos (by simp), if_pos (by simp), ha]; rfl
    · rw [if_neg (by simpa using hk), within_ok, Option.bind_some]
      cases hw : within n 0 1000000
      · rw [if_pos (by simp), Option.bind_some, if_pos (by simp), if_pos (by simp), ha]; rfl
      · rw [if_neg (by simp), Needed_loop b n p.Slots 0 0 (by omega) (by omega), Int.zero_add]
        have hwn := within_iff.1 hw
        have hc0 : 0 ≤ countB b p.Slots := by unfold countB; omega
        have hc1 : countB b p.Slots ≤ 500 := by unfold countB; have := List.length_filter_le (fun s => sEq s.Board b) p.Slots; omega
        generalize hc : countB b p.Slots = c at hc0 hc1
        unfold needE
        by_cases hcz : c = 0
        · subst hcz
          rw [if_pos (by simp), Option.bind_some, if_pos (by simp), if_pos (by simp), ha]; rfl
        · rw [if_neg (by simpa using hcz)]
          have e1 : w64 (w64 (n + c) - 1) = n + c - 1 := by rw [w64_id (x := n + c) (by omega) (by omega), w64_id (by omega) (by omega)]
          have hq0 : 0 ≤ Int.tdiv (n + c - 1) c := Int.tdiv_nonneg (by omega) hc0
          have hqe : Int.tdiv (n + c - 1) c = (n + c - 1) / c := Int.tdiv_eq_ediv_of_nonneg (by omega)
          have hdm := Int.mul_ediv_add_emod (n + c - 1) c
          have hm0 := Int.emod_nonneg (n + c - 1) (b := c) (by omega)
          have hm1 := Int.emod_lt_of_pos (n + c - 1) (b := c) (by omega)
          generalize hq : Int.tdiv (n + c - 1) c = q at hq0 hqe
          rw [← hqe] at hdm
          have hcq : c * q = q * c := Int.mul_comm c q
          have hqle : q ≤ q * c := by
            have : q * 1 ≤ q * c := Int.mul_le_mul_of_nonneg_left (by omega) hq0
            omega
          have e2 : dv (w64 (w64 (n + c) - 1)) c = some q := by
            rw [e1]; unfold dv; rw [if_neg hcz, hq, w64_id (by omega) (by omega)]
          have e3 : w64 (w64 (q * c) - n) = q * c - n := by rw [w64_id (x := q * c) (by omega) (by omega), w64_id (by omega) (by omega)]
          rw [e2, Option.bind_some, e3, Option.bind_some, if_neg (by simp), slots_loop N b n B l _ p.Slots 0 0 (by omega) (by omega), hc, Int.zero_add, F_etchhousetop_TopPartsForPanels_L1.eq_1]
          have e4 : w64 (q * c) = q * c := w64_id (by omega) (by omega)
          have e5 : w64 (n + (q * c - n)) = q * c := by rw [show n + (q * c - n) = q * c from by omega]; exact e4
          simp only [e4, e5]
          have e6 : ((q * c != q * c) || decide (max c 1 ≤ q * c - n)) = false := by
            have : ¬ max c 1 ≤ q * c - n := by omega
            simp [this]
          rw [e6]
          simp only [Bool.false_eq_true, if_false]
          rcases Needed_ok (l := l) hB with ⟨f, f0, f1⟩ | ⟨r, r0, r1, r2, r3, r4⟩
          · rw [f1, f1]
            simp only [Option.bind_some]
            rw [if_pos (by simp [f0]), if_pos (by simp), ha]; rfl
          · rw [r1, Option.bind_some]
            by_cases hin : 0 ≤ q * c ∧ q * c ≤ 1000
            · by_cases hz : q * c = 0
              · have hqz : q = 0 := by omega
                rw [hz, r3]
                simp only [Option.bind_some]
                rw [if_neg (by simp), if_pos (by simp [hqz]), if_pos (by simp), ha]; rfl
              · rw [r2 (q * c) (by omega) hin.2]
                have hqz : ¬ q = 0 := fun h => hz (by rw [h, Int.zero_mul])
                simp only [Option.bind_some]
                rw [if_neg (by simp), if_neg (by simpa using hqz), if_neg (by simp)]
                exact same_loop (by omega) (y := (q, q * c - n, 0)) e5 ⟨by omega, hin.2⟩ r0 r [] rfl
            · rw [r4 _ hin]
              simp only [Option.bind_some]
              rw [if_pos (by simp), if_pos (by simp), ha]; rfl
  · have hne : (openErr p != 0) = true := by simpa using he
    rw [if_pos hne, Option.bind_some, if_pos hne, if_pos (by simp), ha]; rfl
theorem mx_le {α : Type} (f : α → Nat) : ∀ (l : List α), ∃ M, ∀ x ∈ l, f x ≤ M
  | [] => ⟨0, fun _ h => (nomatch h)⟩
  | x :: l => by
    obtain ⟨M, h⟩ := mx_le f l
    refine ⟨max (f x) M, fun y hy => ?_⟩
    rcases List.mem_cons.1 hy with rfl | hy
    · exact Nat.le_max_left _ _
    · exact Nat.le_trans (h y hy) (Nat.le_max_right _ _)
theorem TopParts_plain (p : TPanel) (b : ByteArray) (n : Int) (B : List TBody) (l : List TPlace) (hp : p.Wf) (_ : b.size ≤ 9223372036854775807) (_ : I64 n) (hB : (B.length ≤ 9223372036854775807 ∧ ∀ x ∈ B, TBody.Wf x)) (_ : (l.length ≤ 9223372036854775807 ∧ ∀ x ∈ l, TPlace.Wf x)) :
    ∃ N, F_etchhousetop_TopPartsForPanels N p b n B l = some true := by
  obtain ⟨M1, h1⟩ := mx_le (fun k : TBoardKind => k.Name.size) p.Kinds
  obtain ⟨M2, h2⟩ := mx_le (fun k : TBody => k.Type_.size) B
  obtain ⟨M3, h3⟩ := mx_le (fun k : TBody => k.Nozzle.size) B
  refine ⟨20000000 + p.Kinds.length + 1 + M1 + M2 + M3, top_ok ⟨by omega, by omega, fun k hk => ⟨(hp.fKinds.2 k hk).fName, ?_⟩⟩ ⟨by omega, fun x hx => ⟨⟨(hB.2 x hx).fType_, ?_⟩, (hB.2 x hx).fNozzle, ?_⟩⟩ b n l⟩
  · have := h1 k hk; omega
  · have := h2 x hx; omega
  · have := h3 x hx; omega
end Go.Proofs.YtejfmgjfdnmmgaaGreatDoor
