/- The library's IndexFunc and ContainsFunc at slices of structs, each by one walk. -/
import Derived.Test.YtpkicpnbpldkpaaProg
import Derived.Test.YtpkicpnbpldkpaaD0
namespace Go.Proofs.Ytpkicpnbpldkpaa
open Go.RowKit
set_option maxHeartbeats 400000 in
theorem IndexFunc_BKind (l : List BKind) (v : Value) (g : Nat) (lb : Array Value) (p : BKind → Bool) (w : World) (hl : Sl w 3 BKind.enc v l) (hp : PredOk Try.prog g lb BKind.enc p w l) :
    Calls Try.prog 92 #[v, .func (.func g) #[] lb] w fun e w' => e = .returned (.int .i64 (idxOf p l 0)) ∧ Below w.heap.size w w' := by
  obtain ⟨A, c, rfl, h1, h2, h3⟩ := hl
  obtain ⟨eg, hp⟩ := hp
  unfold maxLen at h2
  go_enter Try.func92, Try.ntmps92
  go_wp2
  go_loopw [8] (fun i wr => ∃ k : Nat, k ≤ l.length ∧ i = .int .i64 k ∧ idxOf p l 0 = idxOf p (l.drop k) k ∧ Below w.heap.size w wr) (fun i _ => l.length - (intOf i).toNat)
  case atStart => exact ⟨0, Nat.zero_le _, rfl, rfl, Below.refl _ _⟩
  case round =>
    obtain ⟨k, hk, rfl, hi, hb⟩ := hrel
    have Hi := hid hi; clear hi
    by_cases hlt : k < l.length
    · obtain ⟨b, off, rfl, hbl, hc⟩ := h3 (by omega)
      obtain ⟨x, hx⟩ := get_of_lt hlt
      have hcs := cells3 hb hbl hc hx rfl
      have Hpx := hid (hp x (get_mem hx) wr hb)
      have Hs := hid (idxOf_step p hx)
      clear hx h3 hc
      cases hpp : p x
      · have hpf : Hid (p x = false) := hpp
        clear hpp
        go_wp2_with fail
        refine Hpx.out.mono ?_
        rintro e w1 ⟨rfl, hb1⟩
        rw [hpf.out]
        go_wp2_with fail
        go_roundw
        case rel => exact ⟨k + 1, by omega, by go_num, by rw [Hi.out, Hs.out, if_neg (by simp [hpf.out])], bthen hb hb1⟩
        case measure => simp [intOf]; omega
      · have hpf : Hid (p x = true) := hpp
        clear hpp
        go_wp2_with fail
        refine Hpx.out.mono ?_
        rintro e w1 ⟨rfl, hb1⟩
        rw [hpf.out]
        go_wp2_with fail
        go_ret
        exact ⟨ret_int (by rw [Hi.out, Hs.out, if_pos hpf.out]), bthen hb hb1⟩
    · go_wp2_with fail
      go_ret
      exact ⟨ret_int (by rw [Hi.out, drop_all hlt]; rfl), hb⟩
set_option maxHeartbeats 400000 in
theorem IndexFunc_Rc (l : List Rc) (v : Value) (g : Nat) (lb : Array Value) (p : Rc → Bool) (w : World) (hl : Sl w 4 Rc.enc v l) (hp : PredOk Try.prog g lb Rc.enc p w l) :
    Calls Try.prog 104 #[v, .func (.func g) #[] lb] w fun e w' => e = .returned (.int .i64 (idxOf p l 0)) ∧ Below w.heap.size w w' := by
  obtain ⟨A, c, rfl, h1, h2, h3⟩ := hl
  obtain ⟨eg, hp⟩ := hp
  unfold maxLen at h2
  go_enter Try.func104, Try.ntmps104
  go_wp2
  go_loopw [8] (fun i wr => ∃ k : Nat, k ≤ l.length ∧ i = .int .i64 k ∧ idxOf p l 0 = idxOf p (l.drop k) k ∧ Below w.heap.size w wr) (fun i _ => l.length - (intOf i).toNat)
  case atStart => exact ⟨0, Nat.zero_le _, rfl, rfl, Below.refl _ _⟩
  case round =>
    obtain ⟨k, hk, rfl, hi, hb⟩ := hrel
    have Hi := hid hi; clear hi
    by_cases hlt : k < l.length
    · obtain ⟨b, off, rfl, hbl, hc⟩ := h3 (by omega)
      obtain ⟨x, hx⟩ := get_of_lt hlt
      have hcs := cells4 hb hbl hc hx rfl
      have Hpx := hid (hp x (get_mem hx) wr hb)
      have Hs := hid (idxOf_step p hx)
      clear hx h3 hc
      cases hpp : p x
      · have hpf : Hid (p x = false) := hpp
        clear hpp
        go_wp2_with fail
        refine Hpx.out.mono ?_
        rintro e w1 ⟨rfl, hb1⟩
        rw [hpf.out]
        go_wp2_with fail
        go_roundw
        case rel => exact ⟨k + 1, by omega, by go_num, by rw [Hi.out, Hs.out, if_neg (by simp [hpf.out])], bthen hb hb1⟩
        case measure => simp [intOf]; omega
      · have hpf : Hid (p x = true) := hpp
        clear hpp
        go_wp2_with fail
        refine Hpx.out.mono ?_
        rintro e w1 ⟨rfl, hb1⟩
        rw [hpf.out]
        go_wp2_with fail
        go_ret
        exact ⟨ret_int (by rw [Hi.out, Hs.out, if_pos hpf.out]), bthen hb hb1⟩
    · go_wp2_with fail
      go_ret
      exact ⟨ret_int (by rw [Hi.out, drop_all hlt]; rfl), hb⟩
theorem ContainsFunc_Rc (l : List Rc) (v : Value) (g : Nat) (lb : Array Value) (p : Rc → Bool) (w : World) (hl : Sl w 4 Rc.enc v l) (hp : PredOk Try.prog g lb Rc.enc p w l) :
    Calls Try.prog 69 #[v, .func (.func g) #[] lb] w fun e w' => e = .returned (.bool (l.any p)) ∧ Below w.heap.size w w' := by
  have H := hid (idxOf_any p l 0)
  have Hl := hid hl
  have Hp := hid hp
  clear hl hp
  go_enter Try.func69, Try.ntmps69
  go_wp2_with fail
  refine (IndexFunc_Rc l v g lb p w Hl.out Hp.out).mono ?_
  rintro e w1 ⟨rfl, hb1⟩
  go_wp2_with fail
  go_ret
  exact ⟨ret_bool (by rw [← H.out]), hb1⟩
set_option maxHeartbeats 400000 in
theorem IndexFunc_Pt (l : List Pt) (v : Value) (g : Nat) (lb : Array Value) (p : Pt → Bool) (w : World) (hl : Sl w 2 Pt.enc v l) (hp : PredOk Try.prog g lb Pt.enc p w l) :
    Calls Try.prog 105 #[v, .func (.func g) #[] lb] w fun e w' => e = .returned (.int .i64 (idxOf p l 0)) ∧ Below w.heap.size w w' := by
  obtain ⟨A, c, rfl, h1, h2, h3⟩ := hl
  obtain ⟨eg, hp⟩ := hp
  unfold maxLen at h2
  go_enter Try.func105, Try.ntmps105
  go_wp2
  go_loopw [8] (fun i wr => ∃ k : Nat, k ≤ l.length ∧ i = .int .i64 k ∧ idxOf p l 0 = idxOf p (l.drop k) k ∧ Below w.heap.size w wr) (fun i _ => l.length - (intOf i).toNat)
  case atStart => exact ⟨0, Nat.zero_le _, rfl, rfl, Below.refl _ _⟩
  case round =>
    obtain ⟨k, hk, rfl, hi, hb⟩ := hrel
    have Hi := hid hi; clear hi
    by_cases hlt : k < l.length
    · obtain ⟨b, off, rfl, hbl, hc⟩ := h3 (by omega)
      obtain ⟨x, hx⟩ := get_of_lt hlt
      have hcs := cells2 hb hbl hc hx rfl
      have Hpx := hid (hp x (get_mem hx) wr hb)
      have Hs := hid (idxOf_step p hx)
      clear hx h3 hc
      cases hpp : p x
      · have hpf : Hid (p x = false) := hpp
        clear hpp
        go_wp2_with fail
        refine Hpx.out.mono ?_
        rintro e w1 ⟨rfl, hb1⟩
        rw [hpf.out]
        go_wp2_with fail
        go_roundw
        case rel => exact ⟨k + 1, by omega, by go_num, by rw [Hi.out, Hs.out, if_neg (by simp [hpf.out])], bthen hb hb1⟩
        case measure => simp [intOf]; omega
      · have hpf : Hid (p x = true) := hpp
        clear hpp
        go_wp2_with fail
        refine Hpx.out.mono ?_
        rintro e w1 ⟨rfl, hb1⟩
        rw [hpf.out]
        go_wp2_with fail
        go_ret
        exact ⟨ret_int (by rw [Hi.out, Hs.out, if_pos hpf.out]), bthen hb hb1⟩
    · go_wp2_with fail
      go_ret
      exact ⟨ret_int (by rw [Hi.out, drop_all hlt]; rfl), hb⟩
theorem ContainsFunc_Pt (l : List Pt) (v : Value) (g : Nat) (lb : Array Value) (p : Pt → Bool) (w : World) (hl : Sl w 2 Pt.enc v l) (hp : PredOk Try.prog g lb Pt.enc p w l) :
    Calls Try.prog 72 #[v, .func (.func g) #[] lb] w fun e w' => e = .returned (.bool (l.any p)) ∧ Below w.heap.size w w' := by
  have H := hid (idxOf_any p l 0)
  have Hl := hid hl
  have Hp := hid hp
  clear hl hp
  go_enter Try.func72, Try.ntmps72
  go_wp2_with fail
  refine (IndexFunc_Pt l v g lb p w Hl.out Hp.out).mono ?_
  rintro e w1 ⟨rfl, hb1⟩
  go_wp2_with fail
  go_ret
  exact ⟨ret_bool (by rw [← H.out]), hb1⟩
end Go.Proofs.Ytpkicpnbpldkpaa
