/- checkKinds: the error of the kinds of boards. -/
import Derived.Test.YtpkicpnbpldkpaaP4
namespace Go.Proofs.Ytpkicpnbpldkpaa
open Go.RowKit
noncomputable def kindsErr : Option ByteArray → List BKind → Int
  | _, [] => 0
  | prev, k :: rest => if nameOk k.Name = false then 5 else if within k.W 1 1000000 = false ∨ within k.H 1 1000000 = false then 1
      else if (prev.any fun q => strLe k.Name q) = true then 8 else kindsErr (some k.Name) rest
noncomputable def checkKinds (l : List BKind) : Int := if 50 < l.length then 2 else kindsErr none l
/-- The name before place k. -/
def prevAt (l : List BKind) (k : Nat) : Option ByteArray := if k = 0 then none else (l[k - 1]?).map (·.Name)
theorem prevAt_succ {l : List BKind} {k : Nat} {x : BKind} (h : l[k]? = some x) : prevAt l (k + 1) = some x.Name := by simp [prevAt, h]
set_option maxHeartbeats 1000000
theorem checkKinds_any (l : List BKind) (v : Value) (w : World) (hl : Sl w 3 BKind.enc v l) (hs : ∀ k ∈ l, k.Name.size ≤ maxLen) :
    Calls Try.prog 94 #[v] w fun e w' => e = .returned (.int .i64 (checkKinds l)) ∧ Below w.heap.size w w' := by
  obtain ⟨A, c, rfl, h1, h2, h3⟩ := hl
  unfold maxLen at h2
  by_cases hlen : 50 < l.length
  · have HR : Hid (checkKinds l = 2) := if_pos hlen
    go_enter Try.func94, Try.ntmps94
    go_wp2
    go_ret
    exact ⟨ret_int (by rw [HR.out]), (by repeat (first | exact Below.refl _ _ | assumption | (with_reducible refine Below.drew ?_) | (with_reducible refine below_drewN ?_ _) | (with_reducible refine Below.alloc ?_ (by simp <;> omega) _)))⟩
  have HR : Hid (checkKinds l = kindsErr none l) := if_neg hlen
  have hlen' : l.length ≤ 50 := by omega
  clear hlen
  go_enter Try.func94, Try.ntmps94
  go_wp2
  go_loopw [10] (fun i wr => ∃ k : Nat, k ≤ l.length ∧ i = .int .i64 k ∧ kindsErr none l = kindsErr (prevAt l k) (l.drop k) ∧ Below w.heap.size w wr) (fun i _ => l.length - (intOf i).toNat)
  case atStart => exact ⟨0, Nat.zero_le _, rfl, rfl, Below.refl _ _⟩
  case round =>
    obtain ⟨k, hk, rfl, hi, hb⟩ := hrel
    have Hi := hid hi; clear hi
    by_cases hlt : k < l.length
    · obtain ⟨b, off, rfl, hbl, hc⟩ := h3 (by omega)
      obtain ⟨x, hx⟩ := get_of_lt hlt
      have hcs := cells3 hb hbl hc hx rfl
      have hbr : b < wr.heap.size := by have := hb.size; omega
      have hlts := lts hbr
      have Hd := hid (drop_at hx)
      have Hp := hid (prevAt_succ hx)
      have cN := hid (fun w => IsName_113 x.Name w (hs x (get_mem hx)))
      have cW := hid (fun w => within_46 x.W 1 1000000 w)
      have cH := hid (fun w => within_46 x.H 1 1000000 w)
      have HU : Hid (kindsErr (prevAt l k) (x :: l.drop (k + 1)) = if nameOk x.Name = false then 5 else if within x.W 1 1000000 = false ∨ within x.H 1 1000000 = false then 1
        else if ((prevAt l k).any fun q => strLe x.Name q) = true then 8 else kindsErr (some x.Name) (l.drop (k + 1))) := rfl
      have hbs := hb.size
      have hfin : ∀ w', Below wr.heap.size wr w' → Below w.heap.size w w' := fun w' h => bthen hb h
      have Hfin := hid hfin
      clear h3 hs hfin
      cases hN : nameOk x.Name with
      | false =>
        rw [hN] at cN HU
        clear hN hx hc
        go_wp2_with (first | (go_at_call 113; (with_reducible refine (cN.out _).mono ?_); rintro e w1 ⟨rfl, rfl⟩) | (go_at_call 46; (with_reducible refine (cW.out _).mono ?_); rintro e w1 ⟨rfl, rfl⟩) | (go_at_call 46; (with_reducible refine (cH.out _).mono ?_); rintro e w1 ⟨rfl, rfl⟩))
        go_ret
        exact ⟨ret_int (by rw [HR.out, Hi.out, Hd.out, HU.out]; rfl), Hfin.out _ (by repeat (first | exact Below.refl _ _ | assumption | (with_reducible refine Below.drew ?_) | (with_reducible refine below_drewN ?_ _) | (with_reducible refine Below.alloc ?_ (by simp <;> omega) _)))⟩
      | true =>
      rw [hN] at cN HU
      cases hW : within x.W 1 1000000 with
      | false =>
        rw [hW] at cW HU
        clear hN hx hW hc
        go_wp2_with (first | (go_at_call 113; (with_reducible refine (cN.out _).mono ?_); rintro e w1 ⟨rfl, rfl⟩) | (go_at_call 46; (with_reducible refine (cW.out _).mono ?_); rintro e w1 ⟨rfl, rfl⟩) | (go_at_call 46; (with_reducible refine (cH.out _).mono ?_); rintro e w1 ⟨rfl, rfl⟩))
        go_ret
        exact ⟨ret_int (by rw [HR.out, Hi.out, Hd.out, HU.out]; rfl), Hfin.out _ (by repeat (first | exact Below.refl _ _ | assumption | (with_reducible refine Below.drew ?_) | (with_reducible refine below_drewN ?_ _) | (with_reducible refine Below.alloc ?_ (by simp <;> omega) _)))⟩
      | true =>
      rw [hW] at cW HU
      cases hH : within x.H 1 1000000 with
      | false =>
        rw [hH] at cH HU
        clear hN hx hW hH hc
        go_wp2_with (first | (go_at_call 113; (with_reducible refine (cN.out _).mono ?_); rintro e w1 ⟨rfl, rfl⟩) | (go_at_call 46; (with_reducible refine (cW.out _).mono ?_); rintro e w1 ⟨rfl, rfl⟩) | (go_at_call 46; (with_reducible refine (cH.out _).mono ?_); rintro e w1 ⟨rfl, rfl⟩))
        go_ret
        exact ⟨ret_int (by rw [HR.out, Hi.out, Hd.out, HU.out]; rfl), Hfin.out _ (by repeat (first | exact Below.refl _ _ | assumption | (with_reducible refine Below.drew ?_) | (with_reducible refine below_drewN ?_ _) | (with_reducible refine Below.alloc ?_ (by simp <;> omega) _)))⟩
      | true =>
      rw [hH] at cH HU
      clear hN hW hH
      by_cases hk0 : k = 0
      · have HU2 : Hid (kindsErr (prevAt l k) (x :: l.drop (k + 1)) = kindsErr (some x.Name) (l.drop (k + 1))) := by subst hk0; exact HU.out
        have hd0 : decide (0 < k) = false := decide_eq_false (by omega)
        clear hx HU hk0 hc
        go_wp2_with (first | (go_at_call 113; (with_reducible refine (cN.out _).mono ?_); rintro e w1 ⟨rfl, rfl⟩) | (go_at_call 46; (with_reducible refine (cW.out _).mono ?_); rintro e w1 ⟨rfl, rfl⟩) | (go_at_call 46; (with_reducible refine (cH.out _).mono ?_); rintro e w1 ⟨rfl, rfl⟩))
        go_quiet (fail)
        go_wp2
        go_roundw
        case rel => exact ⟨k + 1, by omega, by go_num, by rw [Hi.out, Hd.out, HU2.out, Hp.out], Hfin.out _ (by repeat (first | exact Below.refl _ _ | assumption | (with_reducible refine Below.drew ?_) | (with_reducible refine below_drewN ?_ _) | (with_reducible refine Below.alloc ?_ (by simp <;> omega) _)))⟩
        case measure => simp [intOf]; omega
      · obtain ⟨m, rfl⟩ : ∃ m, k = m + 1 := ⟨k - 1, by omega⟩
        obtain ⟨y, hy⟩ := get_of_lt (l := l) (k := m) (by omega)
        have hcs2 := cells3 hb hbl hc hy rfl
        have hys : prevAt l (m + 1) = some y.Name := prevAt_succ hy
        rw [hys] at HU
        have HV : Hid (kindsErr (prevAt l (m + 1)) (x :: l.drop (m + 1 + 1)) = if strLe x.Name y.Name = true then 8 else kindsErr (some x.Name) (l.drop (m + 1 + 1))) := by rw [hys]; exact HU.out
        have hsl : strLe x.Name y.Name = (Op.bytesLess x.Name.toList y.Name.toList || x.Name.toList == y.Name.toList) := rfl
        clear hx HU hk0 hy hys hc
        rw [hsl] at HV
        clear hsl
        cases hL1 : Op.bytesLess x.Name.toList y.Name.toList with
        | false =>
          cases hL2 : (x.Name.toList == y.Name.toList) with
          | false =>
            rw [hL1, hL2] at HV
            go_wp2_with (first | (go_at_call 113; (with_reducible refine (cN.out _).mono ?_); rintro e w1 ⟨rfl, rfl⟩) | (go_at_call 46; (with_reducible refine (cW.out _).mono ?_); rintro e w1 ⟨rfl, rfl⟩) | (go_at_call 46; (with_reducible refine (cH.out _).mono ?_); rintro e w1 ⟨rfl, rfl⟩))
            go_quiet (fail)
            go_wp2
            go_roundw
            case rel => exact ⟨m + 1 + 1, by omega, by go_num, by rw [Hi.out, Hd.out, HV.out, Hp.out]; rfl, Hfin.out _ (by repeat (first | exact Below.refl _ _ | assumption | (with_reducible refine Below.drew ?_) | (with_reducible refine below_drewN ?_ _) | (with_reducible refine Below.alloc ?_ (by simp <;> omega) _)))⟩
            case measure => simp [intOf]; omega
          | true =>
            rw [hL1, hL2] at HV
            go_wp2_with (first | (go_at_call 113; (with_reducible refine (cN.out _).mono ?_); rintro e w1 ⟨rfl, rfl⟩) | (go_at_call 46; (with_reducible refine (cW.out _).mono ?_); rintro e w1 ⟨rfl, rfl⟩) | (go_at_call 46; (with_reducible refine (cH.out _).mono ?_); rintro e w1 ⟨rfl, rfl⟩))
            go_quiet (fail)
            go_wp2
            go_ret
            exact ⟨ret_int (by rw [HR.out, Hi.out, Hd.out, HV.out]; rfl), Hfin.out _ (by repeat (first | exact Below.refl _ _ | assumption | (with_reducible refine Below.drew ?_) | (with_reducible refine below_drewN ?_ _) | (with_reducible refine Below.alloc ?_ (by simp <;> omega) _)))⟩

        | true =>
          rw [hL1] at HV
          go_wp2_with (first | (go_at_call 113; (with_reducible refine (cN.out _).mono ?_); rintro e w1 ⟨rfl, rfl⟩) | (go_at_call 46; (with_reducible refine (cW.out _).mono ?_); rintro e w1 ⟨rfl, rfl⟩) | (go_at_call 46; (with_reducible refine (cH.out _).mono ?_); rintro e w1 ⟨rfl, rfl⟩))
          go_quiet (fail)
          go_wp2
          go_ret
          exact ⟨ret_int (by rw [HR.out, Hi.out, Hd.out, HV.out]; rfl), Hfin.out _ (by repeat (first | exact Below.refl _ _ | assumption | (with_reducible refine Below.drew ?_) | (with_reducible refine below_drewN ?_ _) | (with_reducible refine Below.alloc ?_ (by simp <;> omega) _)))⟩

    · go_wp2_with fail
      go_ret
      exact ⟨ret_int (by rw [HR.out, Hi.out, drop_all hlt]; unfold kindsErr; rfl), hb⟩
end Go.Proofs.Ytpkicpnbpldkpaa
