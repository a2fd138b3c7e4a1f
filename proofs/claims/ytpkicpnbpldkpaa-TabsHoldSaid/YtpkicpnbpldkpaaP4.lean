/- IsName, in the program and in the reference: the same plain test of a string's bytes. -/
import Derived.Test.YtpkicpnbpldkpaaP3
namespace Go.Proofs.Ytpkicpnbpldkpaa
open Go.RowKit
/-- Byte c may stand at place i of a name. -/
def ChOk (i : Nat) (c : Int) : Prop := (97 ≤ c ∧ c ≤ 122) ∨ (65 ≤ c ∧ c ≤ 90) ∨ (i ≠ 0 ∧ ((48 ≤ c ∧ c ≤ 57) ∨ c = 95 ∨ c = 45))
def NameOk (s : ByteArray) : Prop := (∀ j (h : j < s.size), ChOk j (s[j].toNat : Int)) ∧ 1 ≤ s.size ∧ s.size ≤ 40
open Classical in
noncomputable def nameOk (s : ByteArray) : Bool := if NameOk s then true else false
theorem nameOk_bad {s : ByteArray} {k : Nat} (h : k < s.size) (hc : ¬ ChOk k (s[k].toNat : Int)) : nameOk s = false := by
  unfold nameOk; exact if_neg (fun hh => hc (hh.1 k h))
theorem nameOk_end {s : ByteArray} (h : ∀ j (h : j < s.size), ChOk j (s[j].toNat : Int)) : nameOk s = (decide (1 ≤ (s.size : Int)) && decide ((s.size : Int) ≤ 40)) := by
  rw [Bool.eq_iff_iff]
  unfold nameOk NameOk
  simp only [decide_eq_true_eq, Bool.and_eq_true, Bool.ite_eq_true_distrib, if_true_left, Bool.false_eq_true, imp_false, Classical.not_not]
  constructor
  · rintro ⟨_, a, b⟩; omega
  · intro hh; exact ⟨h, by omega, by omega⟩
def ChTo (s : ByteArray) (k : Nat) : Prop := ∀ j (h : j < s.size), j < k → ChOk j (s[j].toNat : Int)
theorem ChTo.succ {s : ByteArray} {k : Nat} (h : ChTo s k) (hk : k < s.size) (hc : ChOk k (s[k].toNat : Int)) : ChTo s (k + 1) := by
  intro j hj hjk
  by_cases e : j = k
  · subst e; exact hc
  · exact h j hj (by omega)
set_option maxHeartbeats 1000000
theorem IsName_113 (s : ByteArray) (w : World) (hs : s.size ≤ maxLen) :
    Calls Try.prog 113 #[.string s] w fun e w' => e = .returned (.bool (nameOk s)) ∧ w = w' := by
  unfold maxLen at hs
  go_enter Try.func113, Try.ntmps113
  go_wp2
  go_loop [8] (fun i => ∃ k : Nat, k ≤ s.size ∧ i = .int .i64 k ∧ ChTo s k) (fun i => s.size - (intOf i).toNat)
  case atStart => exact ⟨0, Nat.zero_le _, rfl, fun j hj h => absurd h (by omega)⟩
  case round =>
    obtain ⟨k, hk, rfl, hto⟩ := hrel
    by_cases hlt : k < s.size
    · have hyes := fun (hc : ChOk k (s[k].toNat : Int)) => hto.succ hlt hc
      have hno := fun (hc : ¬ ChOk k (s[k].toNat : Int)) => nameOk_bad hlt hc
      have Hyes := hid hyes
      have Hno := hid hno
      clear hto hyes hno
      unfold ChOk at Hyes Hno
      have hcl : (s[k].toNat : Int) ≤ 255 := by have := s[k].toNat_lt; omega
      rcases (show (s[k].toNat : Int) ≤ 44 ∨ (45 ≤ (s[k].toNat : Int) ∧ (s[k].toNat : Int) ≤ 45) ∨ (46 ≤ (s[k].toNat : Int) ∧ (s[k].toNat : Int) ≤ 47) ∨ (48 ≤ (s[k].toNat : Int) ∧ (s[k].toNat : Int) ≤ 57) ∨ (58 ≤ (s[k].toNat : Int) ∧ (s[k].toNat : Int) ≤ 64)
        ∨ (65 ≤ (s[k].toNat : Int) ∧ (s[k].toNat : Int) ≤ 90) ∨ (91 ≤ (s[k].toNat : Int) ∧ (s[k].toNat : Int) ≤ 94) ∨ (95 ≤ (s[k].toNat : Int) ∧ (s[k].toNat : Int) ≤ 95) ∨ (96 ≤ (s[k].toNat : Int) ∧ (s[k].toNat : Int) ≤ 96) ∨ (97 ≤ (s[k].toNat : Int) ∧ (s[k].toNat : Int) ≤ 122) ∨ 123 ≤ (s[k].toNat : Int) from by omega)
        with hc | ⟨hc, hc'⟩ | ⟨hc, hc'⟩ | ⟨hc, hc'⟩ | ⟨hc, hc'⟩ | ⟨hc, hc'⟩ | ⟨hc, hc'⟩ | ⟨hc, hc'⟩ | ⟨hc, hc'⟩ | ⟨hc, hc'⟩ | hc
      all_goals
        first | (have q1 : ((s[k].toNat : Int) != 95) = true := by (rw [bne_iff_ne]; omega)) | (have q1 : ((s[k].toNat : Int) != 95) = false := by (simp; omega))
        first | (have q2 : ((s[k].toNat : Int) != 45) = true := by (rw [bne_iff_ne]; omega)) | (have q2 : ((s[k].toNat : Int) != 45) = false := by (simp; omega))
        first | (have dd1 : decide (97 ≤ (s[k].toNat : Int)) = true := decide_eq_true (by omega)) | (have dd1 : decide (97 ≤ (s[k].toNat : Int)) = false := decide_eq_false (by omega))
        first | (have dd2 : decide ((s[k].toNat : Int) ≤ 122) = true := decide_eq_true (by omega)) | (have dd2 : decide ((s[k].toNat : Int) ≤ 122) = false := decide_eq_false (by omega))
        first | (have dd3 : decide (65 ≤ (s[k].toNat : Int)) = true := decide_eq_true (by omega)) | (have dd3 : decide (65 ≤ (s[k].toNat : Int)) = false := decide_eq_false (by omega))
        first | (have dd4 : decide ((s[k].toNat : Int) ≤ 90) = true := decide_eq_true (by omega)) | (have dd4 : decide ((s[k].toNat : Int) ≤ 90) = false := decide_eq_false (by omega))
        first | (have dd5 : decide ((s[k].toNat : Int) < 48) = true := decide_eq_true (by omega)) | (have dd5 : decide ((s[k].toNat : Int) < 48) = false := decide_eq_false (by omega))
        first | (have dd6 : decide (57 < (s[k].toNat : Int)) = true := decide_eq_true (by omega)) | (have dd6 : decide (57 < (s[k].toNat : Int)) = false := decide_eq_false (by omega))
        first | (have dd7 : decide (48 ≤ (s[k].toNat : Int)) = true := decide_eq_true (by omega)) | (have dd7 : decide (48 ≤ (s[k].toNat : Int)) = false := decide_eq_false (by omega))
        first | (have dd8 : decide ((s[k].toNat : Int) ≤ 57) = true := decide_eq_true (by omega)) | (have dd8 : decide ((s[k].toNat : Int) ≤ 57) = false := decide_eq_false (by omega))
        by_cases hk0 : 1 ≤ k
      all_goals
        first | (have q3 : ((k : Int) == 0) = true := by (simp; omega)) | (have q3 : ((k : Int) == 0) = false := by (simp; omega))
      all_goals go_wp2
      all_goals first
        | (go_round
           case rel => exact ⟨k + 1, by omega, by go_num, Hyes.out (by omega)⟩
           case measure => simp [intOf]; omega)
        | (go_ret
           exact ⟨ret_bool (Hno.out (by omega)).symm, rfl⟩)
    · have hE := nameOk_end (s := s) (fun j hj => hto j hj (by omega))
      have HE := hid hE
      clear hto hE
      go_wp2_with (go_at_call 112; refine (within_112 _ _ _ _).mono ?_; rintro e w' ⟨rfl, rfl⟩)
      all_goals go_ret
      all_goals exact ⟨ret_bool (by rw [HE.out]; (try unfold within); first | rfl | (rw [Bool.eq_iff_iff] <;> first | (simp; done) | (simp; omega))), rfl⟩
theorem IsName_84 (s : ByteArray) (w : World) (hs : s.size ≤ maxLen) :
    Calls Try.prog 84 #[.string s] w fun e w' => e = .returned (.bool (nameOk s)) ∧ w = w' := by
  unfold maxLen at hs
  go_enter Try.func84, Try.ntmps84
  go_wp2
  go_loop [3] (fun i => ∃ k : Nat, k ≤ s.size ∧ i = .int .i64 k ∧ ChTo s k) (fun i => s.size - (intOf i).toNat)
  case atStart => exact ⟨0, Nat.zero_le _, rfl, fun j hj h => absurd h (by omega)⟩
  case round =>
    obtain ⟨k, hk, rfl, hto⟩ := hrel
    by_cases hlt : k < s.size
    · have hyes := fun (hc : ChOk k (s[k].toNat : Int)) => hto.succ hlt hc
      have hno := fun (hc : ¬ ChOk k (s[k].toNat : Int)) => nameOk_bad hlt hc
      have Hyes := hid hyes
      have Hno := hid hno
      clear hto hyes hno
      unfold ChOk at Hyes Hno
      have hcl : (s[k].toNat : Int) ≤ 255 := by have := s[k].toNat_lt; omega
      rcases (show (s[k].toNat : Int) ≤ 44 ∨ (45 ≤ (s[k].toNat : Int) ∧ (s[k].toNat : Int) ≤ 45) ∨ (46 ≤ (s[k].toNat : Int) ∧ (s[k].toNat : Int) ≤ 47) ∨ (48 ≤ (s[k].toNat : Int) ∧ (s[k].toNat : Int) ≤ 57) ∨ (58 ≤ (s[k].toNat : Int) ∧ (s[k].toNat : Int) ≤ 64)
        ∨ (65 ≤ (s[k].toNat : Int) ∧ (s[k].toNat : Int) ≤ 90) ∨ (91 ≤ (s[k].toNat : Int) ∧ (s[k].toNat : Int) ≤ 94) ∨ (95 ≤ (s[k].toNat : Int) ∧ (s[k].toNat : Int) ≤ 95) ∨ (96 ≤ (s[k].toNat : Int) ∧ (s[k].toNat : Int) ≤ 96) ∨ (97 ≤ (s[k].toNat : Int) ∧ (s[k].toNat : Int) ≤ 122) ∨ 123 ≤ (s[k].toNat : Int) from by omega)
        with hc | ⟨hc, hc'⟩ | ⟨hc, hc'⟩ | ⟨hc, hc'⟩ | ⟨hc, hc'⟩ | ⟨hc, hc'⟩ | ⟨hc, hc'⟩ | ⟨hc, hc'⟩ | ⟨hc, hc'⟩ | ⟨hc, hc'⟩ | hc
      all_goals
        first | (have q1 : ((s[k].toNat : Int) != 95) = true := by (rw [bne_iff_ne]; omega)) | (have q1 : ((s[k].toNat : Int) != 95) = false := by (simp; omega))
        first | (have q2 : ((s[k].toNat : Int) != 45) = true := by (rw [bne_iff_ne]; omega)) | (have q2 : ((s[k].toNat : Int) != 45) = false := by (simp; omega))
        first | (have dd9 : decide (97 ≤ (s[k].toNat : Int)) = true := decide_eq_true (by omega)) | (have dd9 : decide (97 ≤ (s[k].toNat : Int)) = false := decide_eq_false (by omega))
        first | (have dd10 : decide ((s[k].toNat : Int) ≤ 122) = true := decide_eq_true (by omega)) | (have dd10 : decide ((s[k].toNat : Int) ≤ 122) = false := decide_eq_false (by omega))
        first | (have dd11 : decide (65 ≤ (s[k].toNat : Int)) = true := decide_eq_true (by omega)) | (have dd11 : decide (65 ≤ (s[k].toNat : Int)) = false := decide_eq_false (by omega))
        first | (have dd12 : decide ((s[k].toNat : Int) ≤ 90) = true := decide_eq_true (by omega)) | (have dd12 : decide ((s[k].toNat : Int) ≤ 90) = false := decide_eq_false (by omega))
        first | (have dd13 : decide ((s[k].toNat : Int) < 48) = true := decide_eq_true (by omega)) | (have dd13 : decide ((s[k].toNat : Int) < 48) = false := decide_eq_false (by omega))
        first | (have dd14 : decide (57 < (s[k].toNat : Int)) = true := decide_eq_true (by omega)) | (have dd14 : decide (57 < (s[k].toNat : Int)) = false := decide_eq_false (by omega))
        first | (have dd15 : decide (48 ≤ (s[k].toNat : Int)) = true := decide_eq_true (by omega)) | (have dd15 : decide (48 ≤ (s[k].toNat : Int)) = false := decide_eq_false (by omega))
        first | (have dd16 : decide ((s[k].toNat : Int) ≤ 57) = true := decide_eq_true (by omega)) | (have dd16 : decide ((s[k].toNat : Int) ≤ 57) = false := decide_eq_false (by omega))
        by_cases hk0 : 1 ≤ k
      all_goals
        first | (have q3 : ((k : Int) == 0) = true := by (simp; omega)) | (have q3 : ((k : Int) == 0) = false := by (simp; omega))
      all_goals go_wp2
      all_goals first
        | (go_round
           case rel => exact ⟨k + 1, by omega, by go_num, Hyes.out (by omega)⟩
           case measure => simp [intOf]; omega)
        | (go_ret
           exact ⟨ret_bool (Hno.out (by omega)).symm, rfl⟩)
    · have hE := nameOk_end (s := s) (fun j hj => hto j hj (by omega))
      have HE := hid hE
      clear hto hE
      go_wp2_with (go_at_call 112; refine (within_112 _ _ _ _).mono ?_; rintro e w' ⟨rfl, rfl⟩)
      all_goals go_ret
      all_goals exact ⟨ret_bool (by rw [HE.out]; (try unfold within); first | rfl | (rw [Bool.eq_iff_iff] <;> first | (simp; done) | (simp; omega))), rfl⟩
end Go.Proofs.Ytpkicpnbpldkpaa
