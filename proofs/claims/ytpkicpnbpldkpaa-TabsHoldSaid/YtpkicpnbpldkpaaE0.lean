/- '==' and '!=' at the program's structs: they compare field by field. -/
import Derived.Test.YtpkicpnbpldkpaaProg
import Derived.Test.YtpkicpnbpldkpaaD0
import Derived.Laws.StructEq
namespace Go.Proofs.Ytpkicpnbpldkpaa
open Go.RowKit
theorem eqPt_guard : Try.prog.eqGuardType Try.prog.depth 32 = false := by kernel_rfl
theorem eqPt_fields : Try.prog.underlying 32 = some (.struct (Try.prog.fieldsOf 32)) := by kernel_rfl
theorem eqPt_stood : Try.prog.stoodInHeld 32 = false := by kernel_rfl
theorem eqRc_guard : Try.prog.eqGuardType Try.prog.depth 42 = false := by kernel_rfl
theorem eqRc_fields : Try.prog.underlying 42 = some (.struct (Try.prog.fieldsOf 42)) := by kernel_rfl
theorem eqRc_stood : Try.prog.stoodInHeld 42 = false := by kernel_rfl
theorem eqPt_run (a b : Pt) (w : World) : (binOp .eql 32 (.agg #[.int .i64 a.X, .int .i64 a.Y]) (.agg #[.int .i64 b.X, .int .i64 b.Y])).run Try.prog w = .ok (.bool (decide (a = b))) w := by
  have u3 := Try.underlying3
  have a3 := Try.isAgg3
  have z3 := Try.sizeOf3
  have e : decide (a = b) = (decide (a.X = b.X) && decide (a.Y = b.Y)) := by
    obtain ⟨a1, a2⟩ := a; obtain ⟨b1, b2⟩ := b
    rw [Bool.eq_iff_iff]; simp
  rw [e, run_eql_struct, show (10000 : Nat) = 9999 + 1 from rfl, run_equalIn_agg w 9999 32 _ _ eqPt_fields eqPt_stood]
  simp only [Program.fieldsOf, Try.underlying32]
  go_simp
  by_cases h1 : a.X = b.X <;> by_cases h2 : a.Y = b.Y <;> simp [h1, h2]
theorem eqRc_run (a b : Rc) (w : World) : (binOp .eql 42 (.agg #[.int .i64 a.X0, .int .i64 a.Y0, .int .i64 a.X1, .int .i64 a.Y1]) (.agg #[.int .i64 b.X0, .int .i64 b.Y0, .int .i64 b.X1, .int .i64 b.Y1])).run Try.prog w = .ok (.bool (decide (a = b))) w := by
  have u3 := Try.underlying3
  have a3 := Try.isAgg3
  have z3 := Try.sizeOf3
  have e : decide (a = b) = (decide (a.X0 = b.X0) && decide (a.Y0 = b.Y0) && decide (a.X1 = b.X1) && decide (a.Y1 = b.Y1)) := by
    obtain ⟨a1, a2, a3, a4⟩ := a; obtain ⟨b1, b2, b3, b4⟩ := b
    rw [Bool.eq_iff_iff]; simp [and_assoc]
  rw [e, run_eql_struct, show (10000 : Nat) = 9999 + 1 from rfl, run_equalIn_agg w 9999 42 _ _ eqRc_fields eqRc_stood]
  simp only [Program.fieldsOf, Try.underlying42]
  go_simp
  by_cases h1 : a.X0 = b.X0 <;> by_cases h2 : a.Y0 = b.Y0 <;> by_cases h3 : a.X1 = b.X1 <;> by_cases h4 : a.Y1 = b.Y1 <;> simp [h1, h2, h3, h4]
end Go.Proofs.Ytpkicpnbpldkpaa
