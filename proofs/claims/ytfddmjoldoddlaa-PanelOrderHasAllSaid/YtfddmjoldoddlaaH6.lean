/- Equality of structs, field by field. Over any program. Conditions: none beyond each theorem's own. -/
import Derived.Test.YtfddmjoldoddlaaH5
import Derived.Laws.StructEq
namespace Go.Proofs.Ytfddmjoldoddlaa
open Go.RowKit
theorem sEq_iff {s t : ByteArray} : sEq s t = true ↔ s = t := by
  unfold sEq
  rw [← beq_toListBytes]
  obtain ⟨x⟩ := s
  obtain ⟨y⟩ := t
  show (x == y) = true ↔ _
  rw [beq_iff_eq]
  exact ⟨fun h => by rw [h], fun h => by injection h⟩
theorem sEq_refl (s : ByteArray) : sEq s s = true := sEq_iff.2 rfl
theorem sEq_dec (s t : ByteArray) : sEq s t = decide (s = t) := by rw [Bool.eq_iff_iff, sEq_iff]; simp
section
variable {P : Program} {W : World} {d T : Nat}
theorem part1 {cs : Array Value} {o : Nat} {v : Value} (ha : aggOf P T = some false) (h : cs[o]? = some v) : (part T cs o).run P W = .ok v W := by
  simp [part, run_isAgg ha, h]
theorem partN {cs : Array Value} {o n : Nat} (ha : aggOf P T = some true) (hs : szOf P T = some n) : (part T cs o).run P W = .ok (.agg (cs.extract o (o + n))) W := by
  simp [part, run_isAgg ha, run_sizeOf hs]
theorem eqF_nil {xs ys : Array Value} : (Op.eqFields d xs ys []).run P W = .ok true W := by simp [Op.eqFields]
theorem eqF_cons {xs ys : Array Value} {f : Field} {fs : List Field} {a b : Value} {c r : Bool} (hn : (f.name != "_") = true) (ha : (part f.type xs f.offset).run P W = .ok a W) (hb : (part f.type ys f.offset).run P W = .ok b W)
    (hc : (Op.equalIn d f.type a b).run P W = .ok c W) (hr : (Op.eqFields d xs ys fs).run P W = .ok r W) : (Op.eqFields d xs ys (f :: fs)).run P W = .ok (c && r) W := by
  have hn' : f.name ≠ "_" := by simpa using hn
  simp only [Op.eqFields, Sem.run_bind, Sem.run_ite, if_pos hn', ha, hb, hc, Result.andThen_ok]
  cases c <;> simp [hr]
theorem eq_int {k k' : IntKind} {a b : Int} (h : P.underlying T = some (.int k')) : (Op.equalIn (d + 1) T (.int k a) (.int k b)).run P W = .ok (a == b) W := run_equalIn_int W d T k k' a b h
theorem eq_bool {a b : Bool} (h : P.underlying T = some .bool) : (Op.equalIn (d + 1) T (.bool a) (.bool b)).run P W = .ok (a == b) W := run_equalIn_bool W d T a b h
theorem eq_str {a b : ByteArray} (h : P.underlying T = some .string) : (Op.equalIn (d + 1) T (.string a) (.string b)).run P W = .ok (sEq a b) W := run_equalIn_string W d T a b h
theorem run_eqlG {ρ : Operand → Value} {dd : Option Tmp} {ty T' : TypeId} {pos : String} {af : Array Edge} {g : Option (Nat × Bool)} {p q : Operand} {xs ys : Array Value} {c : Bool} {m : Nat} (hd : m = 10000) (hm : P.eqGuardType P.depth T = false)
    (hc : (Op.equalIn m T (.agg xs) (.agg ys)).run P W = .ok c W) (hp : ρ p = .agg xs) (hq : ρ q = .agg ys) : (execOp ρ ⟨dd, .binOp .eql T p q T', ty, pos, af, g⟩).run P W = .ok (.value (.bool c)) W := by
  subst hd
  simp [execOp, hp, hq, run_eqGuard_agg W .eql T p q xs ys hm, run_eql_struct, hc]
theorem run_neqG {ρ : Operand → Value} {dd : Option Tmp} {ty T' : TypeId} {pos : String} {af : Array Edge} {g : Option (Nat × Bool)} {p q : Operand} {xs ys : Array Value} {c : Bool} {m : Nat} (hd : m = 10000) (hm : P.eqGuardType P.depth T = false)
    (hc : (Op.equalIn m T (.agg xs) (.agg ys)).run P W = .ok c W) (hp : ρ p = .agg xs) (hq : ρ q = .agg ys) : (execOp ρ ⟨dd, .binOp .neq T p q T', ty, pos, af, g⟩).run P W = .ok (.value (.bool (!c))) W := by
  subst hd
  simp [execOp, hp, hq, run_eqGuard_agg W .neq T p q xs ys hm, run_neq_struct, hc]
end
end Go.Proofs.Ytfddmjoldoddlaa
