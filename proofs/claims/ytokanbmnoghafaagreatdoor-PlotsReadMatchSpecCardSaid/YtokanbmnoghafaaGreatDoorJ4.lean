/- From data to words: how the arguments of a law are opened into lists. Rows that list the library's table, of worlds that have the program's shape: the table, and the number that the search in strings reads, as facts of a law's base. -/
import Derived.Test.YtokanbmnoghafaaGreatDoorRows
import Derived.Test.YtokanbmnoghafaaGreatDoorJ2
import Derived.ProofKit
import Derived.Deep.Slices
import Derived.HandedShaped
import Derived.Lib.LaidTab
import Derived.LaidSub
import Derived.MakeChecks
import Derived.Lay
namespace Go.Proofs.YtokanbmnoghafaaGreatDoor
open Go.ChangeShapes Go.WideShapes Go.ChangeAt Go.RowKit Go.Deep
section
variable {H : Type} {enc : TypeId × Value → H} {w : World} {base : Nat} {spare : Nat → Bool} {held : Bool}
end
def zG4 (W : World) : Bs := ⟨W, lo W.heap.size, fun _ => False, fun b hb => by
  rcases hb with hb | hb
  · exact hb
  · exact hb.elim⟩
theorem lawBase_below {W W' : World} {E : Nat → Ent} (h : HF (zG4 W) W' E) : Below W.heap.size W W' := ⟨h.os, h.tape, h.output, h.size, fun b hb => h.keep b (.inl hb), h.drawn⟩
theorem own_ : ownKnob Tryz.prog.godebug = none := by kernel_rfl
theorem laidOut_ : laidOutB Tryz.prog = true := by kernel_rfl
open Go.RowKit Go.Deep Go.Lib Go.MakeChecks
def tabB (P : Program) : Bool := match P.globalNamed "internal/strconv.uint64pow10" with
  | some g => match (P.globals[g]?).map (·.type) with
    | some t => match P.underlying t with
      | some (.array n e) => (match P.underlying e with | some (.int .u64) => true | _ => false) && Nat.beq (P.cellsOf e) 1 && Nat.beq (P.cellsOf t) n
      | _ => false
    | none => false
  | none => false
theorem tab_of {P : Program} {W : World} {laid : List (String × DataW Unit)} (hb : tabB P = true) (hp : (laid.all fun x => x.2.handleName?.isNone) = true)
    (hl : (laid.filter fun x => x.1 == "internal/strconv.uint64pow10") = [("internal/strconv.uint64pow10", Lib.tabData .u64 Lib.pow10Tab)]) (h : laidMetH P laid W) : TabI P (zG4 W) := by
  rw [laidMetH_plain P laid W hp] at h
  have h2 := h.filter (fun x => x.1 == "internal/strconv.uint64pow10")
  rw [hl] at h2
  unfold tabB at hb
  split at hb
  · rename_i g hg
    split at hb
    · rename_i t ht
      split at hb
      · rename_i n e hu
        simp only [Bool.and_eq_true] at hb
        obtain ⟨⟨h3, h4⟩, h5⟩ := hb
        split at h3
        · rename_i he
          have hT := Lib.tabIs_of_head hg ht hu he (Nat.eq_of_beq_eq_true h4) (Nat.eq_of_beq_eq_true h5) h2
          refine ⟨g, hg, .inl ?_, hT⟩
          have hT' := hT
          unfold Lib.TabIs World.var? at hT'
          rw [hg] at hT'
          simp only [Option.bind_some] at hT'
          show g < W.heap.size
          rcases Nat.lt_or_ge g W.heap.size with hh | hh
          · exact hh
          · rw [Array.getElem?_eq_none hh] at hT'; cases hT'
        · cases h3
      · cases hb
    · cases hb
  · cases hb
theorem maxI_of {P : Program} {W : World} {g : Nat} (hg : P.globals.findIdx? (·.name == "internal/bytealg.MaxLen") = some g) (h : ∃ m, W.cell? ⟨g, 0, none⟩ = some (.int .i64 m)) : MaxI P (zG4 W) := by
  obtain ⟨m, hm⟩ := h
  exact ⟨g, hg, .inl (World.block_lt_of_cell? W _ hm), m, hm⟩
theorem zCV {H : Type} {enc : TypeId × Value → H} {a : Assume} {C : Checked} {os : Os} {f : FuncId} {fn : Func} {s : ChangeSpec} {conds : List PathCond} {apart fresh handsOn again : Bool} {X : World → Array Value → Prop}
    (hX : ∀ (w w' : World) (args : Array Value), w.heap = w'.heap → X w args → X w' args)
    (own : ownKnob C.prog.godebug = none) (started : os.Started) (noInit : C.prog.inits.idxOf? f = none) (hfn : C.prog.funcs[f]? = some fn)
    (witness : ∃ (w : World) (tape : Tape) (i : Input), w.os = os ∧ (w.forCall tape i).Shaped C.prog ∧ i.vars = [] ∧ Input.okWide C.prog (w.forCall tape i) .any w.heap.size f i ∧
      ((s.pre enc C.prog fn conds apart (w.forCall tape i).memory i.args ∧ X (w.forCall tape i).memory i.args) ∧ sizedMet enc C.prog fn (OpenSpec.ofChange s) apart (w.forCall tape i).memory i.args) ∧ a.holds C.prog (lone (Frame.enter C.prog f i.args .normal) [] (w.forCall tape i)))
    (contract : ∀ (W : World) (base : Nat) (args : Array Value) (ds gs : List (DataW H)) (before : List MemPlace), W.ShapedOpen C.prog →
      (∀ (j : Nat) t v, fn.params[j]? = some t → args[j]? = some v → Value.okWide C.prog W .any base t v) →
      DataW.Whole enc C.prog fn.params.toList s.vars apart W args.toList ds gs before →
      conds.all (PathCond.test C.prog ⟨fn.params.toList, ds, s.plain.varTypes C.prog, gs⟩) = true →
      (DataW.weightsEach C.prog (fn.params.toList ++ s.plain.varTypes C.prog) (ds ++ gs)).all (· ≤ reachBytes) = true → X W args →
      a.holds C.prog (lone (Frame.enter C.prog f args .normal) [] W) →
      Calls C.prog f args W fun e W' => ∃ v, e = .returned v ∧ s.post enc C.prog fn apart fresh handsOn again W args v W') :
    ReturnsInHanded a C os f .any (fun w args => (s.pre enc C.prog fn conds apart w args ∧ X w args) ∧ sizedMet enc C.prog fn (OpenSpec.ofChange s) apart w args) (s.post enc C.prog fn apart fresh handsOn again) := by
  refine returnsInHanded_of_calls own started noInit witness ?_
  intro w tape i _ hsh _ hok hpre hholds
  obtain ⟨_, _, _, fn', hfn', _, _, _, _, hval⟩ := hok
  have e : fn' = fn := Option.some.inj (hfn'.symm.trans hfn)
  subst e
  obtain ⟨⟨⟨ds, gs, before, hw, hc⟩, hx⟩, hz⟩ := hpre
  have hw' := DataW.Whole.of_heap (w' := w.forCall tape i) (by rfl) hw
  refine (contract (w.forCall tape i) w.heap.size i.args ds gs before hsh hval hw' hc (hz.weights hw) (hX _ _ _ (by rfl) hx) hholds).mono fun e W' ⟨v, he, hp⟩ => ?_
  subst he
  exact ChangeSpec.post_blind hp
end Go.Proofs.YtokanbmnoghafaaGreatDoor
