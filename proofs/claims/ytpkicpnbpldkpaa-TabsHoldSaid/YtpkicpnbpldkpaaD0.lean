/- The data of the panels, as Lean structures, and the cells that each takes. Plain definitions. -/
import Derived.Test.YtpkicpnbpldkpaaB0
namespace Go.Proofs.Ytpkicpnbpldkpaa
open Go.RowKit

structure Pt where
  X : Int
  Y : Int
  deriving DecidableEq
def Pt.enc (p : Pt) : List Value := [.int .i64 p.X, .int .i64 p.Y]
structure Rc where
  X0 : Int
  Y0 : Int
  X1 : Int
  Y1 : Int
  deriving DecidableEq
def Rc.enc (r : Rc) : List Value := [.int .i64 r.X0, .int .i64 r.Y0, .int .i64 r.X1, .int .i64 r.Y1]
structure BKind where
  Name : ByteArray
  W : Int
  H : Int
  deriving DecidableEq
def BKind.enc (k : BKind) : List Value := [.string k.Name, .int .i64 k.W, .int .i64 k.H]
structure Slot where
  Board : ByteArray
  Q : Int
  At : Pt
  deriving DecidableEq
def Slot.enc (s : Slot) : List Value := [.string s.Board, .int .i64 s.Q, .int .i64 s.At.X, .int .i64 s.At.Y]
def iEnc (n : Int) : List Value := [.int .i64 n]
structure Panel where
  W : Int
  H : Int
  Rail : Int
  Gap : Int
  Kinds : List BKind
  Slots : List Slot
  Marks : List Pt
theorem Pt.len (p : Pt) : p.enc.length = 2 := rfl
theorem Rc.len (p : Rc) : p.enc.length = 4 := rfl
theorem BKind.len (p : BKind) : p.enc.length = 3 := rfl
theorem Slot.len (p : Slot) : p.enc.length = 4 := rfl
theorem iEnc.len (n : Int) : (iEnc n).length = 1 := rfl

/-- The three slices of a panel read as its lists. -/
structure PanelOk (w : World) (p : Panel) (kv sv mv : Value) : Prop where
  kinds : Sl w 3 BKind.enc kv p.Kinds
  slots : Sl w 4 Slot.enc sv p.Slots
  marks : Sl w 2 Pt.enc mv p.Marks
  names : ∀ k ∈ p.Kinds, k.Name.size ≤ maxLen
theorem PanelOk.ext {w w' : World} {p : Panel} {kv sv mv : Value} (h : PanelOk w p kv sv mv) (hb : Below w.heap.size w w') : PanelOk w' p kv sv mv :=
  ⟨h.kinds.ext hb, h.slots.ext hb, h.marks.ext hb, h.names⟩
end Go.Proofs.Ytpkicpnbpldkpaa
