/- The plain functions of the panels: what each small function of the program says. Plain Lean, no program. -/
import Derived.Test.YtpkicpnbpldkpaaD0
namespace Go.Proofs.Ytpkicpnbpldkpaa

def within (n lo hi : Int) : Bool := decide (lo ≤ n) && decide (n ≤ hi)
theorem within_iff {n lo hi : Int} : within n lo hi = true ↔ lo ≤ n ∧ n ≤ hi := by simp [within]
theorem within_not {n lo hi : Int} : within n lo hi = false ↔ n < lo ∨ hi < n := by simp [within]; omega
def sizeW (k : BKind) (q : Int) : Int := if q.tmod 2 = 1 then k.H else k.W
def sizeH (k : BKind) (q : Int) : Int := if q.tmod 2 = 1 then k.W else k.H
def kindIdx (l : List BKind) (nm : ByteArray) : Int := idxOf (fun k => k.Name.toList == nm.toList) l 0
def kindOf (l : List BKind) (nm : ByteArray) : BKind := (l[(kindIdx l nm).toNat]?).getD ⟨ByteArray.empty, 0, 0⟩
def cellOf (p : Panel) (s : Slot) : Rc :=
  ⟨s.At.X, s.At.Y, s.At.X + sizeW (kindOf p.Kinds s.Board) s.Q, s.At.Y + sizeH (kindOf p.Kinds s.Board) s.Q⟩
def apart (a b : Rc) (gap : Int) : Bool := decide (a.X1 + gap ≤ b.X0) || decide (b.X1 + gap ≤ a.X0) || decide (a.Y1 + gap ≤ b.Y0) || decide (b.Y1 + gap ≤ a.Y0)
def isOn (p : Panel) (c : Rc) : Bool := decide (p.Rail ≤ c.X0) && decide (p.Rail ≤ c.Y0) && decide (c.X0 ≤ p.W) && decide (c.Y0 ≤ p.H) && decide (c.X1 ≤ p.W - p.Rail) && decide (c.Y1 ≤ p.H - p.Rail)
def isInside (c : Rc) (q : Pt) : Bool := decide (c.X0 < q.X) && decide (q.X < c.X1) && decide (c.Y0 < q.Y) && decide (q.Y < c.Y1)
def onPanel (p : Panel) (q : Pt) : Bool := within q.X 0 p.W && within q.Y 0 p.H
theorem kindOf_get {l : List BKind} {nm : ByteArray} (h : 0 ≤ kindIdx l nm) : l[(kindIdx l nm).toNat]? = some (kindOf l nm) := by
  obtain ⟨x, hx, _⟩ := idxOf_hit (fun k : BKind => k.Name.toList == nm.toList) l 0 h
  have : l[(kindIdx l nm).toNat]? = some x := by simpa [kindIdx] using hx
  rw [kindOf, this]; rfl
def strLe (a b : ByteArray) : Bool := Op.bytesLess a.toList b.toList || a.toList == b.toList
end Go.Proofs.Ytpkicpnbpldkpaa
