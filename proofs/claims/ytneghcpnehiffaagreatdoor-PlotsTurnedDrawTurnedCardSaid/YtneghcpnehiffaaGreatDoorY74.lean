/- PlotsTurnedDrawTurned: the plain law. Conditions: none beyond each theorem's own. -/
import Derived.Test.YtneghcpnehiffaaGreatDoorJ4
import Derived.Test.YtneghcpnehiffaaGreatDoorQPTDTR
namespace Go.Proofs.YtneghcpnehiffaaGreatDoor
theorem zcQ {x : zC} (h : x.Wf) : zOU x := by
 induction h with
 | mk f1 f2 f3 l1 f4 f5 f6 l2 f7 ih =>
  rw [zGB]
  exact ⟨f2, ⟨f3.fX, f3.fY⟩, ⟨l1, fun q hq => ⟨(f4 q hq).fX, (f4 q hq).fY⟩⟩, ⟨f5, f6⟩, l2, zNW ih⟩
theorem zcR {p : zt} (h : p.Wf) : zIS p :=
 ⟨h.fUnit, fun t ht => ⟨(h.fTools.2 t ht).fName, fun r hr => ⟨⟨((h.fTools.2 t ht).fRects.2 r hr).fX0, ((h.fTools.2 t ht).fRects.2 r hr).fY0⟩, ((h.fTools.2 t ht).fRects.2 r hr).fX1, ((h.fTools.2 t ht).fRects.2 r hr).fY1⟩⟩, h.fSteps.1, zNW (fun x hx => zcQ (h.fSteps.2 x hx))⟩
theorem zff : zK4 7 = some ⟨#[55]⟩ := by
 unfold zK4
 rw [if_pos (by decide)]
 have : Lib.decDigits (7 : Int).toNat = [55] := by
  unfold Lib.decDigits
  rw [dif_pos (by decide)]
  rfl
 rw [this]
theorem zQ8 {N : Nat} (hN : 10 ≤ N) : KI N = some true := by
 obtain ⟨N, rfl⟩ : ∃ n, N = n + 1 := ⟨N - 1, by omega⟩
 have h1 : Jl (N + 1) ⟨7, [], []⟩ = some 0 := rfl
 have h2 : zEo (N + 1) ⟨7, [], []⟩ = some (⟨#[117, 110, 105, 116, 32, 55, 10]⟩, 0) := by
  unfold zEo
  rw [h1, Option.bind_some, if_neg (by decide)]
  show (zK4 7).bind _ = _
  rw [zff]
  rfl
 unfold KI
 rw [h2, Option.bind_some]
 simp [zY3]
theorem zSy (t : Qf) : zNN t zBz zBz := ⟨fun x y => by simp [zBz, InB, rowAt, InS], rfl, rfl, rfl, fun h => by cases h⟩
theorem zNX {N M : Nat} (hN : 20000000000 ≤ N) {p : zt} (h : VX M p) (h0 : (zA9 p).1 = 0) : zCu (zA9 p).2.img := ((zPD hN h).2 h0).img
theorem zXv {N : Nat} (hN : 20000000000 ≤ N) {p : zt} {t : Qf} (hG : FuG p N) (hL : zIS p) (hp : VX N p) (h0 : (zA9 p).1 = 0) : QX N p t (QJ (zA9 p).2.img, 0) = some true := by
 obtain ⟨r, r1, r2⟩ := zVh (t := t) hG hL hp
 unfold QX
 rw [r1, Option.bind_some, zQ8 (by omega)]
 rcases r2 with ⟨c1, c2⟩ | ⟨c, hp', hF', hL', hc, hw⟩
 ·rw [if_pos (by simpa using c1), if_pos (by simpa using c2)]
  rfl
 ·subst c
  obtain ⟨hq, n1, n2⟩ := zJe.1 hc
  have hst := zN6 hp hp' hq (zBv.2 ⟨n1, n2⟩) hw (flL p.Steps ⟨0, 0⟩) (fun _ h => h) hp'.steps
  have hr := hst.r zBz zBz (zIk _) (zIk _) (zSy t)
  have e1 : zBU (zM6 p) (Jj p) (flL p.Steps ⟨0, 0⟩) ⟨0, 0⟩ zBz = zA9 p := zZW hp
  rw [e1] at hr
  obtain ⟨k1, k2⟩ := hr h0
  have k1' : (zA9 (zDW p t)).1 = 0 ∨ (zA9 (zDW p t)).1 = 1 ∨ (zA9 (zDW p t)).1 = 2 := k1
  have k2' : (zA9 (zDW p t)).1 = 0 → zNN t (zA9 p).2 (zA9 (zDW p t)).2 := k2
  rw [if_neg (by simp), zRB hN hF' hL' hp', Option.bind_some, zII (by omega), Option.bind_some]
  unfold zcU
  by_cases hz : (zA9 (zDW p t)).1 = 0
  ·have hT := zMs hc (zNX hN hp h0) (zNX hN hp' hz) (k2' hz).img
   rw [if_pos hz, if_neg (by simp), hT, if_pos (by simp)]
   obtain ⟨b, b1, b2⟩ := zMh (QJ (zA9 (zDW p t)).2.img) (QJ (zA9 (zDW p t)).2.img)
   rw [b1, Option.bind_some, Option.bind_some, b2.2 rfl]
   rfl
  ·rw [if_neg hz, if_pos (by simpa using hz)]
   have : ((zA9 (zDW p t)).1 == 1 || (zA9 (zDW p t)).1 == 2) = true := by
    rcases k1' with h | h | h
    ·exact absurd h hz
    ·rw [h]; rfl
    ·rw [h]; rfl
   rw [if_pos this]
   rfl
theorem zLf (p : zt) (q : zI) (t : Qf) (h : p.Wf) (_ : q.Wf) (_ : t.Wf) : ∃ N, KG N p q t = some true := by
 obtain ⟨N, hN⟩ : ∃ N, N = Jk p.Steps + zCy p.Tools + 30000000000 := ⟨_, rfl⟩
 refine ⟨N, ?_⟩
 have hL := zcR h
 have hF : Fu p N := by unfold Fu; omega
 have hG : FuG p N := by unfold FuG; omega
 have hN2 : 20000000000 ≤ N := by omega
 clear hN
 obtain ⟨I, e, i1, i2, i3, _⟩ := zbe hN2 hF hL
 unfold KG
 rw [i1, Option.bind_some]
 by_cases he : e = 0
 ·obtain ⟨hp, h0, hI⟩ := i3 he
  subst hI he
  rw [if_neg (by simp), zXv hN2 hG hL hp h0]
  obtain ⟨r, r1, r2⟩ := zYE (q := q) hG hL hp
  rw [r1, Option.bind_some]
  by_cases hr : r.2 = 0
  ·obtain ⟨m, c1, hp', hF', hL', hm, hn⟩ := r2 hr
   rw [if_pos (by simpa using hr), c1, zRB hN2 hF' hL' hp', Option.bind_some, zII (by omega), Option.bind_some]
   have hc : chk (zNJ q) = true := zJe.2 ⟨by simp [zNJ], zBv.1 hn⟩
   have hst := zMB hp hp' hm hn _ p.Steps 0 ⟨0, 0⟩ (Nat.le_refl _) (by omega) (by omega) hp.steps hp'.steps (by unfold zBl; simp)
   have hrr := hst.r zBz zBz (zIk _) (zIk _) (zSy _)
   obtain ⟨_, k2⟩ := hrr h0
   have k2' : (zA9 (zFB p m)).1 = 0 → zNN (zNJ q) (zA9 p).2 (zA9 (zFB p m)).2 := k2
   unfold zcU
   by_cases hz : (zA9 (zFB p m)).1 = 0
   ·have hT := zMs hc (zNX hN2 hp h0) (zNX hN2 hp' hz) (k2' hz).img
    rw [if_pos hz]
    show (((if ((0 : Int) == 0) = true then (if (zGo (QJ (zA9 p).2.img) (zNJ q)).2 != 0 then some true else (KJ (QJ (zA9 (zFB p m)).2.img) (zGo (QJ (zA9 p).2.img) (zNJ q)).1).bind fun y153 => some (!y153)).bind fun zan => some zan else some false) : Option Bool).bind _) = _
    rw [hT, if_pos (by simp), if_neg (by simp)]
    obtain ⟨b, b1, b2⟩ := zMh (QJ (zA9 (zFB p m)).2.img) (QJ (zA9 (zFB p m)).2.img)
    rw [b1, Option.bind_some, Option.bind_some, b2.2 rfl]
    rfl
   ·rw [if_neg hz]
    show (((if ((zA9 (zFB p m)).1 == 0) = true then _ else some false) : Option Bool).bind _) = _
    rw [if_neg (by simpa using hz)]
    rfl
  ·rw [if_neg (by simpa using hr)]
 ·rw [if_pos (by simpa using he), i2 he, zQ8 (by omega)]
  rfl
end Go.Proofs.YtneghcpnehiffaaGreatDoor
