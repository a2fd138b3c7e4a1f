/- The walks: each function computes its plain function. -/
import Derived.Test.YtokanbmnoghafaaGreatDoorXWb
namespace Go.Proofs.YtokanbmnoghafaaGreatDoor
open Go.RowKit
set_option maxRecDepth 100000
set_option maxHeartbeats 1000000
theorem zBN (N : Nat) (rec : (List zB) → (List zB) → Option Bool) (hrec : ∀ {w : Bs} (p0 : (List zB)) (zF : Option Addr) (zG : Nat) (zl : Sl w.R w.W zC zF zG p0) (p1 : (List zB)) (zV : Option Addr) (zW : Nat) (Ql : Sl w.R w.W zC zV zW p1) (r : Bool) (H : rec p0 p1 = some r) (hE : HF w w.W E0), Calls Tryz.prog 19 [(.slice zF p0.length zG), (.slice zV p1.length zW)].toArray w.W fun e W' => e = .returned (.bool r) ∧ HF w W' E0) {w : Bs} (p0 : (List zB)) (zF : Option Addr) (zG : Nat) (zl : Sl w.R w.W zC zF zG p0) (p1 : (List zB)) (zV : Option Addr) (zW : Nat) (Ql : Sl w.R w.W zC zV zW p1) (r : Bool) (H : Ja N rec p0 p1 = some r) (hE : HF w w.W E0) : Calls Tryz.prog 19 [(.slice zF p0.length zG), (.slice zV p1.length zW)].toArray w.W fun e W' => e = .returned (.bool r) ∧ HF w W' E0 := by
 unfold Ja at H
 have leB := Bs.Le.refl w
 refine Tr.enter (n := 76) Tryz.func19 rfl rfl rfl hE ?_
 refine Tr.sr (Tr.asg rfl rfl (Tr.nil (Tr.zA (Tr.seq (Tr.sr (Tr.mv rfl rfl (Tr.va rfl (fun _ _ h1 h2 => QL zCU (h1.ev rfl)) ?_)))))))
 refine Tr.mv rfl rfl (Tr.va rfl (fun _ _ h1 h2 => QL zCU (h1.ev rfl)) ?_)
 refine Tr.va rfl (fun _ _ h1 h2 => Jw (h1.ev rfl) (h1.ev rfl)) ?_
 refine Tr.nil (Tr.zA (Tr.cond rfl H (fun H => ?_) (fun H => ?_)))
 ·refine Tr.sr (Tr.asg rfl rfl (Tr.nil (Tr.zA (Tr.ret (Tr.zO ?_)))))
  obtain rfl := Option.some.inj H
  exact Tr.out (m := [(.bool false)]) [] (zQ rfl zT) (fun W hW => ⟨rfl, hW.low leB⟩)
 ·refine Tr.skip (Tr.zA (Tr.seq (Tr.sr (Tr.asg rfl rfl (Tr.nil (Tr.zA (Tr.block (Tr.loop (σ := Int) (fun m w s => QY N p0 p1 rec m s = some r) (fun s => [(0, (.slice zF p0.length zG)), (1, (.slice zV p1.length zW)), (5, (iv s))]) (fun s => []) N 0 H (.cons rfl (.cons rfl (.cons rfl .nil))) .nil (fun _ _ h => zEE (h)) ?_))))))))
  intro w Qy mL1 VP hs
  have H := hs
  replace H : QY N p0 p1 rec (mL1 + 1) VP = some r := H
  replace zl := zl.leR Qy
  replace Ql := Ql.leR Qy
  replace leB := leB.trans Qy
  rw [QY.eq_2] at H
  show Tr _ _ (LF [(0, (.slice zF p0.length zG)), (1, (.slice zV p1.length zW)), (5, (iv VP))]) (LE []) _
  refine Tr.seq (Tr.sr (Tr.mv rfl rfl (Tr.mv rfl rfl (Tr.va rfl (fun _ _ h1 h2 => QL zCU (h1.ev rfl)) ?_))))
  refine Tr.va rfl (fun _ _ h1 h2 => Qm (h1.ev rfl) (h1.ev rfl)) ?_
  refine Tr.nil (Tr.zA (Tr.cond rfl H (fun H => ?_) (fun H => ?_)))
  ·refine Tr.skip (Tr.zA (Tr.seq (Tr.block (Tr.seq (Tr.zJw 11 [] [10] (by kernel_rfl) (by kernel_rfl) fun sz132 hlosz132 hEsz132 => ?_)))))
   refine Dr.quiet 0 [(19, (.slice zF p0.length zG))] (by kernel_rfl) rfl rfl (by kernel_rfl) ?_ rfl rfl ?_
   ·exact Tq.mv rfl rfl (Tq.fin (.cons rfl .nil))
   refine Dr.quiet 1 [(20, (iv VP))] (by kernel_rfl) rfl rfl (by kernel_rfl) ?_ rfl rfl ?_
   ·exact Tq.mv rfl rfl (Tq.fin (.cons rfl .nil))
   obtain ⟨zY, hx133, H⟩ := bnd H
   obtain ⟨hx1330, hx1331, hx1332⟩ := QP hx133
   obtain ⟨u134, hRu134, hoku134, hcu134⟩ := (zl).el hx1332
   obtain ⟨⟨Jt, Jm⟩, ⟨Js, Jl⟩⟩ := u134
   obtain ⟨zGl, zGk⟩ := Jn.1 hoku134
   replace zGl : Sl w.R w.W QH Jt Jm zY.Points := zGl
   replace zGk : Sl w.R w.W zC Js Jl zY.Steps := zGk
   refine Dr.quiet 2 [(21, (.pointer (some ⟨adB zF, adO zF + (VP).toNat * 8, none⟩)))] (by kernel_rfl) rfl rfl (by kernel_rfl) ?_ rfl rfl ?_
   ·refine Tq.va rfl (fun _ _ h1 h2 => zR zIr (h1.ev rfl) zl.form (h1.ev rfl) hx1330 hx1331) ?_
    exact Tq.fin (.cons rfl .nil)
   refine Dr.quiet 3 [(22, (.agg #[(iv zY.Kind), (sv zY.Name), (iv zY.At.X), (iv zY.At.Y), (.slice Jt zY.Points.length Jm), (iv zY.NX), (iv zY.NY), (.slice Js zY.Steps.length Jl)]))] (by kernel_rfl) rfl rfl (by kernel_rfl) ?_ rfl rfl ?_
   ·refine Tq.va rfl (fun _ _ h1 h2 => zo (cs := [(iv zY.Kind), (sv zY.Name), (iv zY.At.X), (iv zY.At.Y), (.slice Jt zY.Points.length Jm), (iv zY.NX), (iv zY.NY), (.slice Js zY.Steps.length Jl)]) zDA Vu (h1.ev rfl) (zf.take (rdR hRu134 hcu134 h2) 8) rfl) ?_
    exact Tq.fin (.cons rfl .nil)
   refine Dr.Jb 4 (by kernel_rfl) rfl (wn rfl) rfl (by kernel_rfl) (fun _ _ h1 => run_move (h1.ev rfl)) rfl ?_
   refine Dr.Jb 5 (by kernel_rfl) rfl (wn rfl) rfl (by kernel_rfl) (fun _ _ h1 => run_move (h1.ev rfl)) rfl ?_
   obtain ⟨za, hx135, H⟩ := bnd H
   obtain ⟨hx1350, hx1351, hx1352⟩ := QP hx135
   obtain ⟨u136, hRu136, hoku136, hcu136⟩ := (Ql).el hx1352
   obtain ⟨⟨Jr, Jk⟩, ⟨Jq, Jj⟩⟩ := u136
   obtain ⟨zGj, zGi⟩ := Jn.1 hoku136
   replace zGj : Sl w.R w.W QH Jr Jk za.Points := zGj
   replace zGi : Sl w.R w.W zC Jq Jj za.Steps := zGi
   refine Dr.Jb 6 (by kernel_rfl) rfl (wn rfl) rfl (by kernel_rfl) (fun _ _ h1 => zR zIr (h1.ev rfl) Ql.form (h1.ev rfl) hx1350 hx1351) rfl ?_
   refine Dr.zAl 7 [(26, (.agg #[(iv za.Kind), (sv za.Name), (iv za.At.X), (iv za.At.Y), (.slice Jr za.Points.length Jk), (iv za.NX), (iv za.NY), (.slice Jq za.Steps.length Jj)]))] [] true (by kernel_rfl) rfl rfl (by kernel_rfl) (fun W W' h2 hsW hk => HF.zCx (le := []) (ks := []) (s0 := sz132) true h2 hk (fun _ => hlosz132) .nil (fun b hb => hb.elim (fun ⟨_, hp, _⟩ => nomatch hp) (fun hb => .inr ⟨rfl, hb.2, (fun _ h => nomatch h)⟩)) (fun _ h => nomatch h) rfl) ?_ rfl rfl ?_
   ·refine Tq.va rfl (fun _ _ h1 h2 => zo (cs := [(iv za.Kind), (sv za.Name), (iv za.At.X), (iv za.At.Y), (.slice Jr za.Points.length Jk), (iv za.NX), (iv za.NY), (.slice Jq za.Steps.length Jj)]) zDA Vu (h1.ev rfl) (zf.take (rdR hRu136 hcu136 h2) 8) rfl) ?_
    exact Tq.fin (.cons rfl .nil)
   refine Dr.cut (U := Nat × Nat) [8, 9] 1 (fun u => sz132 ≤ u.1 ∧ sz132 ≤ u.2) (fun u => [(0, (.slice zF p0.length zG)), (1, (.slice zV p1.length zW)), (5, (iv VP)), (6, (.pointer (some ⟨u.1, 0, none⟩))), (7, (.pointer (some ⟨u.2, 0, none⟩))), (13, (iv VP)), (14, (.slice zF p0.length zG)), (15, (iv (p0.length : Int))), (16, (.bool (decide (VP < (p0.length : Int))))), (19, (.slice zF p0.length zG)), (20, (iv VP)), (21, (.pointer (some ⟨adB zF, adO zF + (VP).toNat * 8, none⟩))), (22, (.agg #[(iv zY.Kind), (sv zY.Name), (iv zY.At.X), (iv zY.At.Y), (.slice Jt zY.Points.length Jm), (iv zY.NX), (iv zY.NY), (.slice Js zY.Steps.length Jl)])), (23, (.slice zV p1.length zW)), (24, (iv VP)), (25, (.pointer (some ⟨adB zV, adO zV + (VP).toNat * 8, none⟩))), (26, (.agg #[(iv za.Kind), (sv za.Name), (iv za.At.X), (iv za.At.Y), (.slice Jr za.Points.length Jk), (iv za.NX), (iv za.NY), (.slice Jq za.Steps.length Jj)]))]) (fun u => [(5, bx u.1 #[(iv 0), (sv ⟨#[]⟩), (iv 0), (iv 0), (.slice none 0 0), (iv 0), (iv 0), (.slice none 0 0)] 80), (6, bx u.2 #[(iv 0), (sv ⟨#[]⟩), (iv 0), (iv 0), (.slice none 0 0), (iv 0), (iv 0), (.slice none 0 0)] 80)]) ?_ ?_
   ·intro hC
    refine Dr.pair 8 9 (by kernel_rfl) ?_ ?_
    ·refine St.alloc 8 5 rfl (wn rfl) rfl zFO fun zAw zIn => ?_
     refine Dr.one 9 (by kernel_rfl) ?_
     refine St.alloc 9 6 rfl (wn rfl) rfl zFO fun zA7 hb138 => ?_
     exact (hC ⟨zAw, zA7⟩ ⟨zIn, hb138⟩).use (by kernel_rfl) (.cons rfl (.cons rfl (.cons rfl (.cons rfl (.cons rfl (.cons rfl (.cons rfl (.cons rfl (.cons rfl (.cons rfl (.cons rfl (.cons rfl (.cons rfl (.cons rfl (.cons rfl (.cons rfl (.cons rfl .nil))))))))))))))))) (.cons rfl (.cons rfl .nil))
    ·refine St.alloc 9 6 rfl (wn rfl) rfl zFO fun zA7 hb138 => ?_
     refine Dr.one 8 (by kernel_rfl) ?_
     refine St.alloc 8 5 rfl (wn rfl) rfl zFO fun zAw zIn => ?_
     exact (hC ⟨zAw, zA7⟩ ⟨zIn, hb138⟩).use (by kernel_rfl) (.cons rfl (.cons rfl (.cons rfl (.cons rfl (.cons rfl (.cons rfl (.cons rfl (.cons rfl (.cons rfl (.cons rfl (.cons rfl (.cons rfl (.cons rfl (.cons rfl (.cons rfl (.cons rfl (.cons rfl .nil))))))))))))))))) (.cons rfl (.cons rfl .nil))
   intro u hu
   obtain ⟨zAw, zA7⟩ := u
   obtain ⟨zIn, hb138⟩ := hu
   replace zIn : sz132 ≤ zAw := zIn
   show Dr _ _ _ _ _ _ _ _ _ (LF [(0, (.slice zF p0.length zG)), (1, (.slice zV p1.length zW)), (5, (iv VP)), (6, (.pointer (some ⟨zAw, 0, none⟩))), (7, (.pointer (some ⟨zA7, 0, none⟩))), (13, (iv VP)), (14, (.slice zF p0.length zG)), (15, (iv (p0.length : Int))), (16, (.bool (decide (VP < (p0.length : Int))))), (19, (.slice zF p0.length zG)), (20, (iv VP)), (21, (.pointer (some ⟨adB zF, adO zF + (VP).toNat * 8, none⟩))), (22, (.agg #[(iv zY.Kind), (sv zY.Name), (iv zY.At.X), (iv zY.At.Y), (.slice Jt zY.Points.length Jm), (iv zY.NX), (iv zY.NY), (.slice Js zY.Steps.length Jl)])), (23, (.slice zV p1.length zW)), (24, (iv VP)), (25, (.pointer (some ⟨adB zV, adO zV + (VP).toNat * 8, none⟩))), (26, (.agg #[(iv za.Kind), (sv za.Name), (iv za.At.X), (iv za.At.Y), (.slice Jr za.Points.length Jk), (iv za.NX), (iv za.NY), (.slice Jq za.Steps.length Jj)]))]) (LE [(5, bx zAw #[(iv 0), (sv ⟨#[]⟩), (iv 0), (iv 0), (.slice none 0 0), (iv 0), (iv 0), (.slice none 0 0)] 80), (6, bx zA7 #[(iv 0), (sv ⟨#[]⟩), (iv 0), (iv 0), (.slice none 0 0), (iv 0), (iv 0), (.slice none 0 0)] 80)])
   refine Dr.one 10 (by kernel_rfl) ?_
   refine St.store 10 5 (cs := [(iv zY.Kind), (sv zY.Name), (iv zY.At.X), (iv zY.At.Y), (.slice Jt zY.Points.length Jm), (iv zY.NX), (iv zY.NY), (.slice Js zY.Steps.length Jl)]) [(iv zY.Kind), (sv zY.Name), (iv zY.At.X), (iv zY.At.Y), (.slice Jt zY.Points.length Jm), (iv zY.NX), (iv zY.NY), (.slice Js zY.Steps.length Jl)] rfl (wn rfl) (.inr ⟨by simp, zIn⟩) rfl rfl rfl rfl Vu rfl rfl rfl ?_
   refine Dr.tail (by kernel_rfl) ?_
   refine Tr.store 6 (cs := [(iv za.Kind), (sv za.Name), (iv za.At.X), (iv za.At.Y), (.slice Jr za.Points.length Jk), (iv za.NX), (iv za.NY), (.slice Jq za.Steps.length Jj)]) [(iv za.Kind), (sv za.Name), (iv za.At.X), (iv za.At.Y), (.slice Jr za.Points.length Jk), (iv za.NX), (iv za.NY), (.slice Jq za.Steps.length Jj)] (wn rfl) rfl rfl rfl rfl Vu rfl rfl rfl ?_
   refine Tr.nil (Tr.zA (Tr.sr (Tr.va rfl (fun _ _ h1 h2 => zD zDX (h1.ev rfl)) ?_)))
   refine Tr.va rfl (fun _ _ h1 h2 => zH Ji (h1.ev rfl) (rdb h2 (vs := [(iv zY.Kind), (sv zY.Name), (iv zY.At.X), (iv zY.At.Y), (.slice Jt zY.Points.length Jm), (iv zY.NX), (iv zY.NY), (.slice Js zY.Steps.length Jl)]) (k := 5) rfl 0) rfl) ?_
   refine Tr.va rfl (fun _ _ h1 h2 => zD zDX (h1.ev rfl)) ?_
   refine Tr.va rfl (fun _ _ h1 h2 => zH Ji (h1.ev rfl) (rdb h2 (vs := [(iv za.Kind), (sv za.Name), (iv za.At.X), (iv za.At.Y), (.slice Jr za.Points.length Jk), (iv za.NX), (iv za.NY), (.slice Jq za.Steps.length Jj)]) (k := 6) rfl 0) rfl) ?_
   refine Tr.va rfl (fun _ _ h1 h2 => Jw (h1.ev rfl) (h1.ev rfl)) ?_
   refine Tr.mv rfl rfl (Tr.KY 6 [(0, (.slice zF p0.length zG)), (1, (.slice zV p1.length zW)), (5, (iv VP)), (6, (.pointer (some ⟨zAw, 0, none⟩))), (7, (.pointer (some ⟨zA7, 0, none⟩))), (38, (.bool ((zY.Kind != za.Kind) || (!sEq zY.Name za.Name))))] [(5, bx zAw #[(iv zY.Kind), (sv zY.Name), (iv zY.At.X), (iv zY.At.Y), (.slice Jt zY.Points.length Jm), (iv zY.NX), (iv zY.NY), (.slice Js zY.Steps.length Jl)] 80), (6, bx zA7 #[(iv za.Kind), (sv za.Name), (iv za.At.X), (iv za.At.Y), (.slice Jr za.Points.length Jk), (iv za.NX), (iv za.NY), (.slice Jq za.Steps.length Jj)] 80)] ?_ ?_)
   ·cases zFs : (zY.Kind != za.Kind)
    ·refine Tr.val (wg rfl rfl rfl) rfl (fun _ _ h1 h2 => zD zFx (h1.ev rfl)) ?_
     refine Tr.val (wg rfl rfl rfl) rfl (fun _ _ h1 h2 => zH zB2 (h1.ev rfl) (rdb h2 (vs := [(iv zY.Kind), (sv zY.Name), (iv zY.At.X), (iv zY.At.Y), (.slice Jt zY.Points.length Jm), (iv zY.NX), (iv zY.NY), (.slice Js zY.Steps.length Jl)]) (k := 5) rfl 1) rfl) ?_
     refine Tr.val (wg rfl rfl rfl) rfl (fun _ _ h1 h2 => zD zFx (h1.ev rfl)) ?_
     refine Tr.val (wg rfl rfl rfl) rfl (fun _ _ h1 h2 => zH zB2 (h1.ev rfl) (rdb h2 (vs := [(iv za.Kind), (sv za.Name), (iv za.At.X), (iv za.At.Y), (.slice Jr za.Points.length Jk), (iv za.NX), (iv za.NY), (.slice Jq za.Steps.length Jj)]) (k := 6) rfl 1) rfl) ?_
     refine Tr.val (wg rfl rfl rfl) rfl (fun _ _ h1 h2 => zCF (h1.ev rfl) (h1.ev rfl)) ?_
     refine Tr.va rfl (fun _ _ h1 h2 => zh (h1.ev rfl) (h1.ev rfl)) ?_
     exact Tr.nil (Tr.Qc (.cons rfl (.cons rfl (.cons rfl (.cons rfl (.cons rfl (.cons rfl .nil)))))) (.cons rfl (.cons rfl .nil)))
    ·refine Tr.pass rfl rfl rfl rfl rfl (by decide) ?_
     refine Tr.pass rfl rfl rfl rfl rfl (by decide) ?_
     refine Tr.pass rfl rfl rfl rfl rfl (by decide) ?_
     refine Tr.pass rfl rfl rfl rfl rfl (by decide) ?_
     refine Tr.pass rfl rfl rfl rfl rfl (by decide) ?_
     refine Tr.va rfl (fun _ _ h1 h2 => zg (h1.ev rfl) (h1.ev rfl)) ?_
     exact Tr.nil (Tr.Qc (.cons rfl (.cons rfl (.cons rfl (.cons rfl (.cons rfl (.cons rfl .nil)))))) (.cons rfl (.cons rfl .nil)))
   ·show Tr _ _ (LF [(0, (.slice zF p0.length zG)), (1, (.slice zV p1.length zW)), (5, (iv VP)), (6, (.pointer (some ⟨zAw, 0, none⟩))), (7, (.pointer (some ⟨zA7, 0, none⟩))), (38, (.bool ((zY.Kind != za.Kind) || (!sEq zY.Name za.Name))))]) (LE [(5, bx zAw #[(iv zY.Kind), (sv zY.Name), (iv zY.At.X), (iv zY.At.Y), (.slice Jt zY.Points.length Jm), (iv zY.NX), (iv zY.NY), (.slice Js zY.Steps.length Jl)] 80), (6, bx zA7 #[(iv za.Kind), (sv za.Name), (iv za.At.X), (iv za.At.Y), (.slice Jr za.Points.length Jk), (iv za.NX), (iv za.NY), (.slice Jq za.Steps.length Jj)] 80)]) _
    refine Tr.mv rfl rfl (Tr.KY 6 [(0, (.slice zF p0.length zG)), (1, (.slice zV p1.length zW)), (5, (iv VP)), (6, (.pointer (some ⟨zAw, 0, none⟩))), (7, (.pointer (some ⟨zA7, 0, none⟩))), (45, (.bool (((zY.Kind != za.Kind) || (!sEq zY.Name za.Name)) || (!(JN zY.At za.At)))))] [(5, bx zAw #[(iv zY.Kind), (sv zY.Name), (iv zY.At.X), (iv zY.At.Y), (.slice Jt zY.Points.length Jm), (iv zY.NX), (iv zY.NY), (.slice Js zY.Steps.length Jl)] 80), (6, bx zA7 #[(iv za.Kind), (sv za.Name), (iv za.At.X), (iv za.At.Y), (.slice Jr za.Points.length Jk), (iv za.NX), (iv za.NY), (.slice Jq za.Steps.length Jj)] 80)] ?_ ?_)
    ·cases zFs : ((zY.Kind != za.Kind) || (!sEq zY.Name za.Name))
     ·refine Tr.val (wg rfl rfl rfl) rfl (fun _ _ h1 h2 => zD zBx (h1.ev rfl)) ?_
      refine Tr.val (wg rfl rfl rfl) rfl (fun _ _ h1 h2 => zo (cs := [(iv zY.At.X), (iv zY.At.Y)]) zCM zAZ (h1.ev rfl) (zf.take (rdb h2 (vs := [(iv zY.Kind), (sv zY.Name), (iv zY.At.X), (iv zY.At.Y), (.slice Jt zY.Points.length Jm), (iv zY.NX), (iv zY.NY), (.slice Js zY.Steps.length Jl)]) (k := 5) rfl 2) 2) rfl) ?_
      refine Tr.val (wg rfl rfl rfl) rfl (fun _ _ h1 h2 => zD zBx (h1.ev rfl)) ?_
      refine Tr.val (wg rfl rfl rfl) rfl (fun _ _ h1 h2 => zo (cs := [(iv za.At.X), (iv za.At.Y)]) zCM zAZ (h1.ev rfl) (zf.take (rdb h2 (vs := [(iv za.Kind), (sv za.Name), (iv za.At.X), (iv za.At.Y), (.slice Jr za.Points.length Jk), (iv za.NX), (iv za.NY), (.slice Jq za.Steps.length Jj)]) (k := 6) rfl 2) 2) rfl) ?_
      refine Tr.val (wg rfl rfl rfl) rfl (fun _ _ h1 h2 => zE2 zY.At za.At (h1.ev rfl) (h1.ev rfl)) ?_
      refine Tr.va rfl (fun _ _ h1 h2 => zh (h1.ev rfl) (h1.ev rfl)) ?_
      exact Tr.nil (Tr.Qc (.cons rfl (.cons rfl (.cons rfl (.cons rfl (.cons rfl (.cons rfl .nil)))))) (.cons rfl (.cons rfl .nil)))
     ·refine Tr.pass rfl rfl rfl rfl rfl (by decide) ?_
      refine Tr.pass rfl rfl rfl rfl rfl (by decide) ?_
      refine Tr.pass rfl rfl rfl rfl rfl (by decide) ?_
      refine Tr.pass rfl rfl rfl rfl rfl (by decide) ?_
      refine Tr.pass rfl rfl rfl rfl rfl (by decide) ?_
      refine Tr.va rfl (fun _ _ h1 h2 => zg (h1.ev rfl) (h1.ev rfl)) ?_
      exact Tr.nil (Tr.Qc (.cons rfl (.cons rfl (.cons rfl (.cons rfl (.cons rfl (.cons rfl .nil)))))) (.cons rfl (.cons rfl .nil)))
    ·show Tr _ _ (LF [(0, (.slice zF p0.length zG)), (1, (.slice zV p1.length zW)), (5, (iv VP)), (6, (.pointer (some ⟨zAw, 0, none⟩))), (7, (.pointer (some ⟨zA7, 0, none⟩))), (45, (.bool (((zY.Kind != za.Kind) || (!sEq zY.Name za.Name)) || (!(JN zY.At za.At)))))]) (LE [(5, bx zAw #[(iv zY.Kind), (sv zY.Name), (iv zY.At.X), (iv zY.At.Y), (.slice Jt zY.Points.length Jm), (iv zY.NX), (iv zY.NY), (.slice Js zY.Steps.length Jl)] 80), (6, bx zA7 #[(iv za.Kind), (sv za.Name), (iv za.At.X), (iv za.At.Y), (.slice Jr za.Points.length Jk), (iv za.NX), (iv za.NY), (.slice Jq za.Steps.length Jj)] 80)]) _
     refine Tr.mv rfl rfl (Tr.KY 6 [(0, (.slice zF p0.length zG)), (1, (.slice zV p1.length zW)), (5, (iv VP)), (6, (.pointer (some ⟨zAw, 0, none⟩))), (7, (.pointer (some ⟨zA7, 0, none⟩))), (52, (.bool ((((zY.Kind != za.Kind) || (!sEq zY.Name za.Name)) || (!(JN zY.At za.At))) || (zY.NX != za.NX))))] [(5, bx zAw #[(iv zY.Kind), (sv zY.Name), (iv zY.At.X), (iv zY.At.Y), (.slice Jt zY.Points.length Jm), (iv zY.NX), (iv zY.NY), (.slice Js zY.Steps.length Jl)] 80), (6, bx zA7 #[(iv za.Kind), (sv za.Name), (iv za.At.X), (iv za.At.Y), (.slice Jr za.Points.length Jk), (iv za.NX), (iv za.NY), (.slice Jq za.Steps.length Jj)] 80)] ?_ ?_)
     ·cases zFs : (((zY.Kind != za.Kind) || (!sEq zY.Name za.Name)) || (!(JN zY.At za.At)))
      ·refine Tr.val (wg rfl rfl rfl) rfl (fun _ _ h1 h2 => zD zEe (h1.ev rfl)) ?_
       refine Tr.val (wg rfl rfl rfl) rfl (fun _ _ h1 h2 => zH Ji (h1.ev rfl) (rdb h2 (vs := [(iv zY.Kind), (sv zY.Name), (iv zY.At.X), (iv zY.At.Y), (.slice Jt zY.Points.length Jm), (iv zY.NX), (iv zY.NY), (.slice Js zY.Steps.length Jl)]) (k := 5) rfl 5) rfl) ?_
       refine Tr.val (wg rfl rfl rfl) rfl (fun _ _ h1 h2 => zD zEe (h1.ev rfl)) ?_
       refine Tr.val (wg rfl rfl rfl) rfl (fun _ _ h1 h2 => zH Ji (h1.ev rfl) (rdb h2 (vs := [(iv za.Kind), (sv za.Name), (iv za.At.X), (iv za.At.Y), (.slice Jr za.Points.length Jk), (iv za.NX), (iv za.NY), (.slice Jq za.Steps.length Jj)]) (k := 6) rfl 5) rfl) ?_
       refine Tr.val (wg rfl rfl rfl) rfl (fun _ _ h1 h2 => Jw (h1.ev rfl) (h1.ev rfl)) ?_
       refine Tr.va rfl (fun _ _ h1 h2 => zh (h1.ev rfl) (h1.ev rfl)) ?_
       exact Tr.nil (Tr.Qc (.cons rfl (.cons rfl (.cons rfl (.cons rfl (.cons rfl (.cons rfl .nil)))))) (.cons rfl (.cons rfl .nil)))
      ·refine Tr.pass rfl rfl rfl rfl rfl (by decide) ?_
       refine Tr.pass rfl rfl rfl rfl rfl (by decide) ?_
       refine Tr.pass rfl rfl rfl rfl rfl (by decide) ?_
       refine Tr.pass rfl rfl rfl rfl rfl (by decide) ?_
       refine Tr.pass rfl rfl rfl rfl rfl (by decide) ?_
       refine Tr.va rfl (fun _ _ h1 h2 => zg (h1.ev rfl) (h1.ev rfl)) ?_
       exact Tr.nil (Tr.Qc (.cons rfl (.cons rfl (.cons rfl (.cons rfl (.cons rfl (.cons rfl .nil)))))) (.cons rfl (.cons rfl .nil)))
     ·show Tr _ _ (LF [(0, (.slice zF p0.length zG)), (1, (.slice zV p1.length zW)), (5, (iv VP)), (6, (.pointer (some ⟨zAw, 0, none⟩))), (7, (.pointer (some ⟨zA7, 0, none⟩))), (52, (.bool ((((zY.Kind != za.Kind) || (!sEq zY.Name za.Name)) || (!(JN zY.At za.At))) || (zY.NX != za.NX))))]) (LE [(5, bx zAw #[(iv zY.Kind), (sv zY.Name), (iv zY.At.X), (iv zY.At.Y), (.slice Jt zY.Points.length Jm), (iv zY.NX), (iv zY.NY), (.slice Js zY.Steps.length Jl)] 80), (6, bx zA7 #[(iv za.Kind), (sv za.Name), (iv za.At.X), (iv za.At.Y), (.slice Jr za.Points.length Jk), (iv za.NX), (iv za.NY), (.slice Jq za.Steps.length Jj)] 80)]) _
      refine Tr.mv rfl rfl (Tr.KY 6 [(0, (.slice zF p0.length zG)), (1, (.slice zV p1.length zW)), (5, (iv VP)), (6, (.pointer (some ⟨zAw, 0, none⟩))), (7, (.pointer (some ⟨zA7, 0, none⟩))), (59, (.bool (((((zY.Kind != za.Kind) || (!sEq zY.Name za.Name)) || (!(JN zY.At za.At))) || (zY.NX != za.NX)) || (zY.NY != za.NY))))] [(5, bx zAw #[(iv zY.Kind), (sv zY.Name), (iv zY.At.X), (iv zY.At.Y), (.slice Jt zY.Points.length Jm), (iv zY.NX), (iv zY.NY), (.slice Js zY.Steps.length Jl)] 80), (6, bx zA7 #[(iv za.Kind), (sv za.Name), (iv za.At.X), (iv za.At.Y), (.slice Jr za.Points.length Jk), (iv za.NX), (iv za.NY), (.slice Jq za.Steps.length Jj)] 80)] ?_ ?_)
      ·cases zFs : ((((zY.Kind != za.Kind) || (!sEq zY.Name za.Name)) || (!(JN zY.At za.At))) || (zY.NX != za.NX))
       ·refine Tr.val (wg rfl rfl rfl) rfl (fun _ _ h1 h2 => zD zEd (h1.ev rfl)) ?_
        refine Tr.val (wg rfl rfl rfl) rfl (fun _ _ h1 h2 => zH Ji (h1.ev rfl) (rdb h2 (vs := [(iv zY.Kind), (sv zY.Name), (iv zY.At.X), (iv zY.At.Y), (.slice Jt zY.Points.length Jm), (iv zY.NX), (iv zY.NY), (.slice Js zY.Steps.length Jl)]) (k := 5) rfl 6) rfl) ?_
        refine Tr.val (wg rfl rfl rfl) rfl (fun _ _ h1 h2 => zD zEd (h1.ev rfl)) ?_
        refine Tr.val (wg rfl rfl rfl) rfl (fun _ _ h1 h2 => zH Ji (h1.ev rfl) (rdb h2 (vs := [(iv za.Kind), (sv za.Name), (iv za.At.X), (iv za.At.Y), (.slice Jr za.Points.length Jk), (iv za.NX), (iv za.NY), (.slice Jq za.Steps.length Jj)]) (k := 6) rfl 6) rfl) ?_
        refine Tr.val (wg rfl rfl rfl) rfl (fun _ _ h1 h2 => Jw (h1.ev rfl) (h1.ev rfl)) ?_
        refine Tr.va rfl (fun _ _ h1 h2 => zh (h1.ev rfl) (h1.ev rfl)) ?_
        exact Tr.nil (Tr.Qc (.cons rfl (.cons rfl (.cons rfl (.cons rfl (.cons rfl (.cons rfl .nil)))))) (.cons rfl (.cons rfl .nil)))
       ·refine Tr.pass rfl rfl rfl rfl rfl (by decide) ?_
        refine Tr.pass rfl rfl rfl rfl rfl (by decide) ?_
        refine Tr.pass rfl rfl rfl rfl rfl (by decide) ?_
        refine Tr.pass rfl rfl rfl rfl rfl (by decide) ?_
        refine Tr.pass rfl rfl rfl rfl rfl (by decide) ?_
        refine Tr.va rfl (fun _ _ h1 h2 => zg (h1.ev rfl) (h1.ev rfl)) ?_
        exact Tr.nil (Tr.Qc (.cons rfl (.cons rfl (.cons rfl (.cons rfl (.cons rfl (.cons rfl .nil)))))) (.cons rfl (.cons rfl .nil)))
      ·show Tr _ _ (LF [(0, (.slice zF p0.length zG)), (1, (.slice zV p1.length zW)), (5, (iv VP)), (6, (.pointer (some ⟨zAw, 0, none⟩))), (7, (.pointer (some ⟨zA7, 0, none⟩))), (59, (.bool (((((zY.Kind != za.Kind) || (!sEq zY.Name za.Name)) || (!(JN zY.At za.At))) || (zY.NX != za.NX)) || (zY.NY != za.NY))))]) (LE [(5, bx zAw #[(iv zY.Kind), (sv zY.Name), (iv zY.At.X), (iv zY.At.Y), (.slice Jt zY.Points.length Jm), (iv zY.NX), (iv zY.NY), (.slice Js zY.Steps.length Jl)] 80), (6, bx zA7 #[(iv za.Kind), (sv za.Name), (iv za.At.X), (iv za.At.Y), (.slice Jr za.Points.length Jk), (iv za.NX), (iv za.NY), (.slice Jq za.Steps.length Jj)] 80)]) _
       refine Tr.mv rfl rfl ?_
       obtain ⟨g140, zJj, H⟩ := bnd H
       refine Tr.KY 7 [(0, (.slice zF p0.length zG)), (1, (.slice zV p1.length zW)), (5, (iv VP)), (6, (.pointer (some ⟨zAw, 0, none⟩))), (7, (.pointer (some ⟨zA7, 0, none⟩))), (67, (.bool g140))] [(5, bx zAw #[(iv zY.Kind), (sv zY.Name), (iv zY.At.X), (iv zY.At.Y), (.slice Jt zY.Points.length Jm), (iv zY.NX), (iv zY.NY), (.slice Js zY.Steps.length Jl)] 80), (6, bx zA7 #[(iv za.Kind), (sv za.Name), (iv za.At.X), (iv za.At.Y), (.slice Jr za.Points.length Jk), (iv za.NX), (iv za.NY), (.slice Jq za.Steps.length Jj)] 80)] ?_ ?_
       ·cases zFs : (((((zY.Kind != za.Kind) || (!sEq zY.Name za.Name)) || (!(JN zY.At za.At))) || (zY.NX != za.NX)) || (zY.NY != za.NY))
        ·rw [zFs] at zJj
         rw [if_neg (by decide)] at zJj
         have H := zJj
         refine Tr.val (wg rfl rfl rfl) rfl (fun _ _ h1 h2 => zD zBw (h1.ev rfl)) ?_
         refine Tr.val (wg rfl rfl rfl) rfl (fun _ _ h1 h2 => zH zHO (h1.ev rfl) (rdb h2 (vs := [(iv zY.Kind), (sv zY.Name), (iv zY.At.X), (iv zY.At.Y), (.slice Jt zY.Points.length Jm), (iv zY.NX), (iv zY.NY), (.slice Js zY.Steps.length Jl)]) (k := 5) rfl 4) rfl) ?_
         refine Tr.val (wg rfl rfl rfl) rfl (fun _ _ h1 h2 => zD zBw (h1.ev rfl)) ?_
         refine Tr.val (wg rfl rfl rfl) rfl (fun _ _ h1 h2 => zH zHO (h1.ev rfl) (rdb h2 (vs := [(iv za.Kind), (sv za.Name), (iv za.At.X), (iv za.At.Y), (.slice Jr za.Points.length Jk), (iv za.NX), (iv za.NY), (.slice Jq za.Steps.length Jj)]) (k := 6) rfl 4) rfl) ?_
         obtain ⟨y141, hy141, H⟩ := bnd H
         refine Tr.Qr (r := (.bool y141)) (wg rfl rfl rfl) rfl Tryz.call38 (zI rfl (zI rfl zb)) (fun W hW => zBd N zY.Points Jt Jm (zGl.ext hW.QV) za.Points Jr Jk (zGj.ext hW.QV) y141 hy141 (HF.start _)) ?_
         refine Tr.val (wg rfl rfl rfl) rfl (fun _ _ h1 h2 => JA (h1.ev rfl)) ?_
         refine Tr.va rfl (fun _ _ h1 h2 => zh (h1.ev rfl) (h1.ev rfl)) ?_
         obtain rfl := Option.some.inj H
         exact Tr.nil (Tr.Qc (.cons rfl (.cons rfl (.cons rfl (.cons rfl (.cons rfl (.cons rfl .nil)))))) (.cons rfl (.cons rfl .nil)))
        ·rw [zFs] at zJj
         rw [if_pos rfl] at zJj
         have H := zJj
         obtain rfl := Option.some.inj H
         refine Tr.pass rfl rfl rfl rfl rfl (by decide) ?_
         refine Tr.pass rfl rfl rfl rfl rfl (by decide) ?_
         refine Tr.pass rfl rfl rfl rfl rfl (by decide) ?_
         refine Tr.pass rfl rfl rfl rfl rfl (by decide) ?_
         refine Tr.pass rfl rfl rfl rfl rfl (by decide) ?_
         refine Tr.pass rfl rfl rfl rfl rfl (by decide) ?_
         refine Tr.va rfl (fun _ _ h1 h2 => zg (h1.ev rfl) (h1.ev rfl)) ?_
         exact Tr.nil (Tr.Qc (.cons rfl (.cons rfl (.cons rfl (.cons rfl (.cons rfl (.cons rfl .nil)))))) (.cons rfl (.cons rfl .nil)))
       ·show Tr _ _ (LF [(0, (.slice zF p0.length zG)), (1, (.slice zV p1.length zW)), (5, (iv VP)), (6, (.pointer (some ⟨zAw, 0, none⟩))), (7, (.pointer (some ⟨zA7, 0, none⟩))), (67, (.bool g140))]) (LE [(5, bx zAw #[(iv zY.Kind), (sv zY.Name), (iv zY.At.X), (iv zY.At.Y), (.slice Jt zY.Points.length Jm), (iv zY.NX), (iv zY.NY), (.slice Js zY.Steps.length Jl)] 80), (6, bx zA7 #[(iv za.Kind), (sv za.Name), (iv za.At.X), (iv za.At.Y), (.slice Jr za.Points.length Jk), (iv za.NX), (iv za.NY), (.slice Jq za.Steps.length Jj)] 80)]) _
        refine Tr.mv rfl rfl ?_
        obtain ⟨g143, zJi, H⟩ := bnd H
        refine Tr.KY 7 [(0, (.slice zF p0.length zG)), (1, (.slice zV p1.length zW)), (5, (iv VP)), (75, (.bool g143))] [(5, bx zAw #[(iv zY.Kind), (sv zY.Name), (iv zY.At.X), (iv zY.At.Y), (.slice Jt zY.Points.length Jm), (iv zY.NX), (iv zY.NY), (.slice Js zY.Steps.length Jl)] 80), (6, bx zA7 #[(iv za.Kind), (sv za.Name), (iv za.At.X), (iv za.At.Y), (.slice Jr za.Points.length Jk), (iv za.NX), (iv za.NY), (.slice Jq za.Steps.length Jj)] 80)] ?_ ?_
        ·cases zFs : g140
         ·rw [zFs] at zJi
          rw [if_neg (by decide)] at zJi
          have H := zJi
          refine Tr.val (wg rfl rfl rfl) rfl (fun _ _ h1 h2 => zD zAS (h1.ev rfl)) ?_
          refine Tr.val (wg rfl rfl rfl) rfl (fun _ _ h1 h2 => zH zBp (h1.ev rfl) (rdb h2 (vs := [(iv zY.Kind), (sv zY.Name), (iv zY.At.X), (iv zY.At.Y), (.slice Jt zY.Points.length Jm), (iv zY.NX), (iv zY.NY), (.slice Js zY.Steps.length Jl)]) (k := 5) rfl 7) rfl) ?_
          refine Tr.val (wg rfl rfl rfl) rfl (fun _ _ h1 h2 => zD zAS (h1.ev rfl)) ?_
          refine Tr.val (wg rfl rfl rfl) rfl (fun _ _ h1 h2 => zH zBp (h1.ev rfl) (rdb h2 (vs := [(iv za.Kind), (sv za.Name), (iv za.At.X), (iv za.At.Y), (.slice Jr za.Points.length Jk), (iv za.NX), (iv za.NY), (.slice Jq za.Steps.length Jj)]) (k := 6) rfl 7) rfl) ?_
          obtain ⟨y144, hy144, H⟩ := bnd H
          refine Tr.Qr (r := (.bool y144)) (wg rfl rfl rfl) rfl Tryz.call19 (zI rfl (zI rfl zb)) (fun W hW => hrec zY.Steps Js Jl (zGk.ext hW.QV) za.Steps Jq Jj (zGi.ext hW.QV) y144 hy144 (HF.start _)) ?_
          refine Tr.val (wg rfl rfl rfl) rfl (fun _ _ h1 h2 => JA (h1.ev rfl)) ?_
          refine Tr.va rfl (fun _ _ h1 h2 => zh (h1.ev rfl) (h1.ev rfl)) ?_
          obtain rfl := Option.some.inj H
          exact Tr.nil (Tr.Qc (.cons rfl (.cons rfl (.cons rfl (.cons rfl .nil)))) (.cons rfl (.cons rfl .nil)))
         ·rw [zFs] at zJi
          rw [if_pos rfl] at zJi
          have H := zJi
          obtain rfl := Option.some.inj H
          refine Tr.pass rfl rfl rfl rfl rfl (by decide) ?_
          refine Tr.pass rfl rfl rfl rfl rfl (by decide) ?_
          refine Tr.pass rfl rfl rfl rfl rfl (by decide) ?_
          refine Tr.pass rfl rfl rfl rfl rfl (by decide) ?_
          refine Tr.pass rfl rfl rfl rfl rfl (by decide) ?_
          refine Tr.pass rfl rfl rfl rfl rfl (by decide) ?_
          refine Tr.va rfl (fun _ _ h1 h2 => zg (h1.ev rfl) (h1.ev rfl)) ?_
          exact Tr.nil (Tr.Qc (.cons rfl (.cons rfl (.cons rfl (.cons rfl .nil)))) (.cons rfl (.cons rfl .nil)))
        ·show Tr _ _ (LF [(0, (.slice zF p0.length zG)), (1, (.slice zV p1.length zW)), (5, (iv VP)), (75, (.bool g143))]) (LE [(5, bx zAw #[(iv zY.Kind), (sv zY.Name), (iv zY.At.X), (iv zY.At.Y), (.slice Jt zY.Points.length Jm), (iv zY.NX), (iv zY.NY), (.slice Js zY.Steps.length Jl)] 80), (6, bx zA7 #[(iv za.Kind), (sv za.Name), (iv za.At.X), (iv za.At.Y), (.slice Jr za.Points.length Jk), (iv za.NX), (iv za.NY), (.slice Jq za.Steps.length Jj)] 80)]) _
         refine Tr.nil (Tr.zA (Tr.cond rfl H (fun H => ?_) (fun H => ?_)))
         ·refine Tr.sr (Tr.asg rfl rfl (Tr.nil (Tr.zA (Tr.ret (Tr.zm (Tr.zO (Tr.zO (Tr.zm (Tr.zO ?_)))))))))
          obtain rfl := Option.some.inj H
          exact Tr.out (m := [(.bool false)]) [] (zQ rfl zT) (fun W hW => ⟨rfl, hW.low leB⟩)
         ·refine Tr.skip (Tr.zx (Tr.zA (Tr.region (Tr.mv rfl rfl (Tr.va rfl (fun _ _ h1 h2 => Qo (h1.ev rfl) (h1.ev rfl)) ?_)))))
          exact Tr.asg rfl rfl (Tr.nil (Tr.QF Qy (w64 (VP + 1)) H (.cons rfl (.cons rfl (.cons rfl .nil))) .nil))
  ·refine Tr.exit (Tr.QK (Tr.QK (Tr.JV (Tr.zA (Tr.sr (Tr.asg rfl rfl (Tr.nil (Tr.zA (Tr.ret ?_)))))))))
   obtain rfl := Option.some.inj H
   exact Tr.out (m := [(.bool true)]) [] (zQ rfl zT) (fun W hW => ⟨rfl, hW.low leB⟩)
theorem WW : ∀ (N : Nat) {w : Bs} (p0 : (List zB)) (zF : Option Addr) (zG : Nat) (zl : Sl w.R w.W zC zF zG p0) (p1 : (List zB)) (zV : Option Addr) (zW : Nat) (Ql : Sl w.R w.W zC zV zW p1) (r : Bool) (H : Ju N p0 p1 = some r) (hE : HF w w.W E0), Calls Tryz.prog 19 [(.slice zF p0.length zG), (.slice zV p1.length zW)].toArray w.W fun e W' => e = .returned (.bool r) ∧ HF w W' E0
 | 0 => by intros; rename_i H _; cases H
 | N + 1 => zBN N (Ju N) (WW N)

theorem zBl (N : Nat) {w : Bs} (p0 : (List JO)) (zF : Option Addr) (zG : Nat) (zl : Sl w.R w.W KR zF zG p0) (p1 : (List JO)) (zV : Option Addr) (zW : Nat) (Ql : Sl w.R w.W KR zV zW p1) (r : Bool) (H : Jv N p0 p1 = some r) (hE : HF w w.W E0) : Calls Tryz.prog 20 [(.slice zF p0.length zG), (.slice zV p1.length zW)].toArray w.W fun e W' => e = .returned (.bool r) ∧ HF w W' E0 := by
 unfold Jv at H
 have leB := Bs.Le.refl w
 refine Tr.enter (n := 26) Tryz.func20 rfl rfl rfl hE ?_
 refine Tr.sr (Tr.asg rfl rfl (Tr.nil (Tr.zA (Tr.seq (Tr.sr (Tr.mv rfl rfl (Tr.va rfl (fun _ _ h1 h2 => QL zG1 (h1.ev rfl)) ?_)))))))
 refine Tr.mv rfl rfl (Tr.va rfl (fun _ _ h1 h2 => QL zG1 (h1.ev rfl)) ?_)
 refine Tr.va rfl (fun _ _ h1 h2 => Jw (h1.ev rfl) (h1.ev rfl)) ?_
 refine Tr.nil (Tr.zA (Tr.cond rfl H (fun H => ?_) (fun H => ?_)))
 ·refine Tr.sr (Tr.asg rfl rfl (Tr.nil (Tr.zA (Tr.ret (Tr.zO ?_)))))
  obtain rfl := Option.some.inj H
  exact Tr.out (m := [(.bool false)]) [] (zQ rfl zT) (fun W hW => ⟨rfl, hW.low leB⟩)
 ·refine Tr.skip (Tr.zA (Tr.seq (Tr.sr (Tr.asg rfl rfl (Tr.nil (Tr.zA (Tr.block (Tr.loop (σ := Int) (fun m w s => QZ p0 p1 m s = some r) (fun s => [(0, (.slice zF p0.length zG)), (1, (.slice zV p1.length zW)), (5, (iv s))]) (fun s => []) N 0 H (.cons rfl (.cons rfl (.cons rfl .nil))) .nil (fun _ _ h => zEE (h)) ?_))))))))
  intro w Qy mL1 x107 hs
  have H := hs
  replace H : QZ p0 p1 (mL1 + 1) x107 = some r := H
  replace zl := zl.leR Qy
  replace Ql := Ql.leR Qy
  replace leB := leB.trans Qy
  rw [QZ.eq_2] at H
  show Tr _ _ (LF [(0, (.slice zF p0.length zG)), (1, (.slice zV p1.length zW)), (5, (iv x107))]) (LE []) _
  refine Tr.seq (Tr.sr (Tr.mv rfl rfl (Tr.mv rfl rfl (Tr.va rfl (fun _ _ h1 h2 => QL zG1 (h1.ev rfl)) ?_))))
  refine Tr.va rfl (fun _ _ h1 h2 => Qm (h1.ev rfl) (h1.ev rfl)) ?_
  refine Tr.nil (Tr.zA (Tr.cond rfl H (fun H => ?_) (fun H => ?_)))
  ·refine Tr.skip (Tr.zA (Tr.seq (Tr.block (Tr.seq (Tr.draw (by kernel_rfl) (by kernel_rfl) ?_)))))
   refine Tq.mv rfl rfl (Tq.mv rfl rfl ?_)
   obtain ⟨WP, zIl, H⟩ := bnd H
   obtain ⟨zFA, zE9, zE8⟩ := QP zIl
   refine Tq.va rfl (fun _ _ h1 h2 => zR el_45 (h1.ev rfl) zl.form (h1.ev rfl) zFA zE9) ?_
   refine Tq.va rfl (fun _ _ h1 h2 => zo (cs := [(iv WP.X0), (iv WP.Y0), (iv WP.X1), (iv WP.Y1)]) ag_49 zIL (h1.ev rfl) (zf.take (rdF zEI zl zE8 h2) 4) rfl) ?_
   refine Tq.mv rfl rfl (Tq.mv rfl rfl ?_)
   obtain ⟨Qb, hx109, H⟩ := bnd H
   obtain ⟨zIk, zIj, zIi⟩ := QP hx109
   refine Tq.va rfl (fun _ _ h1 h2 => zR el_45 (h1.ev rfl) Ql.form (h1.ev rfl) zIk zIj) ?_
   refine Tq.va rfl (fun _ _ h1 h2 => zo (cs := [(iv Qb.X0), (iv Qb.Y0), (iv Qb.X1), (iv Qb.Y1)]) ag_49 zIL (h1.ev rfl) (zf.take (rdF zEI Ql zIi h2) 4) rfl) ?_
   refine Tq.va rfl (fun _ _ h1 h2 => run_neq_49 WP Qb (h1.ev rfl) (h1.ev rfl)) ?_
   refine Tq.nil (Tr.zA (Tr.cond rfl H (fun H => ?_) (fun H => ?_)))
   ·refine Tr.sr (Tr.asg rfl rfl (Tr.nil (Tr.zA (Tr.ret (Tr.zm (Tr.zO (Tr.zO (Tr.zm (Tr.zO ?_)))))))))
    obtain rfl := Option.some.inj H
    exact Tr.out (m := [(.bool false)]) [] (zQ rfl zT) (fun W hW => ⟨rfl, hW.low leB⟩)
   ·refine Tr.skip (Tr.zx (Tr.zA (Tr.region (Tr.mv rfl rfl (Tr.va rfl (fun _ _ h1 h2 => Qo (h1.ev rfl) (h1.ev rfl)) ?_)))))
    exact Tr.asg rfl rfl (Tr.nil (Tr.QF Qy (w64 (x107 + 1)) H (.cons rfl (.cons rfl (.cons rfl .nil))) .nil))
  ·refine Tr.exit (Tr.QK (Tr.QK (Tr.JV (Tr.zA (Tr.sr (Tr.asg rfl rfl (Tr.nil (Tr.zA (Tr.ret ?_)))))))))
   obtain rfl := Option.some.inj H
   exact Tr.out (m := [(.bool true)]) [] (zQ rfl zT) (fun W hW => ⟨rfl, hW.low leB⟩)

theorem zB6 (N : Nat) {w : Bs} (p0 : zi) (zF : Option Addr) (zG : Nat) (zl : Sl w.R w.W zK zF zG p0.Tools) (zN : Option Addr) (zM : Nat) (VN : Sl w.R w.W zC zN zM p0.Steps) (p1 : zi) (zV : Option Addr) (zW : Nat) (Ql : Sl w.R w.W zK zV zW p1.Tools) (QC : Option Addr) (QB : Nat) (zIm : Sl w.R w.W zC QC QB p1.Steps) (r : Bool) (H : KG N p0 p1 = some r) (hE : HF w w.W E0) : Calls Tryz.prog 7 [(.agg #[(iv p0.Unit), (.slice zF p0.Tools.length zG), (.slice zN p0.Steps.length zM)]), (.agg #[(iv p1.Unit), (.slice zV p1.Tools.length zW), (.slice QC p1.Steps.length QB)])].toArray w.W fun e W' => e = .returned (.bool r) ∧ HF w W' E0 := by
 unfold KG at H
 have leB := Bs.Le.refl w
 refine Tr.enter (n := 64) Tryz.func7 rfl rfl rfl hE ?_
 refine Tr.sr (Tr.box 1 (cs := [(iv p0.Unit), (.slice zF p0.Tools.length zG), (.slice zN p0.Steps.length zM)]) (wn rfl) rfl rfl rfl fun QG => ?_)
 refine Tr.box 2 (cs := [(iv p1.Unit), (.slice zV p1.Tools.length zW), (.slice QC p1.Steps.length QB)]) (wn rfl) rfl rfl rfl fun JX => ?_
 refine Tr.asg rfl rfl (Tr.nil (Tr.zA (Tr.seq (Tr.sr (Tr.va rfl (fun _ _ h1 h2 => zD zBy (h1.ev rfl)) ?_)))))
 refine Tr.va rfl (fun _ _ h1 h2 => zH Ji (h1.ev rfl) (rdb h2 (vs := [(iv p0.Unit), (.slice zF p0.Tools.length zG), (.slice zN p0.Steps.length zM)]) (k := 1) rfl 0) rfl) ?_
 refine Tr.va rfl (fun _ _ h1 h2 => zD zBy (h1.ev rfl)) ?_
 refine Tr.va rfl (fun _ _ h1 h2 => zH Ji (h1.ev rfl) (rdb h2 (vs := [(iv p1.Unit), (.slice zV p1.Tools.length zW), (.slice QC p1.Steps.length QB)]) (k := 2) rfl 0) rfl) ?_
 refine Tr.va rfl (fun _ _ h1 h2 => Jw (h1.ev rfl) (h1.ev rfl)) ?_
 refine Tr.mv rfl rfl (Tr.KY 8 [(2, (.pointer (some ⟨QG, 0, none⟩))), (3, (.pointer (some ⟨JX, 0, none⟩))), (19, (.bool ((p0.Unit != p1.Unit) || ((p0.Tools.length : Int) != (p1.Tools.length : Int)))))] [(1, bx QG #[(iv p0.Unit), (.slice zF p0.Tools.length zG), (.slice zN p0.Steps.length zM)] 25), (2, bx JX #[(iv p1.Unit), (.slice zV p1.Tools.length zW), (.slice QC p1.Steps.length QB)] 25)] ?_ ?_)
 ·cases zJg : (p0.Unit != p1.Unit)
  ·refine Tr.val (wg rfl rfl rfl) rfl (fun _ _ h1 h2 => zD Wj (h1.ev rfl)) ?_
   refine Tr.val (wg rfl rfl rfl) rfl (fun _ _ h1 h2 => zH zDB (h1.ev rfl) (rdb h2 (vs := [(iv p0.Unit), (.slice zF p0.Tools.length zG), (.slice zN p0.Steps.length zM)]) (k := 1) rfl 1) rfl) ?_
   refine Tr.val (wg rfl rfl rfl) rfl (fun _ _ h1 h2 => QL zG2 (h1.ev rfl)) ?_
   refine Tr.val (wg rfl rfl rfl) rfl (fun _ _ h1 h2 => zD Wj (h1.ev rfl)) ?_
   refine Tr.val (wg rfl rfl rfl) rfl (fun _ _ h1 h2 => zH zDB (h1.ev rfl) (rdb h2 (vs := [(iv p1.Unit), (.slice zV p1.Tools.length zW), (.slice QC p1.Steps.length QB)]) (k := 2) rfl 1) rfl) ?_
   refine Tr.val (wg rfl rfl rfl) rfl (fun _ _ h1 h2 => QL zG2 (h1.ev rfl)) ?_
   refine Tr.val (wg rfl rfl rfl) rfl (fun _ _ h1 h2 => Jw (h1.ev rfl) (h1.ev rfl)) ?_
   refine Tr.va rfl (fun _ _ h1 h2 => zh (h1.ev rfl) (h1.ev rfl)) ?_
   exact Tr.nil (Tr.Qc (.cons rfl (.cons rfl (.cons rfl .nil))) (.cons rfl (.cons rfl .nil)))
  ·refine Tr.pass rfl rfl rfl rfl rfl (by decide) ?_
   refine Tr.pass rfl rfl rfl rfl rfl (by decide) ?_
   refine Tr.pass rfl rfl rfl rfl rfl (by decide) ?_
   refine Tr.pass rfl rfl rfl rfl rfl (by decide) ?_
   refine Tr.pass rfl rfl rfl rfl rfl (by decide) ?_
   refine Tr.pass rfl rfl rfl rfl rfl (by decide) ?_
   refine Tr.pass rfl rfl rfl rfl rfl (by decide) ?_
   refine Tr.va rfl (fun _ _ h1 h2 => zg (h1.ev rfl) (h1.ev rfl)) ?_
   exact Tr.nil (Tr.Qc (.cons rfl (.cons rfl (.cons rfl .nil))) (.cons rfl (.cons rfl .nil)))
 ·show Tr _ _ (LF [(2, (.pointer (some ⟨QG, 0, none⟩))), (3, (.pointer (some ⟨JX, 0, none⟩))), (19, (.bool ((p0.Unit != p1.Unit) || ((p0.Tools.length : Int) != (p1.Tools.length : Int)))))]) (LE [(1, bx QG #[(iv p0.Unit), (.slice zF p0.Tools.length zG), (.slice zN p0.Steps.length zM)] 25), (2, bx JX #[(iv p1.Unit), (.slice zV p1.Tools.length zW), (.slice QC p1.Steps.length QB)] 25)]) _
  refine Tr.mv rfl rfl ?_
  obtain ⟨zFw, zC3, H⟩ := bnd H
  refine Tr.KY 7 [(2, (.pointer (some ⟨QG, 0, none⟩))), (3, (.pointer (some ⟨JX, 0, none⟩))), (27, (.bool zFw))] [(1, bx QG #[(iv p0.Unit), (.slice zF p0.Tools.length zG), (.slice zN p0.Steps.length zM)] 25), (2, bx JX #[(iv p1.Unit), (.slice zV p1.Tools.length zW), (.slice QC p1.Steps.length QB)] 25)] ?_ ?_
  ·cases zJg : ((p0.Unit != p1.Unit) || ((p0.Tools.length : Int) != (p1.Tools.length : Int)))
   ·rw [zJg] at zC3
    rw [if_neg (by decide)] at zC3
    have H := zC3
    refine Tr.val (wg rfl rfl rfl) rfl (fun _ _ h1 h2 => zD zDa (h1.ev rfl)) ?_
    refine Tr.val (wg rfl rfl rfl) rfl (fun _ _ h1 h2 => zH zBp (h1.ev rfl) (rdb h2 (vs := [(iv p0.Unit), (.slice zF p0.Tools.length zG), (.slice zN p0.Steps.length zM)]) (k := 1) rfl 2) rfl) ?_
    refine Tr.val (wg rfl rfl rfl) rfl (fun _ _ h1 h2 => zD zDa (h1.ev rfl)) ?_
    refine Tr.val (wg rfl rfl rfl) rfl (fun _ _ h1 h2 => zH zBp (h1.ev rfl) (rdb h2 (vs := [(iv p1.Unit), (.slice zV p1.Tools.length zW), (.slice QC p1.Steps.length QB)]) (k := 2) rfl 2) rfl) ?_
    obtain ⟨y104, hy104, H⟩ := bnd H
    refine Tr.Qr (r := (.bool y104)) (wg rfl rfl rfl) rfl Tryz.call19 (zI rfl (zI rfl zb)) (fun W hW => WW N p0.Steps zN zM (VN.ext hW.QV) p1.Steps QC QB (zIm.ext hW.QV) y104 hy104 (HF.start _)) ?_
    refine Tr.val (wg rfl rfl rfl) rfl (fun _ _ h1 h2 => JA (h1.ev rfl)) ?_
    refine Tr.va rfl (fun _ _ h1 h2 => zh (h1.ev rfl) (h1.ev rfl)) ?_
    obtain rfl := Option.some.inj H
    exact Tr.nil (Tr.Qc (.cons rfl (.cons rfl (.cons rfl .nil))) (.cons rfl (.cons rfl .nil)))
   ·rw [zJg] at zC3
    rw [if_pos rfl] at zC3
    have H := zC3
    obtain rfl := Option.some.inj H
    refine Tr.pass rfl rfl rfl rfl rfl (by decide) ?_
    refine Tr.pass rfl rfl rfl rfl rfl (by decide) ?_
    refine Tr.pass rfl rfl rfl rfl rfl (by decide) ?_
    refine Tr.pass rfl rfl rfl rfl rfl (by decide) ?_
    refine Tr.pass rfl rfl rfl rfl rfl (by decide) ?_
    refine Tr.pass rfl rfl rfl rfl rfl (by decide) ?_
    refine Tr.va rfl (fun _ _ h1 h2 => zg (h1.ev rfl) (h1.ev rfl)) ?_
    exact Tr.nil (Tr.Qc (.cons rfl (.cons rfl (.cons rfl .nil))) (.cons rfl (.cons rfl .nil)))
  ·show Tr _ _ (LF [(2, (.pointer (some ⟨QG, 0, none⟩))), (3, (.pointer (some ⟨JX, 0, none⟩))), (27, (.bool zFw))]) (LE [(1, bx QG #[(iv p0.Unit), (.slice zF p0.Tools.length zG), (.slice zN p0.Steps.length zM)] 25), (2, bx JX #[(iv p1.Unit), (.slice zV p1.Tools.length zW), (.slice QC p1.Steps.length QB)] 25)]) _
   refine Tr.nil (Tr.zA (Tr.cond rfl H (fun H => ?_) (fun H => ?_)))
   ·refine Tr.sr (Tr.asg rfl rfl (Tr.nil (Tr.zA (Tr.ret (Tr.zO ?_)))))
    obtain rfl := Option.some.inj H
    exact Tr.out (m := [(.bool false)]) [] (zQ rfl zT) (fun W hW => ⟨rfl, hW.low leB⟩)
   ·refine Tr.skip (Tr.zA (Tr.seq (Tr.sr (Tr.asg rfl rfl (Tr.nil (Tr.zA (Tr.block (Tr.loop (σ := Int) (fun m w s => Qf N p0 p1 m s = some r) (fun s => [(2, (.pointer (some ⟨QG, 0, none⟩))), (3, (.pointer (some ⟨JX, 0, none⟩))), (5, (iv s))]) (fun s => [(1, bx QG #[(iv p0.Unit), (.slice zF p0.Tools.length zG), (.slice zN p0.Steps.length zM)] 25), (2, bx JX #[(iv p1.Unit), (.slice zV p1.Tools.length zW), (.slice QC p1.Steps.length QB)] 25)]) N 0 H (.cons rfl (.cons rfl (.cons rfl .nil))) (.cons rfl (.cons rfl .nil)) (fun _ _ h => zEE (h)) ?_))))))))
    intro w Qy mL1 WY hs
    have H := hs
    replace H : Qf N p0 p1 (mL1 + 1) WY = some r := H
    replace zl := zl.leR Qy
    replace Ql := Ql.leR Qy
    replace leB := leB.trans Qy
    rw [Qf.eq_2] at H
    show Tr _ _ (LF [(2, (.pointer (some ⟨QG, 0, none⟩))), (3, (.pointer (some ⟨JX, 0, none⟩))), (5, (iv WY))]) (LE [(1, bx QG #[(iv p0.Unit), (.slice zF p0.Tools.length zG), (.slice zN p0.Steps.length zM)] 25), (2, bx JX #[(iv p1.Unit), (.slice zV p1.Tools.length zW), (.slice QC p1.Steps.length QB)] 25)]) _
    refine Tr.seq (Tr.sr (Tr.mv rfl rfl (Tr.va rfl (fun _ _ h1 h2 => zD Wj (h1.ev rfl)) ?_)))
    refine Tr.va rfl (fun _ _ h1 h2 => zH zDB (h1.ev rfl) (rdb h2 (vs := [(iv p0.Unit), (.slice zF p0.Tools.length zG), (.slice zN p0.Steps.length zM)]) (k := 1) rfl 1) rfl) ?_
    refine Tr.va rfl (fun _ _ h1 h2 => QL zG2 (h1.ev rfl)) ?_
    refine Tr.va rfl (fun _ _ h1 h2 => Qm (h1.ev rfl) (h1.ev rfl)) ?_
    refine Tr.nil (Tr.zA (Tr.cond rfl H (fun H => ?_) (fun H => ?_)))
    ·refine Tr.skip (Tr.zA (Tr.seq (Tr.block (Tr.seq (Tr.draw (by kernel_rfl) (by kernel_rfl) ?_)))))
     refine Tq.va rfl (fun _ _ h1 h2 => zD Wj (h1.ev rfl)) ?_
     refine Tq.va rfl (fun _ _ h1 h2 => zH zDB (h1.ev rfl) (rdb h2 (vs := [(iv p0.Unit), (.slice zF p0.Tools.length zG), (.slice zN p0.Steps.length zM)]) (k := 1) rfl 1) rfl) ?_
     refine Tq.mv rfl rfl ?_
     obtain ⟨VB, hx139, H⟩ := bnd H
     obtain ⟨hx1390, hx1391, hx1392⟩ := QP hx139
     obtain ⟨u140, hRu140, hoku140, hcu140⟩ := (zl).el hx1392
     obtain ⟨Au140_0, cu140_0⟩ := u140
     have hoku140_0 := hoku140
     refine Tq.va rfl (fun _ _ h1 h2 => zR zHJ (h1.ev rfl) zl.form (h1.ev rfl) hx1390 hx1391) ?_
     refine Tq.va rfl (fun _ _ h1 h2 => zD zDZ (h1.ev rfl)) ?_
     refine Tq.va rfl (fun _ _ h1 h2 => zH zB2 (h1.ev rfl) (zf.drop (rdR hRu140 hcu140 h2) 0) rfl) ?_
     refine Tq.va rfl (fun _ _ h1 h2 => zD Wj (h1.ev rfl)) ?_
     refine Tq.va rfl (fun _ _ h1 h2 => zH zDB (h1.ev rfl) (rdb h2 (vs := [(iv p1.Unit), (.slice zV p1.Tools.length zW), (.slice QC p1.Steps.length QB)]) (k := 2) rfl 1) rfl) ?_
     refine Tq.mv rfl rfl ?_
     obtain ⟨x141, hx141, H⟩ := bnd H
     obtain ⟨hx1410, hx1411, hx1412⟩ := QP hx141
     obtain ⟨u142, hRu142, hoku142, hcu142⟩ := (Ql).el hx1412
     obtain ⟨Au142_0, cu142_0⟩ := u142
     have hoku142_0 := hoku142
     refine Tq.va rfl (fun _ _ h1 h2 => zR zHJ (h1.ev rfl) Ql.form (h1.ev rfl) hx1410 hx1411) ?_
     refine Tq.va rfl (fun _ _ h1 h2 => zD zDZ (h1.ev rfl)) ?_
     refine Tq.va rfl (fun _ _ h1 h2 => zH zB2 (h1.ev rfl) (zf.drop (rdR hRu142 hcu142 h2) 0) rfl) ?_
     refine Tq.va rfl (fun _ _ h1 h2 => zCF (h1.ev rfl) (h1.ev rfl)) ?_
     refine Tq.mv rfl rfl ?_
     obtain ⟨g148, zFr, H⟩ := bnd H
     refine Tq.mid 15 [(2, (.pointer (some ⟨QG, 0, none⟩))), (3, (.pointer (some ⟨JX, 0, none⟩))), (5, (iv WY)), (63, (.bool g148))] ?_ ?_
     ·cases zJg : (!sEq VB.Name x141.Name)
      ·rw [zJg] at zFr
       rw [if_neg (by decide)] at zFr
       have H := zFr
       refine Tq.val (wg rfl rfl rfl) rfl (fun _ _ h1 h2 => zD Wj (h1.ev rfl)) ?_
       refine Tq.val (wg rfl rfl rfl) rfl (fun _ _ h1 h2 => zH zDB (h1.ev rfl) (rdb h2 (vs := [(iv p0.Unit), (.slice zF p0.Tools.length zG), (.slice zN p0.Steps.length zM)]) (k := 1) rfl 1) rfl) ?_
       refine Tq.val (wg rfl rfl rfl) rfl (fun _ _ h1 h2 => run_move (h1.ev rfl)) ?_
       obtain ⟨x149, hx149, H⟩ := bnd H
       obtain ⟨hx1490, hx1491, hx1492⟩ := QP hx149
       obtain ⟨u150, hRu150, hoku150, hcu150⟩ := (zl).el hx1492
       obtain ⟨Au150_0, cu150_0⟩ := u150
       have zGh := hoku150
       replace zGh : Sl w.R w.W KR Au150_0 cu150_0 x149.Rects := zGh
       refine Tq.val (wg rfl rfl rfl) rfl (fun _ _ h1 h2 => zR zHJ (h1.ev rfl) zl.form (h1.ev rfl) hx1490 hx1491) ?_
       refine Tq.val (wg rfl rfl rfl) rfl (fun _ _ h1 h2 => zD zCb (h1.ev rfl)) ?_
       refine Tq.val (wg rfl rfl rfl) rfl (fun _ _ h1 h2 => zH zI4 (h1.ev rfl) (zf.drop (rdR hRu150 hcu150 h2) 1) rfl) ?_
       refine Tq.val (wg rfl rfl rfl) rfl (fun _ _ h1 h2 => zD Wj (h1.ev rfl)) ?_
       refine Tq.val (wg rfl rfl rfl) rfl (fun _ _ h1 h2 => zH zDB (h1.ev rfl) (rdb h2 (vs := [(iv p1.Unit), (.slice zV p1.Tools.length zW), (.slice QC p1.Steps.length QB)]) (k := 2) rfl 1) rfl) ?_
       refine Tq.val (wg rfl rfl rfl) rfl (fun _ _ h1 h2 => run_move (h1.ev rfl)) ?_
       obtain ⟨x151, hx151, H⟩ := bnd H
       obtain ⟨hx1510, hx1511, hx1512⟩ := QP hx151
       obtain ⟨u152, hRu152, hoku152, hcu152⟩ := (Ql).el hx1512
       obtain ⟨Au152_0, cu152_0⟩ := u152
       have zGg := hoku152
       replace zGg : Sl w.R w.W KR Au152_0 cu152_0 x151.Rects := zGg
       refine Tq.val (wg rfl rfl rfl) rfl (fun _ _ h1 h2 => zR zHJ (h1.ev rfl) Ql.form (h1.ev rfl) hx1510 hx1511) ?_
       refine Tq.val (wg rfl rfl rfl) rfl (fun _ _ h1 h2 => zD zCb (h1.ev rfl)) ?_
       refine Tq.val (wg rfl rfl rfl) rfl (fun _ _ h1 h2 => zH zI4 (h1.ev rfl) (zf.drop (rdR hRu152 hcu152 h2) 1) rfl) ?_
       obtain ⟨y153, hy153, H⟩ := bnd H
       refine Tq.Qr (r := (.bool y153)) (wg rfl rfl rfl) rfl Tryz.call20 (zI rfl (zI rfl zb)) (fun W hW => zBl N x149.Rects Au150_0 cu150_0 (zGh.ext hW.QV) x151.Rects Au152_0 cu152_0 (zGg.ext hW.QV) y153 hy153 (HF.start _)) ?_
       refine Tq.val (wg rfl rfl rfl) rfl (fun _ _ h1 h2 => JA (h1.ev rfl)) ?_
       refine Tq.va rfl (fun _ _ h1 h2 => zh (h1.ev rfl) (h1.ev rfl)) ?_
       obtain rfl := Option.some.inj H
       exact Tq.fin (.cons rfl (.cons rfl (.cons rfl (.cons rfl .nil))))
      ·rw [zJg] at zFr
       rw [if_pos rfl] at zFr
       have H := zFr
       obtain rfl := Option.some.inj H
       refine Tq.pass rfl rfl rfl rfl rfl (by decide) ?_
       refine Tq.pass rfl rfl rfl rfl rfl (by decide) ?_
       refine Tq.pass rfl rfl rfl rfl rfl (by decide) ?_
       refine Tq.pass rfl rfl rfl rfl rfl (by decide) ?_
       refine Tq.pass rfl rfl rfl rfl rfl (by decide) ?_
       refine Tq.pass rfl rfl rfl rfl rfl (by decide) ?_
       refine Tq.pass rfl rfl rfl rfl rfl (by decide) ?_
       refine Tq.pass rfl rfl rfl rfl rfl (by decide) ?_
       refine Tq.pass rfl rfl rfl rfl rfl (by decide) ?_
       refine Tq.pass rfl rfl rfl rfl rfl (by decide) ?_
       refine Tq.pass rfl rfl rfl rfl rfl (by decide) ?_
       refine Tq.pass rfl rfl rfl rfl rfl (by decide) ?_
       refine Tq.pass rfl rfl rfl rfl rfl (by decide) ?_
       refine Tq.pass rfl rfl rfl rfl rfl (by decide) ?_
       refine Tq.va rfl (fun _ _ h1 h2 => zg (h1.ev rfl) (h1.ev rfl)) ?_
       exact Tq.fin (.cons rfl (.cons rfl (.cons rfl (.cons rfl .nil))))
     ·refine Tq.nil (Tr.zA (Tr.cond rfl H (fun H => ?_) (fun H => ?_)))
      ·refine Tr.sr (Tr.asg rfl rfl (Tr.nil (Tr.zA (Tr.ret (Tr.zm (Tr.zO (Tr.zO (Tr.zm (Tr.zO ?_)))))))))
       obtain rfl := Option.some.inj H
       exact Tr.out (m := [(.bool false)]) [] (zQ rfl zT) (fun W hW => ⟨rfl, hW.low leB⟩)
      ·refine Tr.skip (Tr.zx (Tr.zA (Tr.region (Tr.mv rfl rfl (Tr.va rfl (fun _ _ h1 h2 => Qo (h1.ev rfl) (h1.ev rfl)) ?_)))))
       exact Tr.asg rfl rfl (Tr.nil (Tr.QF Qy (w64 (WY + 1)) H (.cons rfl (.cons rfl (.cons rfl .nil))) (.cons rfl (.cons rfl .nil))))
    ·refine Tr.exit (Tr.QK (Tr.QK (Tr.JV (Tr.zA (Tr.sr (Tr.asg rfl rfl (Tr.nil (Tr.zA (Tr.ret ?_)))))))))
     obtain rfl := Option.some.inj H
     exact Tr.out (m := [(.bool true)]) [] (zQ rfl zT) (fun W hW => ⟨rfl, hW.low leB⟩)

theorem zAR (N : Nat) {w : Bs} (hT : Tab Tryz.prog w) (r : Bool) (H : JD N = some r) (hE : HF w w.W E0) : Calls Tryz.prog 8 [].toArray w.W fun e W' => e = .returned (.bool r) ∧ HF w W' E0 := by
 unfold JD at H
 have leB := Bs.Le.refl w
 refine Tr.enter (n := 14) Tryz.func8 rfl rfl rfl hE ?_
 refine Tr.sr (Tr.asg rfl rfl (Tr.nil (Tr.zA (Tr.sr (Tr.build (vs := [(0, (iv 7))]) (cs := [(iv 7), (.slice none 0 0), (.slice none 0 0)]) (wn rfl) rfl (QE rfl Qq) (by kernel_rfl) ?_)))))
 obtain ⟨QU, zCy, H⟩ := bnd H
 refine Tr.Qr (r := (.tuple #[(sv QU.1), (iv QU.2)])) (wn rfl) rfl Tryz.call5 (zI rfl zb) (fun W hW => zCQ N (hT.ext hW.QV) (zi.mk 7 [] []) none 0 (Sl.nil _ _ _) none 0 (Sl.nil _ _ _) QU zCy (HF.start _)) ?_
 refine Tr.mv rfl rfl (Tr.va rfl (fun _ _ h1 h2 => QW (h1.ev rfl) rfl) ?_)
 refine Tr.va rfl (fun _ _ h1 h2 => QW (h1.ev rfl) rfl) ?_
 refine Tr.asg rfl rfl (Tr.asg rfl rfl (Tr.nil (Tr.zA (Tr.sr (Tr.mv rfl rfl (Tr.va rfl (fun _ _ h1 h2 => Jy (h1.ev rfl) (h1.ev rfl)) ?_))))))
 refine Tr.mv rfl rfl (Tr.KY 3 [(13, (.bool ((QU.2 == 0) && (sEq QU.1 (⟨#[117, 110, 105, 116, 32, 55, 10]⟩)))))] [] ?_ ?_)
 ·cases hg100 : (QU.2 == 0)
  ·refine Tr.pass rfl rfl rfl rfl rfl (by decide) ?_
   refine Tr.pass rfl rfl rfl rfl rfl (by decide) ?_
   refine Tr.va rfl (fun _ _ h1 h2 => zh (h1.ev rfl) (h1.ev rfl)) ?_
   exact Tr.nil (Tr.Qc (.cons rfl .nil) .nil)
  ·refine Tr.val (wg rfl rfl rfl) rfl (fun _ _ h1 h2 => run_move (h1.ev rfl)) ?_
   refine Tr.val (wg rfl rfl rfl) rfl (fun _ _ h1 h2 => Kv (h1.ev rfl) (h1.ev rfl)) ?_
   refine Tr.va rfl (fun _ _ h1 h2 => zg (h1.ev rfl) (h1.ev rfl)) ?_
   exact Tr.nil (Tr.Qc (.cons rfl .nil) .nil)
 ·show Tr _ _ (LF [(13, (.bool ((QU.2 == 0) && (sEq QU.1 (⟨#[117, 110, 105, 116, 32, 55, 10]⟩)))))]) (LE []) _
  refine Tr.asg rfl rfl (Tr.nil (Tr.zA (Tr.ret ?_)))
  obtain rfl := Option.some.inj H
  exact Tr.out (m := [(.bool ((QU.2 == 0) && (sEq QU.1 (⟨#[117, 110, 105, 116, 32, 55, 10]⟩))))]) [] (zQ rfl zT) (fun W hW => ⟨rfl, hW.low leB⟩)

theorem zA1 (N : Nat) {w : Bs} (hT : Tab Tryz.prog w) (p0 : zi) (zF : Option Addr) (zG : Nat) (zl : Sl w.R w.W zK zF zG p0.Tools) (zN : Option Addr) (zM : Nat) (VN : Sl w.R w.W zC zN zM p0.Steps) (p1 : ByteArray) (r : Bool) (H : JK N p0 p1 = some r) (hE : HF w w.W E0) : Calls Tryz.prog 3 [(.agg #[(iv p0.Unit), (.slice zF p0.Tools.length zG), (.slice zN p0.Steps.length zM)]), (sv p1)].toArray w.W fun e W' => e = .returned (.bool r) ∧ HF w W' E0 := by
 unfold JK at H
 have leB := Bs.Le.refl w
 refine Tr.enter (n := 72) Tryz.func3 rfl rfl rfl hE ?_
 refine Tr.sr (Tr.box 1 (cs := [(iv p0.Unit), (.slice zF p0.Tools.length zG), (.slice zN p0.Steps.length zM)]) (wn rfl) rfl rfl rfl fun QG => ?_)
 refine Tr.asg rfl rfl (Tr.nil (Tr.zA ?_))
 have leJ112 := Bs.Le.refl w
 refine Tr.cutJ (σ := Unit) (fun w _ => QR N p1 = some r) (fun _ => [(1, (sv p1))]) (fun _ => []) ?_ ?_
 ·refine Tr.sr (Tr.va rfl (fun _ _ h1 h2 => zo (cs := [(iv p0.Unit), (.slice zF p0.Tools.length zG), (.slice zN p0.Steps.length zM)]) zBZ WQ (h1.ev rfl) (zf.take (rdb h2 (vs := [(iv p0.Unit), (.slice zF p0.Tools.length zG), (.slice zN p0.Steps.length zM)]) (k := 1) rfl 0) 3) rfl) ?_)
  obtain ⟨zHS, hy124, H⟩ := bnd H
  refine Tr.Qr (r := (.tuple #[(sv zHS.1), (iv zHS.2)])) (wn rfl) rfl Tryz.call5 (zI rfl zb) (fun W hW => zCQ N (hT.ext hW.QV) p0 zF zG (zl.ext hW.QV) zN zM (VN.ext hW.QV) zHS hy124 (HF.start _)) ?_
  refine Tr.mv rfl rfl (Tr.va rfl (fun _ _ h1 h2 => QW (h1.ev rfl) rfl) ?_)
  refine Tr.va rfl (fun _ _ h1 h2 => QW (h1.ev rfl) rfl) ?_
  refine Tr.asg rfl rfl (Tr.asg rfl rfl (Tr.nil (Tr.zA (Tr.sr (Tr.mv rfl rfl (Tr.va rfl (fun _ _ h1 h2 => Jy (h1.ev rfl) (h1.ev rfl)) ?_))))))
  refine Tr.nil (Tr.zA (Tr.cond rfl H (fun H => ?_) (fun H => ?_)))
  ·refine Tr.sr (Tr.mv rfl rfl ?_)
   obtain ⟨JH, hy125, H⟩ := bnd H
   refine Tr.zEN [8, 9] [emp, emp] (U := (Option Addr × Nat) × (Option Addr × Nat)) (fun u => (.tuple #[(.agg #[(iv JH.1.Unit), (.slice u.1.1 JH.1.Tools.length u.1.2), (.slice u.2.1 JH.1.Steps.length u.2.2)]), (iv JH.2.1), (iv JH.2.2)])) (fun O W u => SlF u.1.1 JH.1.Tools.length u.1.2 ∧ SlF u.2.1 JH.1.Steps.length u.2.2) (fun u => [ow u.1.1 u.1.2 47 zK JH.1.Tools, ow u.2.1 u.2.2 80 zC JH.1.Steps]) rfl (zL rfl (zL rfl QI)) (fun _ => rfl) (wn rfl) rfl Tryz.call6 (zI rfl zb) (fun W hW hp hE => zEO N (hT.ext (hW.zFz hp)) zHS.1 JH hy125 hE) ?_
   intro w u le126 hu
   obtain ⟨⟨VG, VE⟩, ⟨VF, VD⟩⟩ := u
   obtain ⟨gy125_0, gy125_1⟩ := hu
   replace hT := hT.ext le126.ext
   replace zl := zl.leR le126
   replace VN := VN.leR le126
   replace leB := leB.trans le126
   replace leJ112 := leJ112.trans le126
   have hgy125_0 : SlF VG JH.1.Tools.length VE := gy125_0 --@phi
   have hgy125_1 : SlF VF JH.1.Steps.length VD := gy125_1 --@phi
   show Tr _ _ (uf _ 23 (.tuple #[(.agg #[(iv JH.1.Unit), (.slice VG JH.1.Tools.length VE), (.slice VF JH.1.Steps.length VD)]), (iv JH.2.1), (iv JH.2.2)])) (up (up _ 9 (ow VF VD 80 zC JH.1.Steps)) 8 (ow VG VE 47 zK JH.1.Tools)) _
   refine Tr.mv rfl rfl (Tr.va rfl (fun _ _ h1 h2 => QW (h1.ev rfl) rfl) ?_)
   refine Tr.va rfl (fun _ _ h1 h2 => QW (h1.ev rfl) rfl) ?_
   refine Tr.va rfl (fun _ _ h1 h2 => QW (h1.ev rfl) rfl) ?_
   refine Tr.alloc 10 (wn rfl) rfl ze_25 fun b127 => ?_
   refine Tr.store 10 (cs := [(iv JH.1.Unit), (.slice VG JH.1.Tools.length VE), (.slice VF JH.1.Steps.length VD)]) [(iv JH.1.Unit), (.slice VG JH.1.Tools.length VE), (.slice VF JH.1.Steps.length VD)] (wn rfl) rfl rfl rfl rfl WQ rfl rfl rfl ?_
   refine Tr.asg rfl rfl (Tr.asg rfl rfl (Tr.nil (Tr.zA (Tr.sr (Tr.mv rfl rfl (Tr.va rfl (fun _ _ h1 h2 => Jy (h1.ev rfl) (h1.ev rfl)) ?_))))))
   refine Tr.mv rfl rfl ?_
   obtain ⟨g131, zJm, H⟩ := bnd H
   refine Tr.KY 9 [(1, (sv p1)), (9, (iv JH.2.2)), (38, (.bool g131))] [(1, bx QG #[(iv p0.Unit), (.slice zF p0.Tools.length zG), (.slice zN p0.Steps.length zM)] 25), (8, ow VG VE 47 zK JH.1.Tools), (9, ow VF VD 80 zC JH.1.Steps), (10, bx b127 #[(iv JH.1.Unit), (.slice VG JH.1.Tools.length VE), (.slice VF JH.1.Steps.length VD)] 25)] ?_ ?_
   ·cases zJk : (JH.2.2 == 0)
    ·rw [zJk] at zJm
     rw [if_neg (by decide)] at zJm
     have H := zJm
     obtain rfl := Option.some.inj H
     refine Tr.pass rfl rfl rfl rfl rfl (by decide) ?_
     refine Tr.pass rfl rfl rfl rfl rfl (by decide) ?_
     refine Tr.pass rfl rfl rfl rfl rfl (by decide) ?_
     refine Tr.Kj rfl rfl rfl rfl (by decide) ?_
     refine Tr.Kj rfl rfl rfl rfl (by decide) ?_
     refine Tr.Kj rfl rfl rfl rfl (by decide) ?_
     refine Tr.Kj rfl rfl rfl rfl (by decide) ?_
     refine Tr.pass rfl rfl rfl rfl rfl (by decide) ?_
     refine Tr.va rfl (fun _ _ h1 h2 => zh (h1.ev rfl) (h1.ev rfl)) ?_
     exact Tr.nil (Tr.Qc (.cons rfl (.cons rfl (.cons rfl .nil))) (.cons rfl (.cons rfl (.cons rfl (.cons rfl .nil)))))
    ·rw [zJk] at zJm
     rw [if_pos rfl] at zJm
     have H := zJm
     refine Tr.val (wg rfl rfl rfl) rfl (fun _ _ h1 h2 => run_move (h1.ev rfl)) ?_
     refine Tr.val (wg rfl rfl rfl) rfl (fun _ _ h1 h2 => Jw (h1.ev rfl) (h1.ev rfl)) ?_
     refine Tr.val (wg rfl rfl rfl) rfl (fun _ _ h1 h2 => run_move (h1.ev rfl)) ?_
     obtain ⟨g133, zJl, H⟩ := bnd H
     refine Tr.KY 5 [(1, (sv p1)), (9, (iv JH.2.2)), (29, (.bool true)), (37, (.bool g133))] [(1, bx QG #[(iv p0.Unit), (.slice zF p0.Tools.length zG), (.slice zN p0.Steps.length zM)] 25), (8, ow VG VE 47 zK JH.1.Tools), (9, ow VF VD 80 zC JH.1.Steps), (10, bx b127 #[(iv JH.1.Unit), (.slice VG JH.1.Tools.length VE), (.slice VF JH.1.Steps.length VD)] 25)] ?_ ?_
     ·cases zJk : (JH.2.1 != 0)
      ·rw [zJk] at zJl
       rw [if_neg (by decide)] at zJl
       have H := zJl
       refine Tr.val (wg rfl rfl rfl) rfl (fun _ _ h1 h2 => zo (cs := [(iv JH.1.Unit), (.slice VG JH.1.Tools.length VE), (.slice VF JH.1.Steps.length VD)]) zBZ WQ (h1.ev rfl) (zf.take (rdb h2 (vs := [(iv JH.1.Unit), (.slice VG JH.1.Tools.length VE), (.slice VF JH.1.Steps.length VD)]) (k := 10) rfl 0) 3) rfl) ?_
       refine Tr.val (wg rfl rfl rfl) rfl (fun _ _ h1 h2 => zo (cs := [(iv p0.Unit), (.slice zF p0.Tools.length zG), (.slice zN p0.Steps.length zM)]) zBZ WQ (h1.ev rfl) (zf.take (rdb h2 (vs := [(iv p0.Unit), (.slice zF p0.Tools.length zG), (.slice zN p0.Steps.length zM)]) (k := 1) rfl 0) 3) rfl) ?_
       obtain ⟨zJE, hy134, H⟩ := bnd H
       refine Tr.Qr (r := (.bool zJE)) (wg rfl rfl rfl) rfl Tryz.call7 (zI rfl (zI rfl zb)) (fun W hW => zB6 N JH.1 VG VE (hW.zBg (k := 8) rfl) VF VD (hW.zBg (k := 9) rfl) p0 zF zG (zl.ext hW.QV) zN zM (VN.ext hW.QV) zJE hy134 (HF.start _)) ?_
       refine Tr.val (wg rfl rfl rfl) rfl (fun _ _ h1 h2 => JA (h1.ev rfl)) ?_
       refine Tr.val (wg rfl rfl rfl) rfl (fun _ _ h1 h2 => zh (h1.ev rfl) (h1.ev rfl)) ?_
       obtain rfl := Option.some.inj H
       exact Tr.nil (Tr.Qc (.cons rfl (.cons rfl (.cons rfl (.cons rfl .nil)))) (.cons rfl (.cons rfl (.cons rfl (.cons rfl .nil)))))
      ·rw [zJk] at zJl
       rw [if_pos rfl] at zJl
       have H := zJl
       obtain rfl := Option.some.inj H
       refine Tr.pass rfl rfl rfl rfl rfl (by decide) ?_
       refine Tr.pass rfl rfl rfl rfl rfl (by decide) ?_
       refine Tr.pass rfl rfl rfl rfl rfl (by decide) ?_
       refine Tr.pass rfl rfl rfl rfl rfl (by decide) ?_
       refine Tr.val (wg rfl rfl rfl) rfl (fun _ _ h1 h2 => zg (h1.ev rfl) (h1.ev rfl)) ?_
       exact Tr.nil (Tr.Qc (.cons rfl (.cons rfl (.cons rfl (.cons rfl .nil)))) (.cons rfl (.cons rfl (.cons rfl (.cons rfl .nil)))))
     ·show Tr _ _ (LF [(1, (sv p1)), (9, (iv JH.2.2)), (29, (.bool true)), (37, (.bool g133))]) (LE [(1, bx QG #[(iv p0.Unit), (.slice zF p0.Tools.length zG), (.slice zN p0.Steps.length zM)] 25), (8, ow VG VE 47 zK JH.1.Tools), (9, ow VF VD 80 zC JH.1.Steps), (10, bx b127 #[(iv JH.1.Unit), (.slice VG JH.1.Tools.length VE), (.slice VF JH.1.Steps.length VD)] 25)]) _
      refine Tr.va rfl (fun _ _ h1 h2 => zg (h1.ev rfl) (h1.ev rfl)) ?_
      obtain rfl := Option.some.inj H
      exact Tr.nil (Tr.Qc (.cons rfl (.cons rfl (.cons rfl .nil))) (.cons rfl (.cons rfl (.cons rfl (.cons rfl .nil)))))
   ·show Tr _ _ (LF [(1, (sv p1)), (9, (iv JH.2.2)), (38, (.bool g131))]) (LE [(1, bx QG #[(iv p0.Unit), (.slice zF p0.Tools.length zG), (.slice zN p0.Steps.length zM)] 25), (8, ow VG VE 47 zK JH.1.Tools), (9, ow VF VD 80 zC JH.1.Steps), (10, bx b127 #[(iv JH.1.Unit), (.slice VG JH.1.Tools.length VE), (.slice VF JH.1.Steps.length VD)] 25)]) _
    refine Tr.mv rfl rfl (Tr.KY 3 [(1, (sv p1)), (42, (.bool (g131 || (JH.2.2 != 0))))] [(1, bx QG #[(iv p0.Unit), (.slice zF p0.Tools.length zG), (.slice zN p0.Steps.length zM)] 25), (8, ow VG VE 47 zK JH.1.Tools), (9, ow VF VD 80 zC JH.1.Steps), (10, bx b127 #[(iv JH.1.Unit), (.slice VG JH.1.Tools.length VE), (.slice VF JH.1.Steps.length VD)] 25)] ?_ ?_)
    ·cases zJk : g131
     ·refine Tr.val (wg rfl rfl rfl) rfl (fun _ _ h1 h2 => run_move (h1.ev rfl)) ?_
      refine Tr.val (wg rfl rfl rfl) rfl (fun _ _ h1 h2 => Jw (h1.ev rfl) (h1.ev rfl)) ?_
      refine Tr.va rfl (fun _ _ h1 h2 => zh (h1.ev rfl) (h1.ev rfl)) ?_
      exact Tr.nil (Tr.Qc (.cons rfl (.cons rfl .nil)) (.cons rfl (.cons rfl (.cons rfl (.cons rfl .nil)))))
     ·refine Tr.pass rfl rfl rfl rfl rfl (by decide) ?_
      refine Tr.pass rfl rfl rfl rfl rfl (by decide) ?_
      refine Tr.va rfl (fun _ _ h1 h2 => zg (h1.ev rfl) (h1.ev rfl)) ?_
      exact Tr.nil (Tr.Qc (.cons rfl (.cons rfl .nil)) (.cons rfl (.cons rfl (.cons rfl (.cons rfl .nil)))))
    ·show Tr _ _ (LF [(1, (sv p1)), (42, (.bool (g131 || (JH.2.2 != 0))))]) (LE [(1, bx QG #[(iv p0.Unit), (.slice zF p0.Tools.length zG), (.slice zN p0.Steps.length zM)] 25), (8, ow VG VE 47 zK JH.1.Tools), (9, ow VF VD 80 zC JH.1.Steps), (10, bx b127 #[(iv JH.1.Unit), (.slice VG JH.1.Tools.length VE), (.slice VF JH.1.Steps.length VD)] 25)]) _
     refine Tr.nil (Tr.zA (Tr.cond rfl H (fun H => ?_) (fun H => ?_)))
     ·refine Tr.sr (Tr.asg rfl rfl (Tr.nil (Tr.zA (Tr.ret (Tr.zO ?_)))))
      obtain rfl := Option.some.inj H
      exact Tr.out (m := [(.bool false)]) [] (zQ rfl zT) (fun W hW => ⟨rfl, hW.low leB⟩)
     ·exact Tr.skip (Tr.QF leJ112 () H (.cons rfl .nil) .nil)
  ·exact Tr.skip (Tr.QF leJ112 () H (.cons rfl .nil) .nil)
 ·intro w _ hlJ113 hs
  have H := hs
  replace H : QR N p1 = some r := H
  replace hT := hT.ext hlJ113.ext
  replace leB := leB.trans hlJ113
  unfold QR at H
  show Tr _ _ (LF [(1, (sv p1))]) (LE []) _
  refine Tr.sr (Tr.mv rfl rfl ?_)
  obtain ⟨y114, hy114, H⟩ := bnd H
  refine Tr.zEN [5, 6] [emp, emp] (U := (Option Addr × Nat) × (Option Addr × Nat)) (fun u => (.tuple #[(.agg #[(iv y114.1.Unit), (.slice u.1.1 y114.1.Tools.length u.1.2), (.slice u.2.1 y114.1.Steps.length u.2.2)]), (iv y114.2.1), (iv y114.2.2)])) (fun O W u => SlF u.1.1 y114.1.Tools.length u.1.2 ∧ SlF u.2.1 y114.1.Steps.length u.2.2) (fun u => [ow u.1.1 u.1.2 47 zK y114.1.Tools, ow u.2.1 u.2.2 80 zC y114.1.Steps]) rfl (zL rfl (zL rfl QI)) (fun _ => rfl) (wn rfl) rfl Tryz.call6 (zI rfl zb) (fun W hW hp hE => zEO N (hT.ext (hW.zFz hp)) p1 y114 hy114 hE) ?_
  intro w u le115 hu
  obtain ⟨⟨Ku, Km⟩, ⟨Kt, Kl⟩⟩ := u
  obtain ⟨gy114_0, gy114_1⟩ := hu
  replace hT := hT.ext le115.ext
  replace leB := leB.trans le115
  have hgy114_0 : SlF Ku y114.1.Tools.length Km := gy114_0 --@phi
  have hgy114_1 : SlF Kt y114.1.Steps.length Kl := gy114_1 --@phi
  show Tr _ _ (uf _ 45 (.tuple #[(.agg #[(iv y114.1.Unit), (.slice Ku y114.1.Tools.length Km), (.slice Kt y114.1.Steps.length Kl)]), (iv y114.2.1), (iv y114.2.2)])) (up (up _ 6 (ow Kt Kl 80 zC y114.1.Steps)) 5 (ow Ku Km 47 zK y114.1.Tools)) _
  refine Tr.mv rfl rfl (Tr.va rfl (fun _ _ h1 h2 => QW (h1.ev rfl) rfl) ?_)
  refine Tr.va rfl (fun _ _ h1 h2 => QW (h1.ev rfl) rfl) ?_
  refine Tr.va rfl (fun _ _ h1 h2 => QW (h1.ev rfl) rfl) ?_
  refine Tr.alloc 7 (wn rfl) rfl ze_25 fun b116 => ?_
  refine Tr.store 7 (cs := [(iv y114.1.Unit), (.slice Ku y114.1.Tools.length Km), (.slice Kt y114.1.Steps.length Kl)]) [(iv y114.1.Unit), (.slice Ku y114.1.Tools.length Km), (.slice Kt y114.1.Steps.length Kl)] (wn rfl) rfl rfl rfl rfl WQ rfl rfl rfl ?_
  refine Tr.asg rfl rfl (Tr.asg rfl rfl (Tr.nil (Tr.zA (Tr.seq (Tr.sr (Tr.mv rfl rfl (Tr.va rfl (fun _ _ h1 h2 => Jw (h1.ev rfl) (h1.ev rfl)) ?_)))))))
  refine Tr.nil (Tr.zA (Tr.cond rfl H (fun H => ?_) (fun H => ?_)))
  ·refine Tr.sr (Tr.va rfl (fun _ _ h1 h2 => zD zBy (h1.ev rfl)) ?_)
   refine Tr.va rfl (fun _ _ h1 h2 => zH Ji (h1.ev rfl) (rdb h2 (vs := [(iv y114.1.Unit), (.slice Ku y114.1.Tools.length Km), (.slice Kt y114.1.Steps.length Kl)]) (k := 7) rfl 0) rfl) ?_
   refine Tr.va rfl (fun _ _ h1 h2 => Jy (h1.ev rfl) (h1.ev rfl)) ?_
   refine Tr.mv rfl rfl ?_
   obtain ⟨zGq, zC1, H⟩ := bnd H
   refine Tr.KY 2 [(56, (.bool zGq))] [(5, ow Ku Km 47 zK y114.1.Tools), (6, ow Kt Kl 80 zC y114.1.Steps), (7, bx b116 #[(iv y114.1.Unit), (.slice Ku y114.1.Tools.length Km), (.slice Kt y114.1.Steps.length Kl)] 25)] ?_ ?_
   ·cases zFu : (y114.1.Unit == 0)
    ·rw [zFu] at zC1
     rw [if_neg (by decide)] at zC1
     have H := zC1
     obtain rfl := Option.some.inj H
     refine Tr.pass rfl rfl rfl rfl rfl (by decide) ?_
     refine Tr.va rfl (fun _ _ h1 h2 => zh (h1.ev rfl) (h1.ev rfl)) ?_
     exact Tr.nil (Tr.Qc (.cons rfl .nil) (.cons rfl (.cons rfl (.cons rfl .nil))))
    ·rw [zFu] at zC1
     rw [if_pos rfl] at zC1
     have H := zC1
     obtain ⟨KW, hy119, H⟩ := bnd H
     refine Tr.Qr (r := (.bool KW)) (wg rfl rfl rfl) rfl Tryz.call8 zb (fun W hW => zAR N (hT.ext hW.QV) KW hy119 (HF.start _)) ?_
     refine Tr.va rfl (fun _ _ h1 h2 => zg (h1.ev rfl) (h1.ev rfl)) ?_
     obtain rfl := Option.some.inj H
     exact Tr.nil (Tr.Qc (.cons rfl .nil) (.cons rfl (.cons rfl (.cons rfl .nil))))
   ·show Tr _ _ (LF [(56, (.bool zGq))]) (LE [(5, ow Ku Km 47 zK y114.1.Tools), (6, ow Kt Kl 80 zC y114.1.Steps), (7, bx b116 #[(iv y114.1.Unit), (.slice Ku y114.1.Tools.length Km), (.slice Kt y114.1.Steps.length Kl)] 25)]) _
    refine Tr.asg rfl rfl (Tr.nil (Tr.zA (Tr.ret (Tr.zO ?_))))
    obtain rfl := Option.some.inj H
    exact Tr.out (m := [(.bool zGq)]) [] (zQ rfl zT) (fun W hW => ⟨rfl, hW.low leB⟩)
  ·refine Tr.skip (Tr.zA (Tr.sr (Tr.va rfl (fun _ _ h1 h2 => zo (cs := [(iv y114.1.Unit), (.slice Ku y114.1.Tools.length Km), (.slice Kt y114.1.Steps.length Kl)]) zBZ WQ (h1.ev rfl) (zf.take (rdb h2 (vs := [(iv y114.1.Unit), (.slice Ku y114.1.Tools.length Km), (.slice Kt y114.1.Steps.length Kl)]) (k := 7) rfl 0) 3) rfl) ?_)))
   obtain ⟨zEh, hy120, H⟩ := bnd H
   refine Tr.Qr (r := (.tuple #[(sv zEh.1), (iv zEh.2)])) (wn rfl) rfl Tryz.call5 (zI rfl zb) (fun W hW => zCQ N (hT.ext hW.QV) y114.1 Ku Km (hW.zBg (k := 5) rfl) Kt Kl (hW.zBg (k := 6) rfl) zEh hy120 (HF.start _)) ?_
   refine Tr.mv rfl rfl (Tr.va rfl (fun _ _ h1 h2 => QW (h1.ev rfl) rfl) ?_)
   refine Tr.va rfl (fun _ _ h1 h2 => QW (h1.ev rfl) rfl) ?_
   refine Tr.asg rfl rfl (Tr.asg rfl rfl (Tr.nil (Tr.zA (Tr.sr (Tr.mv rfl rfl (Tr.va rfl (fun _ _ h1 h2 => Jy (h1.ev rfl) (h1.ev rfl)) ?_))))))
   refine Tr.mv rfl rfl (Tr.KY 4 [(68, (.bool ((zEh.2 == 0) && (sEq zEh.1 p1))))] [(5, ow Ku Km 47 zK y114.1.Tools), (6, ow Kt Kl 80 zC y114.1.Steps), (7, bx b116 #[(iv y114.1.Unit), (.slice Ku y114.1.Tools.length Km), (.slice Kt y114.1.Steps.length Kl)] 25)] ?_ ?_)
   ·cases hg123 : (zEh.2 == 0)
    ·refine Tr.pass rfl rfl rfl rfl rfl (by decide) ?_
     refine Tr.pass rfl rfl rfl rfl rfl (by decide) ?_
     refine Tr.pass rfl rfl rfl rfl rfl (by decide) ?_
     refine Tr.va rfl (fun _ _ h1 h2 => zh (h1.ev rfl) (h1.ev rfl)) ?_
     exact Tr.nil (Tr.Qc (.cons rfl .nil) (.cons rfl (.cons rfl (.cons rfl .nil))))
    ·refine Tr.val (wg rfl rfl rfl) rfl (fun _ _ h1 h2 => run_move (h1.ev rfl)) ?_
     refine Tr.val (wg rfl rfl rfl) rfl (fun _ _ h1 h2 => run_move (h1.ev rfl)) ?_
     refine Tr.val (wg rfl rfl rfl) rfl (fun _ _ h1 h2 => Kv (h1.ev rfl) (h1.ev rfl)) ?_
     refine Tr.va rfl (fun _ _ h1 h2 => zg (h1.ev rfl) (h1.ev rfl)) ?_
     exact Tr.nil (Tr.Qc (.cons rfl .nil) (.cons rfl (.cons rfl (.cons rfl .nil))))
   ·show Tr _ _ (LF [(68, (.bool ((zEh.2 == 0) && (sEq zEh.1 p1))))]) (LE [(5, ow Ku Km 47 zK y114.1.Tools), (6, ow Kt Kl 80 zC y114.1.Steps), (7, bx b116 #[(iv y114.1.Unit), (.slice Ku y114.1.Tools.length Km), (.slice Kt y114.1.Steps.length Kl)] 25)]) _
    refine Tr.mv rfl rfl ?_
    obtain ⟨g122, zJn, H⟩ := bnd H
    refine Tr.KY 2 [(71, (.bool g122))] [(5, ow Ku Km 47 zK y114.1.Tools), (6, ow Kt Kl 80 zC y114.1.Steps), (7, bx b116 #[(iv y114.1.Unit), (.slice Ku y114.1.Tools.length Km), (.slice Kt y114.1.Steps.length Kl)] 25)] ?_ ?_
    ·cases hg123 : ((zEh.2 == 0) && (sEq zEh.1 p1))
     ·rw [hg123] at zJn
      rw [if_neg (by decide)] at zJn
      have H := zJn
      obtain rfl := Option.some.inj H
      refine Tr.pass rfl rfl rfl rfl rfl (by decide) ?_
      refine Tr.va rfl (fun _ _ h1 h2 => zh (h1.ev rfl) (h1.ev rfl)) ?_
      exact Tr.nil (Tr.Qc (.cons rfl .nil) (.cons rfl (.cons rfl (.cons rfl .nil))))
     ·rw [hg123] at zJn
      rw [if_pos rfl] at zJn
      have H := zJn
      obtain ⟨zJF, hy123, H⟩ := bnd H
      refine Tr.Qr (r := (.bool zJF)) (wg rfl rfl rfl) rfl Tryz.call8 zb (fun W hW => zAR N (hT.ext hW.QV) zJF hy123 (HF.start _)) ?_
      refine Tr.va rfl (fun _ _ h1 h2 => zg (h1.ev rfl) (h1.ev rfl)) ?_
      obtain rfl := Option.some.inj H
      exact Tr.nil (Tr.Qc (.cons rfl .nil) (.cons rfl (.cons rfl (.cons rfl .nil))))
    ·show Tr _ _ (LF [(71, (.bool g122))]) (LE [(5, ow Ku Km 47 zK y114.1.Tools), (6, ow Kt Kl 80 zC y114.1.Steps), (7, bx b116 #[(iv y114.1.Unit), (.slice Ku y114.1.Tools.length Km), (.slice Kt y114.1.Steps.length Kl)] 25)]) _
     refine Tr.asg rfl rfl (Tr.nil (Tr.zA (Tr.ret ?_)))
     obtain rfl := Option.some.inj H
     exact Tr.out (m := [(.bool g122)]) [] (zQ rfl zT) (fun W hW => ⟨rfl, hW.low leB⟩)

end Go.Proofs.YtokanbmnoghafaaGreatDoor
