/- The walks: each function computes its plain function. -/
import Derived.Test.YtneghcpnehiffaaGreatDoorXWd
namespace Go.Proofs.YtneghcpnehiffaaGreatDoor
open Go.RowKit
set_option maxRecDepth 100000
set_option maxHeartbeats 1000000
theorem zMf (N : Nat) (rec : (List zC) → zI → Option (List zC)) (hrec : ∀ {w : Bs} (p0 : (List zC)) (zF : Option Addr) (zG : Nat) (zT : Sl w.O w.W zJ zF zG p0) (p1 : zI) (r : (List zC)) (H : rec p0 p1 = some r) (hE : HF w w.W (LEn [emp])), Calls Tryz.prog 60 [sL zF p0 zG, .agg #[iv p1.X, iv p1.Y]].toArray w.W fun e W' => ∃ (w' : Bs) (u : (Option Addr × Nat × List (DE zJ))), w.Le w' ∧ e = .returned (sL u.1 r u.2.1) ∧ ((DC u.2.2 r ∧ SlF u.1 r.length u.2.1)) ∧ HF w' W' (LEn [dq u.1 r.length u.2.1 59 27 QO u.2.2])) {w : Bs} (p0 : (List zC)) (zF : Option Addr) (zG : Nat) (zT : Sl w.O w.W zJ zF zG p0) (p1 : zI) (r : (List zC)) (H : zCx N rec p0 p1 = some r) (hE : HF w w.W (LEn [emp])) : Calls Tryz.prog 60 [sL zF p0 zG, .agg #[iv p1.X, iv p1.Y]].toArray w.W fun e W' => ∃ (w' : Bs) (u : (Option Addr × Nat × List (DE zJ))), w.Le w' ∧ e = .returned (sL u.1 r u.2.1) ∧ ((DC u.2.2 r ∧ SlF u.1 r.length u.2.1)) ∧ HF w' W' (LEn [dq u.1 r.length u.2.1 59 27 QO u.2.2]) := by
 unfold zCx at H
 have leB := Bs.Le.refl w
 refine Tr.enter (n := 113) Tryz.func60 rfl rfl rfl hE (Tr.sr (Tr.box 1 (cs := [iv p1.X, iv p1.Y]) (wn rfl) rfl rfl rfl fun zw => (Tr.asg rfl rfl (Tr.JI 2 59 zJ ?_))))
 show Tr _ _ (uf _ 4 (sL none (([] : List zC)) 0)) _ _
 refine Tr.nil (Tr.zA (Tr.sr (Tr.asg rfl rfl (Tr.zmx 3 59 27 QO ?_))))
 show Tr _ _ (uf _ 5 (sL none (([] : List zC)) 0)) (up _ 3 (dq none ([] : List zC).length 0 59 27 QO [])) _
 refine Tr.nil (Tr.zA (Tr.seq (Tr.sr (Tr.mv rfl rfl (Tr.va rfl (fun _ _ a c => QF zF8 (a.ev rfl)) (Tr.mv rfl rfl (Tr.nil (Tr.zA (Tr.block (Tr.loop (σ := (List zC) × Nat × (List zC) × (Option Addr) × Nat × (List (DE zJ))) (fun m w s => m = s.1.length + 1 ∧ s.1 = List.drop s.2.1 p0 ∧ s.2.1 ≤ p0.length ∧ QZ N p1 rec s.1 s.2.1 s.2.2.1 = some r ∧ (DC s.2.2.2.2.2 s.2.2.1 ∧ SlF s.2.2.2.1 s.2.2.1.length s.2.2.2.2.1)) (fun s => [(3, pV zw), (5, sL s.2.2.2.1 s.2.2.1 s.2.2.2.2.1), (11, sL zF p0 zG), (12, iv (p0.length : Int)), (13, iv (s.2.1 : Int))]) (fun s => [(1, bx zw #[iv p1.X, iv p1.Y] 27), (3, dq s.2.2.2.1 s.2.2.1.length s.2.2.2.2.1 59 27 QO s.2.2.2.2.2)]) (p0.length + 1) (p0, 0, ([] : List zC), none, 0, ([] : List (DE zJ))) ⟨rfl, rfl, Nat.zero_le _, H, ⟨DC.nil, Kj⟩⟩ (.cons rfl (.cons rfl (.cons rfl (.cons rfl (.cons rfl .nil))))) (.cons rfl (.cons rfl .nil)) (fun _ _ h => absurd h.1 (by simp)) ?_))))))))))
 intro w zJv m s hs
 obtain ⟨WW, zFk, m459, Am459, cm459, msm459⟩ := s
 obtain ⟨zZ3, zIF, hiL21, H, hm459⟩ := hs
 replace zIF : WW = List.drop zFk p0 := zIF
 replace H : QZ N p1 rec WW zFk m459 = some r := H
 replace zZ3 : m + 1 = WW.length + 1 := zZ3
 replace zT := zT.le zJv
 replace leB := leB.trans zJv
 replace hm459 : DC msm459 m459 ∧ SlF Am459 m459.length cm459 := hm459
 obtain rfl : m = WW.length := by omega
 clear zZ3
 dsimp only
 cases WW with
 | nil =>
  rw [QZ.eq_1] at H
  refine Tr.sr (Tr.va rfl (fun _ _ a c => QD (a.ev rfl) (a.ev rfl)) (Tr.nil (Tr.zA (Tr.seq (Tr.Vy rfl (JA zIF) (Tr.exit (Tr.ze (Tr.ze (Tr.QK (Tr.zA (Tr.sr (Tr.mv rfl rfl (Tr.asg rfl rfl (Tr.nil (Tr.zA (Tr.ret ?_))))))))))))))))
  obtain rfl := oI H
  exact Tr.out (m := [sL Am459 m459 cm459]) [] (zU rfl zV) (fun W hW => ⟨w, (Am459, cm459, msm459), leB, rfl, ⟨hm459.1, hm459.2⟩, hW.pick (ks := [3]) (by decide) (zQ rfl za)⟩)
 | cons zn WW =>
  rw [QZ.eq_2] at H
  refine Tr.sr (Tr.va rfl (fun _ _ a c => QD (a.ev rfl) (a.ev rfl)) (Tr.nil (Tr.zA (Tr.seq (Tr.Vx rfl (JU zIF) (Tr.skip (Tr.zA (Tr.seq (Tr.block (Tr.sr ?_))))))))))
  obtain ⟨zn2, hRu460, zcW, hcu460⟩ := (zT).el (KH zIF)
  obtain ⟨⟨zAG, zAE⟩, ⟨KV, KR⟩⟩ := zn2
  obtain ⟨zGx, zAh⟩ := WI.1 zcW
  replace zGx : Sl w.O w.W zz zAG zAE zn.Points := zGx
  replace zAh : Sl w.O w.W zJ KV KR zn.Steps := zAh
  replace hRu460 : w.R (adB zF) := Or.inl hRu460
  refine Tr.va rfl (fun _ _ a c => zL zIs (a.ev rfl) zT.form (a.ev rfl) (Int.natCast_nonneg _) (QC zIF)) (Tr.va rfl (fun _ _ a c => zX (cs := [iv zn.Kind, sv zn.Name, iv zn.At.X, iv zn.At.Y, sL zAG zn.Points zAE, iv zn.NX, iv zn.NY, sL KV zn.Steps KR]) zLb zET (a.ev rfl) (zO.take (rdR hRu460 hcu460 c) 8) rfl) (Tr.alloc 120 (wn rfl) rfl zSP fun zKP => (Tr.store 120 (cs := [iv zn.Kind, sv zn.Name, iv zn.At.X, iv zn.At.Y, sL zAG zn.Points zAE, iv zn.NX, iv zn.NY, sL KV zn.Steps KR]) [iv zn.Kind, sv zn.Name, iv zn.At.X, iv zn.At.Y, sL zAG zn.Points zAE, iv zn.NX, iv zn.NY, sL KV zn.Steps KR] (wn rfl) rfl rfl rfl rfl zET rfl rfl rfl (Tr.nil (Tr.zA ?_)))))
  have leJ533 := Bs.Le.refl w
  refine Tr.zIu (σ := Int × Int) (fun w s => Wq N p1 m459 (QZ N p1 rec WW (zFk + 1)) zn s.1 s.2 = some r) (fun s => [(3, pV zw), (5, sL Am459 m459 cm459), (7, pV zKP), (11, sL zF p0 zG), (12, iv (p0.length : Int)), (13, iv (zFk : Int))]) (fun s => [(1, bx zw #[iv p1.X, iv p1.Y] 27), (3, dq Am459 m459.length cm459 59 27 QO msm459), (120, bx zKP #[iv zn.Kind, sv zn.Name, iv s.1, iv s.2, sL zAG zn.Points zAE, iv zn.NX, iv zn.NY, sL KV zn.Steps KR] 59)]) ?_ ?_
  ·refine Tr.block (Tr.sr (Tr.va rfl (fun _ _ a c => zB zEG (a.ev rfl)) (Tr.va rfl (fun _ _ a c => zD zm (a.ev rfl) (rdb c (vs := [iv zn.Kind, sv zn.Name, iv zn.At.X, iv zn.At.Y, sL zAG zn.Points zAE, iv zn.NX, iv zn.NY, sL KV zn.Steps KR]) (k := 120) rfl 0) rfl) (Tr.va rfl (fun _ _ a c => Ql (a.ev rfl) (a.ev rfl)) (Tr.asg rfl rfl (Tr.nil (Tr.zA (Tr.cond rfl H (fun H => ?_) (fun H => ?_)))))))))
   ·refine Tr.seq (Tr.sr (Tr.va rfl (fun _ _ a c => zB zJY (a.ev rfl)) (Tr.va rfl (fun _ _ a c => zD zm (a.ev rfl) (rdb c (vs := [iv zn.Kind, sv zn.Name, iv zn.At.X, iv zn.At.Y, sL zAG zn.Points zAE, iv zn.NX, iv zn.NY, sL KV zn.Steps KR]) (k := 120) rfl 6) rfl) (Tr.mv rfl rfl (Tr.nil (Tr.zA (Tr.block (Tr.loop (σ := (List zC) × Int × (Option Addr) × Nat × (List (DE zJ))) (fun m w s => Ke N p1 rec (QZ N p1 rec WW (zFk + 1)) zn m s.1 s.2.1 = some r ∧ (DC s.2.2.2.2 s.1 ∧ SlF s.2.2.1 s.1.length s.2.2.2.1)) (fun s => [(3, pV zw), (5, sL s.2.2.1 s.1 s.2.2.2.1), (7, pV zKP), (11, sL zF p0 zG), (12, iv (p0.length : Int)), (13, iv (zFk : Int)), (22, iv zn.NY), (23, iv s.2.1)]) (fun s => [(1, bx zw #[iv p1.X, iv p1.Y] 27), (3, dq s.2.2.1 s.1.length s.2.2.2.1 59 27 QO s.2.2.2.2), (120, bx zKP #[iv zn.Kind, sv zn.Name, iv zn.At.X, iv zn.At.Y, sL zAG zn.Points zAE, iv zn.NX, iv zn.NY, sL KV zn.Steps KR] 59)]) N (m459, 0, Am459, cm459, msm459) ⟨H, ⟨hm459.1, hm459.2⟩⟩ (.cons rfl (.cons rfl (.cons rfl (.cons rfl (.cons rfl (.cons rfl (.cons rfl (.cons rfl .nil)))))))) (.cons rfl (.cons rfl (.cons rfl .nil))) (fun _ _ h => zAg (h.1)) ?_))))))))
    intro w zQI zZG s hs
    obtain ⟨m612, zJl, Am612, cm612, msm612⟩ := s
    obtain ⟨H, hm612⟩ := hs
    replace H : Ke N p1 rec (QZ N p1 rec WW (zFk + 1)) zn (zZG + 1) m612 zJl = some r := H
    replace zAh := zAh.le zQI
    replace zT := zT.le zQI
    replace zJv := zJv.trans zQI
    replace hm612 : DC msm612 m612 ∧ SlF Am612 m612.length cm612 := hm612
    rw [Ke.eq_2] at H
    dsimp only
    refine Tr.sr (Tr.va rfl (fun _ _ a c => QD (a.ev rfl) (a.ev rfl)) (Tr.nil (Tr.zA (Tr.seq (Tr.cond rfl H (fun H => ?_) (fun H => ?_))))))
    ·refine Tr.skip (Tr.zA (Tr.seq (Tr.block (Tr.sr (Tr.mv rfl rfl (Tr.asg rfl rfl (Tr.nil (Tr.zA (Tr.sr (Tr.va rfl (fun _ _ a c => zB zJZ (a.ev rfl)) (Tr.va rfl (fun _ _ a c => zD zm (a.ev rfl) (rdb c (vs := [iv zn.Kind, sv zn.Name, iv zn.At.X, iv zn.At.Y, sL zAG zn.Points zAE, iv zn.NX, iv zn.NY, sL KV zn.Steps KR]) (k := 120) rfl 5) rfl) (Tr.mv rfl rfl (Tr.nil (Tr.zA (Tr.block (Tr.loop (σ := (List zC) × Int × (Option Addr) × Nat × (List (DE zJ))) (fun m w s => Vt p1 rec zn zJl (Ke N p1 rec (QZ N p1 rec WW (zFk + 1)) zn zZG) m s.1 s.2.1 = some r ∧ (DC s.2.2.2.2 s.1 ∧ SlF s.2.2.1 s.1.length s.2.2.2.1)) (fun s => [(3, pV zw), (5, sL s.2.2.1 s.1 s.2.2.2.1), (7, pV zKP), (8, iv zJl), (11, sL zF p0 zG), (12, iv (p0.length : Int)), (13, iv (zFk : Int)), (22, iv zn.NY), (23, iv zJl), (27, iv zn.NX), (28, iv s.2.1)]) (fun s => [(1, bx zw #[iv p1.X, iv p1.Y] 27), (3, dq s.2.2.1 s.1.length s.2.2.2.1 59 27 QO s.2.2.2.2), (120, bx zKP #[iv zn.Kind, sv zn.Name, iv zn.At.X, iv zn.At.Y, sL zAG zn.Points zAE, iv zn.NX, iv zn.NY, sL KV zn.Steps KR] 59)]) N (m612, 0, Am612, cm612, msm612) ⟨H, ⟨hm612.1, hm612.2⟩⟩ (.cons rfl (.cons rfl (.cons rfl (.cons rfl (.cons rfl (.cons rfl (.cons rfl (.cons rfl (.cons rfl (.cons rfl (.cons rfl .nil))))))))))) (.cons rfl (.cons rfl (.cons rfl .nil))) (fun _ _ h => zAg (h.1)) ?_))))))))))))))))
     intro w zTB zfM s hs
     obtain ⟨m628, zRG, Am628, cm628, msm628⟩ := s
     obtain ⟨H, hm628⟩ := hs
     replace H : Vt p1 rec zn zJl (Ke N p1 rec (QZ N p1 rec WW (zFk + 1)) zn zZG) (zfM + 1) m628 zRG = some r := H
     replace zAh := zAh.le zTB
     replace zQI := zQI.trans zTB
     replace hm628 : DC msm628 m628 ∧ SlF Am628 m628.length cm628 := hm628
     rw [Vt.eq_2] at H
     dsimp only
     refine Tr.sr (Tr.va rfl (fun _ _ a c => QD (a.ev rfl) (a.ev rfl)) (Tr.nil (Tr.zA (Tr.seq (Tr.cond rfl H (fun H => ?_) (fun H => ?_))))))
     ·refine Tr.skip (Tr.zA (Tr.seq (Tr.block (Tr.sr (Tr.mv rfl rfl (Tr.asg rfl rfl (Tr.nil (Tr.zA (Tr.region (Tr.mv rfl rfl (Tr.va rfl (fun _ _ a c => zB zEF (a.ev rfl)) (Tr.va rfl (fun _ _ a c => zD zEg (a.ev rfl) (rdb c (vs := [iv zn.Kind, sv zn.Name, iv zn.At.X, iv zn.At.Y, sL zAG zn.Points zAE, iv zn.NX, iv zn.NY, sL KV zn.Steps KR]) (k := 120) rfl 7) rfl) (Tr.va rfl (fun _ _ a c => zB Qy (a.ev rfl)) (Tr.va rfl (fun _ _ a c => zD zm (a.ev rfl) (rdb c (vs := [iv p1.X, iv p1.Y]) (k := 1) rfl 0) rfl) (Tr.mv rfl rfl (Tr.va rfl (fun _ _ a c => zB zAD (a.ev rfl)) (Tr.va rfl (fun _ _ a c => zB Qy (a.ev rfl)) ?_)))))))))))))))))
      refine Tr.va rfl (fun _ _ a c => zD zm (a.ev rfl) (rdb c (vs := [iv zn.Kind, sv zn.Name, iv zn.At.X, iv zn.At.Y, sL zAG zn.Points zAE, iv zn.NX, iv zn.NY, sL KV zn.Steps KR]) (k := 120) rfl 2) rfl) (Tr.va rfl (fun _ _ a c => zB4 (a.ev rfl) (a.ev rfl)) (Tr.va rfl (fun _ _ a c => zo (a.ev rfl) (a.ev rfl)) (Tr.va rfl (fun _ _ a c => zB Qx (a.ev rfl)) (Tr.va rfl (fun _ _ a c => zD zm (a.ev rfl) (rdb c (vs := [iv p1.X, iv p1.Y]) (k := 1) rfl 1) rfl) (Tr.mv rfl rfl (Tr.va rfl (fun _ _ a c => zB zAD (a.ev rfl)) (Tr.va rfl (fun _ _ a c => zB Qx (a.ev rfl)) ?_)))))))
      refine Tr.va rfl (fun _ _ a c => zD zm (a.ev rfl) (rdb c (vs := [iv zn.Kind, sv zn.Name, iv zn.At.X, iv zn.At.Y, sL zAG zn.Points zAE, iv zn.NX, iv zn.NY, sL KV zn.Steps KR]) (k := 120) rfl 3) rfl) (Tr.va rfl (fun _ _ a c => zB4 (a.ev rfl) (a.ev rfl)) (Tr.va rfl (fun _ _ a c => zo (a.ev rfl) (a.ev rfl)) (Tr.build (vs := [(0, iv (w64 (p1.X + (w64 (zRG * zn.At.X))))), (1, iv (w64 (p1.Y + (w64 (zJl * zn.At.Y)))))]) (cs := [iv (w64 (p1.X + (w64 (zRG * zn.At.X)))), iv (w64 (p1.Y + (w64 (zJl * zn.At.Y))))]) (wn rfl) rfl (zi rfl (zi rfl QW)) (by kernel_rfl) ?_)))
      obtain ⟨zRF, zkE, H⟩ := bnd H
      refine Tr.VC [175] [emp] (U := (Option Addr × Nat × List (DE zJ))) (fun u => (sL u.1 zRF u.2.1)) (fun O W u => (DC u.2.2 zRF ∧ SlF u.1 zRF.length u.2.1)) (fun u => [dq u.1 zRF.length u.2.1 59 27 QO u.2.2]) rfl (zQ rfl za) (fun _ => rfl) (wn rfl) rfl Tryz.call60 (zH rfl (zH rfl zP)) (fun W hW hp hE => hrec zn.Steps KV KR (zAh.zAS (hW.JE hp)) (zI.mk (w64 (p1.X + (w64 (zRG * zn.At.X)))) (w64 (p1.Y + (w64 (zJl * zn.At.Y))))) zRF zkE hE) ?_
      intro w u zjs hu
      obtain ⟨zdf, zdH, Dy630_0⟩ := u
      have gy630_0 := hu
      replace zTB := zTB.trans zjs
      have zaI : (DC Dy630_0 zRF ∧ SlF zdf zRF.length zdH) := gy630_0 --@phi
      dsimp only
      obtain ⟨zfP, zmA, H⟩ := bnd H
      exact Tr.zim 3 175 176 177 rfl rfl rfl rfl rfl rfl rfl rfl (wn rfl) rfl rfl rfl hm628.1 rfl rfl zaI.1 zF8 zET zYJ (by decide) zbH rfl zmA fun znM zm1 ms633 hmms633 ziT => (Tr.asg rfl rfl (Tr.nil (Tr.zh (Tr.zA (Tr.region (Tr.va rfl (fun _ _ a c => zo (a.ev rfl) (a.ev rfl)) (Tr.mv rfl rfl (Tr.nil (Tr.zf zTB (zfP, (w64 (zRG + 1)), znM, zm1, ms633) ⟨H, ⟨hmms633, ziT⟩⟩ (.cons rfl (.cons rfl (.cons rfl (.cons rfl (.cons rfl (.cons rfl (.cons rfl (.cons rfl (.cons rfl (.cons rfl (.cons rfl .nil))))))))))) (.cons rfl (.cons rfl (.cons rfl .nil))))))))))))
     ·exact Tr.exit (Tr.ze (Tr.ze (Tr.QK (Tr.zh (Tr.zA (Tr.region (Tr.va rfl (fun _ _ a c => zo (a.ev rfl) (a.ev rfl)) (Tr.mv rfl rfl (Tr.nil (Tr.zf zQI (m628, (w64 (zJl + 1)), Am628, cm628, msm628) ⟨H, ⟨hm628.1, hm628.2⟩⟩ (.cons rfl (.cons rfl (.cons rfl (.cons rfl (.cons rfl (.cons rfl (.cons rfl (.cons rfl .nil)))))))) (.cons rfl (.cons rfl (.cons rfl .nil)))))))))))))
    ·exact Tr.exit (Tr.ze (Tr.ze (Tr.QK (Tr.zA (Tr.exit (Tr.zay rfl (Tr.ze (Tr.QK (Tr.zA (Tr.region (Tr.va rfl (fun _ _ a c => zo (a.ev rfl) (a.ev rfl)) (Tr.mv rfl rfl (Tr.nil (Tr.zf zJv (WW, (zFk + 1), m612, Am612, cm612, msm612) ⟨rfl, Qe zIF, QC zIF, H, ⟨hm612.1, hm612.2⟩⟩ (.cons rfl (.cons rfl (.cons rfl (.cons rfl (.cons (congrArg (fun z => some (Value.int .i64 z)) (Qd zIF zT.form)) .nil))))) (.cons rfl (.cons rfl .nil))))))))))))))))
   ·refine Tr.sr (Tr.va rfl (fun _ _ a c => zB zEG (a.ev rfl)) (Tr.va rfl (fun _ _ a c => zD zm (a.ev rfl) (rdb c (vs := [iv zn.Kind, sv zn.Name, iv zn.At.X, iv zn.At.Y, sL zAG zn.Points zAE, iv zn.NX, iv zn.NY, sL KV zn.Steps KR]) (k := 120) rfl 0) rfl) ?_))
    obtain ⟨zUV, zkD, H⟩ := bnd H
    refine Tr.Qa (r := (.agg #[bV zUV.name, bV zUV.at_, bV zUV.points, bV zUV.repeat_])) (wn rfl) rfl Tryz.call17 (zH rfl zP) (fun W hW => zBk zn.Kind zUV zkD (HF.start _)) (Tr.va rfl (fun _ _ a c => zKD zRv zJr (a.ev rfl) rfl) (Tr.asg rfl rfl (Tr.nil (Tr.zA (Tr.cond rfl H (fun H => ?_) (fun H => ?_))))))
    ·refine Tr.region (Tr.va rfl (fun _ _ a c => zB zAD (a.ev rfl)) (Tr.va rfl (fun _ _ a c => zB Qy (a.ev rfl)) (Tr.va rfl (fun _ _ a c => zD zm (a.ev rfl) (rdb c (vs := [iv zn.Kind, sv zn.Name, iv zn.At.X, iv zn.At.Y, sL zAG zn.Points zAE, iv zn.NX, iv zn.NY, sL KV zn.Steps KR]) (k := 120) rfl 2) rfl) (Tr.va rfl (fun _ _ a c => zB Qy (a.ev rfl)) (Tr.va rfl (fun _ _ a c => zD zm (a.ev rfl) (rdb c (vs := [iv p1.X, iv p1.Y]) (k := 1) rfl 0) rfl) (Tr.va rfl (fun _ _ a c => zo (a.ev rfl) (a.ev rfl)) (Tr.va rfl (fun _ _ a c => zB zAD (a.ev rfl)) ?_)))))))
     refine Tr.va rfl (fun _ _ a c => zB Qx (a.ev rfl)) (Tr.va rfl (fun _ _ a c => zD zm (a.ev rfl) (rdb c (vs := [iv zn.Kind, sv zn.Name, iv zn.At.X, iv zn.At.Y, sL zAG zn.Points zAE, iv zn.NX, iv zn.NY, sL KV zn.Steps KR]) (k := 120) rfl 3) rfl) (Tr.va rfl (fun _ _ a c => zB Qx (a.ev rfl)) (Tr.va rfl (fun _ _ a c => zD zm (a.ev rfl) (rdb c (vs := [iv p1.X, iv p1.Y]) (k := 1) rfl 1) rfl) (Tr.va rfl (fun _ _ a c => zo (a.ev rfl) (a.ev rfl)) (Tr.build (vs := [(0, iv (w64 (zn.At.X + p1.X))), (1, iv (w64 (zn.At.Y + p1.Y)))]) (cs := [iv (w64 (zn.At.X + p1.X)), iv (w64 (zn.At.Y + p1.Y))]) (wn rfl) rfl (zi rfl (zi rfl QW)) (by kernel_rfl) (Tr.va rfl (fun _ _ a c => zB zAD (a.ev rfl)) ?_))))))
     exact Tr.store 120 (cs := [iv (w64 (zn.At.X + p1.X)), iv (w64 (zn.At.Y + p1.Y))]) [iv zn.Kind, sv zn.Name, iv (w64 (zn.At.X + p1.X)), iv (w64 (zn.At.Y + p1.Y)), sL zAG zn.Points zAE, iv zn.NX, iv zn.NY, sL KV zn.Steps KR] (wn rfl) rfl rfl rfl rfl JG rfl rfl rfl (Tr.nil (Tr.zh (Tr.zf leJ533 ((w64 (zn.At.X + p1.X)), (w64 (zn.At.Y + p1.Y))) H (.cons rfl (.cons rfl (.cons rfl (.cons rfl (.cons rfl (.cons rfl .nil)))))) (.cons rfl (.cons rfl (.cons rfl .nil))))))
    ·exact Tr.skip (Tr.zh (Tr.zf leJ533 (zn.At.X, zn.At.Y) H (.cons rfl (.cons rfl (.cons rfl (.cons rfl (.cons rfl (.cons rfl .nil)))))) (.cons rfl (.cons rfl (.cons rfl .nil)))))
  ·intro w s hlJ534 hs
   obtain ⟨zF0, zFz⟩ := s
   have H := hs
   replace H : Wq N p1 m459 (QZ N p1 rec WW (zFk + 1)) zn zF0 zFz = some r := H
   replace zGx := zGx.le hlJ534
   replace zAh := zAh.le hlJ534
   replace zT := zT.le hlJ534
   replace zJv := zJv.trans hlJ534
   unfold Wq at H
   dsimp only
   refine Tr.sr (Tr.va rfl (fun _ _ a c => zB zAY (a.ev rfl)) (Tr.va rfl (fun _ _ a c => zD zEf (a.ev rfl) (rdb c (vs := [iv zn.Kind, sv zn.Name, iv zF0, iv zFz, sL zAG zn.Points zAE, iv zn.NX, iv zn.NY, sL KV zn.Steps KR]) (k := 120) rfl 4) rfl) ?_))
   obtain ⟨zFv, zkF, H⟩ := bnd H
   refine Tr.VB [148] [emp] (U := (Option Addr × Nat)) (fun u => (sL u.1 zFv u.2)) (fun u => SlF u.1 zFv.length u.2) (fun u => [ow u.1 u.2 27 zz zFv]) rfl (zQ rfl za) (fun _ => rfl) (wn rfl) rfl Tryz.call44 (zH rfl zP) (fun W hW hp hE => zDN zn.Points zAG zAE (zGx.rl.ext (hW.JE hp)) zFv zkF hE) ?_
   intro u hu
   obtain ⟨zLl, zLM⟩ := u
   have gy535_0 := hu
   have zaJ : SlF zLl zFv.length zLM := gy535_0 --@phi
   dsimp only
   refine Tr.va rfl (fun _ _ a c => zB zAY (a.ev rfl)) (Tr.store 120 (cs := [sL zLl zFv zLM]) [iv zn.Kind, sv zn.Name, iv zF0, iv zFz, sL zLl zFv zLM, iv zn.NX, iv zn.NY, sL KV zn.Steps KR] (wn rfl) rfl rfl rfl rfl zdy rfl rfl rfl (Tr.nil (Tr.zA (Tr.seq (Tr.sr (Tr.va rfl (fun _ _ a c => zB zAY (a.ev rfl)) (Tr.va rfl (fun _ _ a c => zD zEf (a.ev rfl) (rdb c (vs := [iv zn.Kind, sv zn.Name, iv zF0, iv zFz, sL zLl zFv zLM, iv zn.NX, iv zn.NY, sL KV zn.Steps KR]) (k := 120) rfl 4) rfl) (Tr.va rfl (fun _ _ a c => QF zEy (a.ev rfl)) (Tr.mv rfl rfl (Tr.nil (Tr.zA (Tr.block (Tr.loop (σ := (List zI) × Int × (Option Addr) × Nat) (fun m w s => Vu p1 m459 (QZ N p1 rec WW (zFk + 1)) zn zF0 zFz zFv m s.1 s.2.1 = some r ∧ SlF s.2.2.1 s.1.length s.2.2.2) (fun s => [(3, pV zw), (5, sL Am459 m459 cm459), (7, pV zKP), (11, sL zF p0 zG), (12, iv (p0.length : Int)), (13, iv (zFk : Int)), (80, iv (zFv.length : Int)), (81, iv s.2.1)]) (fun s => [(1, bx zw #[iv p1.X, iv p1.Y] 27), (3, dq Am459 m459.length cm459 59 27 QO msm459), (120, bx zKP #[iv zn.Kind, sv zn.Name, iv zF0, iv zFz, sL s.2.2.1 s.1 s.2.2.2, iv zn.NX, iv zn.NY, sL KV zn.Steps KR] 59), (148, ow s.2.2.1 s.2.2.2 27 zz s.1)]) N (zFv, 0, zLl, zLM) ⟨H, zaJ⟩ (.cons rfl (.cons rfl (.cons rfl (.cons rfl (.cons rfl (.cons rfl (.cons rfl (.cons rfl .nil)))))))) (.cons rfl (.cons rfl (.cons rfl (.cons rfl .nil)))) (fun _ _ h => zAg (h.1)) ?_)))))))))))))
   intro w zV9 zfN s hs
   obtain ⟨zKH, zE4, zDr, zDh⟩ := s
   obtain ⟨H, zQP⟩ := hs
   replace H : Vu p1 m459 (QZ N p1 rec WW (zFk + 1)) zn zF0 zFz zFv (zfN + 1) zKH zE4 = some r := H
   replace zAh := zAh.le zV9
   replace zT := zT.le zV9
   replace zJv := zJv.trans zV9
   replace zQP : SlF zDr zKH.length zDh := zQP
   rw [Vu.eq_2] at H
   dsimp only
   refine Tr.sr (Tr.va rfl (fun _ _ a c => QD (a.ev rfl) (a.ev rfl)) (Tr.nil (Tr.zA (Tr.seq (Tr.cond rfl H (fun H => ?_) (fun H => ?_))))))
   ·refine Tr.skip (Tr.zA (Tr.seq (Tr.block (Tr.sr (Tr.mv rfl rfl (Tr.asg rfl rfl (Tr.nil (Tr.zA (Tr.seq (Tr.Vm 8 (by kernel_rfl) (by kernel_rfl) (Tq.va rfl (fun _ _ a c => zB zAY (a.ev rfl)) (Tq.va rfl (fun _ _ a c => zD zEf (a.ev rfl) (rdb c (vs := [iv zn.Kind, sv zn.Name, iv zF0, iv zFz, sL zDr zKH zDh, iv zn.NX, iv zn.NY, sL KV zn.Steps KR]) (k := 120) rfl 4) rfl) (Tq.mv rfl rfl ?_)))))))))))))
    obtain ⟨zSU, zk7, H⟩ := bnd H
    obtain ⟨zfv, zfu, zft⟩ := zq zk7
    refine Tq.va rfl (fun _ _ a c => zL zEc (a.ev rfl) zQP (a.ev rfl) zfv zfu) (Tq.va rfl (fun _ _ a c => zB Qy (a.ev rfl)) (Tq.va rfl (fun _ _ a c => zD zm (a.ev rfl) (zO.drop (rdo zAL (k := 148) c rfl zft) 0) rfl) (Tq.va rfl (fun _ _ a c => zB Qy (a.ev rfl)) (Tq.va rfl (fun _ _ a c => zD zm (a.ev rfl) (rdb c (vs := [iv p1.X, iv p1.Y]) (k := 1) rfl 0) rfl) (Tq.nil (Tr.va rfl (fun _ _ a c => zo (a.ev rfl) (a.ev rfl)) ?_))))))
    obtain ⟨zer, zk6, H⟩ := bnd H
    obtain ⟨zfs, zfr, zfq⟩ := zq zk6
    refine Tr.va rfl (fun _ _ a c => zL zEc (a.ev rfl) zQP (a.ev rfl) zfs zfr) (Tr.va rfl (fun _ _ a c => zB Qy (a.ev rfl)) ?_)
    obtain ⟨zPl, zeI, H⟩ := bnd H
    have zVN := zCG zeI
    refine Tr.zCz 148 (t := zz) (l := zKH) (i := zE4) (fo := 0) (cs := [iv (w64 (zSU.X + p1.X))]) (zI.mk (w64 (zSU.X + p1.X)) zer.Y) (wn rfl) rfl rfl rfl rfl rfl zfq zE8 rfl (fun u _ => ⟨u, trivial, rfl⟩) rfl zeI ?_
    have zVO : SlF zDr zPl.length zDh := by rw [zVN]; exact zQP
    refine Tr.sel (lf := [(3, pV zw), (5, sL Am459 m459 cm459), (7, pV zKP), (10, iv zE4), (11, sL zF p0 zG), (12, iv (p0.length : Int)), (13, iv (zFk : Int)), (80, iv (zFv.length : Int)), (81, iv zE4), (82, bV (decide (zE4 < (zFv.length : Int)))), (83, iv zE4), (84, .pointer (some ⟨zKP, 4, none⟩)), (85, sL zDr zPl zDh), (86, iv zE4), (89, iv zSU.X), (90, pV zw), (91, iv p1.X), (92, iv (w64 (zSU.X + p1.X)))]) (le := [(1, bx zw #[iv p1.X, iv p1.Y] 27), (3, dq Am459 m459.length cm459 59 27 QO msm459), (120, bx zKP #[iv zn.Kind, sv zn.Name, iv zF0, iv zFz, sL zDr zPl zDh, iv zn.NX, iv zn.NY, sL KV zn.Steps KR] 59), (148, ow zDr zDh 27 zz zPl)]) (.cons rfl (.cons rfl (.cons rfl (.cons rfl (.cons rfl (.cons rfl (.cons rfl (.cons rfl (.cons rfl (.cons rfl (.cons rfl (.cons rfl (.cons (Km rfl (by unfold sL; rw [zVN])) (.cons rfl (.cons rfl (.cons rfl (.cons rfl (.cons rfl .nil)))))))))))))))))) (.cons rfl (.cons rfl (.cons (ebx rfl (by unfold sL; rw [zVN])) (.cons rfl .nil)))) (Tr.nil (Tr.zA (Tr.Vm 8 (by kernel_rfl) (by kernel_rfl) (Tq.va rfl (fun _ _ a c => zB zAY (a.ev rfl)) (Tq.va rfl (fun _ _ a c => zD zEf (a.ev rfl) (rdb c (vs := [iv zn.Kind, sv zn.Name, iv zF0, iv zFz, sL zDr zPl zDh, iv zn.NX, iv zn.NY, sL KV zn.Steps KR]) (k := 120) rfl 4) rfl) (Tq.mv rfl rfl ?_))))))
    obtain ⟨zXe, zk5, H⟩ := bnd H
    obtain ⟨zfp, zfo, zfn⟩ := zq zk5
    refine Tq.va rfl (fun _ _ a c => zL zEc (a.ev rfl) zVO (a.ev rfl) zfp zfo) (Tq.va rfl (fun _ _ a c => zB Qx (a.ev rfl)) (Tq.va rfl (fun _ _ a c => zD zm (a.ev rfl) (zO.drop (rdo zAL (k := 148) c rfl zfn) 1) rfl) (Tq.va rfl (fun _ _ a c => zB Qx (a.ev rfl)) (Tq.va rfl (fun _ _ a c => zD zm (a.ev rfl) (rdb c (vs := [iv p1.X, iv p1.Y]) (k := 1) rfl 1) rfl) (Tq.nil (Tr.va rfl (fun _ _ a c => zo (a.ev rfl) (a.ev rfl)) ?_))))))
    obtain ⟨zeq, zk4, H⟩ := bnd H
    obtain ⟨zfm, zfl, zfk⟩ := zq zk4
    refine Tr.va rfl (fun _ _ a c => zL zEc (a.ev rfl) zVO (a.ev rfl) zfm zfl) (Tr.va rfl (fun _ _ a c => zB Qx (a.ev rfl)) ?_)
    obtain ⟨zTH, zeH, H⟩ := bnd H
    have zRk := zCG zeH
    refine Tr.zCz 148 (t := zz) (l := zPl) (i := zE4) (fo := 1) (cs := [iv (w64 (zXe.Y + p1.Y))]) (zI.mk zeq.X (w64 (zXe.Y + p1.Y))) (wn rfl) rfl rfl rfl rfl rfl zfk zE8 rfl (fun u _ => ⟨u, trivial, rfl⟩) rfl zeH ?_
    have ziV : SlF zDr zTH.length zDh := by rw [zRk]; exact zVO
    exact Tr.sel (lf := [(3, pV zw), (5, sL Am459 m459 cm459), (7, pV zKP), (10, iv zE4), (11, sL zF p0 zG), (12, iv (p0.length : Int)), (13, iv (zFk : Int)), (80, iv (zFv.length : Int)), (81, iv zE4), (82, bV (decide (zE4 < (zFv.length : Int)))), (83, iv zE4), (84, .pointer (some ⟨zKP, 4, none⟩)), (85, sL zDr zTH zDh), (86, iv zE4), (89, iv zSU.X), (90, pV zw), (91, iv p1.X), (92, iv (w64 (zSU.X + p1.X))), (95, .pointer (some ⟨zKP, 4, none⟩)), (96, sL zDr zTH zDh), (97, iv zE4), (100, iv zXe.Y), (101, .pointer (some ⟨zw, 1, none⟩)), (102, iv p1.Y), (103, iv (w64 (zXe.Y + p1.Y)))]) (le := [(1, bx zw #[iv p1.X, iv p1.Y] 27), (3, dq Am459 m459.length cm459 59 27 QO msm459), (120, bx zKP #[iv zn.Kind, sv zn.Name, iv zF0, iv zFz, sL zDr zTH zDh, iv zn.NX, iv zn.NY, sL KV zn.Steps KR] 59), (148, ow zDr zDh 27 zz zTH)]) (.cons rfl (.cons rfl (.cons rfl (.cons rfl (.cons rfl (.cons rfl (.cons rfl (.cons rfl (.cons rfl (.cons rfl (.cons rfl (.cons rfl (.cons (Km rfl (by unfold sL; rw [zRk])) (.cons rfl (.cons rfl (.cons rfl (.cons rfl (.cons rfl (.cons rfl (.cons (Km rfl (by unfold sL; rw [zRk])) (.cons rfl (.cons rfl (.cons rfl (.cons rfl (.cons rfl .nil))))))))))))))))))))))))) (.cons rfl (.cons rfl (.cons (ebx rfl (by unfold sL; rw [zRk])) (.cons rfl .nil)))) (Tr.nil (Tr.zh (Tr.zA (Tr.region (Tr.va rfl (fun _ _ a c => zo (a.ev rfl) (a.ev rfl)) (Tr.mv rfl rfl (Tr.nil (Tr.zf zV9 (zTH, (w64 (zE4 + 1)), zDr, zDh) ⟨H, ziV⟩ (.cons rfl (.cons rfl (.cons rfl (.cons rfl (.cons rfl (.cons rfl (.cons rfl (.cons rfl .nil)))))))) (.cons rfl (.cons rfl (.cons rfl (.cons rfl .nil))))))))))))
   ·refine Tr.exit (Tr.ze (Tr.ze (Tr.QK (Tr.zA (Tr.region (Tr.mv rfl rfl (Tr.va rfl (fun _ _ a c => zX (cs := [iv zn.Kind, sv zn.Name, iv zF0, iv zFz, sL zDr zKH zDh, iv zn.NX, iv zn.NY, sL KV zn.Steps KR]) zLb zET (a.ev rfl) (zO.take (rdb c (vs := [iv zn.Kind, sv zn.Name, iv zF0, iv zFz, sL zDr zKH zDh, iv zn.NX, iv zn.NY, sL KV zn.Steps KR]) (k := 120) rfl 0) 8) rfl) (Tr.buildSlice 149 (e := 59) (vs := [(0, .agg #[iv zn.Kind, sv zn.Name, iv zF0, iv zFz, sL zDr zKH zDh, iv zn.NX, iv zn.NY, sL KV zn.Steps KR])]) (cs := [iv zn.Kind, sv zn.Name, iv zF0, iv zFz, sL zDr zKH zDh, iv zn.NX, iv zn.NY, sL KV zn.Steps KR]) (wn rfl) rfl (zi rfl QW) (by kernel_rfl) fun zoy => ?_))))))))
    obtain ⟨zfQ, zmB, H⟩ := bnd H
    exact Tr.zil (L := QO) 3 148 150 149 (u := ((zDr, zDh), (KV, KR))) (x := (zC.mk zn.Kind zn.Name (zI.mk zF0 zFz) zKH zn.NX zn.NY zn.Steps)) (cs := [iv zn.Kind, sv zn.Name, iv zF0, iv zFz, sL zDr zKH zDh, iv zn.NX, iv zn.NY, sL KV zn.Steps KR]) rfl rfl rfl rfl rfl rfl (wn rfl) rfl rfl rfl hm459.1 rfl rfl rfl zAh rfl rfl rfl zQP zF8 zET zYJ (by decide) zbH rfl zmB fun znN zm2 ms565 hmms565 ziU => (Tr.asg rfl rfl (Tr.nil (Tr.zh (Tr.zA (Tr.region (Tr.va rfl (fun _ _ a c => zo (a.ev rfl) (a.ev rfl)) (Tr.mv rfl rfl (Tr.nil (Tr.zf zJv (WW, (zFk + 1), zfQ, znN, zm2, ms565) ⟨rfl, Qe zIF, QC zIF, H, ⟨hmms565, ziU⟩⟩ (.cons rfl (.cons rfl (.cons rfl (.cons rfl (.cons (congrArg (fun z => some (Value.int .i64 z)) (Qd zIF zT.form)) .nil))))) (.cons rfl (.cons rfl .nil)))))))))))
theorem zI8 : ∀ (N : Nat) {w : Bs} (p0 : (List zC)) (zF : Option Addr) (zG : Nat) (zT : Sl w.O w.W zJ zF zG p0) (p1 : zI) (r : (List zC)) (H : zDP N p0 p1 = some r) (hE : HF w w.W (LEn [emp])), Calls Tryz.prog 60 [sL zF p0 zG, .agg #[iv p1.X, iv p1.Y]].toArray w.W fun e W' => ∃ (w' : Bs) (u : (Option Addr × Nat × List (DE zJ))), w.Le w' ∧ e = .returned (sL u.1 r u.2.1) ∧ ((DC u.2.2 r ∧ SlF u.1 r.length u.2.1)) ∧ HF w' W' (LEn [dq u.1 r.length u.2.1 59 27 QO u.2.2])
 | 0 => by intros; rename_i H _; cases H
 | N + 1 => zMf N (zDP N) (zI8 N)

theorem zKZ (N : Nat) {w : Bs} (p0 : zt) (zF : Option Addr) (zG : Nat) (zT : Sl w.O w.W zW zF zG p0.Tools) (zN : Option Addr) (zM : Nat) (QV : Sl w.O w.W zJ zN zM p0.Steps) (r : zt) (H : zC6 N p0 = some r) (hE : HF w w.W (LEn [emp, emp])) : Calls Tryz.prog 27 [.agg #[iv p0.Unit, sL zF p0.Tools zG, sL zN p0.Steps zM]].toArray w.W fun e W' => ∃ (w' : Bs) (u : (Option Addr × Nat) × (Option Addr × Nat × List (DE zJ))), w.Le w' ∧ e = .returned (.agg #[iv r.Unit, sL u.1.1 r.Tools u.1.2, sL u.2.1 r.Steps u.2.2.1]) ∧ (SlF u.1.1 r.Tools.length u.1.2 ∧ (DC u.2.2.2 r.Steps ∧ SlF u.2.1 r.Steps.length u.2.2.1)) ∧ HF w' W' (LEn [ow u.1.1 u.1.2 91 zW r.Tools, dq u.2.1 r.Steps.length u.2.2.1 59 27 QO u.2.2.2]) := by
 unfold zC6 at H
 have leB := Bs.Le.refl w
 refine Tr.enter (n := 13) Tryz.func27 rfl rfl rfl hE (Tr.sr (Tr.box 1 (cs := [iv p0.Unit, sL zF p0.Tools zG, sL zN p0.Steps zM]) (wn rfl) rfl rfl rfl fun zw => (Tr.alloc 2 (wn rfl) rfl zNz fun Qw => (Tr.nil (Tr.zA (Tr.seq (Tr.zJy 9 [] [] (by kernel_rfl) (by kernel_rfl) fun zoq zl9 znd => (Dr.quiet 0 [(3, pV zw)] (by kernel_rfl) rfl rfl (by kernel_rfl) ?_ rfl rfl ?_))))))))
 ·exact Tq.va rfl (fun _ _ a c => zB Vg (a.ev rfl)) (Tq.fin (.cons rfl .nil))
 refine Dr.quiet 1 [(4, iv p0.Unit)] (by kernel_rfl) rfl rfl (by kernel_rfl) ?_ rfl rfl ?_
 ·exact Tq.va rfl (fun _ _ a c => zD zm (a.ev rfl) (rdb c (vs := [iv p0.Unit, sL zF p0.Tools zG, sL zN p0.Steps zM]) (k := 1) rfl 0) rfl) (Tq.fin (.cons rfl .nil))
 refine Dr.quiet 2 [(5, .pointer (some ⟨zw, 1, none⟩))] (by kernel_rfl) rfl rfl (by kernel_rfl) ?_ rfl rfl ?_
 ·exact Tq.va rfl (fun _ _ a c => zB zEH (a.ev rfl)) (Tq.fin (.cons rfl .nil))
 refine Dr.quiet 3 [(6, sL zF p0.Tools zG)] (by kernel_rfl) rfl rfl (by kernel_rfl) ?_ rfl rfl ?_
 ·exact Tq.va rfl (fun _ _ a c => zD zLc (a.ev rfl) (rdb c (vs := [iv p0.Unit, sL zF p0.Tools zG, sL zN p0.Steps zM]) (k := 1) rfl 1) rfl) (Tq.fin (.cons rfl .nil))
 refine Dr.quiet 5 [(8, .pointer (some ⟨zw, 2, none⟩))] (by kernel_rfl) rfl rfl (by kernel_rfl) ?_ rfl rfl ?_
 ·exact Tq.va rfl (fun _ _ a c => zB zGH (a.ev rfl)) (Tq.fin (.cons rfl .nil))
 refine Dr.quiet 6 [(9, sL zN p0.Steps zM)] (by kernel_rfl) rfl rfl (by kernel_rfl) ?_ rfl rfl ?_
 ·exact Tq.va rfl (fun _ _ a c => zD zEg (a.ev rfl) (rdb c (vs := [iv p0.Unit, sL zF p0.Tools zG, sL zN p0.Steps zM]) (k := 1) rfl 2) rfl) (Tq.fin (.cons rfl .nil))
 refine Dr.quiet 7 [(10, .agg #[iv 0, iv 0])] (by kernel_rfl) rfl rfl (by kernel_rfl) ?_ rfl rfl ?_
 ·exact Tq.build (vs := []) (cs := [iv 0, iv 0]) (wn rfl) rfl QW (by kernel_rfl) (Tq.fin (.cons rfl .nil))
 obtain ⟨zk, zCr, H⟩ := bnd H
 refine Dr.one 4 (by kernel_rfl) (St.VC 4 [3] [emp] (U := (Option Addr × Nat)) (fun u => (sL u.1 zk u.2)) (fun O W u => SlF u.1 zk.length u.2) (fun u => [ow u.1 u.2 91 zW zk]) rfl (zQ rfl za) (fun _ => rfl) (zGE rfl) rfl (wn rfl) rfl Tryz.call19 (zH rfl (zH rfl zP)) (fun W hW hp hE => zDD N p0.Tools zF zG (zT.zAS (hW.JE hp)) (fun z0 => zAK z0) 20 [] Tryz.call20 (fun w' he z0 y hy => zHF z0 y hy (HF.start _)) zk zCr hE) ?_)
 intro w u zQK hu zob
 obtain ⟨JN, JL⟩ := u
 have gy103_0 := hu
 replace QV := QV.le zQK
 replace leB := leB.trans zQK
 have zG0 : SlF JN zk.length JL := gy103_0
 dsimp only
 obtain ⟨VD, zOk, H⟩ := bnd H
 refine Dr.one 8 (by kernel_rfl) (St.VC 8 [4] [emp] (U := (Option Addr × Nat × List (DE zJ))) (fun u => (sL u.1 VD u.2.1)) (fun O W u => (DC u.2.2 VD ∧ SlF u.1 VD.length u.2.1)) (fun u => [dq u.1 VD.length u.2.1 59 27 QO u.2.2]) rfl (zQ rfl za) (fun _ => rfl) (zGE rfl) rfl (wn rfl) rfl Tryz.call60 (zH rfl (zH rfl zP)) (fun W hW hp hE => zI8 N p0.Steps zN zM (QV.zAS (hW.JE hp)) (zI.mk 0 0) VD zOk hE) ?_)
 intro w u zj6 hu zoZ
 obtain ⟨zH5, zHk, Dy105_0⟩ := u
 have gy105_0 := hu
 replace leB := leB.trans zj6
 have zTm : (DC Dy105_0 VD ∧ SlF zH5 VD.length zHk) := gy105_0
 dsimp only
 refine Dr.tail (by kernel_rfl) (Tr.build (vs := [(0, iv p0.Unit), (1, sL JN zk JL), (2, sL zH5 VD zHk)]) (cs := [iv p0.Unit, sL JN zk JL, sL zH5 VD zHk]) (wn rfl) rfl (zi rfl (zi rfl (zi rfl QW))) (by kernel_rfl) (Tr.store 2 (cs := [iv p0.Unit, sL JN zk JL, sL zH5 VD zHk]) [iv p0.Unit, sL JN zk JL, sL zH5 VD zHk] (wn rfl) rfl rfl rfl rfl Kn rfl rfl rfl (Tr.nil (Tr.zA (Tr.ret ?_)))))
 obtain rfl := oI H
 exact Tr.out (m := [.agg #[iv p0.Unit, sL JN zk JL, sL zH5 VD zHk]]) [2] (VI rfl rfl Wt Kn zV) (fun W hW => ⟨w, ((JN, JL), (zH5, zHk, Dy105_0)), leB, rfl, ⟨zG0, ⟨zTm.1, zTm.2⟩⟩, hW.pick (ks := [3, 4]) (by decide) (zQ rfl (zQ rfl za))⟩)

theorem zH0 (N : Nat) {w : Bs} (p0 : zK) (q0 : Qf) (bq0 : Nat) (hb0 : w.R bq0) (hc0 : zO w.W bq0 0 [bV q0.Flip, iv q0.Quarters, iv q0.At.X, iv q0.At.Y]) (r : zK) (H : Vr N p0 q0 = some r) (hE : HF w w.W E0) : Calls Tryz.prog 28 [.agg #[iv p0.X0, iv p0.Y0, iv p0.X1, iv p0.Y1], pV bq0].toArray w.W fun e W' => e = .returned (.agg #[iv r.X0, iv r.Y0, iv r.X1, iv r.Y1]) ∧ HF w W' E0 := by
 unfold Vr at H
 have leB := Bs.Le.refl w
 refine Tr.enter (n := 7) Tryz.func28 rfl rfl rfl hE (Tr.sr (Tr.box 1 (cs := [iv p0.X0, iv p0.Y0, iv p0.X1, iv p0.Y1]) (wn rfl) rfl rfl rfl fun zw => (Tr.alloc 2 (wn rfl) rfl zDE fun Qw => (Tr.nil (Tr.zA (Tr.sr (Tr.va rfl (fun _ _ a c => zX (cs := [iv p0.X0, iv p0.Y0, iv p0.X1, iv p0.Y1]) zAu KM (a.ev rfl) (zO.take (rdb c (vs := [iv p0.X0, iv p0.Y0, iv p0.X1, iv p0.Y1]) (k := 1) rfl 0) 4) rfl) (Tr.va rfl (fun _ _ a c => zX (cs := [bV q0.Flip, iv q0.Quarters, iv q0.At.X, iv q0.At.Y]) zIz zIB (a.ev rfl) (zO.take (rdR hb0 hc0 c) 4) rfl) ?_))))))))
 obtain ⟨y102, hy102, H⟩ := bnd H
 refine Tr.Qa (r := (.agg #[iv y102.X0, iv y102.Y0, iv y102.X1, iv y102.Y1])) (wn rfl) rfl Tryz.call29 (zH rfl (zH rfl zP)) (fun W hW => zE3 N p0 q0 y102 hy102 (HF.start _)) (Tr.store 2 (cs := [iv y102.X0, iv y102.Y0, iv y102.X1, iv y102.Y1]) [iv y102.X0, iv y102.Y0, iv y102.X1, iv y102.Y1] (wn rfl) rfl rfl rfl rfl KM rfl rfl rfl (Tr.nil (Tr.zA (Tr.ret ?_))))
 obtain rfl := oI H
 exact Tr.out (m := [.agg #[iv y102.X0, iv y102.Y0, iv y102.X1, iv y102.Y1]]) [2] (VI rfl rfl zAu KM zV) (fun W hW => ⟨rfl, hW.low leB⟩)

theorem zI9 (N : Nat) {w : Bs} (p0 : zt) (zF : Option Addr) (zG : Nat) (zT : Sl w.O w.W zW zF zG p0.Tools) (zN : Option Addr) (zM : Nat) (QV : Sl w.O w.W zJ zN zM p0.Steps) (p1 : Qf) (r : (zt × Int)) (H : zA1 N p0 p1 = some r) (hE : HF w w.W (LEn [])) : Calls Tryz.prog 9 [.agg #[iv p0.Unit, sL zF p0.Tools zG, sL zN p0.Steps zM], .agg #[bV p1.Flip, iv p1.Quarters, iv p1.At.X, iv p1.At.Y]].toArray w.W fun e W' => ∃ (w' : Bs) (u : (Option Addr × Nat) × (Option Addr × Nat)), w.Le w' ∧ e = .returned (.tuple #[.agg #[iv r.1.Unit, sL u.1.1 r.1.Tools u.1.2, sL u.2.1 r.1.Steps u.2.2], iv r.2]) ∧ (Sl w'.O w'.W zW u.1.1 u.1.2 r.1.Tools ∧ Sl w'.O w'.W zJ u.2.1 u.2.2 r.1.Steps) ∧ HF w' W' (LEn []) := by
 unfold zA1 at H
 have leB := Bs.Le.refl w
 refine Tr.enter (n := 119) Tryz.func9 rfl rfl rfl hE (Tr.sr (Tr.box 1 (cs := [iv p0.Unit, sL zF p0.Tools zG, sL zN p0.Steps zM]) (wn rfl) rfl rfl rfl fun zw => (Tr.box 2 (cs := [bV p1.Flip, iv p1.Quarters, iv p1.At.X, iv p1.At.Y]) (wn rfl) rfl rfl rfl fun Qw => (Tr.alloc 3 (wn rfl) rfl zNz fun KP => (Tr.asg rfl rfl (Tr.nil (Tr.zA (Tr.seq (Tr.sr (Tr.va rfl (fun _ _ a c => zX (cs := [iv p0.Unit, sL zF p0.Tools zG, sL zN p0.Steps zM]) Wt Kn (a.ev rfl) (zO.take (rdb c (vs := [iv p0.Unit, sL zF p0.Tools zG, sL zN p0.Steps zM]) (k := 1) rfl 0) 3) rfl) ?_))))))))))
 obtain ⟨zk, zCr, H⟩ := bnd H
 refine Tr.Qa (r := (iv zk)) (wn rfl) rfl Tryz.call13 (zH rfl zP) (fun W hW => Wz N p0 zF zG (zT.rl.ext hW.Qr) zN zM (QV.rl.ext hW.Qr) zk zCr (HF.start _)) (Tr.asg rfl rfl (Tr.nil (Tr.zA (Tr.sr (Tr.mv rfl rfl (Tr.va rfl (fun _ _ a c => Jm (a.ev rfl) (a.ev rfl)) (Tr.nil (Tr.zA (Tr.cond rfl H (fun H => ?_) (fun H => ?_))))))))))
 ·refine Tr.sr (Tr.build (vs := []) (cs := [iv 0, .slice none 0 0, .slice none 0 0]) (wn rfl) rfl QW (by kernel_rfl) (Tr.mv rfl rfl (Tr.store 3 (cs := [iv 0, .slice none 0 0, .slice none 0 0]) [iv 0, .slice none 0 0, .slice none 0 0] (wn rfl) rfl rfl rfl rfl Kn rfl rfl rfl (Tr.asg rfl rfl (Tr.nil (Tr.zA (Tr.ret (Tr.zb ?_))))))))
  obtain rfl := oI H
  exact Tr.out (m := [.agg #[iv 0, .slice none 0 0, .slice none 0 0], iv zk]) [3] (VI rfl rfl Wt Kn (zU rfl zV)) (fun W hW => ⟨w, ((none, 0), (none, 0)), leB, rfl, ⟨(Sl.nil _ _ _), (Sl.nil _ _ _)⟩, hW.pick (ks := []) (by decide) za⟩)
 ·refine Tr.skip (Tr.zA (Tr.seq (Tr.sr (Tr.va rfl (fun _ _ a c => zX (cs := [bV p1.Flip, iv p1.Quarters, iv p1.At.X, iv p1.At.Y]) zIz zIB (a.ev rfl) (zO.take (rdb c (vs := [bV p1.Flip, iv p1.Quarters, iv p1.At.X, iv p1.At.Y]) (k := 2) rfl 0) 4) rfl) ?_))))
  obtain ⟨y104, hy104, H⟩ := bnd H
  refine Tr.Qa (r := (iv y104)) (wn rfl) rfl Tryz.call22 (zH rfl zP) (fun W hW => zEk p1 y104 hy104 (HF.start _)) (Tr.asg rfl rfl (Tr.nil (Tr.zA (Tr.sr (Tr.mv rfl rfl (Tr.va rfl (fun _ _ a c => Jm (a.ev rfl) (a.ev rfl)) (Tr.nil (Tr.zA (Tr.cond rfl H (fun H => ?_) (fun H => ?_))))))))))
  ·refine Tr.sr (Tr.build (vs := []) (cs := [iv 0, .slice none 0 0, .slice none 0 0]) (wn rfl) rfl QW (by kernel_rfl) (Tr.mv rfl rfl (Tr.store 3 (cs := [iv 0, .slice none 0 0, .slice none 0 0]) [iv 0, .slice none 0 0, .slice none 0 0] (wn rfl) rfl rfl rfl rfl Kn rfl rfl rfl (Tr.asg rfl rfl (Tr.nil (Tr.zA (Tr.ret (Tr.zb ?_))))))))
   obtain rfl := oI H
   exact Tr.out (m := [.agg #[iv 0, .slice none 0 0, .slice none 0 0], iv y104]) [3] (VI rfl rfl Wt Kn (zU rfl zV)) (fun W hW => ⟨w, ((none, 0), (none, 0)), leB, rfl, ⟨(Sl.nil _ _ _), (Sl.nil _ _ _)⟩, hW.pick (ks := []) (by decide) za⟩)
  ·refine Tr.skip (Tr.zA (Tr.seq (Tr.sr (Tr.va rfl (fun _ _ a c => zB zGG (a.ev rfl)) (Tr.va rfl (fun _ _ a c => zB Qy (a.ev rfl)) (Tr.va rfl (fun _ _ a c => zD zm (a.ev rfl) (rdb c (vs := [bV p1.Flip, iv p1.Quarters, iv p1.At.X, iv p1.At.Y]) (k := 2) rfl 2) rfl) (Tr.va rfl (fun _ _ a c => zB Vg (a.ev rfl)) (Tr.va rfl (fun _ _ a c => zD zm (a.ev rfl) (rdb c (vs := [iv p0.Unit, sL zF p0.Tools zG, sL zN p0.Steps zM]) (k := 1) rfl 0) rfl) ?_))))))))
   obtain ⟨q105, zZ0, H⟩ := bnd H
   refine Tr.va rfl (fun _ _ a c => zLz (a.ev rfl) (a.ev rfl) zZ0) (Tr.va rfl (fun _ _ a c => Jm (a.ev rfl) (a.ev rfl)) (Tr.mv rfl rfl ?_))
   obtain ⟨zKL, zCL, H⟩ := bnd H
   refine Tr.Vw 8 [(2, pV zw), (3, pV Qw), (4, pV KP), (41, bV zKL)] [(1, bx zw #[iv p0.Unit, sL zF p0.Tools zG, sL zN p0.Steps zM] 25), (2, bx Qw #[bV p1.Flip, iv p1.Quarters, iv p1.At.X, iv p1.At.Y] 29), (3, bx KP #[iv 0, .slice none 0 0, .slice none 0 0] 25)] ?_ ?_
   ·cases zeX : (q105 != 0)
    ·rw [zeX] at zCL
     rw [if_neg (by decide)] at zCL
     have H := zCL
     refine Tr.val (wg rfl rfl rfl) rfl (fun _ _ a c => zB zGG (a.ev rfl)) (Tr.val (wg rfl rfl rfl) rfl (fun _ _ a c => zB Qx (a.ev rfl)) (Tr.val (wg rfl rfl rfl) rfl (fun _ _ a c => zD zm (a.ev rfl) (rdb c (vs := [bV p1.Flip, iv p1.Quarters, iv p1.At.X, iv p1.At.Y]) (k := 2) rfl 3) rfl) (Tr.val (wg rfl rfl rfl) rfl (fun _ _ a c => zB Vg (a.ev rfl)) (Tr.val (wg rfl rfl rfl) rfl (fun _ _ a c => zD zm (a.ev rfl) (rdb c (vs := [iv p0.Unit, sL zF p0.Tools zG, sL zN p0.Steps zM]) (k := 1) rfl 0) rfl) ?_))))
     obtain ⟨q108, zZz, H⟩ := bnd H
     refine Tr.val (wg rfl rfl rfl) rfl (fun _ _ a c => zLz (a.ev rfl) (a.ev rfl) zZz) (Tr.val (wg rfl rfl rfl) rfl (fun _ _ a c => Jm (a.ev rfl) (a.ev rfl)) (Tr.va rfl (fun _ _ a c => zy (a.ev rfl) (a.ev rfl)) ?_))
     obtain rfl := oI H
     exact Tr.nil (Tr.JD (.cons rfl (.cons rfl (.cons rfl (.cons rfl .nil)))) (.cons rfl (.cons rfl (.cons rfl .nil))))
    ·rw [zeX] at zCL
     rw [if_pos rfl] at zCL
     have H := zCL
     obtain rfl := oI H
     refine Tr.pass rfl rfl rfl rfl rfl (by decide) (Tr.pass rfl rfl rfl rfl rfl (by decide) (Tr.pass rfl rfl rfl rfl rfl (by decide) (Tr.pass rfl rfl rfl rfl rfl (by decide) (Tr.pass rfl rfl rfl rfl rfl (by decide) (Tr.pass rfl rfl rfl rfl rfl (by decide) (Tr.pass rfl rfl rfl rfl rfl (by decide) ?_))))))
     exact Tr.va rfl (fun _ _ a c => zx (a.ev rfl) (a.ev rfl)) (Tr.nil (Tr.JD (.cons rfl (.cons rfl (.cons rfl (.cons rfl .nil)))) (.cons rfl (.cons rfl (.cons rfl .nil)))))
   ·show Tr _ _ (LF [(2, pV zw), (3, pV Qw), (4, pV KP), (41, bV zKL)]) (LE [(1, bx zw #[iv p0.Unit, sL zF p0.Tools zG, sL zN p0.Steps zM] 25), (2, bx Qw #[bV p1.Flip, iv p1.Quarters, iv p1.At.X, iv p1.At.Y] 29), (3, bx KP #[iv 0, .slice none 0 0, .slice none 0 0] 25)]) _
    refine Tr.nil (Tr.zA (Tr.cond rfl H (fun H => ?_) (fun H => ?_)))
    ·refine Tr.sr (Tr.build (vs := []) (cs := [iv 0, .slice none 0 0, .slice none 0 0]) (wn rfl) rfl QW (by kernel_rfl) (Tr.store 3 (cs := [iv 0, .slice none 0 0, .slice none 0 0]) [iv 0, .slice none 0 0, .slice none 0 0] (wn rfl) rfl rfl rfl rfl Kn rfl rfl rfl (Tr.asg rfl rfl (Tr.nil (Tr.zA (Tr.ret (Tr.zb ?_)))))))
     obtain rfl := oI H
     exact Tr.out (m := [.agg #[iv 0, .slice none 0 0, .slice none 0 0], iv 3]) [3] (VI rfl rfl Wt Kn (zU rfl zV)) (fun W hW => ⟨w, ((none, 0), (none, 0)), leB, rfl, ⟨(Sl.nil _ _ _), (Sl.nil _ _ _)⟩, hW.pick (ks := []) (by decide) za⟩)
    ·refine Tr.skip (Tr.zA (Tr.sr (Tr.va rfl (fun _ _ a c => zX (cs := [iv p0.Unit, sL zF p0.Tools zG, sL zN p0.Steps zM]) Wt Kn (a.ev rfl) (zO.take (rdb c (vs := [iv p0.Unit, sL zF p0.Tools zG, sL zN p0.Steps zM]) (k := 1) rfl 0) 3) rfl) ?_)))
     obtain ⟨KW, zTZ, H⟩ := bnd H
     refine Tr.VC [4, 5] [emp, emp] (U := (Option Addr × Nat) × (Option Addr × Nat × List (DE zJ))) (fun u => (.agg #[iv KW.Unit, sL u.1.1 KW.Tools u.1.2, sL u.2.1 KW.Steps u.2.2.1])) (fun O W u => SlF u.1.1 KW.Tools.length u.1.2 ∧ (DC u.2.2.2 KW.Steps ∧ SlF u.2.1 KW.Steps.length u.2.2.1)) (fun u => [ow u.1.1 u.1.2 91 zW KW.Tools, dq u.2.1 KW.Steps.length u.2.2.1 59 27 QO u.2.2.2]) rfl (zQ rfl (zQ rfl za)) (fun _ => rfl) (wn rfl) rfl Tryz.call27 (zH rfl zP) (fun W hW hp hE => zKZ N p0 zF zG (zT.zAS (hW.JE hp)) zN zM (QV.zAS (hW.JE hp)) KW zTZ hE) ?_
     intro w u zOY hu
     obtain ⟨⟨zFO, zFG⟩, ⟨zH4, zHj, Dy109_1⟩⟩ := u
     obtain ⟨gy109_0, gy109_1⟩ := hu
     replace leB := leB.trans zOY
     have zTk : SlF zFO KW.Tools.length zFG := gy109_0 --@phi
     have zO0 : (DC Dy109_1 KW.Steps ∧ SlF zH4 KW.Steps.length zHj) := gy109_1 --@phi
     dsimp only
     refine Tr.alloc 6 (wn rfl) rfl zNz fun zPu => (Tr.store 6 (cs := [iv KW.Unit, sL zFO KW.Tools zFG, sL zH4 KW.Steps zHj]) [iv KW.Unit, sL zFO KW.Tools zFG, sL zH4 KW.Steps zHj] (wn rfl) rfl rfl rfl rfl Kn rfl rfl rfl (Tr.nil (Tr.zA (Tr.sr (Tr.va rfl (fun _ _ a c => zB zWW (a.ev rfl)) (Tr.va rfl (fun _ _ a c => zD zJr (a.ev rfl) (rdb c (vs := [bV p1.Flip, iv p1.Quarters, iv p1.At.X, iv p1.At.Y]) (k := 2) rfl 0) rfl) (Tr.va rfl (fun _ _ a c => zB zRt (a.ev rfl)) (Tr.va rfl (fun _ _ a c => zD zm (a.ev rfl) (rdb c (vs := [bV p1.Flip, iv p1.Quarters, iv p1.At.X, iv p1.At.Y]) (k := 2) rfl 1) rfl) (Tr.build (vs := [(0, bV p1.Flip), (1, iv p1.Quarters)]) (cs := [bV p1.Flip, iv p1.Quarters, iv 0, iv 0]) (wn rfl) rfl (zi rfl (zi rfl QW)) (by kernel_rfl) ?_)))))))))
     refine Tr.alloc 7 (wn rfl) rfl zjF fun zPN => (Tr.store 7 (cs := [bV p1.Flip, iv p1.Quarters, iv 0, iv 0]) [bV p1.Flip, iv p1.Quarters, iv 0, iv 0] (wn rfl) rfl rfl rfl rfl zIB rfl rfl rfl (Tr.nil (Tr.zA (Tr.sr (Tr.va rfl (fun _ _ a c => zB zEH (a.ev rfl)) (Tr.va rfl (fun _ _ a c => zD zLc (a.ev rfl) (rdb c (vs := [iv KW.Unit, sL zFO KW.Tools zFG, sL zH4 KW.Steps zHj]) (k := 6) rfl 1) rfl) (Tr.zFi (vs := [pV zPN]) (wn rfl) rfl (zH rfl zP) (Tr.freeze 4 rfl fun w zj5 zZf => ?_))))))))
     replace leB := leB.trans zj5
     obtain ⟨y115, hy115, H⟩ := bnd H
     refine Tr.VC [8] [emp] (U := (Option Addr × Nat)) (fun u => (sL u.1 y115 u.2)) (fun O W u => SlF u.1 y115.length u.2) (fun u => [ow u.1 u.2 91 zW y115]) rfl (zQ rfl za) (fun _ => rfl) (wn rfl) rfl Tryz.call19 (zH rfl (zH rfl zP)) (fun W hW hp hE => zDD N KW.Tools zFO zFG (zZf.zAS (hW.JE hp)) (fun z0 => Vr N z0 (Qf.mk p1.Flip p1.Quarters (zI.mk 0 0))) 28 [pV zPN] Tryz.call28 (fun w' he z0 y hy => zH0 N z0 (Qf.mk p1.Flip p1.Quarters (zI.mk 0 0)) zPN (he.r _ (hW.zUD (k := 7) rfl hp rfl)) (he.cells (hW.zUD (k := 7) rfl hp rfl) (hW.zbL (k := 7) rfl)) y hy (HF.start _)) y115 hy115 hE) ?_
     intro w u zeE hu
     obtain ⟨zAd, zAa⟩ := u
     have gy115_0 := hu
     replace zZf := zZf.le zeE
     replace leB := leB.trans zeE
     have zmj : SlF zAd y115.length zAa := gy115_0 --@phi
     dsimp only
     refine Tr.va rfl (fun _ _ a c => zB zEH (a.ev rfl)) (Tr.store 6 (cs := [sL zAd y115 zAa]) [iv KW.Unit, sL zAd y115 zAa, sL zH4 KW.Steps zHj] (wn rfl) rfl rfl rfl rfl zjd rfl rfl rfl (Tr.nil (Tr.zA (Tr.seq (Tr.Vm 12 (by kernel_rfl) (by kernel_rfl) (Tq.va rfl (fun _ _ a c => zB zGG (a.ev rfl)) (Tq.va rfl (fun _ _ a c => zB Qy (a.ev rfl)) (Tq.va rfl (fun _ _ a c => zD zm (a.ev rfl) (rdb c (vs := [bV p1.Flip, iv p1.Quarters, iv p1.At.X, iv p1.At.Y]) (k := 2) rfl 2) rfl) (Tq.va rfl (fun _ _ a c => zB Vg (a.ev rfl)) ?_)))))))))
     refine Tq.va rfl (fun _ _ a c => zD zm (a.ev rfl) (rdb c (vs := [iv p0.Unit, sL zF p0.Tools zG, sL zN p0.Steps zM]) (k := 1) rfl 0) rfl) ?_
     obtain ⟨q117, zly, H⟩ := bnd H
     refine Tq.va rfl (fun _ _ a c => zL1 (a.ev rfl) (a.ev rfl) zly) (Tq.va rfl (fun _ _ a c => zB zGG (a.ev rfl)) (Tq.va rfl (fun _ _ a c => zB Qx (a.ev rfl)) (Tq.va rfl (fun _ _ a c => zD zm (a.ev rfl) (rdb c (vs := [bV p1.Flip, iv p1.Quarters, iv p1.At.X, iv p1.At.Y]) (k := 2) rfl 3) rfl) (Tq.va rfl (fun _ _ a c => zB Vg (a.ev rfl)) (Tq.va rfl (fun _ _ a c => zD zm (a.ev rfl) (rdb c (vs := [iv p0.Unit, sL zF p0.Tools zG, sL zN p0.Steps zM]) (k := 1) rfl 0) rfl) ?_)))))
     obtain ⟨q118, zlx, H⟩ := bnd H
     refine Tq.va rfl (fun _ _ a c => zL1 (a.ev rfl) (a.ev rfl) zlx) (Tq.nil (Tr.build (vs := [(0, iv q117), (1, iv q118)]) (cs := [iv q117, iv q118]) (wn rfl) rfl (zi rfl (zi rfl QW)) (by kernel_rfl) (Tr.va rfl (fun _ _ a c => zB zGG (a.ev rfl)) (Tr.store 2 (cs := [iv q117, iv q118]) [bV p1.Flip, iv p1.Quarters, iv q117, iv q118] (wn rfl) rfl rfl rfl rfl JG rfl rfl rfl (Tr.nil (Tr.zA (Tr.seq (Tr.sr (Tr.va rfl (fun _ _ a c => zB zGH (a.ev rfl)) (Tr.va rfl (fun _ _ a c => zD zEg (a.ev rfl) (rdb c (vs := [iv KW.Unit, sL zAd y115 zAa, sL zH4 KW.Steps zHj]) (k := 6) rfl 2) rfl) (Tr.va rfl (fun _ _ a c => QF zF8 (a.ev rfl)) ?_)))))))))))
     refine Tr.mv rfl rfl (Tr.nil (Tr.zA (Tr.block (Tr.loop (σ := (List zC) × Nat × (List zC) × (Option Addr) × Nat × (List (DE zJ))) (fun m w s => m = s.1.length + 1 ∧ s.1 = List.drop s.2.1 KW.Steps ∧ s.2.1 ≤ KW.Steps.length ∧ QS N p1 KW y115 q117 q118 s.1 s.2.1 s.2.2.1 = some r ∧ (DC s.2.2.2.2.2 s.2.2.1 ∧ SlF s.2.2.2.1 s.2.2.1.length s.2.2.2.2.1)) (fun s => [(3, pV Qw), (4, pV KP), (8, pV zPu), (71, iv (KW.Steps.length : Int)), (72, iv (s.2.1 : Int))]) (fun s => [(2, bx Qw #[bV p1.Flip, iv p1.Quarters, iv q117, iv q118] 29), (3, bx KP #[iv 0, .slice none 0 0, .slice none 0 0] 25), (5, dq s.2.2.2.1 s.2.2.1.length s.2.2.2.2.1 59 27 QO s.2.2.2.2.2), (6, bx zPu #[iv KW.Unit, sL zAd y115 zAa, sL s.2.2.2.1 s.2.2.1 s.2.2.2.2.1] 25), (8, ow zAd zAa 91 zW y115)]) (KW.Steps.length + 1) (KW.Steps, 0, KW.Steps, zH4, zHj, Dy109_1) ⟨rfl, rfl, Nat.zero_le _, H, ⟨zO0.1, zO0.2⟩⟩ (.cons rfl (.cons rfl (.cons rfl (.cons rfl (.cons rfl .nil))))) (.cons rfl (.cons rfl (.cons rfl (.cons rfl (.cons rfl .nil))))) (fun _ _ h => absurd h.1 (by simp)) ?_))))
     intro w zRZ m s hs
     obtain ⟨zDa, iL5, m193, Am193, cm193, msm193⟩ := s
     obtain ⟨ziR, zVS, hiL5, H, hm193⟩ := hs
     replace zVS : zDa = List.drop iL5 KW.Steps := zVS
     replace H : QS N p1 KW y115 q117 q118 zDa iL5 m193 = some r := H
     replace ziR : m + 1 = zDa.length + 1 := ziR
     replace leB := leB.trans zRZ
     replace hm193 : DC msm193 m193 ∧ SlF Am193 m193.length cm193 := hm193
     obtain rfl : m = zDa.length := by omega
     clear ziR
     dsimp only
     cases zDa with
     | nil =>
      rw [QS.eq_1] at H
      refine Tr.sr (Tr.va rfl (fun _ _ a c => QD (a.ev rfl) (a.ev rfl)) (Tr.nil (Tr.zA (Tr.seq (Tr.Vy rfl (JA zVS) (Tr.exit (Tr.ze (Tr.ze (Tr.QK (Tr.zA (Tr.sr (Tr.va rfl (fun _ _ a c => zX (cs := [iv KW.Unit, sL zAd y115 zAa, sL Am193 m193 cm193]) Wt Kn (a.ev rfl) (zO.take (rdb c (vs := [iv KW.Unit, sL zAd y115 zAa, sL Am193 m193 cm193]) (k := 6) rfl 0) 3) rfl) (Tr.freeze 8 rfl fun w zjy zTQ => ?_)))))))))))))
      replace leB := leB.trans zjy
      refine Tr.za5 5 rfl hm193.1 fun w zd8 zZa => ?_
      replace zTQ := zTQ.le zd8
      replace leB := leB.trans zd8
      obtain ⟨zFx, zkk, H⟩ := bnd H
      refine Tr.VC [] [] (U := (Option Addr × Nat) × (Option Addr × Nat)) (fun u => (.tuple #[.agg #[iv zFx.1.Unit, sL u.1.1 zFx.1.Tools u.1.2, sL u.2.1 zFx.1.Steps u.2.2], iv zFx.2])) (fun O W u => Sl O W zW u.1.1 u.1.2 zFx.1.Tools ∧ Sl O W zJ u.2.1 u.2.2 zFx.1.Steps) (fun u => []) rfl za (fun _ => rfl) (wn rfl) rfl Tryz.call18 (zH rfl zP) (fun W hW hp hE => zI6 N (zt.mk KW.Unit y115 m193) zAd zAa (zTQ.zAS (hW.JE hp)) Am193 cm193 (zZa.zAS (hW.JE hp)) zFx zkk hE) ?_
      intro w u zZN hu
      obtain ⟨⟨zLn, zLO⟩, ⟨zLm, zLN⟩⟩ := u
      obtain ⟨gy198_0, gy198_1⟩ := hu
      replace zTQ := zTQ.le zZN
      replace zZa := zZa.le zZN
      replace leB := leB.trans zZN
      have zaT : Sl w.O w.W zW zLn zLO zFx.1.Tools := gy198_0 --@phi
      have zaS : Sl w.O w.W zJ zLm zLN zFx.1.Steps := gy198_1 --@phi
      dsimp only
      refine Tr.va rfl (fun _ _ a c => Qb (a.ev rfl) rfl) (Tr.va rfl (fun _ _ a c => Qb (a.ev rfl) rfl) (Tr.store 3 (cs := [iv zFx.1.Unit, sL zLn zFx.1.Tools zLO, sL zLm zFx.1.Steps zLN]) [iv zFx.1.Unit, sL zLn zFx.1.Tools zLO, sL zLm zFx.1.Steps zLN] (wn rfl) rfl rfl rfl rfl Kn rfl rfl rfl (Tr.asg rfl rfl (Tr.nil (Tr.zA (Tr.ret ?_))))))
      obtain rfl := oI H
      exact Tr.out (m := [.agg #[iv zFx.1.Unit, sL zLn zFx.1.Tools zLO, sL zLm zFx.1.Steps zLN], iv zFx.2]) [3] (VI rfl rfl Wt Kn (zU rfl zV)) (fun W hW => ⟨w, ((zLn, zLO), (zLm, zLN)), leB, rfl, ⟨zaT, zaS⟩, hW.pick (ks := []) (by decide) za⟩)
     | cons xL5 zDa =>
      rw [QS.eq_2] at H
      refine Tr.sr (Tr.va rfl (fun _ _ a c => QD (a.ev rfl) (a.ev rfl)) (Tr.nil (Tr.zA (Tr.seq (Tr.Vx rfl (JU zVS) (Tr.skip (Tr.zA (Tr.seq (Tr.block (Tr.sr (Tr.mv rfl rfl (Tr.asg rfl rfl (Tr.nil (Tr.zA (Tr.sr (Tr.va rfl (fun _ _ a c => zB zGH (a.ev rfl)) (Tr.va rfl (fun _ _ a c => zD zEg (a.ev rfl) (rdb c (vs := [iv KW.Unit, sL zAd y115 zAa, sL Am193 m193 cm193]) (k := 6) rfl 2) rfl) (Tr.mv rfl rfl ?_))))))))))))))))))
      obtain ⟨x200, zlU, H⟩ := bnd H
      obtain ⟨zg2, zg1, zg0⟩ := zq zlU
      refine Tr.zik 5 19 20 (i := ((iL5 : Int)).toNat) rfl rfl rfl zg0 rfl hm193.1 fun u201 zca zRr hdu201 => ?_
      obtain ⟨⟨VW, VU⟩, ⟨zBB, zBA⟩⟩ := u201
      have zGy : Sl w.O w.W zJ zBB zBA x200.Steps := zca
      replace zRr : SlF VW x200.Points.length VU := zRr
      replace hdu201 : DT msm193 m193 ((iL5 : Int)).toNat ((VW, VU), (zBB, zBA)) x200 := hdu201
      show Tr _ _ _ (up (up (up _ 5 (ow Am193 cm193 59 (mix (flU QO)) (WT msm193 ((iL5 : Int)).toNat (raw (flU QO) [iv x200.Kind, sv x200.Name, iv x200.At.X, iv x200.At.Y, sL VW x200.Points VU, iv x200.NX, iv x200.NY, sL zBB x200.Steps zBA] rfl rfl)))) 19 (ins 27 zz ((List.set msm193 ((iL5 : Int)).toNat ⟨((VW, VU), (zBB, zBA)), x200, false⟩).map (ne QO)))) 20 (ow VW VU 27 zz x200.Points)) _
      refine Tr.va rfl (fun _ _ a c => zL zIs (a.ev rfl) hm193.2 (a.ev rfl) zg2 zg1) (Tr.asg rfl rfl (Tr.nil (Tr.zA ?_)))
      have leJ206 := Bs.Le.refl w
      refine Tr.zIu (σ := Int × Int) (fun w s => Kv N p1 q117 q118 m193 (QS N p1 KW y115 q117 q118 zDa (iL5 + 1)) iL5 x200 s.1 s.2 = some r) (fun s => [(3, pV Qw), (4, pV KP), (8, pV zPu), (11, .pointer (some ⟨adB Am193, adO Am193 + ((iL5 : Int)).toNat * 8, none⟩)), (71, iv (KW.Steps.length : Int)), (72, iv (iL5 : Int))]) (fun s => [(2, bx Qw #[bV p1.Flip, iv p1.Quarters, iv q117, iv q118] 29), (3, bx KP #[iv 0, .slice none 0 0, .slice none 0 0] 25), (5, ow Am193 cm193 59 (mix (flU QO)) (WT msm193 ((iL5 : Int)).toNat (raw (flU QO) [iv x200.Kind, sv x200.Name, iv s.1, iv s.2, sL VW x200.Points VU, iv x200.NX, iv x200.NY, sL zBB x200.Steps zBA] rfl rfl))), (6, bx zPu #[iv KW.Unit, sL zAd y115 zAa, sL Am193 m193 cm193] 25), (8, ow zAd zAa 91 zW y115), (19, ins 27 zz ((List.set msm193 ((iL5 : Int)).toNat ⟨((VW, VU), (zBB, zBA)), x200, false⟩).map (ne QO))), (20, ow VW VU 27 zz x200.Points)]) ?_ ?_
      ·refine Tr.sr (Tr.mv rfl rfl (Tr.va rfl (fun _ _ a c => zl (a.ev rfl)) (Tr.va rfl (fun _ _ a c => zB zEG (a.ev rfl)) (Tr.va rfl (fun _ _ a c => zD zm (a.ev rfl) (rdm (cs := raw (flU QO) [iv x200.Kind, sv x200.Name, iv x200.At.X, iv x200.At.Y, sL VW x200.Points VU, iv x200.NX, iv x200.NY, sL zBB x200.Steps zBA] rfl rfl) c (κ := 5) rfl (hdu201.hi)) rfl) ?_))))
       obtain ⟨zUX, zkX, H⟩ := bnd H
       refine Tr.Qa (r := (.agg #[bV zUX.name, bV zUX.at_, bV zUX.points, bV zUX.repeat_])) (wn rfl) rfl Tryz.call17 (zH rfl zP) (fun W hW => zBk x200.Kind zUX zkX (HF.start _)) (Tr.va rfl (fun _ _ a c => zKD zRv zJr (a.ev rfl) rfl) (Tr.nil (Tr.zA (Tr.cond rfl H (fun H => ?_) (fun H => ?_)))))
       ·refine Tr.Vm 7 (by kernel_rfl) (by kernel_rfl) (Tq.mv rfl rfl (Tq.mv rfl rfl (Tq.va rfl (fun _ _ a c => zl (a.ev rfl)) (Tq.va rfl (fun _ _ a c => zB zAD (a.ev rfl)) (Tq.va rfl (fun _ _ a c => zX (cs := [iv x200.At.X, iv x200.At.Y]) Kk JG (a.ev rfl) (zO.take (zO.drop (rdm (cs := raw (flU QO) [iv x200.Kind, sv x200.Name, iv x200.At.X, iv x200.At.Y, sL VW x200.Points VU, iv x200.NX, iv x200.NY, sL zBB x200.Steps zBA] rfl rfl) c (κ := 5) rfl (hdu201.hi)) 2) 2) rfl) (Tq.va rfl (fun _ _ a c => zX (cs := [bV p1.Flip, iv p1.Quarters, iv q117, iv q118]) zIz zIB (a.ev rfl) (zO.take (rdb c (vs := [bV p1.Flip, iv p1.Quarters, iv q117, iv q118]) (k := 2) rfl 0) 4) rfl) ?_))))))
        obtain ⟨zHG, zZi, H⟩ := bnd H
        exact Tq.Qa (r := (.agg #[iv zHG.X, iv zHG.Y])) (wn rfl) rfl Tryz.call30 (zH rfl (zH rfl zP)) (fun W hW => zAw N x200.At (Qf.mk p1.Flip p1.Quarters (zI.mk q117 q118)) zHG zZi (HF.start _)) (Tq.nil (Tr.va rfl (fun _ _ a c => zl (a.ev rfl)) (Tr.va rfl (fun _ _ a c => zB zAD (a.ev rfl)) (Tr.zGp 5 (raw (flU QO) [iv x200.Kind, sv x200.Name, iv zHG.X, iv zHG.Y, sL VW x200.Points VU, iv x200.NX, iv x200.NY, sL zBB x200.Steps zBA] rfl rfl) (cs := [iv zHG.X, iv zHG.Y]) (fo := 2) (wn rfl) rfl rfl rfl rfl rfl (hdu201.hi) JG rfl rfl rfl (Tr.nil (Tr.zf leJ206 (zHG.X, zHG.Y) H (.cons rfl (.cons rfl (.cons rfl (.cons rfl (.cons rfl (.cons rfl .nil)))))) (.cons rfl (.cons rfl (.cons rfl (.cons rfl (.cons rfl (.cons rfl (.cons rfl .nil)))))))))))))
       ·exact Tr.skip (Tr.zf leJ206 (x200.At.X, x200.At.Y) H (.cons rfl (.cons rfl (.cons rfl (.cons rfl (.cons rfl (.cons rfl .nil)))))) (.cons rfl (.cons rfl (.cons rfl (.cons rfl (.cons rfl (.cons rfl (.cons rfl .nil))))))))
      ·intro w s hlJ207 hs
       obtain ⟨zIR, zIQ⟩ := s
       have H := hs
       replace H : Kv N p1 q117 q118 m193 (QS N p1 KW y115 q117 q118 zDa (iL5 + 1)) iL5 x200 zIR zIQ = some r := H
       replace zGy := zGy.le hlJ207
       replace zRZ := zRZ.trans hlJ207
       unfold Kv at H
       dsimp only
       refine Tr.sr (Tr.mv rfl rfl (Tr.va rfl (fun _ _ a c => zl (a.ev rfl)) (Tr.va rfl (fun _ _ a c => zB zAY (a.ev rfl)) (Tr.va rfl (fun _ _ a c => zD zEf (a.ev rfl) (zO.drop (rdm (cs := raw (flU QO) [iv x200.Kind, sv x200.Name, iv zIR, iv zIQ, sL VW x200.Points VU, iv x200.NX, iv x200.NY, sL zBB x200.Steps zBA] rfl rfl) c (κ := 5) rfl (hdu201.hi)) 4) rfl) (Tr.va rfl (fun _ _ a c => QF zEy (a.ev rfl)) (Tr.mv rfl rfl (Tr.nil (Tr.zA (Tr.block (Tr.loop (σ := (List zI) × Nat × (List zI)) (fun m w s => m = s.1.length + 1 ∧ s.1 = List.drop s.2.1 x200.Points ∧ s.2.1 ≤ x200.Points.length ∧ Jy N p1 q117 q118 m193 (QS N p1 KW y115 q117 q118 zDa (iL5 + 1)) iL5 x200 zIR zIQ s.1 s.2.1 s.2.2 = some r ∧ s.2.2.length = x200.Points.length) (fun s => [(3, pV Qw), (4, pV KP), (8, pV zPu), (11, .pointer (some ⟨adB Am193, adO Am193 + ((iL5 : Int)).toNat * 8, none⟩)), (71, iv (KW.Steps.length : Int)), (72, iv (iL5 : Int)), (97, sL VW s.2.2 VU), (98, iv (x200.Points.length : Int)), (99, iv (s.2.1 : Int))]) (fun s => [(2, bx Qw #[bV p1.Flip, iv p1.Quarters, iv q117, iv q118] 29), (3, bx KP #[iv 0, .slice none 0 0, .slice none 0 0] 25), (5, ow Am193 cm193 59 (mix (flU QO)) (WT msm193 ((iL5 : Int)).toNat (raw (flU QO) [iv x200.Kind, sv x200.Name, iv zIR, iv zIQ, sL VW s.2.2 VU, iv x200.NX, iv x200.NY, sL zBB x200.Steps zBA] rfl rfl))), (6, bx zPu #[iv KW.Unit, sL zAd y115 zAa, sL Am193 m193 cm193] 25), (8, ow zAd zAa 91 zW y115), (19, ins 27 zz ((List.set msm193 ((iL5 : Int)).toNat ⟨((VW, VU), (zBB, zBA)), x200, false⟩).map (ne QO))), (20, ow VW VU 27 zz s.2.2)]) (x200.Points.length + 1) (x200.Points, 0, x200.Points) ⟨rfl, rfl, Nat.zero_le _, H, rfl⟩ (.cons rfl (.cons rfl (.cons rfl (.cons rfl (.cons rfl (.cons rfl (.cons rfl (.cons rfl (.cons rfl .nil))))))))) (.cons rfl (.cons rfl (.cons rfl (.cons rfl (.cons rfl (.cons rfl (.cons rfl .nil))))))) (fun _ _ h => absurd h.1 (by simp)) ?_))))))))))
       intro w zNK m s hs
       obtain ⟨zHS, iL6, zIg⟩ := s
       obtain ⟨ziQ, zVR, hiL6, H, zWK⟩ := hs
       replace zVR : zHS = List.drop iL6 x200.Points := zVR
       replace H : Jy N p1 q117 q118 m193 (QS N p1 KW y115 q117 q118 zDa (iL5 + 1)) iL5 x200 zIR zIQ zHS iL6 zIg = some r := H
       replace ziQ : m + 1 = zHS.length + 1 := ziQ
       replace zGy := zGy.le zNK
       replace zRZ := zRZ.trans zNK
       replace zWK : zIg.length = x200.Points.length := zWK
       have zRs : SlF VW zIg.length VU := (by rw [zWK]; exact zRr)
       obtain rfl : m = zHS.length := by omega
       clear ziQ
       dsimp only
       cases zHS with
       | nil =>
        rw [Jy.eq_1] at H
        refine Tr.sr (Tr.va rfl (fun _ _ a c => QD (a.ev rfl) (a.ev rfl)) (Tr.nil (Tr.zA (Tr.seq (Tr.Vy rfl (JA zVR) (Tr.exit (Tr.ze (Tr.ze (Tr.QK (Tr.zh (Tr.zA (Tr.region (Tr.va rfl (fun _ _ a c => zo (a.ev rfl) (a.ev rfl)) (Tr.mv rfl rfl (Tr.nil (Tr.zmw (L := QO) 5 19 20 (u := ((VW, VU), (zBB, zBA))) (x' := (zC.mk x200.Kind x200.Name (zI.mk zIR zIQ) zIg x200.NX x200.NY x200.Steps)) rfl rfl rfl rfl rfl rfl hdu201 zGy rfl rfl rfl zRs fun ms225 hmms225 => ?_))))))))))))))))
        have hnms225 : (List.set m193 ((iL5 : Int)).toNat (zC.mk x200.Kind x200.Name (zI.mk zIR zIQ) zIg x200.NX x200.NY x200.Steps)).length = m193.length := List.length_set
        have zcv : SlF Am193 (List.set m193 ((iL5 : Int)).toNat (zC.mk x200.Kind x200.Name (zI.mk zIR zIQ) zIg x200.NX x200.NY x200.Steps)).length cm193 := by rw [hnms225]; exact hm193.2
        exact Tr.sel (lf := [(3, pV Qw), (4, pV KP), (8, pV zPu), (71, iv (KW.Steps.length : Int)), (72, iv (w64 ((iL5 : Int) + 1))), (98, iv (x200.Points.length : Int)), (99, iv (iL6 : Int)), (100, bV (decide ((iL6 : Int) < (x200.Points.length : Int)))), (114, iv (w64 ((iL5 : Int) + 1)))]) (le := [(2, bx Qw #[bV p1.Flip, iv p1.Quarters, iv q117, iv q118] 29), (3, bx KP #[iv 0, .slice none 0 0, .slice none 0 0] 25), (5, dq Am193 ((List.set m193 ((iL5 : Int)).toNat (zC.mk x200.Kind x200.Name (zI.mk zIR zIQ) zIg x200.NX x200.NY x200.Steps))).length cm193 59 27 QO ms225), (6, bx zPu #[iv KW.Unit, sL zAd y115 zAa, sL Am193 ((List.set m193 ((iL5 : Int)).toNat (zC.mk x200.Kind x200.Name (zI.mk zIR zIQ) zIg x200.NX x200.NY x200.Steps))) cm193] 25), (8, ow zAd zAa 91 zW y115)]) (.cons rfl (.cons rfl (.cons rfl (.cons rfl (.cons rfl (.cons rfl (.cons rfl (.cons rfl (.cons rfl .nil))))))))) (.cons rfl (.cons rfl (.cons rfl (.cons (ebx rfl (by unfold sL; rw [hnms225])) (.cons rfl .nil))))) (Tr.zf zRZ (zDa, (iL5 + 1), (List.set m193 ((iL5 : Int)).toNat (zC.mk x200.Kind x200.Name (zI.mk zIR zIQ) zIg x200.NX x200.NY x200.Steps)), Am193, cm193, ms225) ⟨rfl, Qe zVS, QC zVS, H, ⟨hmms225, zcv⟩⟩ (.cons rfl (.cons rfl (.cons rfl (.cons rfl (.cons (congrArg (fun z => some (Value.int .i64 z)) (Qd zVS zO0.2)) .nil))))) (.cons rfl (.cons rfl (.cons rfl (.cons rfl (.cons rfl .nil))))))
       | cons xL6 zHS =>
        rw [Jy.eq_2] at H
        refine Tr.sr (Tr.va rfl (fun _ _ a c => QD (a.ev rfl) (a.ev rfl)) (Tr.nil (Tr.zA (Tr.seq (Tr.Vx rfl (JU zVR) (Tr.skip (Tr.zA (Tr.seq (Tr.block (Tr.sr (Tr.mv rfl rfl ?_)))))))))))
        obtain ⟨zHL, zlQ, H⟩ := bnd H
        obtain ⟨zgq, zgp, zgo⟩ := zq zlQ
        refine Tr.va rfl (fun _ _ a c => zL zEc (a.ev rfl) zRs (a.ev rfl) zgq zgp) (Tr.va rfl (fun _ _ a c => zX (cs := [iv zHL.X, iv zHL.Y]) Kk JG (a.ev rfl) (zO.take (rdo zAL (k := 20) c rfl zgo) 2) rfl) (Tr.alloc 23 (wn rfl) rfl zF7 fun znJ => (Tr.asg rfl rfl (Tr.store 23 (cs := [iv zHL.X, iv zHL.Y]) [iv zHL.X, iv zHL.Y] (wn rfl) rfl rfl rfl rfl JG rfl rfl rfl (Tr.nil (Tr.zA (Tr.Vm 8 (by kernel_rfl) (by kernel_rfl) (Tq.mv rfl rfl (Tq.va rfl (fun _ _ a c => zl (a.ev rfl)) (Tq.va rfl (fun _ _ a c => zB zAY (a.ev rfl)) ?_))))))))))
        refine Tq.va rfl (fun _ _ a c => zD zEf (a.ev rfl) (zO.drop (rdm (cs := raw (flU QO) [iv x200.Kind, sv x200.Name, iv zIR, iv zIQ, sL VW zIg VU, iv x200.NX, iv x200.NY, sL zBB x200.Steps zBA] rfl rfl) c (κ := 5) rfl (hdu201.hi)) 4) rfl) (Tq.mv rfl rfl (Tq.va rfl (fun _ _ a c => zX (cs := [iv zHL.X, iv zHL.Y]) Kk JG (a.ev rfl) (zO.take (rdb c (vs := [iv zHL.X, iv zHL.Y]) (k := 23) rfl 0) 2) rfl) (Tq.va rfl (fun _ _ a c => zX (cs := [bV p1.Flip, iv p1.Quarters, iv q117, iv q118]) zIz zIB (a.ev rfl) (zO.take (rdb c (vs := [bV p1.Flip, iv p1.Quarters, iv q117, iv q118]) (k := 2) rfl 0) 4) rfl) ?_)))
        obtain ⟨zPZ, zkZ, H⟩ := bnd H
        refine Tq.Qa (r := (.agg #[iv zPZ.X, iv zPZ.Y])) (wn rfl) rfl Tryz.call30 (zH rfl (zH rfl zP)) (fun W hW => zAw N zHL (Qf.mk p1.Flip p1.Quarters (zI.mk q117 q118)) zPZ zkZ (HF.start _)) (Tq.nil ?_)
        obtain ⟨zBc, zlP, H⟩ := bnd H
        obtain ⟨zgn, zgm, zgl⟩ := zq zlP
        refine Tr.va rfl (fun _ _ a c => zL zEc (a.ev rfl) zRs (a.ev rfl) zgn zgm) ?_
        obtain ⟨Vh, zDK, H⟩ := bnd H
        have zOv := zCG zDK
        refine Tr.zCz 20 (t := zz) (l := zIg) (i := (iL6 : Int)) (fo := 0) (cs := [iv zPZ.X, iv zPZ.Y]) zPZ (wn rfl) rfl rfl rfl rfl rfl zgl JG rfl (fun u _ => ⟨u, trivial, rfl⟩) rfl zDK ?_
        have zoc : SlF VW Vh.length VU := by rw [zOv]; exact zRs
        have hsl230 := zOv.trans zWK
        exact Tr.sel (lf := [(3, pV Qw), (4, pV KP), (8, pV zPu), (11, .pointer (some ⟨adB Am193, adO Am193 + ((iL5 : Int)).toNat * 8, none⟩)), (12, iv (iL6 : Int)), (13, pV znJ), (71, iv (KW.Steps.length : Int)), (72, iv (iL5 : Int)), (97, sL VW Vh VU), (98, iv (x200.Points.length : Int)), (99, iv (iL6 : Int)), (100, bV (decide ((iL6 : Int) < (x200.Points.length : Int)))), (101, iv (iL6 : Int)), (103, .agg #[iv zHL.X, iv zHL.Y]), (104, .pointer (some ⟨adB Am193, adO Am193 + ((iL5 : Int)).toNat * 8, none⟩)), (105, .pointer (some ⟨adB Am193, adO Am193 + ((iL5 : Int)).toNat * 8, none⟩)), (106, .pointer (some ⟨adB Am193, adO Am193 + ((iL5 : Int)).toNat * 8 + 4, none⟩)), (107, sL VW Vh VU), (108, iv (iL6 : Int)), (109, .agg #[iv zHL.X, iv zHL.Y]), (110, .agg #[bV p1.Flip, iv p1.Quarters, iv q117, iv q118]), (111, .agg #[iv zPZ.X, iv zPZ.Y])]) (le := [(2, bx Qw #[bV p1.Flip, iv p1.Quarters, iv q117, iv q118] 29), (3, bx KP #[iv 0, .slice none 0 0, .slice none 0 0] 25), (5, ow Am193 cm193 59 (mix (flU QO)) (WT msm193 ((iL5 : Int)).toNat (raw (flU QO) [iv x200.Kind, sv x200.Name, iv zIR, iv zIQ, sL VW Vh VU, iv x200.NX, iv x200.NY, sL zBB x200.Steps zBA] rfl rfl))), (6, bx zPu #[iv KW.Unit, sL zAd y115 zAa, sL Am193 m193 cm193] 25), (8, ow zAd zAa 91 zW y115), (19, ins 27 zz ((List.set msm193 ((iL5 : Int)).toNat ⟨((VW, VU), (zBB, zBA)), x200, false⟩).map (ne QO))), (20, ow VW VU 27 zz Vh), (23, bx znJ #[iv zHL.X, iv zHL.Y] 27)]) (.cons rfl (.cons rfl (.cons rfl (.cons rfl (.cons rfl (.cons rfl (.cons rfl (.cons rfl (.cons (Km rfl (by unfold sL; rw [zOv])) (.cons rfl (.cons rfl (.cons rfl (.cons rfl (.cons rfl (.cons rfl (.cons rfl (.cons rfl (.cons (Km rfl (by unfold sL; rw [zOv])) (.cons rfl (.cons rfl (.cons rfl (.cons rfl .nil)))))))))))))))))))))) (.cons rfl (.cons rfl (.cons (za1 rfl (by unfold sL; rw [zOv])) (.cons rfl (.cons rfl (.cons rfl (.cons rfl (.cons rfl .nil)))))))) (Tr.nil (Tr.zh (Tr.zA (Tr.region (Tr.va rfl (fun _ _ a c => zo (a.ev rfl) (a.ev rfl)) (Tr.mv rfl rfl (Tr.nil (Tr.zf zNK (zHS, (iL6 + 1), Vh) ⟨rfl, Qe zVR, QC zVR, H, hsl230⟩ (.cons rfl (.cons rfl (.cons rfl (.cons rfl (.cons rfl (.cons rfl (.cons rfl (.cons rfl (.cons (congrArg (fun z => some (Value.int .i64 z)) (Qd zVR zRr)) .nil))))))))) (.cons rfl (.cons rfl (.cons rfl (.cons rfl (.cons rfl (.cons rfl (.cons rfl .nil)))))))))))))))

theorem zB3 (N : Nat) {w : Bs} (p0 : zt) (zF : Option Addr) (zG : Nat) (zT : Sl w.O w.W zW zF zG p0.Tools) (zN : Option Addr) (zM : Nat) (QV : Sl w.O w.W zJ zN zM p0.Steps) (p1 : zI) (p2 : Qf) (r : Bool) (H : KG N p0 p1 p2 = some r) (hE : HF w w.W E0) : Calls Tryz.prog 3 [.agg #[iv p0.Unit, sL zF p0.Tools zG, sL zN p0.Steps zM], .agg #[iv p1.X, iv p1.Y], .agg #[bV p2.Flip, iv p2.Quarters, iv p2.At.X, iv p2.At.Y]].toArray w.W fun e W' => e = .returned (bV r) ∧ HF w W' E0 := by
 unfold KG at H
 have leB := Bs.Le.refl w
 refine Tr.enter (n := 110) Tryz.func3 rfl rfl rfl hE (Tr.sr (Tr.box 1 (cs := [iv p0.Unit, sL zF p0.Tools zG, sL zN p0.Steps zM]) (wn rfl) rfl rfl rfl fun zw => (Tr.box 2 (cs := [iv p1.X, iv p1.Y]) (wn rfl) rfl rfl rfl fun Qw => (Tr.box 3 (cs := [bV p2.Flip, iv p2.Quarters, iv p2.At.X, iv p2.At.Y]) (wn rfl) rfl rfl rfl fun KP => (Tr.asg rfl rfl (Tr.nil (Tr.zA (Tr.sr (Tr.va rfl (fun _ _ a c => zX (cs := [iv p0.Unit, sL zF p0.Tools zG, sL zN p0.Steps zM]) Wt Kn (a.ev rfl) (zO.take (rdb c (vs := [iv p0.Unit, sL zF p0.Tools zG, sL zN p0.Steps zM]) (k := 1) rfl 0) 3) rfl) ?_)))))))))
 obtain ⟨zk, zCr, H⟩ := bnd H
 refine Tr.VB [4] [emp] (U := (Option Addr × Nat)) (fun u => (.tuple #[sL u.1 zk.1 u.2, iv zk.2])) (fun u => SlF u.1 zk.1.length u.2) (fun u => [ow u.1 u.2 40 zR zk.1]) rfl (zQ rfl za) (fun _ => rfl) (wn rfl) rfl Tryz.call4 (zH rfl zP) (fun W hW hp hE => zEx N p0 zF zG (zT.zAS (hW.JE hp)) zN zM (QV.zAS (hW.JE hp)) zk zCr hE) ?_
 intro u hu
 obtain ⟨JN, JL⟩ := u
 have gy103_0 := hu
 have zG0 : SlF JN zk.1.length JL := gy103_0 --@phi
 dsimp only
 refine Tr.mv rfl rfl (Tr.va rfl (fun _ _ a c => Qb (a.ev rfl) rfl) (Tr.va rfl (fun _ _ a c => Qb (a.ev rfl) rfl) (Tr.asg rfl rfl (Tr.asg rfl rfl (Tr.nil (Tr.zA (Tr.seq (Tr.sr (Tr.mv rfl rfl (Tr.va rfl (fun _ _ a c => Jm (a.ev rfl) (a.ev rfl)) (Tr.nil (Tr.zA (Tr.cond rfl H (fun H => ?_) (fun H => ?_))))))))))))))
 ·refine Tr.sr (Tr.mv rfl rfl (Tr.va rfl (fun _ _ a c => QF zA7 (a.ev rfl)) (Tr.va rfl (fun _ _ a c => Ql (a.ev rfl) (a.ev rfl)) (Tr.mv rfl rfl ?_))))
  obtain ⟨zO6, zCg, H⟩ := bnd H
  refine Tr.Vw 2 [(31, bV zO6)] [(1, bx zw #[iv p0.Unit, sL zF p0.Tools zG, sL zN p0.Steps zM] 25), (2, bx Qw #[iv p1.X, iv p1.Y] 27), (3, bx KP #[bV p2.Flip, iv p2.Quarters, iv p2.At.X, iv p2.At.Y] 29), (4, ow JN JL 40 zR zk.1)] ?_ ?_
  ·cases zCL : ((zk.1.length : Int) == 0)
   ·rw [zCL] at zCg
    rw [if_neg (by decide)] at zCg
    have H := zCg
    obtain rfl := oI H
    exact Tr.pass rfl rfl rfl rfl rfl (by decide) (Tr.va rfl (fun _ _ a c => zy (a.ev rfl) (a.ev rfl)) (Tr.nil (Tr.JD (.cons rfl .nil) (.cons rfl (.cons rfl (.cons rfl (.cons rfl .nil)))))))
   ·rw [zCL] at zCg
    rw [if_pos rfl] at zCg
    have H := zCg
    obtain ⟨zIP, zTa, H⟩ := bnd H
    refine Tr.Qa (r := (bV zIP)) (wg rfl rfl rfl) rfl Tryz.call5 zP (fun W hW => WK N zIP zTa (HF.start _)) (Tr.va rfl (fun _ _ a c => zx (a.ev rfl) (a.ev rfl)) ?_)
    obtain rfl := oI H
    exact Tr.nil (Tr.JD (.cons rfl .nil) (.cons rfl (.cons rfl (.cons rfl (.cons rfl .nil)))))
  ·show Tr _ _ (LF [(31, bV zO6)]) (LE [(1, bx zw #[iv p0.Unit, sL zF p0.Tools zG, sL zN p0.Steps zM] 25), (2, bx Qw #[iv p1.X, iv p1.Y] 27), (3, bx KP #[bV p2.Flip, iv p2.Quarters, iv p2.At.X, iv p2.At.Y] 29), (4, ow JN JL 40 zR zk.1)]) _
   refine Tr.asg rfl rfl (Tr.nil (Tr.zA (Tr.ret (Tr.zb ?_))))
   obtain rfl := oI H
   exact Tr.out (m := [bV zO6]) [] (zU rfl zV) (fun W hW => ⟨rfl, hW.low leB⟩)
 ·refine Tr.skip (Tr.zA (Tr.sr (Tr.va rfl (fun _ _ a c => zX (cs := [iv p0.Unit, sL zF p0.Tools zG, sL zN p0.Steps zM]) Wt Kn (a.ev rfl) (zO.take (rdb c (vs := [iv p0.Unit, sL zF p0.Tools zG, sL zN p0.Steps zM]) (k := 1) rfl 0) 3) rfl) (Tr.va rfl (fun _ _ a c => zX (cs := [iv p1.X, iv p1.Y]) Kk JG (a.ev rfl) (zO.take (rdb c (vs := [iv p1.X, iv p1.Y]) (k := 2) rfl 0) 2) rfl) ?_))))
  obtain ⟨zBb, zZq, H⟩ := bnd H
  refine Tr.VC [] [] (U := (Option Addr × Nat) × (Option Addr × Nat)) (fun u => (.tuple #[.agg #[iv zBb.1.Unit, sL u.1.1 zBb.1.Tools u.1.2, sL u.2.1 zBb.1.Steps u.2.2], iv zBb.2])) (fun O W u => Sl O W zW u.1.1 u.1.2 zBb.1.Tools ∧ Sl O W zJ u.2.1 u.2.2 zBb.1.Steps) (fun u => []) rfl za (fun _ => rfl) (wn rfl) rfl Tryz.call6 (zH rfl (zH rfl zP)) (fun W hW hp hE => zNR N p0 zF zG (zT.zAS (hW.JE hp)) zN zM (QV.zAS (hW.JE hp)) p1 zBb zZq hE) ?_
  intro w u zK2 hu
  obtain ⟨⟨zFQ, zFI⟩, ⟨zFP, zFH⟩⟩ := u
  obtain ⟨gy108_0, gy108_1⟩ := hu
  replace zT := zT.le zK2
  replace QV := QV.le zK2
  replace leB := leB.trans zK2
  have zaf : Sl w.O w.W zW zFQ zFI zBb.1.Tools := gy108_0 --@phi
  have zae : Sl w.O w.W zJ zFP zFH zBb.1.Steps := gy108_1 --@phi
  dsimp only
  refine Tr.mv rfl rfl (Tr.va rfl (fun _ _ a c => Qb (a.ev rfl) rfl) (Tr.va rfl (fun _ _ a c => Qb (a.ev rfl) rfl) (Tr.alloc 5 (wn rfl) rfl zNz fun ziu => (Tr.store 5 (cs := [iv zBb.1.Unit, sL zFQ zBb.1.Tools zFI, sL zFP zBb.1.Steps zFH]) [iv zBb.1.Unit, sL zFQ zBb.1.Tools zFI, sL zFP zBb.1.Steps zFH] (wn rfl) rfl rfl rfl rfl Kn rfl rfl rfl (Tr.asg rfl rfl (Tr.nil (Tr.zA ?_)))))))
  have leJ122 := Bs.Le.refl w
  refine Tr.zIu (σ := Unit) (fun w _ => QX N p0 p2 zk = some r) (fun _ => [(3, pV zw), (5, pV KP), (7, sL JN zk.1 JL)]) (fun _ => [(1, bx zw #[iv p0.Unit, sL zF p0.Tools zG, sL zN p0.Steps zM] 25), (3, bx KP #[bV p2.Flip, iv p2.Quarters, iv p2.At.X, iv p2.At.Y] 29), (4, ow JN JL 40 zR zk.1)]) ?_ ?_
  ·refine Tr.sr (Tr.mv rfl rfl (Tr.va rfl (fun _ _ a c => Ql (a.ev rfl) (a.ev rfl)) (Tr.nil (Tr.zA (Tr.cond rfl H (fun H => ?_) (fun H => ?_))))))
   ·refine Tr.sr (Tr.va rfl (fun _ _ a c => zX (cs := [iv zBb.1.Unit, sL zFQ zBb.1.Tools zFI, sL zFP zBb.1.Steps zFH]) Wt Kn (a.ev rfl) (zO.take (rdb c (vs := [iv zBb.1.Unit, sL zFQ zBb.1.Tools zFI, sL zFP zBb.1.Steps zFH]) (k := 5) rfl 0) 3) rfl) ?_)
    obtain ⟨zKe, zku, H⟩ := bnd H
    refine Tr.VB [11] [emp] (U := (Option Addr × Nat)) (fun u => (.tuple #[sL u.1 zKe.1 u.2, iv zKe.2])) (fun u => SlF u.1 zKe.1.length u.2) (fun u => [ow u.1 u.2 40 zR zKe.1]) rfl (zQ rfl za) (fun _ => rfl) (wn rfl) rfl Tryz.call4 (zH rfl zP) (fun W hW hp hE => zEx N zBb.1 zFQ zFI (zaf.zAS (hW.JE hp)) zFP zFH (zae.zAS (hW.JE hp)) zKe zku hE) ?_
    intro u hu
    obtain ⟨zLp, zLQ⟩ := u
    have gy143_0 := hu
    have zmd : SlF zLp zKe.1.length zLQ := gy143_0 --@phi
    dsimp only
    refine Tr.mv rfl rfl (Tr.va rfl (fun _ _ a c => Qb (a.ev rfl) rfl) (Tr.va rfl (fun _ _ a c => Qb (a.ev rfl) rfl) (Tr.asg rfl rfl (Tr.asg rfl rfl (Tr.nil (Tr.zA (Tr.sr (Tr.mv rfl rfl (Tr.va rfl (fun _ _ a c => zX (cs := [iv p1.X, iv p1.Y]) Kk JG (a.ev rfl) (zO.take (rdb c (vs := [iv p1.X, iv p1.Y]) (k := 2) rfl 0) 2) rfl) (Tr.build (vs := [(2, .agg #[iv p1.X, iv p1.Y])]) (cs := [bV false, iv 0, iv p1.X, iv p1.Y]) (wn rfl) rfl (zi rfl QW) (by kernel_rfl) ?_))))))))))
    obtain ⟨zKd, zkt, H⟩ := bnd H
    refine Tr.VB [12] [emp] (U := (Option Addr × Nat)) (fun u => (.tuple #[sL u.1 zKd.1 u.2, iv zKd.2])) (fun u => SlF u.1 zKd.1.length u.2) (fun u => [ow u.1 u.2 40 zR zKd.1]) rfl (zQ rfl za) (fun _ => rfl) (wn rfl) rfl Tryz.call7 (zH rfl (zH rfl zP)) (fun W hW hp hE => zDO N zk.1 JN JL (hW.slS (k := 4) rfl hp rfl) (Qf.mk false 0 p1) zKd zkt hE) ?_
    intro u hu
    obtain ⟨zLo, zLP⟩ := u
    have gy145_0 := hu
    have zmc : SlF zLo zKd.1.length zLP := gy145_0 --@phi
    dsimp only
    refine Tr.mv rfl rfl (Tr.va rfl (fun _ _ a c => Qb (a.ev rfl) rfl) (Tr.va rfl (fun _ _ a c => Qb (a.ev rfl) rfl) (Tr.asg rfl rfl (Tr.asg rfl rfl (Tr.nil (Tr.zA (Tr.sr (Tr.mv rfl rfl (Tr.va rfl (fun _ _ a c => Ql (a.ev rfl) (a.ev rfl)) (Tr.mv rfl rfl ?_))))))))))
    obtain ⟨zc4, zQf, H⟩ := bnd H
    refine Tr.Vw 9 [(3, pV zw), (5, pV KP), (7, sL JN zk.1 JL), (63, bV zc4)] [(1, bx zw #[iv p0.Unit, sL zF p0.Tools zG, sL zN p0.Steps zM] 25), (2, bx Qw #[iv p1.X, iv p1.Y] 27), (3, bx KP #[bV p2.Flip, iv p2.Quarters, iv p2.At.X, iv p2.At.Y] 29), (4, ow JN JL 40 zR zk.1), (5, bx ziu #[iv zBb.1.Unit, sL zFQ zBb.1.Tools zFI, sL zFP zBb.1.Steps zFH] 25), (11, ow zLp zLQ 40 zR zKe.1), (12, ow zLo zLP 40 zR zKd.1)] ?_ ?_
    ·cases zTq : (zKe.2 == 0)
     ·rw [zTq] at zQf
      rw [if_neg (by decide)] at zQf
      have H := zQf
      obtain rfl := oI H
      refine Tr.pass rfl rfl rfl rfl rfl (by decide) (Tr.pass rfl rfl rfl rfl rfl (by decide) (Tr.pass rfl rfl rfl rfl rfl (by decide) (Tr.VA rfl rfl rfl rfl (by decide) (Tr.VA rfl rfl rfl rfl (by decide) (Tr.VA rfl rfl rfl rfl (by decide) (Tr.VA rfl rfl rfl rfl (by decide) ?_))))))
      exact Tr.pass rfl rfl rfl rfl rfl (by decide) (Tr.va rfl (fun _ _ a c => zy (a.ev rfl) (a.ev rfl)) (Tr.nil (Tr.JD (.cons rfl (.cons rfl (.cons rfl (.cons rfl .nil)))) (.cons rfl (.cons rfl (.cons rfl (.cons rfl (.cons rfl (.cons rfl (.cons rfl .nil))))))))))
     ·rw [zTq] at zQf
      rw [if_pos rfl] at zQf
      have H := zQf
      refine Tr.val (wg rfl rfl rfl) rfl (fun _ _ a c => run_move (a.ev rfl)) (Tr.val (wg rfl rfl rfl) rfl (fun _ _ a c => Jm (a.ev rfl) (a.ev rfl)) (Tr.val (wg rfl rfl rfl) rfl (fun _ _ a c => run_move (a.ev rfl)) ?_))
      obtain ⟨zan, zQe, H⟩ := bnd H
      refine Tr.Vw 5 [(3, pV zw), (5, pV KP), (7, sL JN zk.1 JL), (54, bV true), (62, bV zan)] [(1, bx zw #[iv p0.Unit, sL zF p0.Tools zG, sL zN p0.Steps zM] 25), (2, bx Qw #[iv p1.X, iv p1.Y] 27), (3, bx KP #[bV p2.Flip, iv p2.Quarters, iv p2.At.X, iv p2.At.Y] 29), (4, ow JN JL 40 zR zk.1), (5, bx ziu #[iv zBb.1.Unit, sL zFQ zBb.1.Tools zFI, sL zFP zBb.1.Steps zFH] 25), (11, ow zLp zLQ 40 zR zKe.1), (12, ow zLo zLP 40 zR zKd.1)] ?_ ?_
      ·cases zTq : (zKd.2 != 0)
       ·rw [zTq] at zQe
        rw [if_neg (by decide)] at zQe
        have H := zQe
        refine Tr.val (wg rfl rfl rfl) rfl (fun _ _ a c => run_move (a.ev rfl)) (Tr.val (wg rfl rfl rfl) rfl (fun _ _ a c => run_move (a.ev rfl)) ?_)
        obtain ⟨y153, hy153, H⟩ := bnd H
        refine Tr.Qa (r := (bV y153)) (wg rfl rfl rfl) rfl Tryz.call8 (zH rfl (zH rfl zP)) (fun W hW => zBi zKe.1 zLp zLQ (hW.zCj (k := 11) rfl) zKd.1 zLo zLP (hW.zCj (k := 12) rfl) y153 hy153 (HF.start _)) (Tr.val (wg rfl rfl rfl) rfl (fun _ _ a c => KD (a.ev rfl)) (Tr.val (wg rfl rfl rfl) rfl (fun _ _ a c => zy (a.ev rfl) (a.ev rfl)) ?_))
        obtain rfl := oI H
        exact Tr.nil (Tr.JD (.cons rfl (.cons rfl (.cons rfl (.cons rfl (.cons rfl .nil))))) (.cons rfl (.cons rfl (.cons rfl (.cons rfl (.cons rfl (.cons rfl (.cons rfl .nil))))))))
       ·rw [zTq] at zQe
        rw [if_pos rfl] at zQe
        have H := zQe
        obtain rfl := oI H
        exact Tr.pass rfl rfl rfl rfl rfl (by decide) (Tr.pass rfl rfl rfl rfl rfl (by decide) (Tr.pass rfl rfl rfl rfl rfl (by decide) (Tr.pass rfl rfl rfl rfl rfl (by decide) (Tr.val (wg rfl rfl rfl) rfl (fun _ _ a c => zx (a.ev rfl) (a.ev rfl)) (Tr.nil (Tr.JD (.cons rfl (.cons rfl (.cons rfl (.cons rfl (.cons rfl .nil))))) (.cons rfl (.cons rfl (.cons rfl (.cons rfl (.cons rfl (.cons rfl (.cons rfl .nil)))))))))))))
      ·dsimp only
       refine Tr.va rfl (fun _ _ a c => zx (a.ev rfl) (a.ev rfl)) ?_
       obtain rfl := oI H
       exact Tr.nil (Tr.JD (.cons rfl (.cons rfl (.cons rfl (.cons rfl .nil)))) (.cons rfl (.cons rfl (.cons rfl (.cons rfl (.cons rfl (.cons rfl (.cons rfl .nil))))))))
    ·show Tr _ _ (LF [(3, pV zw), (5, pV KP), (7, sL JN zk.1 JL), (63, bV zc4)]) (LE [(1, bx zw #[iv p0.Unit, sL zF p0.Tools zG, sL zN p0.Steps zM] 25), (2, bx Qw #[iv p1.X, iv p1.Y] 27), (3, bx KP #[bV p2.Flip, iv p2.Quarters, iv p2.At.X, iv p2.At.Y] 29), (4, ow JN JL 40 zR zk.1), (5, bx ziu #[iv zBb.1.Unit, sL zFQ zBb.1.Tools zFI, sL zFP zBb.1.Steps zFH] 25), (11, ow zLp zLQ 40 zR zKe.1), (12, ow zLo zLP 40 zR zKd.1)]) _
     refine Tr.nil (Tr.zA (Tr.cond rfl H (fun H => ?_) (fun H => ?_)))
     ·refine Tr.sr (Tr.asg rfl rfl (Tr.nil (Tr.zA (Tr.ret (Tr.zb ?_)))))
      obtain rfl := oI H
      exact Tr.out (m := [bV false]) [] (zU rfl zV) (fun W hW => ⟨rfl, hW.low leB⟩)
     ·exact Tr.skip (Tr.zf leJ122 () H (.cons rfl (.cons rfl (.cons rfl .nil))) (.cons rfl (.cons rfl (.cons rfl .nil))))
   ·exact Tr.skip (Tr.zf leJ122 () H (.cons rfl (.cons rfl (.cons rfl .nil))) (.cons rfl (.cons rfl (.cons rfl .nil))))
  ·intro w _ hlJ123 hs
   have H := hs
   replace H : QX N p0 p2 zk = some r := H
   replace zT := zT.le hlJ123
   replace QV := QV.le hlJ123
   replace leB := leB.trans hlJ123
   unfold QX at H
   show Tr _ _ (LF [(3, pV zw), (5, pV KP), (7, sL JN zk.1 JL)]) (LE [(1, bx zw #[iv p0.Unit, sL zF p0.Tools zG, sL zN p0.Steps zM] 25), (3, bx KP #[bV p2.Flip, iv p2.Quarters, iv p2.At.X, iv p2.At.Y] 29), (4, ow JN JL 40 zR zk.1)]) _
   refine Tr.sr (Tr.va rfl (fun _ _ a c => zX (cs := [iv p0.Unit, sL zF p0.Tools zG, sL zN p0.Steps zM]) Wt Kn (a.ev rfl) (zO.take (rdb c (vs := [iv p0.Unit, sL zF p0.Tools zG, sL zN p0.Steps zM]) (k := 1) rfl 0) 3) rfl) (Tr.va rfl (fun _ _ a c => zX (cs := [bV p2.Flip, iv p2.Quarters, iv p2.At.X, iv p2.At.Y]) zIz zIB (a.ev rfl) (zO.take (rdb c (vs := [bV p2.Flip, iv p2.Quarters, iv p2.At.X, iv p2.At.Y]) (k := 3) rfl 0) 4) rfl) ?_))
   obtain ⟨Ky, zTV, H⟩ := bnd H
   refine Tr.VC [] [] (U := (Option Addr × Nat) × (Option Addr × Nat)) (fun u => (.tuple #[.agg #[iv Ky.1.Unit, sL u.1.1 Ky.1.Tools u.1.2, sL u.2.1 Ky.1.Steps u.2.2], iv Ky.2])) (fun O W u => Sl O W zW u.1.1 u.1.2 Ky.1.Tools ∧ Sl O W zJ u.2.1 u.2.2 Ky.1.Steps) (fun u => []) rfl za (fun _ => rfl) (wn rfl) rfl Tryz.call9 (zH rfl (zH rfl zP)) (fun W hW hp hE => zI9 N p0 zF zG (zT.zAS (hW.JE hp)) zN zM (QV.zAS (hW.JE hp)) p2 Ky zTV hE) ?_
   intro w u zj1 hu
   obtain ⟨⟨zA3, zAt⟩, ⟨zA2, zAs⟩⟩ := u
   obtain ⟨gy124_0, gy124_1⟩ := hu
   replace leB := leB.trans zj1
   have zaY : Sl w.O w.W zW zA3 zAt Ky.1.Tools := gy124_0 --@phi
   have zaX : Sl w.O w.W zJ zA2 zAs Ky.1.Steps := gy124_1 --@phi
   dsimp only
   refine Tr.mv rfl rfl (Tr.va rfl (fun _ _ a c => Qb (a.ev rfl) rfl) (Tr.va rfl (fun _ _ a c => Qb (a.ev rfl) rfl) (Tr.alloc 8 (wn rfl) rfl zNz fun zPs => (Tr.store 8 (cs := [iv Ky.1.Unit, sL zA3 Ky.1.Tools zAt, sL zA2 Ky.1.Steps zAs]) [iv Ky.1.Unit, sL zA3 Ky.1.Tools zAt, sL zA2 Ky.1.Steps zAs] (wn rfl) rfl rfl rfl rfl Kn rfl rfl rfl (Tr.asg rfl rfl (Tr.nil (Tr.zA (Tr.seq (Tr.sr (Tr.mv rfl rfl (Tr.va rfl (fun _ _ a c => Jm (a.ev rfl) (a.ev rfl)) (Tr.nil (Tr.zA (Tr.cond rfl H (fun H => ?_) (fun H => ?_)))))))))))))))
   ·refine Tr.sr (Tr.va rfl (fun _ _ a c => zB Vg (a.ev rfl)) (Tr.va rfl (fun _ _ a c => zD zm (a.ev rfl) (rdb c (vs := [iv Ky.1.Unit, sL zA3 Ky.1.Tools zAt, sL zA2 Ky.1.Steps zAs]) (k := 8) rfl 0) rfl) (Tr.va rfl (fun _ _ a c => Ql (a.ev rfl) (a.ev rfl)) (Tr.mv rfl rfl ?_))))
    obtain ⟨zas, zQk, H⟩ := bnd H
    refine Tr.Vw 2 [(77, bV zas)] [(1, bx zw #[iv p0.Unit, sL zF p0.Tools zG, sL zN p0.Steps zM] 25), (3, bx KP #[bV p2.Flip, iv p2.Quarters, iv p2.At.X, iv p2.At.Y] 29), (4, ow JN JL 40 zR zk.1), (8, bx zPs #[iv Ky.1.Unit, sL zA3 Ky.1.Tools zAt, sL zA2 Ky.1.Steps zAs] 25)] ?_ ?_
    ·cases zeZ : (Ky.1.Unit == 0)
     ·rw [zeZ] at zQk
      rw [if_neg (by decide)] at zQk
      have H := zQk
      obtain rfl := oI H
      exact Tr.pass rfl rfl rfl rfl rfl (by decide) (Tr.va rfl (fun _ _ a c => zy (a.ev rfl) (a.ev rfl)) (Tr.nil (Tr.JD (.cons rfl .nil) (.cons rfl (.cons rfl (.cons rfl (.cons rfl .nil)))))))
     ·rw [zeZ] at zQk
      rw [if_pos rfl] at zQk
      have H := zQk
      obtain ⟨zbs, zk1, H⟩ := bnd H
      refine Tr.Qa (r := (bV zbs)) (wg rfl rfl rfl) rfl Tryz.call5 zP (fun W hW => WK N zbs zk1 (HF.start _)) (Tr.va rfl (fun _ _ a c => zx (a.ev rfl) (a.ev rfl)) ?_)
      obtain rfl := oI H
      exact Tr.nil (Tr.JD (.cons rfl .nil) (.cons rfl (.cons rfl (.cons rfl (.cons rfl .nil)))))
    ·show Tr _ _ (LF [(77, bV zas)]) (LE [(1, bx zw #[iv p0.Unit, sL zF p0.Tools zG, sL zN p0.Steps zM] 25), (3, bx KP #[bV p2.Flip, iv p2.Quarters, iv p2.At.X, iv p2.At.Y] 29), (4, ow JN JL 40 zR zk.1), (8, bx zPs #[iv Ky.1.Unit, sL zA3 Ky.1.Tools zAt, sL zA2 Ky.1.Steps zAs] 25)]) _
     refine Tr.asg rfl rfl (Tr.nil (Tr.zA (Tr.ret (Tr.zb ?_))))
     obtain rfl := oI H
     exact Tr.out (m := [bV zas]) [] (zU rfl zV) (fun W hW => ⟨rfl, hW.low leB⟩)
   ·refine Tr.skip (Tr.zA (Tr.sr (Tr.va rfl (fun _ _ a c => zX (cs := [iv Ky.1.Unit, sL zA3 Ky.1.Tools zAt, sL zA2 Ky.1.Steps zAs]) Wt Kn (a.ev rfl) (zO.take (rdb c (vs := [iv Ky.1.Unit, sL zA3 Ky.1.Tools zAt, sL zA2 Ky.1.Steps zAs]) (k := 8) rfl 0) 3) rfl) ?_)))
    obtain ⟨WL, zTS, H⟩ := bnd H
    refine Tr.VB [9] [emp] (U := (Option Addr × Nat)) (fun u => (.tuple #[sL u.1 WL.1 u.2, iv WL.2])) (fun u => SlF u.1 WL.1.length u.2) (fun u => [ow u.1 u.2 40 zR WL.1]) rfl (zQ rfl za) (fun _ => rfl) (wn rfl) rfl Tryz.call4 (zH rfl zP) (fun W hW hp hE => zEx N Ky.1 zA3 zAt (zaY.zAS (hW.JE hp)) zA2 zAs (zaX.zAS (hW.JE hp)) WL zTS hE) ?_
    intro u hu
    obtain ⟨zEQ, zEK⟩ := u
    have gy130_0 := hu
    have zmf : SlF zEQ WL.1.length zEK := gy130_0 --@phi
    dsimp only
    refine Tr.mv rfl rfl (Tr.va rfl (fun _ _ a c => Qb (a.ev rfl) rfl) (Tr.va rfl (fun _ _ a c => Qb (a.ev rfl) rfl) (Tr.asg rfl rfl (Tr.asg rfl rfl (Tr.nil (Tr.zA (Tr.sr (Tr.mv rfl rfl (Tr.va rfl (fun _ _ a c => zX (cs := [bV p2.Flip, iv p2.Quarters, iv p2.At.X, iv p2.At.Y]) zIz zIB (a.ev rfl) (zO.take (rdb c (vs := [bV p2.Flip, iv p2.Quarters, iv p2.At.X, iv p2.At.Y]) (k := 3) rfl 0) 4) rfl) ?_)))))))))
    obtain ⟨zHI, zk0, H⟩ := bnd H
    refine Tr.VB [10] [emp] (U := (Option Addr × Nat)) (fun u => (.tuple #[sL u.1 zHI.1 u.2, iv zHI.2])) (fun u => SlF u.1 zHI.1.length u.2) (fun u => [ow u.1 u.2 40 zR zHI.1]) rfl (zQ rfl za) (fun _ => rfl) (wn rfl) rfl Tryz.call7 (zH rfl (zH rfl zP)) (fun W hW hp hE => zDO N zk.1 JN JL (hW.slS (k := 4) rfl hp rfl) p2 zHI zk0 hE) ?_
    intro u hu
    obtain ⟨zEP, zEJ⟩ := u
    have gy132_0 := hu
    have zme : SlF zEP zHI.1.length zEJ := gy132_0 --@phi
    dsimp only
    refine Tr.mv rfl rfl (Tr.va rfl (fun _ _ a c => Qb (a.ev rfl) rfl) (Tr.va rfl (fun _ _ a c => Qb (a.ev rfl) rfl) (Tr.asg rfl rfl (Tr.asg rfl rfl (Tr.nil (Tr.zA (Tr.seq (Tr.sr (Tr.mv rfl rfl (Tr.va rfl (fun _ _ a c => Jm (a.ev rfl) (a.ev rfl)) (Tr.nil (Tr.zA (Tr.cond rfl H (fun H => ?_) (fun H => ?_))))))))))))))
    ·refine Tr.sr (Tr.mv rfl rfl (Tr.va rfl (fun _ _ a c => Ql (a.ev rfl) (a.ev rfl)) (Tr.mv rfl rfl (Tr.Vw 3 [(96, bV ((WL.2 == 1) || (WL.2 == 2)))] [(1, bx zw #[iv p0.Unit, sL zF p0.Tools zG, sL zN p0.Steps zM] 25), (3, bx KP #[bV p2.Flip, iv p2.Quarters, iv p2.At.X, iv p2.At.Y] 29), (4, ow JN JL 40 zR zk.1), (8, bx zPs #[iv Ky.1.Unit, sL zA3 Ky.1.Tools zAt, sL zA2 Ky.1.Steps zAs] 25), (9, ow zEQ zEK 40 zR WL.1), (10, ow zEP zEJ 40 zR zHI.1)] ?_ ?_))))
     ·cases zak : (WL.2 == 1)
      ·exact Tr.val (wg rfl rfl rfl) rfl (fun _ _ a c => run_move (a.ev rfl)) (Tr.val (wg rfl rfl rfl) rfl (fun _ _ a c => Ql (a.ev rfl) (a.ev rfl)) (Tr.va rfl (fun _ _ a c => zy (a.ev rfl) (a.ev rfl)) (Tr.nil (Tr.JD (.cons rfl .nil) (.cons rfl (.cons rfl (.cons rfl (.cons rfl (.cons rfl (.cons rfl .nil))))))))))
      ·exact Tr.pass rfl rfl rfl rfl rfl (by decide) (Tr.pass rfl rfl rfl rfl rfl (by decide) (Tr.va rfl (fun _ _ a c => zx (a.ev rfl) (a.ev rfl)) (Tr.nil (Tr.JD (.cons rfl .nil) (.cons rfl (.cons rfl (.cons rfl (.cons rfl (.cons rfl (.cons rfl .nil))))))))))
     ·show Tr _ _ (LF [(96, bV ((WL.2 == 1) || (WL.2 == 2)))]) (LE [(1, bx zw #[iv p0.Unit, sL zF p0.Tools zG, sL zN p0.Steps zM] 25), (3, bx KP #[bV p2.Flip, iv p2.Quarters, iv p2.At.X, iv p2.At.Y] 29), (4, ow JN JL 40 zR zk.1), (8, bx zPs #[iv Ky.1.Unit, sL zA3 Ky.1.Tools zAt, sL zA2 Ky.1.Steps zAs] 25), (9, ow zEQ zEK 40 zR WL.1), (10, ow zEP zEJ 40 zR zHI.1)]) _
      refine Tr.mv rfl rfl ?_
      obtain ⟨zar, zQi, H⟩ := bnd H
      refine Tr.Vw 2 [(99, bV zar)] [(1, bx zw #[iv p0.Unit, sL zF p0.Tools zG, sL zN p0.Steps zM] 25), (3, bx KP #[bV p2.Flip, iv p2.Quarters, iv p2.At.X, iv p2.At.Y] 29), (4, ow JN JL 40 zR zk.1), (8, bx zPs #[iv Ky.1.Unit, sL zA3 Ky.1.Tools zAt, sL zA2 Ky.1.Steps zAs] 25), (9, ow zEQ zEK 40 zR WL.1), (10, ow zEP zEJ 40 zR zHI.1)] ?_ ?_
      ·cases zak : ((WL.2 == 1) || (WL.2 == 2))
       ·rw [zak] at zQi
        rw [if_neg (by decide)] at zQi
        have H := zQi
        obtain rfl := oI H
        exact Tr.pass rfl rfl rfl rfl rfl (by decide) (Tr.va rfl (fun _ _ a c => zy (a.ev rfl) (a.ev rfl)) (Tr.nil (Tr.JD (.cons rfl .nil) (.cons rfl (.cons rfl (.cons rfl (.cons rfl (.cons rfl (.cons rfl .nil)))))))))
       ·rw [zak] at zQi
        rw [if_pos rfl] at zQi
        have H := zQi
        obtain ⟨zbr, zkx, H⟩ := bnd H
        refine Tr.Qa (r := (bV zbr)) (wg rfl rfl rfl) rfl Tryz.call5 zP (fun W hW => WK N zbr zkx (HF.start _)) (Tr.va rfl (fun _ _ a c => zx (a.ev rfl) (a.ev rfl)) ?_)
        obtain rfl := oI H
        exact Tr.nil (Tr.JD (.cons rfl .nil) (.cons rfl (.cons rfl (.cons rfl (.cons rfl (.cons rfl (.cons rfl .nil)))))))
      ·show Tr _ _ (LF [(99, bV zar)]) (LE [(1, bx zw #[iv p0.Unit, sL zF p0.Tools zG, sL zN p0.Steps zM] 25), (3, bx KP #[bV p2.Flip, iv p2.Quarters, iv p2.At.X, iv p2.At.Y] 29), (4, ow JN JL 40 zR zk.1), (8, bx zPs #[iv Ky.1.Unit, sL zA3 Ky.1.Tools zAt, sL zA2 Ky.1.Steps zAs] 25), (9, ow zEQ zEK 40 zR WL.1), (10, ow zEP zEJ 40 zR zHI.1)]) _
       refine Tr.asg rfl rfl (Tr.nil (Tr.zA (Tr.ret (Tr.zb ?_))))
       obtain rfl := oI H
       exact Tr.out (m := [bV zar]) [] (zU rfl zV) (fun W hW => ⟨rfl, hW.low leB⟩)
    ·refine Tr.skip (Tr.zA (Tr.sr (Tr.mv rfl rfl (Tr.va rfl (fun _ _ a c => Ql (a.ev rfl) (a.ev rfl)) (Tr.mv rfl rfl ?_)))))
     obtain ⟨zaq, zQh, H⟩ := bnd H
     refine Tr.Vw 4 [(106, bV zaq)] [(1, bx zw #[iv p0.Unit, sL zF p0.Tools zG, sL zN p0.Steps zM] 25), (3, bx KP #[bV p2.Flip, iv p2.Quarters, iv p2.At.X, iv p2.At.Y] 29), (4, ow JN JL 40 zR zk.1), (8, bx zPs #[iv Ky.1.Unit, sL zA3 Ky.1.Tools zAt, sL zA2 Ky.1.Steps zAs] 25), (9, ow zEQ zEK 40 zR WL.1), (10, ow zEP zEJ 40 zR zHI.1)] ?_ ?_
     ·cases zTr : (zHI.2 == 0)
      ·rw [zTr] at zQh
       rw [if_neg (by decide)] at zQh
       have H := zQh
       obtain rfl := oI H
       exact Tr.pass rfl rfl rfl rfl rfl (by decide) (Tr.pass rfl rfl rfl rfl rfl (by decide) (Tr.pass rfl rfl rfl rfl rfl (by decide) (Tr.va rfl (fun _ _ a c => zy (a.ev rfl) (a.ev rfl)) (Tr.nil (Tr.JD (.cons rfl .nil) (.cons rfl (.cons rfl (.cons rfl (.cons rfl (.cons rfl (.cons rfl .nil)))))))))))
      ·rw [zTr] at zQh
       rw [if_pos rfl] at zQh
       have H := zQh
       refine Tr.val (wg rfl rfl rfl) rfl (fun _ _ a c => run_move (a.ev rfl)) (Tr.val (wg rfl rfl rfl) rfl (fun _ _ a c => run_move (a.ev rfl)) ?_)
       obtain ⟨zbq, zkw, H⟩ := bnd H
       refine Tr.Qa (r := (bV zbq)) (wg rfl rfl rfl) rfl Tryz.call8 (zH rfl (zH rfl zP)) (fun W hW => zBi WL.1 zEQ zEK (hW.zCj (k := 9) rfl) zHI.1 zEP zEJ (hW.zCj (k := 10) rfl) zbq zkw (HF.start _)) (Tr.va rfl (fun _ _ a c => zx (a.ev rfl) (a.ev rfl)) ?_)
       obtain rfl := oI H
       exact Tr.nil (Tr.JD (.cons rfl .nil) (.cons rfl (.cons rfl (.cons rfl (.cons rfl (.cons rfl (.cons rfl .nil)))))))
     ·show Tr _ _ (LF [(106, bV zaq)]) (LE [(1, bx zw #[iv p0.Unit, sL zF p0.Tools zG, sL zN p0.Steps zM] 25), (3, bx KP #[bV p2.Flip, iv p2.Quarters, iv p2.At.X, iv p2.At.Y] 29), (4, ow JN JL 40 zR zk.1), (8, bx zPs #[iv Ky.1.Unit, sL zA3 Ky.1.Tools zAt, sL zA2 Ky.1.Steps zAs] 25), (9, ow zEQ zEK 40 zR WL.1), (10, ow zEP zEJ 40 zR zHI.1)]) _
      refine Tr.mv rfl rfl ?_
      obtain ⟨zao, zQg, H⟩ := bnd H
      refine Tr.Vw 2 [(109, bV zao)] [(1, bx zw #[iv p0.Unit, sL zF p0.Tools zG, sL zN p0.Steps zM] 25), (3, bx KP #[bV p2.Flip, iv p2.Quarters, iv p2.At.X, iv p2.At.Y] 29), (4, ow JN JL 40 zR zk.1), (8, bx zPs #[iv Ky.1.Unit, sL zA3 Ky.1.Tools zAt, sL zA2 Ky.1.Steps zAs] 25), (9, ow zEQ zEK 40 zR WL.1), (10, ow zEP zEJ 40 zR zHI.1)] ?_ ?_
      ·cases zTr : zaq
       ·rw [zTr] at zQg
        rw [if_neg (by decide)] at zQg
        have H := zQg
        obtain rfl := oI H
        exact Tr.pass rfl rfl rfl rfl rfl (by decide) (Tr.va rfl (fun _ _ a c => zy (a.ev rfl) (a.ev rfl)) (Tr.nil (Tr.JD (.cons rfl .nil) (.cons rfl (.cons rfl (.cons rfl (.cons rfl (.cons rfl (.cons rfl .nil)))))))))
       ·rw [zTr] at zQg
        rw [if_pos rfl] at zQg
        have H := zQg
        obtain ⟨zbp, zkv, H⟩ := bnd H
        refine Tr.Qa (r := (bV zbp)) (wg rfl rfl rfl) rfl Tryz.call5 zP (fun W hW => WK N zbp zkv (HF.start _)) (Tr.va rfl (fun _ _ a c => zx (a.ev rfl) (a.ev rfl)) ?_)
        obtain rfl := oI H
        exact Tr.nil (Tr.JD (.cons rfl .nil) (.cons rfl (.cons rfl (.cons rfl (.cons rfl (.cons rfl (.cons rfl .nil)))))))
      ·show Tr _ _ (LF [(109, bV zao)]) (LE [(1, bx zw #[iv p0.Unit, sL zF p0.Tools zG, sL zN p0.Steps zM] 25), (3, bx KP #[bV p2.Flip, iv p2.Quarters, iv p2.At.X, iv p2.At.Y] 29), (4, ow JN JL 40 zR zk.1), (8, bx zPs #[iv Ky.1.Unit, sL zA3 Ky.1.Tools zAt, sL zA2 Ky.1.Steps zAs] 25), (9, ow zEQ zEK 40 zR WL.1), (10, ow zEP zEJ 40 zR zHI.1)]) _
       refine Tr.asg rfl rfl (Tr.nil (Tr.zA (Tr.ret ?_)))
       obtain rfl := oI H
       exact Tr.out (m := [bV zao]) [] (zU rfl zV) (fun W hW => ⟨rfl, hW.low leB⟩)

end Go.Proofs.YtneghcpnehiffaaGreatDoor
