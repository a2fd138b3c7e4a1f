/- The panel's check, as the program and the reference compute it: the same error. Plain Lean about the plain functions. -/
import Derived.Test.YtfddmjoldoddlaaXF
import Derived.Test.YtfddmjoldoddlaaA0
namespace Go.Proofs.Ytfddmjoldoddlaa
/-- Fuel that is enough for a panel. -/
structure Fuel (N : Nat) (p : TPanel) : Prop where
  big : 20000000 ≤ N
  kinds : p.Kinds.length < N
  slots : p.Slots.length < N
  marks : p.Marks.length < N
  names : ∀ k ∈ p.Kinds, k.Name.size < N
/-- What is known of an argument's lists. -/
structure Arg (p : TPanel) : Prop where
  kinds : p.Kinds.length ≤ 4611686018427387903
  slots : p.Slots.length ≤ 4611686018427387903
  marks : p.Marks.length ≤ 4611686018427387903
  names : ∀ k ∈ p.Kinds, k.Name.size ≤ 9223372036854775807
-- names
theorem strAt_ok {s : ByteArray} {i : Int} (h0 : 0 ≤ i) (h : i < s.size) : ∃ c, strAt s i = some c := by
  unfold strAt
  rw [if_pos h0]
  have : i.toNat < s.size := by omega
  exact ⟨_, by rw [getElem?_pos s i.toNat this]; rfl⟩
theorem IsName_some (s : ByteArray) (hs : s.size ≤ 9223372036854775807) : ∀ (r m : Nat) (x : Int), 0 ≤ x → x ≤ s.size → (s.size : Int) - x = r → r < m → ∃ b, F_plot_IsName_L1 s m x = some b ∧ ∀ m', r < m' → F_plot_IsName_L1 s m' x = some b
  | 0, m + 1, x, h0, h1, h2, _ => by
    have : x = s.size := by omega
    subst this
    refine ⟨_, by rw [F_plot_IsName_L1.eq_2, if_neg (by simp)], fun m' hm' => ?_⟩
    cases m' with
    | zero => omega
    | succ m' => rw [F_plot_IsName_L1.eq_2, if_neg (by simp)]
  | r + 1, m + 1, x, h0, h1, h2, h3 => by
    have hlt : x < s.size := by omega
    obtain ⟨c, hc⟩ := strAt_ok h0 hlt
    obtain ⟨b, hb, hb'⟩ := IsName_some s hs r m (x + 1) (by omega) (by omega) (by omega) (by omega)
    have hw : w64 (x + 1) = x + 1 := w64_eq (by omega) (by omega)
    have key : ∀ m', r + 1 < m' + 1 → F_plot_IsName_L1 s (m' + 1) x = if ((!(((decide (97 ≤ c)) && (decide (c ≤ 122))) || ((decide (65 ≤ c)) && (decide (c ≤ 90))))) && ((x == 0) || ((((decide (c < 48)) || (decide (57 < c))) && (c != 95)) && (c != 45)))) then some false else some b := fun m' hm' => by
      rw [F_plot_IsName_L1.eq_2, if_pos (by simpa using hlt), hc, Option.bind_some, hw, hb' m' (by omega)]
    generalize ((!(((decide (97 ≤ c)) && (decide (c ≤ 122))) || ((decide (65 ≤ c)) && (decide (c ≤ 90))))) && ((x == 0) || ((((decide (c < 48)) || (decide (57 < c))) && (c != 95)) && (c != 45)))) = g at key
    cases g
    · refine ⟨b, by rw [key m (by omega)]; rfl, fun m' hm' => ?_⟩
      obtain ⟨m2, rfl⟩ : ∃ m2, m' = m2 + 1 := ⟨m' - 1, by omega⟩
      rw [key m2 (by omega)]; rfl
    · refine ⟨false, by rw [key m (by omega)]; rfl, fun m' hm' => ?_⟩
      obtain ⟨m2, rfl⟩ : ∃ m2, m' = m2 + 1 := ⟨m' - 1, by omega⟩
      rw [key m2 (by omega)]; rfl
theorem IsName_same (s : ByteArray) : ∀ (m : Nat) (x : Int), F_etchhouseref3_IsName_L1 s m x = F_plot_IsName_L1 s m x
  | 0, _ => rfl
  | m + 1, x => by
    rw [F_etchhouseref3_IsName_L1.eq_2, F_plot_IsName_L1.eq_2]
    split
    · congr 1
      funext c
      rw [IsName_same s m]
      have : ((!(((decide (97 ≤ c)) && (decide (c ≤ 122))) || ((decide (65 ≤ c)) && (decide (c ≤ 90))))) && ((x == 0) || (((c != 95) && (c != 45)) && (!((decide (48 ≤ c)) && (decide (c ≤ 57))))))) = ((!(((decide (97 ≤ c)) && (decide (c ≤ 122))) || ((decide (65 ≤ c)) && (decide (c ≤ 90))))) && ((x == 0) || ((((decide (c < 48)) || (decide (57 < c))) && (c != 95)) && (c != 45)))) := by
        rw [Bool.eq_iff_iff]
        simp only [Bool.and_eq_true, Bool.or_eq_true, Bool.not_eq_true', bne_iff_ne, beq_iff_eq, decide_eq_true_eq, decide_eq_false_iff_not, Bool.and_eq_false_iff, Bool.or_eq_false_iff]
        omega
      rw [this]
    · rfl
/-- Is this a name? -/
def nameOk (s : ByteArray) : Bool := (F_plot_IsName_L1 s (s.size + 1) 0).getD false
theorem IsName_ok {s : ByteArray} {N : Nat} (hs : s.size ≤ 9223372036854775807) (hN : s.size < N) : F_plot_IsName N s = some (nameOk s) := by
  obtain ⟨b, hb, hb'⟩ := IsName_some s hs s.size (s.size + 1) 0 (by omega) (by omega) (by omega) (by omega)
  unfold F_plot_IsName nameOk
  rw [hb, hb' N hN]; rfl
theorem IsNameR_ok {s : ByteArray} {N : Nat} (hs : s.size ≤ 9223372036854775807) (hN : s.size < N) : F_etchhouseref3_IsName N s = some (nameOk s) := by
  unfold F_etchhouseref3_IsName
  rw [IsName_same]; exact IsName_ok hs hN
theorem within_ok (n lo hi : Int) : F_panel_within n lo hi = some (within n lo hi) := rfl
theorem withinR_ok (n lo hi : Int) : F_etchhouseref9_within n lo hi = some (within n lo hi) := rfl
-- kinds
/-- The error of the kinds, the name before known. -/
def kindsErr : Option ByteArray → List TBoardKind → Int
  | _, [] => 0
  | prev, k :: rest => if nameOk k.Name = false then 5 else if within k.W 1 1000000 = false ∨ within k.H 1 1000000 = false then 1
      else if (prev.any fun q => sLt k.Name q || sEq k.Name q) = true then 8 else kindsErr (some k.Name) rest
def checkKinds (l : List TBoardKind) : Int := if 50 < l.length then 2 else kindsErr none l
def prevOf (pre : List TBoardKind) : Option ByteArray := pre.getLast?.map (·.Name)
theorem kinds_loop {N : Nat} : ∀ (suf pre : List TBoardKind), (pre ++ suf).length ≤ 50 → (∀ k ∈ suf, k.Name.size ≤ 9223372036854775807 ∧ k.Name.size < N) → F_panel_checkKinds_L1 N (pre ++ suf) suf pre.length = some (kindsErr (prevOf pre) suf)
  | [], pre, _, _ => by rw [F_panel_checkKinds_L1.eq_1]; rfl
  | k :: suf, pre, hl, hn => by
    have ih := kinds_loop (N := N) suf (pre ++ [k]) (by simpa using hl) (fun k' hk' => hn k' (by simp [hk']))
    obtain ⟨h1, h2⟩ := hn k (by simp)
    have hpr : prevOf (pre ++ [k]) = some k.Name := by simp [prevOf]
    rw [hpr, ← snoc_mid, show (pre ++ [k]).length = pre.length + 1 by simp] at ih
    rw [F_panel_checkKinds_L1.eq_2, IsName_ok h1 h2, Option.bind_some]
    unfold kindsErr
    cases nameOk k.Name
    · rfl
    simp only [Bool.not_true, Bool.false_eq_true, if_false, reduceCtorEq, within_ok, Option.bind_some]
    cases hW : within k.W 1 1000000
    · simp
    cases hH : within k.H 1 1000000
    · simp
    simp only [Bool.not_true, Bool.false_eq_true, if_false, Option.bind_some, or_self, reduceCtorEq]
    rcases List.eq_nil_or_concat pre with rfl | ⟨pre', q, rfl⟩
    · simp only [List.length_nil, prevOf, List.getLast?_nil, Option.map_none, Option.any_none, Bool.false_eq_true, if_false]
      rw [if_neg (by simp), Option.bind_some]
      simp only [Bool.false_eq_true, if_false]
      simpa using ih
    · rw [List.concat_eq_append] at hl ih ⊢
      have hq : prevOf (pre' ++ [q]) = some q.Name := by simp [prevOf]
      rw [hq, if_pos (by simp), w64_id (by simp <;> omega) (by simp at hl ⊢ <;> omega), show (((pre' ++ [q]).length : Int) - 1) = (pre'.length : Int) by simp, List.append_assoc, List.singleton_append, idx_mid, Option.bind_some, Option.bind_some]
      rw [List.append_assoc, List.singleton_append] at ih
      simp only [Option.any_some]
      rw [ih]
      split <;> rfl
theorem checkKinds_ok {N : Nat} {l : List TBoardKind} (hn : ∀ k ∈ l, k.Name.size ≤ 9223372036854775807 ∧ k.Name.size < N) : F_panel_checkKinds N l = some (checkKinds l) := by
  unfold F_panel_checkKinds checkKinds
  by_cases h : 50 < l.length
  · rw [if_pos (by simp; omega), if_pos h]
  · rw [if_neg (by simp; omega), if_neg h]
    have := kinds_loop (N := N) l [] (by simp; omega) hn
    simpa [prevOf] using this
-- the same of the reference
theorem kindsR_loop {N : Nat} {p : TPanel} {K : Option Int} : ∀ (suf pre : List TBoardKind) (m : Nat), p.Kinds = pre ++ suf → p.Kinds.length ≤ 50 → (∀ k ∈ suf, k.Name.size ≤ 9223372036854775807 ∧ k.Name.size < N) → suf.length < m →
    (if decide (500 < (p.Slots.length : Int)) then some 2 else F_etchhouseref9_CheckPanel_L2 N p N 0) = K →
    F_etchhouseref9_CheckPanel_L1 N p m pre.length = if kindsErr (prevOf pre) suf = 0 then K else some (kindsErr (prevOf pre) suf)
  | [], pre, m + 1, hp, hl, _, _, hK => by
    rw [F_etchhouseref9_CheckPanel_L1.eq_2, hp, lt_end, if_neg (by simp), hK]
    simp [kindsErr]
  | k :: suf, pre, m + 1, hp, hl, hn, hm, hK => by
    have hpl : pre.length ≤ 50 := by rw [hp] at hl; simp at hl; omega
    have ih := kindsR_loop (N := N) suf (pre ++ [k]) m (by rw [hp]; simp) hl (fun k' hk' => hn k' (by simp [hk'])) (by simp at hm; omega) hK
    obtain ⟨h1, h2⟩ := hn k (by simp)
    have hpr : prevOf (pre ++ [k]) = some k.Name := by simp [prevOf]
    rw [hpr] at ih
    rw [F_etchhouseref9_CheckPanel_L1.eq_2, hp, lt_mid, if_pos rfl, idx_mid, Option.bind_some, IsNameR_ok h1 h2, Option.bind_some, up_mid _ k (by omega), ih]
    rw [kindsErr]
    cases nameOk k.Name
    · rfl
    simp only [Bool.not_true, Bool.false_eq_true, if_false, reduceCtorEq, withinR_ok, Option.bind_some]
    cases hW : within k.W 1 1000000
    · simp
    cases hH : within k.H 1 1000000
    · simp
    simp only [Bool.not_true, Bool.false_eq_true, if_false, Option.bind_some, or_self, reduceCtorEq]
    rcases List.eq_nil_or_concat pre with rfl | ⟨pre', q, rfl⟩
    · simp only [List.length_nil, prevOf, List.getLast?_nil, Option.map_none, Option.any_none, Bool.false_eq_true, if_false]
      rw [if_neg (by simp), Option.bind_some]
      simp only [Bool.false_eq_true, if_false]
    · rw [List.concat_eq_append] at hpl ⊢
      have hq : prevOf (pre' ++ [q]) = some q.Name := by simp [prevOf]
      rw [hq, if_pos (by simp), w64_id (by simp <;> omega) (by simp at hpl ⊢ <;> omega), show (((pre' ++ [q]).length : Int) - 1) = (pre'.length : Int) by simp, List.append_assoc, List.singleton_append, idx_mid, Option.bind_some, Option.bind_some]
      simp only [Option.any_some]
      split <;> simp
-- a kind by its name
def kindIx (l : List TBoardKind) (nm : ByteArray) : Int := ixOf (fun k => sEq k.Name nm) l 0
theorem IndexK_ok {g : TBoardKind → Bool} {f : TBoardKind → Option Bool} : ∀ (l : List TBoardKind) (i : Nat), (∀ x ∈ l, f x = some (g x)) → F_slices_IndexFunc_BoardKind_L1 f l i = some (ixOf g l i)
  | [], i, _ => rfl
  | x :: l, i, h => by
    rw [F_slices_IndexFunc_BoardKind_L1.eq_2, h x (by simp), Option.bind_some, IndexK_ok l (i + 1) (fun y hy => h y (by simp [hy])), ixOf, show ((i + 1 : Nat) : Int) = (i : Int) + 1 by omega]
    cases g x <;> rfl
theorem kindAt_ok (p : TPanel) (nm : ByteArray) : F_panel_kindAt p nm = some (kindIx p.Kinds nm) := by
  unfold F_panel_kindAt F_slices_IndexFunc_BoardKind
  rw [IndexK_ok (f := fun z0 => F_panel_kindAt_1 z0 nm) (g := fun k => sEq k.Name nm) p.Kinds 0 (fun x _ => rfl)]
  rfl
theorem kindR_loop {p : TPanel} {nm : ByteArray} : ∀ (suf pre : List TBoardKind) (m : Nat), p.Kinds = pre ++ suf → p.Kinds.length ≤ 4611686018427387903 → suf.length < m → F_etchhouseref9_kind_L1 p nm m pre.length = some (ixOf (fun k => sEq k.Name nm) suf pre.length)
  | [], pre, m + 1, hp, _, _ => by
    rw [F_etchhouseref9_kind_L1.eq_2, hp, lt_end]; rfl
  | k :: suf, pre, m + 1, hp, hl, hm => by
    have ih := kindR_loop (nm := nm) suf (pre ++ [k]) m (by rw [hp]; simp) hl (by simp at hm; omega)
    have hpl : pre.length ≤ 4611686018427387903 := by rw [hp] at hl; simp at hl; omega
    rw [F_etchhouseref9_kind_L1.eq_2, hp, lt_mid, if_pos rfl, idx_mid, Option.bind_some, up_mid _ k hpl, ih]
    rw [ixOf]
    cases sEq k.Name nm
    · simp
    · simp
theorem kindR_ok {N : Nat} {p : TPanel} (nm : ByteArray) (hl : p.Kinds.length ≤ 4611686018427387903) (hN : p.Kinds.length < N) : F_etchhouseref9_kind N p nm = some (kindIx p.Kinds nm) := by
  unfold F_etchhouseref9_kind kindIx
  simpa using kindR_loop (nm := nm) p.Kinds [] N rfl hl hN
-- sizes and cells
def sizeW (k : TBoardKind) (q : Int) : Int := if Int.tmod q 2 = 1 then k.H else k.W
def sizeH (k : TBoardKind) (q : Int) : Int := if Int.tmod q 2 = 1 then k.W else k.H
theorem sizeOf_ok (k : TBoardKind) (q : Int) : F_panel_sizeOf k q = some (sizeW k q, sizeH k q) := by
  unfold F_panel_sizeOf sizeW sizeH
  by_cases h : Int.tmod q 2 = 1 <;> simp [h]
theorem sizeOfR_ok (k : TBoardKind) (q : Int) : F_etchhouseref9_sizeOf k q = some (sizeW k q, sizeH k q) := sizeOf_ok k q
def kindAtI (l : List TBoardKind) (i : Int) : TBoardKind := (l[i.toNat]?).getD ⟨ByteArray.empty, 0, 0⟩
def kindOf (l : List TBoardKind) (nm : ByteArray) : TBoardKind := kindAtI l (kindIx l nm)
theorem kindIx_lo (l : List TBoardKind) (nm : ByteArray) : (kindIx l nm = -1) ∨ (0 ≤ kindIx l nm ∧ idx l (kindIx l nm) = some (kindOf l nm) ∧ kindOf l nm ∈ l ∧ (kindOf l nm).Name = nm) := by
  rcases ixOf_lo (fun k : TBoardKind => sEq k.Name nm) l 0 (by omega) with ⟨h, _⟩ | ⟨h1, h2, x, h3, h4⟩
  · exact .inl h
  · right
    have h3' : l[(kindIx l nm).toNat]? = some x := by
      have : (ixOf (fun k : TBoardKind => sEq k.Name nm) l 0 - 0).toNat = (kindIx l nm).toNat := by unfold kindIx; omega
      rw [← this]; exact h3
    have hk : kindOf l nm = x := by unfold kindOf kindAtI; rw [h3']; rfl
    have h1' : 0 ≤ kindIx l nm := h1
    refine ⟨h1', ?_, ?_, ?_⟩
    · unfold idx; rw [if_pos h1', h3', hk]
    · rw [hk]; exact List.mem_of_getElem? h3'
    · rw [hk]; exact sEq_iff.1 h4
/-- The cell of a slot (in whole numbers). -/
def cellOf (p : TPanel) (s : TSlot) : TRect := ⟨s.At.X, s.At.Y, s.At.X + sizeW (kindOf p.Kinds s.Board) s.Quarters, s.At.Y + sizeH (kindOf p.Kinds s.Board) s.Quarters⟩
/-- The bounds that a checked panel's numbers have. -/
structure PB (p : TPanel) : Prop where
  w0 : 1 ≤ p.W
  w1 : p.W ≤ 1000000
  h0 : 1 ≤ p.H
  h1 : p.H ≤ 1000000
  r0 : 0 ≤ p.Rail
  r1 : p.Rail ≤ 1000000
  g0 : 0 ≤ p.Gap
  g1 : p.Gap ≤ 1000000
  kinds : ∀ k ∈ p.Kinds, 1 ≤ k.W ∧ k.W ≤ 1000000 ∧ 1 ≤ k.H ∧ k.H ≤ 1000000
  klen : p.Kinds.length ≤ 50
theorem kindsErr_ok : ∀ {l : List TBoardKind} {q : Option ByteArray}, kindsErr q l = 0 → ∀ k ∈ l, 1 ≤ k.W ∧ k.W ≤ 1000000 ∧ 1 ≤ k.H ∧ k.H ≤ 1000000
  | [], _, _, k, hk => by cases hk
  | a :: l, q, h, k, hk => by
    unfold kindsErr at h
    split at h
    · omega
    · split at h
      · omega
      · rename_i h2
        split at h
        · omega
        · rcases List.mem_cons.1 hk with rfl | hk
          · have a1 : within k.W 1 1000000 = true := by cases hh : within k.W 1 1000000 <;> simp_all
            have a2 : within k.H 1 1000000 = true := by cases hh : within k.H 1 1000000 <;> simp_all
            have := within_iff.1 a1; have := within_iff.1 a2
            omega
          · exact kindsErr_ok h k hk
theorem sizeWH {p : TPanel} (hB : PB p) {nm : ByteArray} (h : kindIx p.Kinds nm ≠ -1) (q : Int) : 1 ≤ sizeW (kindOf p.Kinds nm) q ∧ sizeW (kindOf p.Kinds nm) q ≤ 1000000 ∧ 1 ≤ sizeH (kindOf p.Kinds nm) q ∧ sizeH (kindOf p.Kinds nm) q ≤ 1000000 := by
  rcases kindIx_lo p.Kinds nm with h' | ⟨_, _, hm, _⟩
  · exact absurd h' h
  · have := hB.kinds _ hm
    unfold sizeW sizeH
    split <;> omega
theorem cellOf_ok {p : TPanel} {s : TSlot} (hB : PB p) (hk : kindIx p.Kinds s.Board ≠ -1) (hx : -1000000000 ≤ s.At.X ∧ s.At.X ≤ 1000000000) (hy : -1000000000 ≤ s.At.Y ∧ s.At.Y ≤ 1000000000) : F_panel_cellOf p s = some (cellOf p s) := by
  have hs := sizeWH hB hk s.Quarters
  rcases kindIx_lo p.Kinds s.Board with h' | ⟨_, hi, _, _⟩
  · exact absurd h' hk
  · unfold F_panel_cellOf cellOf
    rw [kindAt_ok, Option.bind_some, hi, Option.bind_some, sizeOf_ok, Option.bind_some]
    simp only [w64_id (x := s.At.X + sizeW (kindOf p.Kinds s.Board) s.Quarters) (by omega) (by omega), w64_id (x := s.At.Y + sizeH (kindOf p.Kinds s.Board) s.Quarters) (by omega) (by omega)]
theorem cellOfR_ok {N : Nat} {p : TPanel} {s : TSlot} (hB : PB p) (hN : p.Kinds.length < N) (hk : kindIx p.Kinds s.Board ≠ -1) (hx : -1000000000 ≤ s.At.X ∧ s.At.X ≤ 1000000000) (hy : -1000000000 ≤ s.At.Y ∧ s.At.Y ≤ 1000000000) : F_etchhouseref9_cellOf N p s = some (cellOf p s) := by
  have hs := sizeWH hB hk s.Quarters
  rcases kindIx_lo p.Kinds s.Board with h' | ⟨_, hi, _, _⟩
  · exact absurd h' hk
  · unfold F_etchhouseref9_cellOf cellOf
    rw [kindR_ok _ (by have := hB.klen; omega) hN, Option.bind_some, hi, Option.bind_some, sizeOfR_ok, Option.bind_some]
    simp only [w64_id (x := s.At.X + sizeW (kindOf p.Kinds s.Board) s.Quarters) (by omega) (by omega), w64_id (x := s.At.Y + sizeH (kindOf p.Kinds s.Board) s.Quarters) (by omega) (by omega)]
-- slots
def apart (a b : TRect) (gap : Int) : Bool := ((decide (a.X1 + gap ≤ b.X0) || decide (b.X1 + gap ≤ a.X0)) || decide (a.Y1 + gap ≤ b.Y0)) || decide (b.Y1 + gap ≤ a.Y0)
def RB (r : TRect) : Prop := (-1000000000 ≤ r.X0 ∧ r.X0 ≤ 1000000000) ∧ (-1000000000 ≤ r.Y0 ∧ r.Y0 ≤ 1000000000) ∧ (-1000000000 ≤ r.X1 ∧ r.X1 ≤ 1000000000) ∧ (-1000000000 ≤ r.Y1 ∧ r.Y1 ≤ 1000000000)
theorem apart_ok {a b : TRect} {gap : Int} (ha : RB a) (hb : RB b) (h0 : 0 ≤ gap) (h1 : gap ≤ 1000000) : F_panel_isApart a b gap = some (apart a b gap) := by
  unfold RB at ha hb
  unfold F_panel_isApart apart
  rw [w64_id (x := a.X1 + gap) (by omega) (by omega), w64_id (x := b.X1 + gap) (by omega) (by omega), w64_id (x := a.Y1 + gap) (by omega) (by omega), w64_id (x := b.Y1 + gap) (by omega) (by omega)]
theorem apartR_ok {a b : TRect} {gap : Int} (ha : RB a) (hb : RB b) (h0 : 0 ≤ gap) (h1 : gap ≤ 1000000) : F_etchhouseref9_apart a b gap = some (apart a b gap) := apart_ok ha hb h0 h1
/-- Does the cell lie within the rail? -/
def okAt (p : TPanel) (s : TSlot) : Bool := (decide (p.Rail ≤ s.At.X) && decide ((cellOf p s).X1 ≤ p.W - p.Rail)) && (decide (p.Rail ≤ s.At.Y) && decide ((cellOf p s).Y1 ≤ p.H - p.Rail))
def slotErr (p : TPanel) (prev : List TRect) (s : TSlot) : Int :=
  if kindIx p.Kinds s.Board = -1 then 5 else if within s.Quarters 0 3 = false then 1 else if okAt p s = false then 1 else if (prev.any fun d => !apart (cellOf p s) d p.Gap) = true then 12 else 0
def slotsErr (p : TPanel) : List TRect → List TSlot → Int
  | _, [] => 0
  | prev, s :: rest => if slotErr p prev s = 0 then slotsErr p (prev ++ [cellOf p s]) rest else slotErr p prev s
structure SlotOk (p : TPanel) (s : TSlot) : Prop where
  kind : kindIx p.Kinds s.Board ≠ -1
  q0 : 0 ≤ s.Quarters
  q1 : s.Quarters ≤ 3
  x0 : p.Rail ≤ s.At.X
  y0 : p.Rail ≤ s.At.Y
  x1 : (cellOf p s).X1 ≤ p.W - p.Rail
  y1 : (cellOf p s).Y1 ≤ p.H - p.Rail
theorem slotErr_ok {p : TPanel} {prev : List TRect} {s : TSlot} (h : slotErr p prev s = 0) : SlotOk p s := by
  unfold slotErr at h
  split at h
  · omega
  · rename_i h1
    split at h
    · omega
    · rename_i h2
      split at h
      · omega
      · rename_i h3
        have a1 : within s.Quarters 0 3 = true := by cases hh : within s.Quarters 0 3 <;> simp_all
        have a2 : okAt p s = true := by cases hh : okAt p s <;> simp_all
        have b1 := within_iff.1 a1
        unfold okAt at a2
        simp only [Bool.and_eq_true, decide_eq_true_eq] at a2
        exact ⟨h1, b1.1, b1.2, a2.1.1, a2.2.1, a2.1.2, a2.2.2⟩
theorem SlotOk.bd {p : TPanel} {s : TSlot} (hB : PB p) (h : SlotOk p s) : (-1000000000 ≤ s.At.X ∧ s.At.X ≤ 1000000000) ∧ (-1000000000 ≤ s.At.Y ∧ s.At.Y ≤ 1000000000) ∧ RB (cellOf p s) ∧ (cellOf p s).X0 < (cellOf p s).X1 ∧ (cellOf p s).Y0 < (cellOf p s).Y1 ∧ 0 ≤ (cellOf p s).X0 ∧ 0 ≤ (cellOf p s).Y0 ∧ (cellOf p s).X1 ≤ 1000000 ∧ (cellOf p s).Y1 ≤ 1000000 := by
  obtain ⟨h1, h2, h3, h4, h5, h6, h7⟩ := h
  have hs := sizeWH hB h1 s.Quarters
  have b1 := hB.w1; have b2 := hB.h1; have b3 := hB.r0; have b4 := hB.r1
  unfold RB
  unfold cellOf at *
  dsimp only at *
  omega
theorem ContainsR_ok {g : TRect → Bool} {f : TRect → Option Bool} {l : List TRect} (h : ∀ x ∈ l, f x = some (g x)) : F_slices_ContainsFunc_Rect l f = some (l.any g) := by
  have key : ∀ (l : List TRect) (i : Nat), (∀ x ∈ l, f x = some (g x)) → F_slices_IndexFunc_Rect_L1 f l i = some (ixOf g l i) := by
    intro l
    induction l with
    | nil => intro i _; rfl
    | cons x l ih =>
      intro i h
      rw [F_slices_IndexFunc_Rect_L1.eq_2, h x (by simp), Option.bind_some, ih (i + 1) (fun y hy => h y (by simp [hy])), ixOf, show ((i + 1 : Nat) : Int) = (i : Int) + 1 by omega]
      cases g x <;> rfl
  unfold F_slices_ContainsFunc_Rect F_slices_IndexFunc_Rect
  rw [key l 0 h, Option.bind_some, show ((0 : Nat) : Int) = 0 from rfl, ixOf_any g l 0 (by omega)]
theorem slot_step {p : TPanel} (hB : PB p) {prev : List TRect} {s : TSlot} (hprev : ∀ r ∈ prev, RB r) {K : List TRect → Option (List TRect × Int)} :
    ((F_panel_kindAt p s.Board).bind fun y34 =>
    if (decide (y34 < 0)) then
      some (([] : List TRect), 5)
    else
      (F_panel_within s.Quarters 0 3).bind fun y35 =>
      (if (!y35) then some true else (F_panel_within s.At.X 0 p.W).bind fun y38 => some (!y38)).bind fun g37 =>
      (if g37 then some true else (F_panel_within s.At.Y 0 p.H).bind fun y41 => some (!y41)).bind fun g40 =>
      if g40 then
        some (([] : List TRect), 1)
      else
        (F_panel_cellOf p s).bind fun y42 =>
        (F_panel_isOn p y42).bind fun y43 =>
        if (!y43) then
          some (([] : List TRect), 1)
        else
          (F_slices_ContainsFunc_Rect prev (fun z0 => F_panel_cells_1 z0 y42 p)).bind fun y44 =>
          if y44 then
            some (([] : List TRect), 12)
          else
            (apd prev [y42]).bind fun l45 => K l45) =
    if slotErr p prev s = 0 then (apd prev [cellOf p s]).bind K else some ([], slotErr p prev s) := by
  have b1 := hB.w0; have b2 := hB.w1; have b3 := hB.h0; have b4 := hB.h1; have b5 := hB.r0; have b6 := hB.r1
  rw [kindAt_ok, Option.bind_some]
  unfold slotErr
  rcases kindIx_lo p.Kinds s.Board with hk | ⟨hk, _, _, _⟩
  · rw [if_pos hk, hk]; simp
  have hk1 : kindIx p.Kinds s.Board ≠ -1 := by omega
  rw [if_neg (by simpa using hk), if_neg hk1]
  simp only [within_ok, Option.bind_some]
  cases hQ : within s.Quarters 0 3
  · simp
  have hsz := sizeWH hB hk1 s.Quarters
  simp only [Bool.not_true, Bool.false_eq_true, if_false, Option.bind_some, reduceCtorEq]
  by_cases hat : within s.At.X 0 p.W = true ∧ within s.At.Y 0 p.H = true
  · obtain ⟨hX, hY⟩ := hat
    have wx := within_iff.1 hX; have wy := within_iff.1 hY
    rw [hX, hY]
    simp only [Bool.not_true, Bool.false_eq_true, if_false, Option.bind_some]
    rw [cellOf_ok hB hk1 (by omega) (by omega), Option.bind_some]
    unfold F_panel_isOn
    rw [Option.bind_some, w64_id (x := p.W - p.Rail) (by omega) (by omega), w64_id (x := p.H - p.Rail) (by omega) (by omega)]
    have hon : ((((((decide (p.Rail ≤ (cellOf p s).X0)) && (decide (p.Rail ≤ (cellOf p s).Y0))) && (decide ((cellOf p s).X0 ≤ p.W))) && (decide ((cellOf p s).Y0 ≤ p.H))) && (decide ((cellOf p s).X1 ≤ p.W - p.Rail))) && (decide ((cellOf p s).Y1 ≤ p.H - p.Rail))) = okAt p s := by
      unfold okAt cellOf
      rw [Bool.eq_iff_iff]
      simp only [Bool.and_eq_true, decide_eq_true_eq]
      omega
    rw [hon]
    cases hO : okAt p s
    · simp
    have hsl : SlotOk p s := by
      have a2 := hO
      unfold okAt at a2
      simp only [Bool.and_eq_true, decide_eq_true_eq] at a2
      exact ⟨hk1, (within_iff.1 hQ).1, (within_iff.1 hQ).2, a2.1.1, a2.2.1, a2.1.2, a2.2.2⟩
    have hrb := (hsl.bd hB).2.2.1
    rw [ContainsR_ok (g := fun d => !apart (cellOf p s) d p.Gap) (fun d hd => by
      unfold F_panel_cells_1
      rw [apart_ok hrb (hprev d hd) hB.g0 hB.g1]; rfl)]
    simp only [Bool.not_true, Bool.false_eq_true, if_false, Option.bind_some, reduceCtorEq]
    cases hA : (prev.any fun d => !apart (cellOf p s) d p.Gap)
    · simp
    · simp
  · have hO : okAt p s = false := by
      rw [Bool.eq_false_iff]
      intro hO
      unfold okAt cellOf at hO
      simp only [Bool.and_eq_true, decide_eq_true_eq] at hO
      refine hat ⟨within_iff.2 (by omega), within_iff.2 (by omega)⟩
    rw [hO]
    cases hX : within s.At.X 0 p.W
    · simp
    cases hY : within s.At.Y 0 p.H
    · simp
    · exact absurd ⟨hX, hY⟩ hat
theorem cells_loop {p : TPanel} (hB : PB p) : ∀ (suf : List TSlot) (i : Nat) (prev : List TRect), prev.length + suf.length ≤ 500 → (∀ r ∈ prev, RB r) →
    F_panel_cells_L1 p suf i prev = some (if slotsErr p prev suf = 0 then (prev ++ suf.map (cellOf p), 0) else ([], slotsErr p prev suf))
  | [], i, prev, _, _ => by rw [F_panel_cells_L1.eq_1]; simp [slotsErr]
  | s :: suf, i, prev, hl, hr => by
    rw [F_panel_cells_L1.eq_2, slot_step hB hr, slotsErr]
    by_cases he : slotErr p prev s = 0
    · have hok := slotErr_ok he
      rw [if_pos he, if_pos he, apd_ok (by simp at hl ⊢; omega), Option.bind_some, cells_loop hB suf (i + 1) (prev ++ [cellOf p s]) (by simp at hl ⊢; omega) (fun r hr' => by
        rcases List.mem_append.1 hr' with h | h
        · exact hr r h
        · simp at h; subst h; exact (hok.bd hB).2.2.1)]
      simp
    · rw [if_neg he, if_neg he, if_neg he]
def cellsErr (p : TPanel) : Int := if 500 < p.Slots.length then 2 else slotsErr p [] p.Slots
theorem cells_ok {p : TPanel} (hB : PB p) : F_panel_cells p = some (if cellsErr p = 0 then (p.Slots.map (cellOf p), 0) else ([], cellsErr p)) := by
  unfold F_panel_cells cellsErr
  by_cases h : 500 < p.Slots.length
  · rw [if_pos (by simp; omega), if_pos h]; rfl
  · rw [if_neg (by simp; omega), if_neg h, cells_loop hB p.Slots 0 [] (by simp; omega) (fun r hr => by cases hr)]
    simp
theorem slotsErr_ok {p : TPanel} : ∀ {l : List TSlot} {prev : List TRect}, slotsErr p prev l = 0 → ∀ s ∈ l, SlotOk p s
  | [], _, _, s, hs => by cases hs
  | a :: l, prev, h, s, hs => by
    unfold slotsErr at h
    split at h
    · rename_i h1
      rcases List.mem_cons.1 hs with rfl | hs
      · exact slotErr_ok h1
      · exact slotsErr_ok h s hs
    · rename_i h1; exact absurd h h1
end Go.Proofs.Ytfddmjoldoddlaa
