/- The rules of maps of the call's own. Over any program. Conditions: none beyond each theorem's own. -/
import Derived.Test.YtfddmjoldoddlaaH24
namespace Go.Proofs.Ytfddmjoldoddlaa
open Go.RowKit Go.Proofs
open Go.ChangeMaps Go.MapKept
open Go.Maps (Keyed int_keyed keyOf_int_mk)
section
variable {P : Program} {w : Bs} {n : Nat} {f : Nat → Option Value} {E : Nat → Ent} {X : Act → World → Prop} {Q : Exit → Act → World → Prop} {ops : Array Oper} {rest : List Oper}
variable {d ty T MT KT VT : Nat} {pos : String} {af : Array Edge} {g : Option (Nat × Bool)} {p q x : Operand} {α : Type} {t : Fl α} {b : Nat} {ms : List (ME α)}
/-- The map's entries hold these data, and are all the map's own. -/
def MC (ms : List (ME α)) (m : List (Int × List α)) : Prop := mdat ms = m ∧ ∀ e ∈ ms, e.own = true
/-- .. but for one key, at which there is this slice. -/
def MH (ms : List (ME α)) (m : List (Int × List α)) (k : Int) (A : Option Addr) (n c : Nat) : Prop := mdat ms = m ∧ (∀ e ∈ ms, e.k ≠ k → e.own = true) ∧ mhd ms k = .slice A n c ∧ n = (mget m k).length ∧ inR k = true
theorem inR_wf {k : Int} (h : inR k = true) : (Lit.int .i64 k).wf = true := by
  unfold inR at h
  simp only [Bool.and_eq_true, decide_eq_true_eq] at h
  have e1 : IntKind.min .i64 = -9223372036854775808 := by decide
  have e2 : IntKind.max .i64 = 9223372036854775807 := by decide
  simp [Lit.wf, e1, e2, h]
theorem Tr.makeMap (κ T : Nat) (t : Fl α) (hw : Wn ops f ⟨some d, .makeMap MT none, ty, pos, af, g⟩) (hdn : Nat.blt d n = true)
    (K : ∀ b, Tr w n (uf f d (.map (some b))) (up E κ (mo b T t [])) (wpList P ops Q rest)) : Tr w n f E (wpList P ops Q (⟨some d, .makeMap MT none, ty, pos, af, g⟩ :: rest)) :=
  Tr.valW hw hdn (fun _ W _ h2 => ⟨rfl, h2.add κ ((Below.refl _ _).alloc (Nat.le_refl _) _) (mo W.heap.size T t []) (mo_loc _ _ _ _)
    ⟨⟨#[], 0, heap_alloc_new W _, rfl⟩, fun _ h => (nomatch h), .nil, fun _ h => (nomatch h)⟩ (fun b hb => by
      have hb : b = W.heap.size ∨ ∃ e ∈ ([] : List (ME α)), e.blk b := hb
      rcases hb with rfl | ⟨e, he, _⟩
      · exact ⟨Nat.le_refl _, by simp⟩
      · cases he)⟩) (fun W _ => K W.heap.size)
theorem MC.nil : MC ([] : List (ME α)) [] := ⟨rfl, fun _ h => (nomatch h)⟩
/-- The slice at a key is taken out of the map. -/
theorem Tr.mapTake (κ κ' : Nat) {m : List (Int × List α)} {l : List α} {k : Int} (hk : E κ = mo b T t ms) (hne : Nat.beq κ' κ = false) (hm : MC ms m) (hl : mgetO m k = some l)
    (K : ∀ ms' A c, MH ms' m k A l.length c → SlF A l.length c → Option.isNone A = l.isEmpty → Tr w n f (up (up E κ (mo b T t ms')) κ' (ow A c T t l)) X) : Tr w n f E X := by
  intro a W h1 h2
  have hne : κ' ≠ κ := fun e => by subst e; simp at hne
  obtain ⟨hm1, hm2⟩ := hm
  subst hm1
  unfold mgetO at hl
  split at hl
  · rename_i hr
    have hl := (Option.some.inj hl).symm
    subst hl
    have hφ := h2.phi κ
    rw [hk] at hφ
    obtain ⟨g1, g2, g3, g4⟩ := hφ
    rcases me_at k ms with ⟨q1, q2, q3, q4, q5, q6⟩ | ⟨a0, e, z, q1, q2, q3, q4, q5, q6, q7, q8⟩
    · have := K ms none 0 ⟨rfl, fun e he _ => hm2 e he, by rw [q3, q2]; rfl, rfl, hr⟩ (by rw [q2]; exact slf_nil) (by rw [q2]; rfl)
      refine this a W h1 (h2.split hne (mo_loc _ _ _ _) (ow_loc _ _ _ _ _) ⟨g1, g2, g3, g4⟩ ?_ (fun b hb => by rw [hk]; exact hb) (fun b hb => ?_) (fun b _ hb => ?_))
      · rw [q2]; exact ⟨[], .nil, by simp, .inl ⟨rfl, rfl⟩⟩
      · cases hb
      · cases hb
    · have heM : e ∈ ms := by rw [q1]; simp
      have heo := hm2 e heM
      obtain ⟨e1, e2, ⟨eA, e3⟩, e4, e5⟩ := g2 e heM
      have hpw := g3
      rw [q1] at hpw
      obtain ⟨pw1, pw2, pw3⟩ := List.pairwise_append.1 hpw
      obtain ⟨pw4, pw5⟩ := List.pairwise_cons.1 pw2
      have hz : ∀ e' ∈ z, e'.k ≠ k := fun e' he' => by rw [← q2]; exact (pw4 e' he').1.symm
      have hmem : ∀ e' ∈ a0 ++ { e with own := false } :: z, e' ∈ ms ∧ e'.k ≠ k ∨ e' = { e with own := false } := fun e' he' => by
        rcases List.mem_append.1 he' with he' | he'
        · exact .inl ⟨by rw [q1]; exact List.mem_append_left _ he', q3 e' he'⟩
        · rcases List.mem_cons.1 he' with rfl | he'
          · exact .inr rfl
          · exact .inl ⟨by rw [q1]; exact List.mem_append_right _ (List.mem_cons_of_mem _ he'), hz e' he'⟩
      have hnb : ∀ x, ¬ ({ e with own := false } : ME α).blk x := fun x hx => by cases hx.1
      have := K (mtake ms k) e.A e.c ⟨mdat_take k ms, fun e' he' hk' => by
          rw [q6] at he'
          rcases hmem e' he' with ⟨h3, _⟩ | rfl
          · exact hm2 e' h3
          · exact absurd q2 hk', by rw [mhd_take, q5, q4]; rfl, rfl, hr⟩ (by rw [q4]; exact e4) (by
          rw [q4, e3]
          cases hh : e.l with
          | nil => rw [hh] at e1; simp at e1
          | cons _ _ => rfl)
      rw [q4] at this
      refine this a W h1 (h2.split hne (mo_loc _ _ _ _) (ow_loc _ _ _ _ _) ?_ (e5 heo) (fun b' hb' => ?_) (fun b' hb' => ?_) (fun b' hb1 hb2 => ?_))
      · rw [q6]
        refine ⟨?_, fun e' he' => ?_, ?_, fun e' he' => ?_⟩
        · rw [q1] at g1
          simpa [ME.hd] using g1
        · rcases hmem e' he' with ⟨h3, _⟩ | rfl
          · exact g2 e' h3
          · exact ⟨e1, e2, ⟨eA, e3⟩, e4, fun h => by cases h⟩
        · rw [List.pairwise_append, List.pairwise_cons]
          refine ⟨pw1, ⟨fun e' he' => ⟨(pw4 e' he').1, fun x hx => absurd hx (hnb x)⟩, pw5⟩, fun e1' he1 e2' he2 => ?_⟩
          rcases List.mem_cons.1 he2 with rfl | he2
          · exact ⟨(pw3 e1' he1 e List.mem_cons_self).1, fun x _ => hnb x⟩
          · exact pw3 e1' he1 e2' (List.mem_cons_of_mem _ he2)
        · rcases hmem e' he' with ⟨h3, _⟩ | rfl
          · exact g4 e' h3
          · exact hnb b
      · rw [q6] at hb'
        rw [hk]
        rcases hb' with hb' | ⟨e', he', hx⟩
        · exact .inl hb'
        · rcases hmem e' he' with ⟨h3, _⟩ | rfl
          · exact .inr ⟨e', h3, hx⟩
          · exact absurd hx (hnb b')
      · rw [hk]
        exact .inr ⟨e, heM, heo, hb'⟩
      · have hb2 : e.blk b' := ⟨heo, hb2⟩
        rw [q6] at hb1
        rcases hb1 with hb1 | ⟨e', he', hx⟩
        · subst hb1; exact g4 e heM hb2
        · rcases List.mem_append.1 he' with he' | he'
          · exact (pw3 e' he' e List.mem_cons_self).2 b' hx hb2
          · rcases List.mem_cons.1 he' with rfl | he'
            · exact hnb b' hx
            · exact (pw4 e' he').2 b' hb2 hx
  · cases hl
theorem run_lookupM {ρ : Operand → Value} {W : World} {dd : Option Nat} {m : List (Int × List α)} {k : Int} {A : Option Addr} {n' c : Nat} (hMT : P.underlying MT = some (.map KT VT)) (hKT : P.underlying KT = some (.int .i64)) (hz : (P.info? VT).bind (·.zero) = some (.slice none 0 0))
    (hp : ρ p = .map (some b)) (hq : ρ q = .int .i64 k) (h2 : HF w W E) {κ : Nat} (hk : E κ = mo b T t ms) (hm : MH ms m k A n' c) : (execOp ρ ⟨dd, .lookup MT p q false, ty, pos, af, g⟩).run P W = .ok (.value (.slice A n' c)) W := by
  obtain ⟨m1, m2, m3, m4, m5⟩ := hm
  have hφ := h2.phi κ
  rw [hk] at hφ
  obtain ⟨⟨es, clock, hb, hes⟩, g2, g3, g4⟩ := hφ
  have K := int_keyed hKT
  have hkey := keyOf_int_mk hKT (inR_wf m5)
  have hkeys : ∀ e ∈ es.toList, ∃ l, keyOf P KT e.key = some l := fun e he => by
    have : (e.key, e.val) ∈ ms.map fun e => (Value.int .i64 e.k, e.hd) := by rw [← hes]; exact List.mem_map_of_mem (f := fun x : MapEntry => (x.key, x.val)) he
    obtain ⟨e', he', h3⟩ := List.mem_map.1 this
    have h4 := congrArg Prod.fst h3
    simp only at h4
    exact ⟨_, by rw [← h4]; exact keyOf_int_mk hKT (inR_wf (g2 e' he').2.1)⟩
  have hzr : (zeroValue VT).run P W = .ok (.slice none 0 0) W := by
    cases hi : P.info? VT with
    | none => rw [hi] at hz; cases hz
    | some inf =>
      rw [hi] at hz
      simp only [Option.bind_some] at hz
      simp [zeroValue, typeInfo, hi, hz]
  have main : (Instr.lookup MT (.map (some b)) (.int .i64 k) false).run P W = .ok (.slice A n' c) W := by
    rw [← m3]
    rcases K.find W hkey es.toList hkeys with ⟨f1, f2⟩ | ⟨j, e0, f1, f2, f3⟩
    · have hno : ∀ e ∈ ms, e.k ≠ k := fun e he hek => by
        have : (Value.int .i64 e.k, e.hd) ∈ es.toList.map fun x => (x.key, x.val) := by rw [hes]; exact List.mem_map_of_mem (f := fun e : ME α => (Value.int .i64 e.k, e.hd)) he
        obtain ⟨x0, hx0, h3⟩ := List.mem_map.1 this
        exact f2 x0 hx0 ((congrArg Prod.fst h3).trans (by show Value.int .i64 e.k = _; rw [hek]))
      rcases me_at k ms with ⟨_, _, q3, _⟩ | ⟨a0, e, z, q1, q2, _⟩
      · rw [q3]
        simp [Instr.lookup, run_underlying hMT, MapKept.run_getObj_map hb, K.check W _ hkey, f1, hzr, Result.andThen]
      · exact absurd q2 (hno e (by rw [q1]; simp))
    · have hm0 : e0 ∈ es.toList := List.mem_of_getElem? f2
      have hin : (e0.key, e0.val) ∈ ms.map fun e => (Value.int .i64 e.k, e.hd) := by rw [← hes]; exact List.mem_map_of_mem (f := fun x : MapEntry => (x.key, x.val)) hm0
      obtain ⟨e', he', h3⟩ := List.mem_map.1 hin
      have h4 : Value.int .i64 e'.k = e0.key := congrArg Prod.fst h3
      have h5 : e'.hd = e0.val := congrArg Prod.snd h3
      have hek : e'.k = k := by rw [f3] at h4; simpa using h4
      rcases me_at k ms with ⟨q1, _⟩ | ⟨a0, e, z, q1, q2, q3, _, q5, _⟩
      · exact absurd hek (q1 e' he')
      · have : e' = e := by
          rw [q1] at he' g3
          obtain ⟨_, pw2, _⟩ := List.pairwise_append.1 g3
          obtain ⟨pw4, _⟩ := List.pairwise_cons.1 pw2
          rcases List.mem_append.1 he' with he' | he'
          · exact absurd hek (q3 e' he')
          · rcases List.mem_cons.1 he' with he' | he'
            · exact he'
            · exact absurd (q2.trans hek.symm) (pw4 e' he').1
        subst this
        rw [q5, h5]
        simp [Instr.lookup, run_underlying hMT, MapKept.run_getObj_map hb, K.check W _ hkey, f1, Result.andThen]
  simp [execOp, hp, hq, main]
/-- The map gets its slice back, which has not been laid elsewhere. -/
theorem Tr.mapClose (κ κ' : Nat) {m m' : List (Int × List α)} {l' : List α} {k : Int} {A : Option Addr} {n' c : Nat} (hk : E κ = mo b T t ms) (hk' : E κ' = ow A c T t l') (hne : Nat.beq κ' κ = false) (hm : MH ms m k A n' c) (hn : l'.length = n') (hm' : mset m k l' = m')
    (K : ∀ ms', MC ms' m' → Tr w n f (up (up E κ' emp) κ (mo b T t ms')) X) : Tr w n f E X := by
  intro a W h1 h2
  have hne : κ' ≠ κ := fun e => by subst e; simp at hne
  obtain ⟨m1, m2, m3, m4, m5⟩ := hm
  subst m1 hm'
  have hφ := h2.phi κ
  rw [hk] at hφ
  obtain ⟨g1, g2, g3, g4⟩ := hφ
  have hφ' := h2.phi κ'
  rw [hk'] at hφ'
  refine K (meset ms k l') ⟨mdat_set k l' ms, ?_⟩ a W h1 (h2.merge (mo b T t (meset ms k l')) hne rfl rfl rfl (Nat.le_refl _) (Nat.le_refl _) (fun _ _ _ => rfl) (mo_loc _ _ _ _) ?_ ?_)
  · rcases me_at k ms with ⟨q1, q2, q3, q4, q5, q6⟩ | ⟨a0, e, z, q1, q2, q3, q4, q5, q6, q7, q8⟩
    · rw [q6]; exact fun e he => m2 e he (q1 e he)
    · rw [q8]
      intro e' he'
      have hz : ∀ e' ∈ z, e'.k ≠ k := fun e' he' => by
        rw [q1] at g3
        rw [← q2]; exact ((List.pairwise_cons.1 (List.pairwise_append.1 g3).2.1).1 e' he').1.symm
      rcases List.mem_append.1 he' with he' | he'
      · exact m2 e' (by rw [q1]; exact List.mem_append_left _ he') (q3 e' he')
      · rcases List.mem_cons.1 he' with rfl | he'
        · rfl
        · exact m2 e' (by rw [q1]; exact List.mem_append_right _ (List.mem_cons_of_mem _ he')) (hz e' he')
  · rcases me_at k ms with ⟨q1, q2, q3, q4, q5, q6⟩ | ⟨a0, e, z, q1, q2, q3, q4, q5, q6, q7, q8⟩
    · rw [q6]; exact ⟨g1, g2, g3, g4⟩
    · have heM : e ∈ ms := by rw [q1]; simp
      obtain ⟨e1, e2, ⟨eA, e3⟩, e4, e5⟩ := g2 e heM
      rw [q5] at m3
      have hA : e.A = A ∧ e.l.length = n' ∧ e.c = c := by simpa [ME.hd] using m3
      obtain ⟨a1, a2, a3⟩ := hA
      have hlen : l'.length = e.l.length := by omega
      have hhd : ({ e with l := l', own := true } : ME α).hd = e.hd := by simp [ME.hd, hlen]
      have hblk : ∀ x, ({ e with l := l', own := true } : ME α).blk x → (E κ').S x := fun x hx => by
        rw [hk']; have := hx.2; rw [← a1, ← a3]; exact this
      have hold : ∀ e' ∈ ms, ∀ x, e'.blk x → (E κ).S x := fun e' he' x hx => by rw [hk]; exact .inr ⟨e', he', hx⟩
      rw [q1] at g3
      obtain ⟨pw1, pw2, pw3⟩ := List.pairwise_append.1 g3
      obtain ⟨pw4, pw5⟩ := List.pairwise_cons.1 pw2
      have ha0 : ∀ e' ∈ a0, e' ∈ ms := fun e' he' => by rw [q1]; exact List.mem_append_left _ he'
      have hz0 : ∀ e' ∈ z, e' ∈ ms := fun e' he' => by rw [q1]; exact List.mem_append_right _ (List.mem_cons_of_mem _ he')
      rw [q8]
      refine ⟨?_, fun e' he' => ?_, ?_, fun e' he' => ?_⟩
      · rw [q1] at g1
        simpa [hhd] using g1
      · rcases List.mem_append.1 he' with he' | he'
        · exact g2 e' (ha0 e' he')
        · rcases List.mem_cons.1 he' with rfl | he'
          · refine ⟨by show 0 < l'.length; omega, e2, ⟨eA, e3⟩, by show SlF e.A l'.length e.c; rw [hlen]; exact e4, fun _ => ?_⟩
            show (ow e.A e.c T t l').φ w.O W
            rw [a1, a3]; exact hφ'
          · exact g2 e' (hz0 e' he')
      · rw [List.pairwise_append, List.pairwise_cons]
        refine ⟨pw1, ⟨fun e' he' => ⟨(pw4 e' he').1, fun x hx hy => h2.disj κ κ' x (fun e => hne e.symm) (hold e' (hz0 e' he') x hy) (hblk x hx)⟩, pw5⟩, fun e1' he1 e2' he2 => ?_⟩
        rcases List.mem_cons.1 he2 with rfl | he2
        · exact ⟨(pw3 e1' he1 e List.mem_cons_self).1, fun x hx hy => h2.disj κ κ' x (fun e => hne e.symm) (hold e1' (ha0 e1' he1) x hx) (hblk x hy)⟩
        · exact pw3 e1' he1 e2' (List.mem_cons_of_mem _ he2)
      · rcases List.mem_append.1 he' with he' | he'
        · exact g4 e' (ha0 e' he')
        · rcases List.mem_cons.1 he' with rfl | he'
          · exact fun hx => h2.disj κ κ' b (fun e => hne e.symm) (by rw [hk]; exact .inl rfl) (hblk b hx)
          · exact g4 e' (hz0 e' he')
  · intro x hx
    rcases hx with hx | ⟨e', he', hx⟩
    · exact .inl (by rw [hk]; exact .inl hx)
    · rcases me_at k ms with ⟨q1, q2, q3, q4, q5, q6⟩ | ⟨a0, e, z, q1, q2, q3, q4, q5, q6, q7, q8⟩
      · rw [q6] at he'; exact .inl (by rw [hk]; exact .inr ⟨e', he', hx⟩)
      · rw [q8] at he'
        rw [q5] at m3
        have hA : e.A = A ∧ e.l.length = n' ∧ e.c = c := by simpa [ME.hd] using m3
        obtain ⟨a1, a2, a3⟩ := hA
        rcases List.mem_append.1 he' with he' | he'
        · exact .inl (by rw [hk]; exact .inr ⟨e', by rw [q1]; exact List.mem_append_left _ he', hx⟩)
        · rcases List.mem_cons.1 he' with rfl | he'
          · right
            rw [hk']; have := hx.2; rw [← a1, ← a3]; exact this
          · exact .inl (by rw [hk]; exact .inr ⟨e', by rw [q1]; exact List.mem_append_right _ (List.mem_cons_of_mem _ he'), hx⟩)
/-- A block of a map, behind a store. -/
theorem run_mapUpdateK {W : World} {kvs : List (Value × Value)} {k : Int} {val : Value} (hMT : P.underlying MT = some (.map KT VT)) (hKT : P.underlying KT = some (.int .i64)) (hr : inR k = true) (hb : mblk W b kvs) (hkeys : ∀ p ∈ kvs, ∃ k', p.1 = Value.int .i64 k' ∧ inR k' = true) :
    ∃ W', (Instr.mapUpdate MT (.map (some b)) (.int .i64 k) val).run P W = .ok () W' ∧ W'.os = W.os ∧ W'.tape = W.tape ∧ W'.output = W.output ∧ W'.heap.size = W.heap.size ∧ W'.drawn = W.drawn ∧ (∀ x, x ≠ b → W'.heap[x]? = W.heap[x]?) ∧
      (((∀ p ∈ kvs, p.1 ≠ Value.int .i64 k) ∧ mblk W' b (kvs ++ [(Value.int .i64 k, val)])) ∨ ∃ j v, kvs[j]? = some (Value.int .i64 k, v) ∧ mblk W' b (kvs.set j (Value.int .i64 k, val))) := by
  obtain ⟨es, clock, hb, rfl⟩ := hb
  have K := int_keyed hKT
  have hkey := keyOf_int_mk hKT (inR_wf hr)
  have hks : ∀ e ∈ es.toList, ∃ l, keyOf P KT e.key = some l := fun e he => by
    obtain ⟨k', h1, h2⟩ := hkeys (e.key, e.val) (List.mem_map_of_mem (f := fun x : MapEntry => (x.key, x.val)) he)
    simp only at h1
    exact ⟨_, by rw [h1]; exact keyOf_int_mk hKT (inR_wf h2)⟩
  rcases K.find W hkey es.toList hks with ⟨f1, f2⟩ | ⟨j, e0, f1, f2, f3⟩
  · refine ⟨setBlock W b (.map (es.push ⟨.int .i64 k, val, clock⟩) (clock + 1)), ?_, rfl, rfl, rfl, by simp [setBlock], rfl, fun x hx => heap_setBlock_other hb _ hx, .inl ⟨fun p hp => ?_, ?_⟩⟩
    · simp [Instr.mapUpdate, run_underlying hMT, MapKept.run_getObj_map hb, K.check W false hkey, f1, MapKept.run_setObj_map _ hb, Result.andThen, setBlock]
    · obtain ⟨x, hx, rfl⟩ := List.mem_map.1 hp
      exact f2 x hx
    · exact ⟨_, _, heap_setBlock_same hb _, by simp⟩
  · have hj : es[j]? = some e0 := by simpa using f2
    have hlist : (es.modify j (fun e' => { e' with key := .int .i64 k, val := val })).toList = es.toList.set j { e0 with key := .int .i64 k, val := val } := by rw [Array.toList_modify, modify_eq_set _ _ _ _ f2]
    refine ⟨setBlock W b (.map (es.modify j fun e' => { e' with key := .int .i64 k, val := val }) clock), ?_, rfl, rfl, rfl, by simp [setBlock], rfl, fun x hx => heap_setBlock_other hb _ hx, .inr ⟨j, e0.val, ?_, ?_⟩⟩
    · simp [Instr.mapUpdate, run_underlying hMT, MapKept.run_getObj_map hb, K.check W false hkey, f1, hj, f3, K.stays W hkey, MapKept.run_setObj_map _ hb, Result.andThen, setBlock]
    · rw [List.getElem?_map, f2, Option.map_some, f3]
    · exact ⟨_, _, heap_setBlock_same hb _, by rw [hlist, List.map_set]⟩
/-- A slice of the call's own goes into the map. -/
theorem Tr.mapPut (κ κ' : Nat) {m m' : List (Int × List α)} {l' : List α} {k : Int} {A A' : Option Addr} {n' c c' : Nat} (hw : Wn ops f ⟨none, .mapUpdate MT p q x, ty, pos, af, g⟩) (hMT : P.underlying MT = some (.map KT VT)) (hKT : P.underlying KT = some (.int .i64))
    (hp : ev f p = some (.map (some b))) (hq : ev f q = some (.int .i64 k)) (hx : ev f x = some (.slice A' l'.length c')) (hk : E κ = mo b T t ms) (hk' : E κ' = ow A' c' T t l') (hne : Nat.beq κ' κ = false) (hm : MH ms m k A n' c) (hf : SlF A' l'.length c') (hm' : mputO m k l' = some m')
    (K : ∀ ms', MC ms' m' → Tr w n f (up (up E κ' emp) κ (mo b T t ms')) (wpList P ops Q rest)) : Tr w n f E (wpList P ops Q (⟨none, .mapUpdate MT p q x, ty, pos, af, g⟩ :: rest)) := by
  have hne : κ' ≠ κ := fun e => by subst e; simp at hne
  obtain ⟨m1, m2, m3, m4, m5⟩ := hm
  subst m1
  unfold mputO at hm'
  split at hm'
  · rename_i hlen
    have hm' := (Option.some.inj hm').symm
    subst hm'
    refine Tr.op hw fun a W h1 h2 => ?_
    have hφ := h2.phi κ
    rw [hk] at hφ
    obtain ⟨g1, g2, g3, g4⟩ := hφ
    have hφ' := h2.phi κ'
    rw [hk'] at hφ'
    have hA' : ∃ a, A' = some a := by
      obtain ⟨css, _, _, hown⟩ := hφ'
      rcases hown with ⟨hv, h0⟩ | ⟨g, cap, cur, hv, _⟩
      · omega
      · simp at hv; exact ⟨_, hv.1⟩
    obtain ⟨W', r1, r2, r3, r4, r5, r6, r7, r8⟩ := run_mapUpdateK (P := P) (val := .slice A' l'.length c') hMT hKT m5 g1 (fun p hp => by
      obtain ⟨e, he, rfl⟩ := List.mem_map.1 hp
      exact ⟨e.k, rfl, (g2 e he).2.1⟩)
    have hrun : (execOp a.eval ⟨none, .mapUpdate MT p q x, ty, pos, af, g⟩).run P W = .ok .skip W' := by
      simp [execOp, h1.ev hp, h1.ev hq, h1.ev hx, r1]
    unfold Oper.wp
    rw [hrun]
    have hbS : (E κ).S b := by rw [hk]; exact .inl rfl
    have hbR : ¬ w.R b := (h2.bd κ b hbS).1
    have hb' : ¬ (E κ').S b := h2.disj κ κ' b (fun e => hne e.symm) hbS
    have hold : ∀ e' ∈ ms, ∀ x, e'.blk x → (E κ).S x := fun e' he' x hx => by rw [hk]; exact .inr ⟨e', he', hx⟩
    have hnb : ∀ x, (⟨k, A', c', l', true⟩ : ME α).blk x → (E κ').S x := fun x hx => by rw [hk']; exact hx.2
    have hkeep : ∀ (S : Nat → Prop), (∀ x, S x → x ≠ b) → ∀ x, w.O x ∨ S x → W'.heap[x]? = W.heap[x]? := fun S hS x hx => r7 x (fun e => by
      subst e
      rcases hx with hx | hx
      · exact hbR (.inl hx)
      · exact hS x hx rfl)
    have hoE : ∀ e' ∈ ms, 0 < e'.l.length ∧ inR e'.k = true ∧ (∃ a, e'.A = some a) ∧ SlF e'.A e'.l.length e'.c ∧ (e'.own = true → (ow e'.A e'.c T t e'.l).φ w.O W') := fun e' he' => by
      obtain ⟨e1, e2, e3, e4, e5⟩ := g2 e' he'
      exact ⟨e1, e2, e3, e4, fun ho => (ow_loc _ _ _ _ _).at_ w.O W W' (hkeep _ (fun x hx e => g4 e' he' (by subst e; exact ⟨ho, hx⟩))) (e5 ho)⟩
    have hnE : 0 < l'.length ∧ inR k = true ∧ (∃ a, A' = some a) ∧ SlF A' l'.length c' ∧ (true = true → (ow A' c' T t l').φ w.O W') :=
      ⟨hlen.2, m5, hA', hf, fun _ => (ow_loc _ _ _ _ _).at_ w.O W W' (hkeep _ (fun x hx e => hb' (by subst e; rw [hk']; exact hx))) hφ'⟩
    refine K (meput ms k A' c' l') ⟨mdat_put k A' c' l' ms, ?_⟩ _ W' (by exact h1) (h2.merge (mo b T t (meput ms k A' c' l')) hne r2 r3 r4 (Nat.le_of_eq r5.symm) (Nat.le_of_eq r6.symm) (fun x _ hs => r7 x (fun e => by subst e; exact hs hbS)) (mo_loc _ _ _ _) ?_ ?_)
    · rcases me_at k ms with ⟨q1, q2, q3, q4, q5, q6⟩ | ⟨a0, e, z, q1, q2, q3, q4, q5, q6, q7, q8⟩
      · rw [q5]
        intro e' he'
        rcases List.mem_append.1 he' with he' | he'
        · exact m2 e' he' (q1 e' he')
        · simp at he'; rw [he']
      · rw [q7]
        intro e' he'
        have hz : ∀ e' ∈ z, e'.k ≠ k := fun e' he' => by
          rw [q1] at g3
          rw [← q2]; exact ((List.pairwise_cons.1 (List.pairwise_append.1 g3).2.1).1 e' he').1.symm
        rcases List.mem_append.1 he' with he' | he'
        · exact m2 e' (by rw [q1]; exact List.mem_append_left _ he') (q3 e' he')
        · rcases List.mem_cons.1 he' with rfl | he'
          · rfl
          · exact m2 e' (by rw [q1]; exact List.mem_append_right _ (List.mem_cons_of_mem _ he')) (hz e' he')
    · rcases me_at k ms with ⟨q1, q2, q3, q4, q5, q6⟩ | ⟨a0, e, z, q1, q2, q3, q4, q5, q6, q7, q8⟩
      · rw [q5]
        refine ⟨?_, fun e' he' => ?_, ?_, fun e' he' => ?_⟩
        · rcases r8 with ⟨_, r8⟩ | ⟨j, v, r8, _⟩
          · simpa [ME.hd] using r8
          · have := List.mem_of_getElem? r8
            obtain ⟨e', he', h3⟩ := List.mem_map.1 this
            have : e'.k = k := by have := congrArg Prod.fst h3; simpa using this
            exact absurd this (q1 e' he')
        · rcases List.mem_append.1 he' with he' | he'
          · exact hoE e' he'
          · simp at he'; subst he'; exact hnE
        · rw [List.pairwise_append]
          refine ⟨g3, by simp, fun e1' he1 e2' he2 => ?_⟩
          simp at he2; subst he2
          exact ⟨q1 e1' he1, fun x hx hy => h2.disj κ κ' x (fun e => hne e.symm) (hold e1' he1 x hx) (hnb x hy)⟩
        · rcases List.mem_append.1 he' with he' | he'
          · exact g4 e' he'
          · simp at he'; subst he'; exact fun hx => hb' (hnb b hx)
      · rw [q1] at g3
        obtain ⟨pw1, pw2, pw3⟩ := List.pairwise_append.1 g3
        obtain ⟨pw4, pw5⟩ := List.pairwise_cons.1 pw2
        have ha0 : ∀ e' ∈ a0, e' ∈ ms := fun e' he' => by rw [q1]; exact List.mem_append_left _ he'
        have hz0 : ∀ e' ∈ z, e' ∈ ms := fun e' he' => by rw [q1]; exact List.mem_append_right _ (List.mem_cons_of_mem _ he')
        rw [q7]
        refine ⟨?_, fun e' he' => ?_, ?_, fun e' he' => ?_⟩
        · rcases r8 with ⟨r8, _⟩ | ⟨j, v, r8, r9⟩
          · exact absurd (by rw [q2]) (r8 (Value.int .i64 e.k, e.hd) (List.mem_map_of_mem (f := fun e : ME α => (Value.int .i64 e.k, e.hd)) (by rw [q1]; simp)))
          · have hj : j = a0.length := by
              rw [q1, List.map_append, List.map_cons] at r8
              rcases Nat.lt_trichotomy j a0.length with h | h | h
              · rw [List.getElem?_append_left (by simpa using h), List.getElem?_map] at r8
                obtain ⟨e', h3, h4⟩ := Option.map_eq_some_iff.1 r8
                have : e'.k = k := by have := congrArg Prod.fst h4; simpa using this
                exact absurd this (q3 e' (List.mem_of_getElem? h3))
              · exact h
              · rw [List.getElem?_append_right (by simp; omega), List.length_map] at r8
                obtain ⟨i, hi⟩ : ∃ i, j - a0.length = i + 1 := ⟨j - a0.length - 1, by omega⟩
                rw [hi, List.getElem?_cons_succ, List.getElem?_map] at r8
                obtain ⟨e', h3, h4⟩ := Option.map_eq_some_iff.1 r8
                have : e'.k = k := by have := congrArg Prod.fst h4; simpa using this
                exact absurd (q2.trans this.symm) (pw4 e' (List.mem_of_getElem? h3)).1
            subst hj
            rw [q1, List.map_append, List.map_cons, List.set_append_right _ _ (by simp)] at r9
            simpa [ME.hd] using r9
        · rcases List.mem_append.1 he' with he' | he'
          · exact hoE e' (ha0 e' he')
          · rcases List.mem_cons.1 he' with rfl | he'
            · exact hnE
            · exact hoE e' (hz0 e' he')
        · rw [List.pairwise_append, List.pairwise_cons]
          refine ⟨pw1, ⟨fun e' he' => ⟨by rw [← q2]; exact (pw4 e' he').1, fun x hx hy => h2.disj κ κ' x (fun e => hne e.symm) (hold e' (hz0 e' he') x hy) (hnb x hx)⟩, pw5⟩, fun e1' he1 e2' he2 => ?_⟩
          rcases List.mem_cons.1 he2 with rfl | he2
          · exact ⟨q3 e1' he1, fun x hx hy => h2.disj κ κ' x (fun e => hne e.symm) (hold e1' (ha0 e1' he1) x hx) (hnb x hy)⟩
          · exact pw3 e1' he1 e2' (List.mem_cons_of_mem _ he2)
        · rcases List.mem_append.1 he' with he' | he'
          · exact g4 e' (ha0 e' he')
          · rcases List.mem_cons.1 he' with rfl | he'
            · exact fun hx => hb' (hnb b hx)
            · exact g4 e' (hz0 e' he')
    · intro x hx
      rcases hx with hx | ⟨e', he', hx⟩
      · exact .inl (by rw [hk]; exact .inl hx)
      · rcases me_at k ms with ⟨q1, q2, q3, q4, q5, q6⟩ | ⟨a0, e, z, q1, q2, q3, q4, q5, q6, q7, q8⟩
        · rw [q5] at he'
          rcases List.mem_append.1 he' with he' | he'
          · exact .inl (hold e' he' x hx)
          · simp at he'; subst he'; exact .inr (hnb x hx)
        · rw [q7] at he'
          rcases List.mem_append.1 he' with he' | he'
          · exact .inl (hold e' (by rw [q1]; exact List.mem_append_left _ he') x hx)
          · rcases List.mem_cons.1 he' with rfl | he'
            · exact .inr (hnb x hx)
            · exact .inl (hold e' (by rw [q1]; exact List.mem_append_right _ (List.mem_cons_of_mem _ he')) x hx)
  · cases hm'
theorem mset_getO {m : List (Int × List α)} {k : Int} {l : List α} (h : mgetO m k = some l) : mset m k l = m := by
  unfold mgetO at h
  split at h
  · rw [← Option.some.inj h]; exact mset_get m k
  · cases h
theorem run_eqlE {ρ : Operand → Value} {W : World} {dd : Option Nat} {T' : TypeId} {A : Option Addr} {e : Bool} {op : BinOp} (hA : Option.isNone A = e) (h : (execOp ρ ⟨dd, .binOp op T p q T', ty, pos, af, g⟩).run P W = .ok (.value (.bool (Option.isNone A))) W) : (execOp ρ ⟨dd, .binOp op T p q T', ty, pos, af, g⟩).run P W = .ok (.value (.bool e)) W := by
  rw [← hA]; exact h
end
end Go.Proofs.Ytfddmjoldoddlaa
