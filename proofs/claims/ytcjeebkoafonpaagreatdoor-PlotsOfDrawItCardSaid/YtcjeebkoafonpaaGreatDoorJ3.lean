/- Rules of the walks, or plain laws about the plain functions. Conditions: none beyond each theorem's own. -/
import Derived.Test.YtcjeebkoafonpaaGreatDoorJ2
import Derived.WideKeyEntry
import Derived.DeepKeys5
import Derived.Shelf.SlSortCmp.Whole1
namespace Go.Proofs.YtcjeebkoafonpaaGreatDoor
open Go.RowKit Go.Proofs
open Go.ChangeMaps Go.MapKept
open Go.Maps (Keyed)
section words
variable {κ α : Type} [DecidableEq κ]
def oQ : List (κ × List α) → κ → List α
 | [], _ => []
 | p :: m, k => if p.1 = k then p.2 else oQ m k
def vW : List (κ × List α) → κ → List α → List (κ × List α)
 | [], k, v => [(k, v)]
 | p :: m, k, v => if p.1 = k then (k, v) :: m else p :: vW m k v
def sN (ok : κ → Bool) (m : List (κ × List α)) (k : κ) : Option (List α) := if ok k = true then some (oQ m k) else none
structure KE (κ α : Type) where
 k : κ
 A : Option Addr
 c : Nat
 l : List α
 own : Bool
def KE.hd (e : KE κ α) : Value := .slice e.A e.l.length e.c
def KE.blk (e : KE κ α) (x : Nat) : Prop := e.own = true ∧ (Value.slice e.A e.l.length e.c).ownBlock = some x
def KE.kd (e : KE κ α) : κ × List α := (e.k, e.l)
def MQ (ms : List (KE κ α)) (m : List (κ × List α)) : Prop := ms.map KE.kd = m ∧ ∀ e ∈ ms, e.own = true
def QT (ok : κ → Bool) (m : List (κ × List α)) (k : κ) (pre post : List (KE κ α)) : Prop := ok k = true ∧ (∀ e ∈ pre ++ post, e.own = true) ∧ ∀ l', pre.map KE.kd ++ (k, l') :: post.map KE.kd = vW m k l'
omit [DecidableEq κ] in
theorem MQ.nil : MQ ([] : List (KE κ α)) [] := ⟨rfl, fun _ h => (nomatch h)⟩
theorem LP (k : κ) : ∀ ms : List (KE κ α), ((∀ e ∈ ms, e.k ≠ k) ∧ oQ (ms.map KE.kd) k = [] ∧ ∀ l, vW (ms.map KE.kd) k l = ms.map KE.kd ++ [(k, l)]) ∨
  ∃ a e z, ms = a ++ e :: z ∧ e.k = k ∧ (∀ e' ∈ a, e'.k ≠ k) ∧ oQ (ms.map KE.kd) k = e.l ∧ ∀ l, vW (ms.map KE.kd) k l = a.map KE.kd ++ (k, l) :: z.map KE.kd
 | [] => .inl ⟨fun _ h => (nomatch h), rfl, fun _ => rfl⟩
 | e :: ms => by
  by_cases h : e.k = k
  ·exact .inr ⟨[], e, ms, rfl, h, fun _ h => (nomatch h), by simp [oQ, KE.kd, h], fun _ => by simp [vW, KE.kd, h]⟩
  ·rcases LP k ms with ⟨h1, h2, h3⟩ | ⟨a, e0, z, h1, h2, h3, h4, h5⟩
   ·refine .inl ⟨fun e' he' => ?_, ?_, fun l => ?_⟩
    ·rcases List.mem_cons.1 he' with rfl | he'
     ·exact h
     ·exact h1 e' he'
    ·simp only [List.map_cons, oQ]; rw [if_neg (show ¬ (KE.kd e).1 = k from h)]; exact h2
    ·simp only [List.map_cons, vW]; rw [if_neg (show ¬ (KE.kd e).1 = k from h), h3]; rfl
   ·refine .inr ⟨e :: a, e0, z, by rw [h1]; rfl, h2, fun e' he' => ?_, ?_, fun l => ?_⟩
    ·rcases List.mem_cons.1 he' with rfl | he'
     ·exact h
     ·exact h3 e' he'
    ·simp only [List.map_cons, oQ]; rw [if_neg (show ¬ (KE.kd e).1 = k from h)]; exact h4
    ·simp only [List.map_cons, vW]; rw [if_neg (show ¬ (KE.kd e).1 = k from h), h5]; rfl
end words
def HV (p : Int × Int) : Value := .agg #[.int .i64 p.1, .int .i64 p.2]
def Ij (p : Int × Int) : Bool := Uq p.1 && Uq p.2
theorem Vm {P : Program} {KT IT : Nat} (hl : laidOutB P = true) (hsmall : P.types.size + 2 ≤ 10000) (hsz : ∃ m, P.types.size = m + 1) (hrow : KT < P.types.size) (hk : P.keyType KT = true) (hu : ∃ fs, P.underlying KT = some (.struct fs) ∧ fs.toList.map (fun f => (f.name != "_", f.type, f.offset)) = [(true, IT, 0), (true, IT, 1)])
  (hc : P.cellsOf KT = 2) (hc1 : P.cellsOf IT = 1) (hi : P.underlying IT = some (.int .i64)) : P5 P KT HV Ij := by
 obtain ⟨fs, hu, hfs⟩ := hu
 refine ⟨Keyed.of_law (deep_law_gate hl hsmall hrow hk (by rw [hu])), fun k h => ?_, fun a b h => ?_⟩
 ·unfold Ij at h
  rw [Bool.and_eq_true] at h
  have w1 := OM h.1
  have w2 := OM h.2
  obtain ⟨m, hm⟩ := hsz
  unfold keyOf HV
  simp only [hu]
  rw [if_pos (by simp [hk, Value.formed, hu, hc]), hm]
  unfold Program.keyLits
  simp only [hu, Value.cells]
  obtain ⟨f1, f2, hff⟩ : ∃ f1 f2, fs.toList = [f1, f2] := by
   have hlen : fs.toList.length = 2 := by have := congrArg List.length hfs; simpa using this
   match hq : fs.toList, hlen with
   | [f1, f2], _ => exact ⟨f1, f2, rfl⟩
  rw [hff] at hfs
  simp only [List.map_cons, List.map_nil, List.cons.injEq, Prod.mk.injEq, and_true] at hfs
  obtain ⟨⟨a1, a2, a3⟩, b1, b2, b3⟩ := hfs
  have hall : fs.all (fun f => f.name != "_") = true := by
   rw [← Array.all_toList, hff]; simp [a1, b1]
  rw [if_pos ⟨by rw [hc]; rfl, hall⟩, hff, List.mapM_cons, List.mapM_cons, List.mapM_nil, a2, a3, b2, b3, hc1]
  simp [Program.keyLits, hi, w1, w2]
 ·unfold HV at h
  simp at h
  exact Prod.ext h.1 h.2
section
variable {P : Program} {w w' : Bs} {n : Nat} {f : Nat → Option Value} {E : Nat → jv} {X : Act → World → Prop} {Q : Exit → Act → World → Prop} {ops : Array Oper} {rest : List Oper}
variable {d ty T MT KT VT : Nat} {pos : String} {af : Array Edge} {g : Option (Nat × Bool)} {p q x : Operand} {b : Nat} {κ α : Type} [DecidableEq κ] {enc : κ → Value} {ok : κ → Bool} {t : Fl α}
def LH (W : World) (b : Nat) (kv : List (Value × Value)) : Prop := ∃ es, W.heap[b]? = some (.map es es.size) ∧ (∀ (i : Nat) (e : MapEntry), es.toList[i]? = some e → e.born = i) ∧ es.toList.map (fun x => (x.key, x.val)) = kv
theorem FW {W W' : World} {b : Nat} {kv : List (Value × Value)} (h : W'.heap[b]? = W.heap[b]?) (hp : LH W b kv) : LH W' b kv := by
 obtain ⟨es, h1, h2⟩ := hp
 exact ⟨es, h.trans h1, h2⟩
theorem KS {l : List MapEntry} (h : ∀ (i : Nat) (e : MapEntry), l[i]? = some e → e.born = i) : (l.map (·.born)).Nodup := by
 rw [List.Nodup, List.pairwise_iff_getElem]
 intro i j hi hj hij
 rw [List.length_map] at hi hj
 rw [List.getElem_map, List.getElem_map, h i _ (List.getElem?_eq_getElem hi), h j _ (List.getElem?_eq_getElem hj)]
 omega
def mq (enc : κ → Value) (ok : κ → Bool) (b T : Nat) (t : Fl α) (ms : List (KE κ α)) : jv :=
 ⟨fun x => x = b ∨ ∃ e ∈ ms, e.blk x, fun O W => LH W b (ms.map fun e => (enc e.k, e.hd)) ∧
  (∀ e ∈ ms, ok e.k = true ∧ dM e.A e.l.length e.c ∧ (e.own = true → (ow e.A e.c T t e.l).φ O W)) ∧ (ms.Pairwise fun e e' => e.k ≠ e'.k ∧ ∀ x, e.blk x → ¬ e'.blk x) ∧ ∀ e ∈ ms, ¬ e.blk b⟩
omit [DecidableEq κ] in
theorem Ha (b T : Nat) (t : Fl α) (ms : List (KE κ α)) : (mq enc ok b T t ms).loc := ⟨fun O W W' h hp => by
  obtain ⟨h1, h2, h3, h4⟩ := hp
  refine ⟨FW (h b (.inr (.inl rfl))) h1, fun e he => ⟨(h2 e he).1, (h2 e he).2.1, fun ho => (nO e.A e.c T t e.l).at_ O W W' (fun x hx => h x ?_) ((h2 e he).2.2 ho)⟩, h3, h4⟩
  rcases hx with hx | hx
  ·exact .inl hx
  ·exact .inr (.inr ⟨e, he, ho, hx⟩),
 fun O O' W h hp => by
  obtain ⟨h1, h2, h3, h4⟩ := hp
  exact ⟨h1, fun e he => ⟨(h2 e he).1, (h2 e he).2.1, fun ho => (nO e.A e.c T t e.l).up O O' W h ((h2 e he).2.2 ho)⟩, h3, h4⟩⟩
omit [DecidableEq κ] in
theorem JH (enc : κ → Value) (ok : κ → Bool) (k0 T : Nat) (t : Fl α) (hw : Wn ops f ⟨some d, .makeMap MT none, ty, pos, af, g⟩) (hdn : Nat.blt d n = true)
  (K : ∀ b, Tr w n (uf f d (.map (some b))) (up E k0 (mq enc ok b T t [])) (wpList P ops Q rest)) : Tr w n f E (wpList P ops Q (⟨some d, .makeMap MT none, ty, pos, af, g⟩ :: rest)) :=
 zH hw hdn (fun _ W _ h2 => ⟨rfl, h2.add k0 ((Below.refl _ _).alloc (Nat.le_refl _) _) (mq enc ok W.heap.size T t []) (Ha _ _ _ _)
  ⟨⟨#[], heap_alloc_new W _, fun i e h => by simp at h, rfl⟩, fun _ h => (nomatch h), .nil, fun _ h => (nomatch h)⟩ (fun b hb => by
   have hb : b = W.heap.size ∨ ∃ e ∈ ([] : List (KE κ α)), e.blk b := hb
   rcases hb with rfl | ⟨e, he, _⟩
   ·exact ⟨Nat.le_refl _, by simp⟩
   ·cases he)⟩) (fun W _ => K W.heap.size)
omit [DecidableEq κ] in
theorem HF.Ru {W : World} (h2 : HF w W E) {k0 k1 : Nat} {pre post : List (KE κ α)} {e : KE κ α} (hk : E k0 = Proofs.YtcjeebkoafonpaaGreatDoor.mq enc ok b T t (pre ++ e :: post)) (hne : k1 ≠ k0) (heo : e.own = true) :
  HF w W (up (up E k0 (Proofs.YtcjeebkoafonpaaGreatDoor.mq enc ok b T t (pre ++ { e with own := false } :: post))) k1 (Proofs.YtcjeebkoafonpaaGreatDoor.ow e.A e.c T t e.l)) := by
 have hφ := h2.phi k0
 rw [hk] at hφ
 obtain ⟨g1, g2, g3, g4⟩ := hφ
 have heM : e ∈ pre ++ e :: post := by simp
 obtain ⟨pw1, pw2, pw3⟩ := List.pairwise_append.1 g3
 obtain ⟨pw4, pw5⟩ := List.pairwise_cons.1 pw2
 have hnb : ∀ x, ¬ ({ e with own := false } : KE κ α).blk x := fun x hx => by cases hx.1
 have hmem : ∀ e' ∈ pre ++ { e with own := false } :: post, (e' ∈ pre ++ e :: post ∧ (e' ∈ pre ∨ e' ∈ post)) ∨ e' = { e with own := false } := fun e' he' => by
  rcases List.mem_append.1 he' with he' | he'
  ·exact .inl ⟨List.mem_append_left _ he', .inl he'⟩
  ·rcases List.mem_cons.1 he' with rfl | he'
   ·exact .inr rfl
   ·exact .inl ⟨List.mem_append_right _ (List.mem_cons_of_mem _ he'), .inr he'⟩
 refine h2.split hne (Ha _ _ _ _) (nO _ _ _ _ _) ?_ ((g2 e heM).2.2 heo) (fun b' hb' => ?_) (fun b' hb' => ?_) (fun b' hb1 hb2 => ?_)
 ·refine ⟨?_, fun e' he' => ?_, ?_, fun e' he' => ?_⟩
  ·simpa [KE.hd] using g1
  ·rcases hmem e' he' with ⟨h3, _⟩ | rfl
   ·exact g2 e' h3
   ·exact ⟨(g2 e heM).1, (g2 e heM).2.1, fun h => by cases h⟩
  ·rw [List.pairwise_append, List.pairwise_cons]
   refine ⟨pw1, ⟨fun e' he' => ⟨(pw4 e' he').1, fun x hx => absurd hx (hnb x)⟩, pw5⟩, fun e1' he1 e2' he2 => ?_⟩
   rcases List.mem_cons.1 he2 with rfl | he2
   ·exact ⟨(pw3 e1' he1 e List.mem_cons_self).1, fun x _ => hnb x⟩
   ·exact pw3 e1' he1 e2' (List.mem_cons_of_mem _ he2)
  ·rcases hmem e' he' with ⟨h3, _⟩ | rfl
   ·exact g4 e' h3
   ·exact hnb b
 ·rw [hk]
  rcases hb' with hb' | ⟨e', he', hx⟩
  ·exact .inl hb'
  ·rcases hmem e' he' with ⟨h3, _⟩ | rfl
   ·exact .inr ⟨e', h3, hx⟩
   ·exact absurd hx (hnb b')
 ·rw [hk]
  exact .inr ⟨e, heM, heo, hb'⟩
 ·have hb2 : e.blk b' := ⟨heo, hb2⟩
  rcases hb1 with hb1 | ⟨e', he', hx⟩
  ·subst hb1; exact g4 e heM hb2
  ·rcases hmem e' he' with ⟨_, h3 | h3⟩ | rfl
   ·exact (pw3 e' h3 e List.mem_cons_self).2 b' hx hb2
   ·exact (pw4 e' h3).2 b' hb2 hx
   ·exact hnb b' hx
theorem Ic (k0 k1 : Nat) {m : List (κ × List α)} {ms : List (KE κ α)} {l : List α} {k : κ} (K : P5 P KT enc ok) (hw : Wn ops f ⟨some d, .mapEntry MT p q, ty, pos, af, g⟩) (hdn : Nat.blt d n = true) (hMT : P.underlying MT = some (.map KT VT)) (hz : (P.info? VT).bind (·.zero) = some (.slice none 0 0))
  (hp : ev f p = some (.map (some b))) (hq : ev f q = some (enc k)) (hk : E k0 = mq enc ok b T t ms) (hne : Nat.beq k1 k0 = false) (hm : MQ ms m) (hl : sN ok m k = some l)
  (C : ∀ pre post A c, QT ok m k pre post → dM A l.length c → Tr w n (uf f d (.tuple #[.slice A l.length c, .int .i64 (pre.length : Int)])) (up (up E k0 (mq enc ok b T t (pre ++ ⟨k, A, c, l, false⟩ :: post))) k1 (ow A c T t l)) (wpList P ops Q rest)) :
  Tr w n f E (wpList P ops Q (⟨some d, .mapEntry MT p q, ty, pos, af, g⟩ :: rest)) := by
 have hne : k1 ≠ k0 := fun e => by subst e; simp at hne
 obtain ⟨hm1, hm2⟩ := hm
 subst hm1
 unfold sN at hl
 split at hl
 case isFalse => cases hl
 rename_i hr
 have hl := (Option.some.inj hl).symm
 subst hl
 refine Tr.op hw fun a W h1 h2 => ?_
 have hφ := h2.phi k0
 rw [hk] at hφ
 obtain ⟨⟨es, hb, hborn, hes⟩, g2, g3, g4⟩ := hφ
 obtain ⟨kl, hkey⟩ := K.key k hr
 have hks : ∀ e ∈ es.toList, ∃ l, keyOf P KT e.key = some l := fun e he => by
  have : (e.key, e.val) ∈ ms.map fun e => (enc e.k, e.hd) := by rw [← hes]; exact List.mem_map_of_mem (f := fun x : MapEntry => (x.key, x.val)) he
  obtain ⟨e', he', h3⟩ := List.mem_map.1 this
  have h4 : enc e'.k = e.key := congrArg Prod.fst h3
  rw [← h4]; exact K.key e'.k (g2 e' he').1
 have hbS : (E k0).S b := by rw [hk]; exact .inl rfl
 have hzr : ∀ W, (zeroValue VT).run P W = .ok (.slice none 0 0) W := fun W => by
  cases hi : P.info? VT with
  | none => rw [hi] at hz; cases hz
  | some inf =>
   rw [hi] at hz
   simp only [Option.bind_some] at hz
   simp [zeroValue, typeInfo, hi, hz]
 unfold Oper.wp
 rcases K.kd.find W hkey es.toList hks with ⟨f1, f2⟩ | ⟨j, e0, f1, f2, f3⟩
 · -- a new entry
  have hno : ∀ e ∈ ms, e.k ≠ k := fun e he hek => by
   have : (enc e.k, e.hd) ∈ es.toList.map fun x => (x.key, x.val) := by rw [hes]; exact List.mem_map_of_mem (f := fun e : KE κ α => (enc e.k, e.hd)) he
   obtain ⟨x0, hx0, h3⟩ := List.mem_map.1 this
   exact f2 x0 hx0 ((congrArg Prod.fst h3).trans (by show enc e.k = _; rw [hek]))
  rcases LP k ms with ⟨q1, q2, q3⟩ | ⟨a0, e, z, q1, q2, _⟩
  ·have hsize : es.size = ms.length := by rw [← Array.length_toList, ← List.length_map (f := fun x : MapEntry => (x.key, x.val)), hes, List.length_map]
   have hrun : (execOp a.eval ⟨some d, .mapEntry MT p q, ty, pos, af, g⟩).run P W = .ok (.value (.tuple #[.slice none 0 0, .int .i64 (ms.length : Int)])) (setBlock W b (.map (es.push ⟨enc k, .slice none 0 0, es.size⟩) (es.size + 1))) := by
    simp [execOp, h1.ev hp, h1.ev hq, Instr.mapEntry, run_underlying hMT, MapKept.run_getObj_map hb, K.kd.check W false hkey, f1, hzr, MapKept.run_setObj_map _ hb, Result.andThen, setBlock, goInt, hsize]
   rw [hrun]
   have hm' : HF w (setBlock W b (.map (es.push ⟨enc k, .slice none 0 0, es.size⟩) (es.size + 1))) (up E k0 (mq enc ok b T t (ms ++ [⟨k, none, 0, [], true⟩]))) := by
    refine h2.mod k0 _ rfl rfl rfl (by simp [setBlock]) (Nat.le_refl _) (fun x _ hx => heap_setBlock_other hb _ (fun hh => hx (by rw [hh]; exact hbS))) (Ha _ _ _ _) ⟨?_, fun e he => ?_, ?_, fun e he => ?_⟩ (fun y hy => ?_)
    ·refine ⟨es.push ⟨enc k, .slice none 0 0, es.size⟩, by rw [heap_setBlock_same hb _]; simp, fun i e hi => ?_, by simp [hes, KE.hd]⟩
     rw [Array.toList_push] at hi
     by_cases hlt : i < es.toList.length
     ·rw [List.getElem?_append_left hlt] at hi; exact hborn i e hi
     ·rw [List.getElem?_append_right (by omega)] at hi
      cases hi2 : i - es.toList.length with
      | zero => rw [hi2] at hi; simp at hi; subst hi; simp at hi2 hlt ⊢; omega
      | succ j => rw [hi2] at hi; simp at hi
    ·rcases List.mem_append.1 he with he | he
     ·exact ⟨(g2 e he).1, (g2 e he).2.1, fun ho => (nO _ _ _ _ _).at_ w.O W _ (fun x hx => heap_setBlock_other hb _ (fun hh => by
       rcases hx with hx | hx
       ·exact (h2.bd k0 b hbS).1 (.inl (hh ▸ hx))
       ·exact g4 e he ⟨ho, hh ▸ hx⟩)) ((g2 e he).2.2 ho)⟩
     ·simp at he; subst he
      exact ⟨hr, gL, fun _ => ⟨[], .nil, by simp, .inl ⟨rfl, rfl⟩⟩⟩
    ·rw [List.pairwise_append]
     refine ⟨g3, by simp, fun e1 he1 e2 he2 => ?_⟩
     simp at he2; subst he2
     exact ⟨q1 e1 he1, fun x _ hx => by cases hx.2⟩
    ·rcases List.mem_append.1 he with he | he
     ·exact g4 e he
     ·simp at he; subst he
      exact fun hx => by cases hx.2
    ·rcases hy with hy | ⟨e, he, hy⟩
     ·subst hy; exact ⟨.inl hbS, by simp [setBlock]; exact (h2.bd k0 y hbS).2⟩
     ·rcases List.mem_append.1 he with he | he
      ·have : (E k0).S y := by rw [hk]; exact .inr ⟨e, he, hy⟩
       exact ⟨.inl this, by simp [setBlock]; exact (h2.bd k0 y this).2⟩
      ·simp at he; subst he; cases hy.2
   have hm2' := hm'.Ru (k1 := k1) (pre := ms) (e := ⟨k, none, 0, [], true⟩) (post := []) (by rw [xm]) hne rfl
   have e1 : up (up (up E k0 (mq enc ok b T t (ms ++ [⟨k, none, 0, [], true⟩]))) k0 (mq enc ok b T t (ms ++ ⟨k, none, 0, [], false⟩ :: []))) k1 (ow none 0 T t []) = up (up E k0 (mq enc ok b T t (ms ++ ⟨k, none, 0, [], false⟩ :: []))) k1 (ow none 0 T t []) := by
    funext j
    rcases dW (up (up E k0 (mq enc ok b T t (ms ++ [⟨k, none, 0, [], true⟩]))) k0 (mq enc ok b T t (ms ++ ⟨k, none, 0, [], false⟩ :: []))) k1 (ow none 0 T t []) j with ⟨u1, u2⟩ | ⟨u1, u2⟩
    ·rw [u2]; subst u1; rw [xm]
    ·rw [u2, Dx u1]
     rcases dW E k0 (mq enc ok b T t (ms ++ ⟨k, none, 0, [], false⟩ :: [])) j with ⟨v1, v2⟩ | ⟨v1, v2⟩
     ·subst v1; rw [xm, xm]
     ·rw [Dx v1, Dx v1, Dx v1]
   have hm3 : HF w (setBlock W b (.map (es.push ⟨enc k, .slice none 0 0, es.size⟩) (es.size + 1))) (up (up E k0 (mq enc ok b T t (ms ++ ⟨k, none, 0, [], false⟩ :: []))) k1 (ow none 0 T t [])) := by rw [← e1]; exact hm2'
   rw [q2] at C
   exact C ms [] none 0 ⟨hr, by simpa using hm2, fun l' => by rw [q3]; rfl⟩ gL _ _ (h1.put (Nat.le_of_ble_eq_true hdn) _) hm3
  ·exact absurd q2 (hno e (by rw [q1]; simp))
 · -- an old one
  have hj : es[j]? = some e0 := by simpa using f2
  have hlist : (es.modify j (fun e' => { e' with key := enc k })).toList = es.toList := by
   rw [Array.toList_modify, modify_eq_set _ _ _ _ f2]
   have : ({ e0 with key := enc k } : MapEntry) = e0 := by rw [← f3]
   rw [this]
   have hlt : j < es.toList.length := (List.getElem?_eq_some_iff.1 f2).1
   have hg : es.toList[j] = e0 := (List.getElem?_eq_some_iff.1 f2).2
   rw [← hg, List.set_getElem_self]
  have harr : es.modify j (fun e' => { e' with key := enc k }) = es := Array.toList_inj.1 hlist
  have hrun : (execOp a.eval ⟨some d, .mapEntry MT p q, ty, pos, af, g⟩).run P W = .ok (.value (.tuple #[e0.val, .int .i64 (j : Int)])) (setBlock W b (.map es es.size)) := by
   have := hborn j e0 f2
   simp [execOp, h1.ev hp, h1.ev hq, Instr.mapEntry, run_underlying hMT, MapKept.run_getObj_map hb, K.kd.check W false hkey, f1, hj, f3, K.kd.stays W hkey, MapKept.run_setObj_map _ hb, Result.andThen, setBlock, goInt, harr, this]
  have hsame : ∀ y, (setBlock W b (.map es es.size)).heap[y]? = W.heap[y]? := fun y => by
   by_cases hy : y = b
   ·rw [hy, heap_setBlock_same hb _, hb]
   ·exact heap_setBlock_other hb _ hy
  rw [hrun]
  have hin : (e0.key, e0.val) ∈ ms.map fun e => (enc e.k, e.hd) := by rw [← hes]; exact List.mem_map_of_mem (f := fun x : MapEntry => (x.key, x.val)) (List.mem_of_getElem? f2)
  rcases LP k ms with ⟨q1, _⟩ | ⟨a0, e, z, q1, q2, q3, q4, q5⟩
  ·obtain ⟨e', he', h3⟩ := List.mem_map.1 hin
   exact absurd (K.inj _ _ ((congrArg Prod.fst h3).trans f3)) (q1 e' he')
  ·have hjl : j = a0.length := by
    have hx : (ms.map fun e => (enc e.k, e.hd))[j]? = some (e0.key, e0.val) := by rw [← hes, List.getElem?_map, f2]; rfl
    rw [q1, List.map_append, List.map_cons] at hx
    rcases Nat.lt_trichotomy j a0.length with h | h | h
    ·rw [List.getElem?_append_left (by simpa using h), List.getElem?_map] at hx
     obtain ⟨e', h3, h4⟩ := Option.map_eq_some_iff.1 hx
     exact absurd (K.inj _ _ ((congrArg Prod.fst h4).trans f3)) (q3 e' (List.mem_of_getElem? h3))
    ·exact h
    ·rw [List.getElem?_append_right (by simp; omega), List.length_map] at hx
     obtain ⟨i, hi⟩ : ∃ i, j - a0.length = i + 1 := ⟨j - a0.length - 1, by omega⟩
     rw [hi, List.getElem?_cons_succ, List.getElem?_map] at hx
     obtain ⟨e', h3, h4⟩ := Option.map_eq_some_iff.1 hx
     have := K.inj _ _ ((congrArg Prod.fst h4).trans f3)
     rw [q1] at g3
     exact absurd (q2.trans this.symm) ((List.pairwise_cons.1 (List.pairwise_append.1 g3).2.1).1 e' (List.mem_of_getElem? h3)).1
   have hval : e0.val = e.hd := by
    have hx : (ms.map fun e => (enc e.k, e.hd))[j]? = some (e0.key, e0.val) := by rw [← hes, List.getElem?_map, f2]; rfl
    rw [q1, List.map_append, List.map_cons, hjl, List.getElem?_append_right (by simp), List.length_map, Nat.sub_self] at hx
    simp at hx
    exact hx.2.symm
   have heM : e ∈ ms := by rw [q1]; simp
   have heo := hm2 e heM
   have hm' : HF w (setBlock W b (.map es es.size)) E := by
    refine ⟨h2.os, h2.tape, h2.output, Nat.le_trans h2.size (by simp [setBlock]), h2.drawn, fun y hy => (hsame y).trans (h2.keep y hy), fun j => (h2.loc j).at_ _ W _ (fun y _ => hsame y) (h2.phi j), h2.loc, fun j y hy => ⟨(h2.bd j y hy).1, by simp [setBlock]; exact (h2.bd j y hy).2⟩, h2.disj⟩
   have hk' := hk
   rw [q1] at hk'
   have hm3 := hm'.Ru (k1 := k1) hk' hne heo
   rw [q4] at C
   have e2 : ({ e with own := false } : KE κ α) = ⟨k, e.A, e.c, e.l, false⟩ := by rw [← q2]
   rw [e2] at hm3
   rw [hval, hjl]
   exact C a0 z e.A e.c ⟨hr, fun e' he' => hm2 e' (by
    rw [q1]
    rcases List.mem_append.1 he' with he' | he'
    ·exact List.mem_append_left _ he'
    ·exact List.mem_append_right _ (List.mem_cons_of_mem _ he')), fun l' => (q5 l').symm⟩ (g2 e heM).2.1 _ _ (h1.put (Nat.le_of_ble_eq_true hdn) _) hm3
theorem JJ (k0 k1 : Nat) {m : List (κ × List α)} {pre post : List (KE κ α)} {k : κ} {A A' : Option Addr} {c c' : Nat} {l l' : List α} (hw : Wn ops f ⟨none, .entryStore MT p q x, ty, pos, af, g⟩)
  (hp : ev f p = some (.map (some b))) (hq : ev f q = some (.int .i64 (pre.length : Int))) (hx : ev f x = some (.slice A' l'.length c')) (hk : E k0 = mq enc ok b T t (pre ++ ⟨k, A, c, l, false⟩ :: post)) (hk' : E k1 = ow A' c' T t l') (hne : Nat.beq k1 k0 = false) (hm : QT ok m k pre post) (hf : dM A' l'.length c')
  (C : ∀ ms, MQ ms (vW m k l') → Tr w n f (up (up E k1 emp) k0 (mq enc ok b T t ms)) (wpList P ops Q rest)) : Tr w n f E (wpList P ops Q (⟨none, .entryStore MT p q x, ty, pos, af, g⟩ :: rest)) := by
 have hne : k1 ≠ k0 := fun e => by subst e; simp at hne
 obtain ⟨m0, m1, m2⟩ := hm
 refine Tr.op hw fun a W h1 h2 => ?_
 have hφ := h2.phi k0
 rw [hk] at hφ
 obtain ⟨⟨es, hb, hborn, hes⟩, g2, g3, g4⟩ := hφ
 have hφ' := h2.phi k1
 rw [hk'] at hφ'
 have hlen : es.toList.length = (pre ++ ⟨k, A, c, l, false⟩ :: post).length := by rw [← List.length_map (f := fun x : MapEntry => (x.key, x.val)), hes, List.length_map]
 have hlt : pre.length < es.toList.length := by rw [hlen]; simp
 have hget : es.toList[pre.length]? = some es.toList[pre.length] := List.getElem?_eq_getElem hlt
 generalize he0 : es.toList[pre.length] = e0 at hget
 have hkey : e0.key = enc k := by
  have hx : ((pre ++ ⟨k, A, c, l, false⟩ :: post).map fun e => (enc e.k, e.hd))[pre.length]? = some (e0.key, e0.val) := by rw [← hes, List.getElem?_map, hget]; rfl
  rw [List.map_append, List.map_cons, List.getElem?_append_right (by simp), List.length_map, Nat.sub_self] at hx
  simp at hx
  exact hx.1.symm
 have hfind : es.findIdx? (fun e => ((e.born : Nat) : Int) == ((pre.length : Nat) : Int)) = some pre.length := by
  have := Go.WideElems.findIdx_born (KS hborn) hget
  rw [hborn _ _ hget] at this
  rw [Go.WideElems.findIdx_arr]; exact this
 have hlist : (es.modify pre.length (fun e' => { e' with val := .slice A' l'.length c' })).toList = es.toList.set pre.length { e0 with val := .slice A' l'.length c' } := by rw [Array.toList_modify, modify_eq_set _ _ _ _ hget]
 have hrun : (execOp a.eval ⟨none, .entryStore MT p q x, ty, pos, af, g⟩).run P W = .ok .skip (setBlock W b (.map (es.modify pre.length fun e' => { e' with val := .slice A' l'.length c' }) es.size)) := by
  simp [execOp, h1.ev hp, h1.ev hq, h1.ev hx, Instr.entryStore, MapKept.run_getObj_map hb, asInt, asIntOf, hfind, MapKept.run_setObj_map _ hb, Result.andThen, setBlock]
 have hbS : (E k0).S b := by rw [hk]; exact .inl rfl
 have hbR : ¬ w.R b := (h2.bd k0 b hbS).1
 have hb' : ¬ (E k1).S b := h2.disj k0 k1 b (fun e => hne e.symm) hbS
 have hold : ∀ e' ∈ pre ++ ⟨k, A, c, l, false⟩ :: post, ∀ x, e'.blk x → (E k0).S x := fun e' he' x hx => by rw [hk]; exact .inr ⟨e', he', hx⟩
 have hnb : ∀ x, (⟨k, A', c', l', true⟩ : KE κ α).blk x → (E k1).S x := fun x hx => by rw [hk']; exact hx.2
 have hoth : ∀ x, x ≠ b → (setBlock W b (.map (es.modify pre.length fun e' => { e' with val := .slice A' l'.length c' }) es.size)).heap[x]? = W.heap[x]? := fun x hx => heap_setBlock_other hb _ hx
 have hkeep : ∀ (S : Nat → Prop), (∀ x, S x → x ≠ b) → ∀ x, w.O x ∨ S x → (setBlock W b (.map (es.modify pre.length fun e' => { e' with val := .slice A' l'.length c' }) es.size)).heap[x]? = W.heap[x]? := fun S hS x hx => hoth x (fun e => by
  rcases hx with hx | hx
  ·exact hbR (.inl (e ▸ hx))
  ·exact hS x hx e)
 have hpre : ∀ e' ∈ pre, e' ∈ pre ++ ⟨k, A, c, l, false⟩ :: post := fun e' he' => List.mem_append_left _ he'
 have hpost : ∀ e' ∈ post, e' ∈ pre ++ ⟨k, A, c, l, false⟩ :: post := fun e' he' => List.mem_append_right _ (List.mem_cons_of_mem _ he')
 have hoE : ∀ e' ∈ pre ++ ⟨k, A, c, l, false⟩ :: post, ok e'.k = true ∧ dM e'.A e'.l.length e'.c ∧ (e'.own = true → (ow e'.A e'.c T t e'.l).φ w.O (setBlock W b (.map (es.modify pre.length fun e' => { e' with val := .slice A' l'.length c' }) es.size))) := fun e' he' => by
  obtain ⟨e1, e2, e3⟩ := g2 e' he'
  exact ⟨e1, e2, fun ho => (nO _ _ _ _ _).at_ w.O W _ (hkeep _ (fun x hx e => g4 e' he' (by subst e; exact ⟨ho, hx⟩))) (e3 ho)⟩
 have hmem : ∀ e' ∈ pre ++ ⟨k, A', c', l', true⟩ :: post, (e' ∈ pre ++ ⟨k, A, c, l, false⟩ :: post ∧ (e' ∈ pre ∨ e' ∈ post)) ∨ e' = ⟨k, A', c', l', true⟩ := fun e' he' => by
  rcases List.mem_append.1 he' with he' | he'
  ·exact .inl ⟨hpre e' he', .inl he'⟩
  ·rcases List.mem_cons.1 he' with rfl | he'
   ·exact .inr rfl
   ·exact .inl ⟨hpost e' he', .inr he'⟩
 obtain ⟨pw1, pw2, pw3⟩ := List.pairwise_append.1 g3
 obtain ⟨pw4, pw5⟩ := List.pairwise_cons.1 pw2
 unfold Oper.wp
 rw [hrun]
 refine C (pre ++ ⟨k, A', c', l', true⟩ :: post) ⟨by rw [← m2 l', List.map_append, List.map_cons]; rfl, fun e' he' => ?_⟩ _ _ (by exact h1) (h2.merge (mq enc ok b T t (pre ++ ⟨k, A', c', l', true⟩ :: post)) hne rfl rfl rfl (by simp [setBlock]) (Nat.le_refl _) (fun x _ hs => hoth x (fun e => by rw [e] at hs; exact hs hbS)) (Ha _ _ _ _) ?_ ?_)
 ·rcases hmem e' he' with ⟨_, h3 | h3⟩ | rfl
  ·exact m1 e' (List.mem_append_left _ h3)
  ·exact m1 e' (List.mem_append_right _ h3)
  ·rfl
 ·refine ⟨⟨es.modify pre.length (fun e' => { e' with val := .slice A' l'.length c' }), by rw [heap_setBlock_same hb _]; simp, fun i e hi => ?_, ?_⟩, fun e' he' => ?_, ?_, fun e' he' => ?_⟩
  ·rw [hlist, List.getElem?_set] at hi
   split at hi
   ·rename_i hh
    subst hh
    have hi : some ({ e0 with val := .slice A' l'.length c' } : MapEntry) = some e := by simpa [hlt] using hi
    have hi := Option.some.inj hi
    rw [← hi]
    exact hborn _ e0 hget
   ·exact hborn i e hi
  ·rw [hlist, List.map_set, hes, List.map_append, List.map_cons, List.map_append, List.map_cons, List.set_append_right _ _ (by simp)]
   simp [hkey, KE.hd]
  ·rcases hmem e' he' with ⟨h3, _⟩ | rfl
   ·exact hoE e' h3
   ·exact ⟨m0, hf, fun _ => (nO _ _ _ _ _).at_ w.O W _ (hkeep _ (fun x hx e => hb' (by subst e; rw [hk']; exact hx))) hφ'⟩
  ·rw [List.pairwise_append, List.pairwise_cons]
   refine ⟨pw1, ⟨fun e' he' => ⟨(pw4 e' he').1, fun x hx hy => h2.disj k0 k1 x (fun e => hne e.symm) (hold e' (hpost e' he') x hy) (hnb x hx)⟩, pw5⟩, fun e1' he1 e2' he2 => ?_⟩
   rcases List.mem_cons.1 he2 with rfl | he2
   ·exact ⟨(pw3 e1' he1 ⟨k, A, c, l, false⟩ List.mem_cons_self).1, fun x hx hy => h2.disj k0 k1 x (fun e => hne e.symm) (hold e1' (hpre e1' he1) x hx) (hnb x hy)⟩
   ·exact pw3 e1' he1 e2' (List.mem_cons_of_mem _ he2)
  ·rcases hmem e' he' with ⟨h3, _⟩ | rfl
   ·exact g4 e' h3
   ·exact fun hx => hb' (hnb b hx)
 ·intro x hx
  rcases hx with hx | ⟨e', he', hx⟩
  ·exact .inl (by rw [hk]; exact .inl hx)
  ·rcases hmem e' he' with ⟨h3, _⟩ | rfl
   ·exact .inl (hold e' h3 x hx)
   ·exact .inr (hnb x hx)
def K3 (R : Nat → Prop) (W : World) (enc : κ → Value) (ok : κ → Bool) (b : Nat) (t : Fl α) (m : List (κ × List α)) : Prop :=
 R b ∧ ∃ ms : List (KE κ α), ms.map KE.kd = m ∧ LH W b (ms.map fun e => (enc e.k, e.hd)) ∧ (∀ e ∈ ms, ok e.k = true ∧ Sl R W t e.A e.c e.l) ∧ ms.Pairwise fun e e' => e.k ≠ e'.k
omit [DecidableEq κ] in
theorem K3.go {R R' : Nat → Prop} {W W' : World} {m : List (κ × List α)} (h : K3 R W enc ok b t m) (hS : ∀ b, R b → R' b) (hs : ∀ b, R b → W'.heap[b]? = W.heap[b]?) : K3 R' W' enc ok b t m := by
 obtain ⟨h1, ms, h2, h3, h4, h5⟩ := h
 exact ⟨hS b h1, ms, h2, FW (hs b h1) h3, fun e he => ⟨(h4 e he).1, (h4 e he).2.go hS hs⟩, h5⟩
omit [DecidableEq κ] in
theorem K3.nL {m : List (κ × List α)} (h : K3 w.R w.W enc ok b t m) (hle : w.Le w') : K3 w'.R w'.W enc ok b t m := h.go hle.r (fun b hb => hle.blk b hb)
omit [DecidableEq κ] in
theorem K3.ext {m : List (κ × List α)} (h : K3 w.R w.W enc ok b t m) (e : w.Ext w') : K3 w'.R w'.W enc ok b t m := h.go e.r e.blk
omit [DecidableEq κ] in
theorem Ia (k0 : Nat) {m : List (κ × List α)} {ms : List (KE κ α)} (hk : E k0 = mq enc ok b T t ms) (hm : MQ ms m) (K : ∀ w', w.Le w' → K3 w'.R w'.W enc ok b t m → Tr w' n f (up E k0 emp) X) : Tr w n f E X :=
 fun a W h1 h2 => K (h2.raise k0) (h2.IV k0) (by
  have hφ := h2.phi k0
  rw [hk] at hφ
  obtain ⟨g1, g2, g3, g4⟩ := hφ
  refine ⟨.inl (.inr (by rw [hk]; exact .inl rfl)), ms, hm.1, g1, fun e he => ⟨(g2 e he).1, ?_⟩, g3.imp fun h => h.1⟩
  obtain ⟨css, q0, q1⟩ := (g2 e he).2.2 (hm.2 e he)
  refine (GX q0 q1).mono (fun y hy => ?_)
  rcases hy with hy | hy
  ·exact .inl (.inl hy)
  ·exact .inl (.inr (by rw [hk]; exact .inr ⟨e, he, hm.2 e he, hy⟩))) a W h1 (h2.raised k0)
def Looks (w : Bs) (enc : κ → Value) (ok : κ → Bool) (b : Nat) (A : Option Addr) (c nl : Nat) (k : κ) : Prop :=
 ∀ {P : Program} {E : Nat → jv} {W : World} (_ : HF w W E) {ρ : Operand → Value} {dd : Option Nat} {MT KT VT ty : Nat} {pos : String} {af : Array Edge} {g : Option (Nat × Bool)} {p q : Operand} (_ : P.underlying MT = some (.map KT VT)) (_ : P5 P KT enc ok) (_ : (P.info? VT).bind (·.zero) = some (.slice none 0 0)) (_ : ρ p = .map (some b)) (_ : ρ q = enc k),
  (execOp ρ ⟨dd, .lookup MT p q false, ty, pos, af, g⟩).run P W = .ok (.value (.slice A nl c)) W
theorem K3.look {m : List (κ × List α)} {l : List α} (h : K3 w.R w.W enc ok b t m) {k : κ} (hl : sN ok m k = some l) : ∃ A c, Sl w.R w.W t A c l ∧ Looks w enc ok b A c l.length k := by
 unfold sN at hl
 split at hl
 case isFalse => cases hl
 rename_i hr
 have hl := (Option.some.inj hl).symm
 subst hl
 obtain ⟨hR, ms, rfl, ⟨es, hb, hborn, hes⟩, g2, g3⟩ := h
 have key : ∀ {E : Nat → jv} {W : World}, HF w W E → W.heap[b]? = some (.map es es.size) := fun h2 => (h2.keep b hR).trans hb
 have hkeys : ∀ {P : Program} {KT : Nat}, P5 P KT enc ok → ∀ e ∈ es.toList, ∃ l, keyOf P KT e.key = some l := fun K e he => by
  have : (e.key, e.val) ∈ ms.map fun e => (enc e.k, e.hd) := by rw [← hes]; exact List.mem_map_of_mem (f := fun x : MapEntry => (x.key, x.val)) he
  obtain ⟨e', he', h3⟩ := List.mem_map.1 this
  have h4 : enc e'.k = e.key := congrArg Prod.fst h3
  rw [← h4]; exact K.key e'.k (g2 e' he').1
 rcases LP k ms with ⟨q1, q2, _⟩ | ⟨a0, e, z, q1, q2, q3, q4, _⟩
 ·refine ⟨none, 0, by rw [q2]; exact Sl.nil _ _ _, ?_⟩
  intro P E W h2 ρ dd MT KT VT ty pos af g p q hMT K hz hp hq
  obtain ⟨kl, hkey⟩ := K.key k hr
  have hzr : (zeroValue VT).run P W = .ok (.slice none 0 0) W := by
   cases hi : P.info? VT with
   | none => rw [hi] at hz; cases hz
   | some inf =>
    rw [hi] at hz
    simp only [Option.bind_some] at hz
    simp [zeroValue, typeInfo, hi, hz]
  have main : (Instr.lookup MT (.map (some b)) (enc k) false).run P W = .ok (.slice none 0 0) W := by
   rcases K.kd.find W hkey es.toList (hkeys K) with ⟨f1, f2⟩ | ⟨j, e0, f1, f2, f3⟩
   ·simp [Instr.lookup, run_underlying hMT, MapKept.run_getObj_map (key h2), K.kd.check W _ hkey, f1, hzr, Result.andThen]
   ·have hin : (e0.key, e0.val) ∈ ms.map fun e => (enc e.k, e.hd) := by rw [← hes]; exact List.mem_map_of_mem (f := fun x : MapEntry => (x.key, x.val)) (List.mem_of_getElem? f2)
    obtain ⟨e', he', h3⟩ := List.mem_map.1 hin
    exact absurd (K.inj _ _ ((congrArg Prod.fst h3).trans f3)) (q1 e' he')
  rw [q2]
  simp [execOp, hp, hq, main]
 ·have heM : e ∈ ms := by rw [q1]; simp
  refine ⟨e.A, e.c, by rw [q4]; exact (g2 e heM).2, ?_⟩
  intro P E W h2 ρ dd MT KT VT ty pos af g p q hMT K hz hp hq
  obtain ⟨kl, hkey⟩ := K.key k hr
  have main : (Instr.lookup MT (.map (some b)) (enc k) false).run P W = .ok (.slice e.A e.l.length e.c) W := by
   rcases K.kd.find W hkey es.toList (hkeys K) with ⟨f1, f2⟩ | ⟨j, e0, f1, f2, f3⟩
   ·exfalso
    have : (enc e.k, e.hd) ∈ es.toList.map fun x => (x.key, x.val) := by rw [hes]; exact List.mem_map_of_mem (f := fun e : KE κ α => (enc e.k, e.hd)) heM
    obtain ⟨x0, hx0, h3⟩ := List.mem_map.1 this
    exact f2 x0 hx0 ((congrArg Prod.fst h3).trans (by show enc e.k = _; rw [q2]))
   ·have hin : (e0.key, e0.val) ∈ ms.map fun e => (enc e.k, e.hd) := by rw [← hes]; exact List.mem_map_of_mem (f := fun x : MapEntry => (x.key, x.val)) (List.mem_of_getElem? f2)
    obtain ⟨e', he', h3⟩ := List.mem_map.1 hin
    have hek : e'.k = e.k := (K.inj _ _ ((congrArg Prod.fst h3).trans f3)).trans q2.symm
    have : e' = e := by
     rw [q1] at he' g3
     obtain ⟨_, pw2, pw3⟩ := List.pairwise_append.1 g3
     obtain ⟨pw4, _⟩ := List.pairwise_cons.1 pw2
     rcases List.mem_append.1 he' with he' | he'
     ·exact absurd hek (pw3 e' he' e List.mem_cons_self)
     ·rcases List.mem_cons.1 he' with he' | he'
      ·exact he'
      ·exact absurd hek.symm (pw4 e' he')
    subst this
    have h5 : e'.hd = e0.val := congrArg Prod.snd h3
    simp [Instr.lookup, run_underlying hMT, MapKept.run_getObj_map (key h2), K.kd.check W _ hkey, f1, ← h5, KE.hd, Result.andThen]
  rw [q4]
  simp [execOp, hp, hq, main]
end
open Go.RowKit Go.Sort Go.Proofs Go.Shelf
theorem FM {β : Type} [Inhabited β] (enc : β → Value) (W : World) (g : Nat) (d : Array β) : putRow enc W g 0 d = putRow id W g 0 (d.map enc) := by
 unfold putRow
 congr 1
 funext cur
 unfold putCells
 apply Array.ext (by simp)
 intro i h1 h2
 simp only [Array.getElem_mapIdx, Nat.zero_le, true_and, Nat.zero_add, Array.size_map, Nat.sub_zero, id_eq]
 by_cases hi : i < d.size
 ·rw [if_pos hi, if_pos hi, getElem!_pos d i hi, getElem!_pos (d.map enc) i (by simpa using hi)]; simp
 ·rw [if_neg hi, if_neg hi]
section
variable {P : Program} {ρ : Ren} {w : Bs} {t : Fl Int} {A : Option Addr} {c T : Nat} {l r : List Int} {cmp : Int → Int → Option Int} {fid : Nat} {cap : List Value}
end
open Go.RowKit Go.Sort Go.Proofs Go.Shelf
section
variable {β : Type}
def Apart (c : β → β → Option Int) (l : List β) : Prop := ∀ x ∈ l, ∀ y ∈ l, FX c x y = false → FX c y x = false → x = y
open Classical in
noncomputable def DT (l : List β) (c : β → β → Option Int) : Option (List β) := if sS c l ∧ Apart c l then CK l c else none
theorem FC {l r : List β} {c : β → β → Option Int} (h : DT l c = some r) : sS c l ∧ Apart c l ∧ r.Perm l ∧ r.Pairwise (fun x y => FX c y x = false) := by
 unfold DT at h
 split at h
 ·rename_i h1
  obtain ⟨_, h2, h3⟩ := BI h
  exact ⟨h1.1, h1.2, h2, h3⟩
 ·cases h
theorem Qo {l : List β} {c : β → β → Option Int} (h : sS c l) (h' : Apart c l) : ∃ r, DT l c = some r := by
 unfold DT
 rw [if_pos ⟨h, h'⟩]
 exact Lg h
theorem Apart.one {l a b : List β} {c : β → β → Option Int} (h : Apart c l) (ha : a.Perm l) (hb : b.Perm l) (h1 : a.Pairwise fun x y => FX c y x = false) (h2 : b.Pairwise fun x y => FX c y x = false) : a = b :=
 (ha.trans hb.symm).eq_of_pairwise (fun x y hx hy g1 g2 => h x (ha.mem_iff.1 hx) y (hb.mem_iff.1 hy) g2 g1) h1 h2
end
section
variable {P : Program} {ρ : Ren} {β : Type} {w : Bs} {t : Fl (List β)} {t' : Fl β} {A : Option Addr} {c T : Nat} {l r : List (List β)} {cmp : List β → List β → Option Int} {fid : Nat} {cap : List Value}
abbrev Pr (β : Type) := (Option Addr × Nat) × List β
def BC (p : Pr β) : Value := .slice p.1.1 p.2.length p.1.2
theorem JD {O : Nat → Prop} {W : World} (hel : ∀ u x, t.ok O W u x → ∃ p : Pr β, p.2 = x ∧ t.enc u x = [BC p] ∧ Sl O W t' p.1.1 p.1.2 x) : ∀ {css : List (List Value)} {l : List (List β)}, Al (rp t O W) css l → ∃ ps : List (Pr β), ps.map (·.2) = l ∧ css = ps.map (fun p => [BC p]) ∧ ∀ p ∈ ps, Sl O W t' p.1.1 p.1.2 p.2
 | _, _, .nil => ⟨[], rfl, rfl, fun _ h => (nomatch h)⟩
 | _, _, .cons ⟨u, h1, h2⟩ h => by
  obtain ⟨ps, q1, q2, q3⟩ := JD hel h
  obtain ⟨p, p1, p2, p3⟩ := hel u _ h1
  refine ⟨p :: ps, by rw [List.map_cons, q1, p1], by rw [List.map_cons, ← q2, h2, p2], fun p' hp' => ?_⟩
  rcases List.mem_cons.1 hp' with rfl | hp'
  ·rw [p1]; exact p3
  ·exact q3 p' hp'
theorem GI {ps : List (Pr β)} (hp : ps.map (·.2) = l) (h : sS cmp l) : sS (fun p q : Pr β => cmp p.2 q.2) ps := by
 have hm : ∀ p ∈ ps, p.2 ∈ l := fun p hp' => by rw [← hp]; exact List.mem_map_of_mem (f := fun p : Pr β => p.2) hp'
 exact ⟨by have := h.len; rw [← hp, List.length_map] at this; exact this, fun x hx y hy => h.tot _ (hm x hx) _ (hm y hy), fun x hx => h.irr _ (hm x hx),
  fun x hx y hy z hz => h.tr _ (hm x hx) _ (hm y hy) _ (hm z hz), fun x hx y hy z hz => h.ntr _ (hm x hx) _ (hm y hy) _ (hm z hz)⟩
theorem DW (L : SlLaysF.n6 P ρ) (h1 : t.sz = 1) (hel : ∀ O W u x, t.ok O W u x → ∃ p : Pr β, p.2 = x ∧ t.enc u x = [BC p] ∧ Sl O W t' p.1.1 p.1.2 x) (hmk : ∀ O W (p : Pr β), Sl O W t' p.1.1 p.1.2 p.2 → rp t O W [BC p] p.2)
  (hg : ∀ args w, (callFunc fid args).run P w = .ok (.enter fid args) w)
  (hf : ∀ (w' : Bs), w.Ext w' → ∀ (z0 : List β) (A0 : Option Addr) (c0 : Nat), Sl w'.R w'.W t' A0 c0 z0 → ∀ (z1 : List β) (A1 : Option Addr) (c1 : Nat), Sl w'.R w'.W t' A1 c1 z1 → ∀ y, cmp z0 z1 = some y →
   Calls P fid (([.slice A0 z0.length c0, .slice A1 z1.length c1] : List Value) ++ cap).toArray w'.W fun e W'' => e = .returned (.int .i64 y) ∧ HF w' W'' E0)
  (H : DT l cmp = some r) (hE : HF w w.W (iF [ow A c T t l])) :
  Calls P (ρ.f 6) [.slice A l.length c, .func (.func fid) #[] cap.toArray].toArray w.W fun e W' => ∃ u : Unit, e = .returned (.tuple #[]) ∧ (r.length = l.length) ∧ HF w W' (iF [ow A c T t r]) := by
 obtain ⟨hok, hap, hperm, hsort⟩ := FC H
 have hrl : r.length = l.length := hperm.length_eq
 have L0 : SlLaysF0.n6 P ρ := { L with }
 obtain ⟨css, hal, hlen, hown⟩ := hE.ow (k := 0) rfl
 rcases hown with ⟨ev, h0⟩ | ⟨g, cap', cur, ev, hb0, hh, hn, hc, hs, htk⟩
 ·have hl : l = [] := List.eq_nil_of_length_eq_zero h0
  subst hl
  have hr : r = [] := List.eq_nil_of_length_eq_zero hrl
  subst hr
  refine (AnyF.slices_SortFunc_none L0 A c (.func (.func fid) #[] cap.toArray) w.W).mono fun e' W' ⟨h1, h2⟩ => ?_
  subst h2
  exact ⟨(), h1, rfl, hE⟩
 ·simp at ev
  obtain ⟨rfl, rfl⟩ := ev
  obtain ⟨ps, p1, p2, p3⟩ := JD (hel _ _) hal
  have hlp : ps.length = l.length := by rw [← p1, List.length_map]
  have hokp := GI p1 hok
  by_cases hx : ∃ x, x ∈ ps
  ·letI : Inhabited {x // x ∈ ps} := ⟨⟨Classical.choose hx, Classical.choose_spec hx⟩⟩
   have hsz : ps.attach.toArray.size = l.length := by simp [hlp]
   have hflat : ∀ (d : Array {x // x ∈ ps}), (d.map fun x => BC x.1).toList = (d.toList.map (·.1)).map BC := fun d => by simp
   have Us : ∀ qs : List (Pr β), (qs.map fun p => [BC p]).flatten = qs.map BC := fun qs => by
    induction qs with
    | nil => rfl
    | cons q qs ih => rw [List.map_cons, List.flatten_cons, ih]; rfl
   have hgw : g < w.W.heap.size := (Array.getElem?_eq_some_iff.1 hh).1
   have htk' : cur.toList.take l.length = ps.map BC := by rw [p2, Us, h1, Nat.mul_one] at htk; exact htk
   have hcur : l.length ≤ cur.size := by rw [hs, h1, Nat.mul_one]; exact hn
   have hH : Holds (fun x : {x // x ∈ ps} => BC x.1) w.W g 0 ps.attach.toArray := by
    intro j hj
    have hj' : j < l.length := by simpa [hlp] using hj
    refine ⟨?_, by simp [World.frozen?, hh]⟩
    have e1 : (cur.toList.take l.length)[j]? = (ps.map BC)[j]? := by rw [htk']
    rw [List.getElem?_take_of_lt hj'] at e1
    simp only [World.cell?, hh, Nat.zero_add]
    simp only [Option.isSome_none, Bool.false_eq_true, if_false]
    rw [← Array.getElem?_toList, e1, getElem!_pos ps.attach.toArray j hj]
    have hjp : j < ps.length := by omega
    simp [hjp]
   have hgR : ¬ w.R g := (hE.bd 0 g rfl).1
   have hcmp : CmpLays1 P fid cap.toArray (fun x : {x // x ∈ ps} => BC x.1) (NA (fun p q : Pr β => cmp p.2 q.2) ps) g 0 ps.attach.toArray.size w.W := by
    intro m os dk hdk x y
    obtain ⟨k, hk⟩ := hokp.tot x.1 x.2 y.1 y.2
    have hsw : sortWorld (fun x : {x // x ∈ ps} => BC x.1) w.W g 0 m dk os = grow (putRow id (Sort.ahead w.W m) g 0 (dk.map fun x => BC x.1)) os := by
     unfold sortWorld; rw [FM]
    rw [hsw]
    have hS : w.W.heap.size ≤ (grow (putRow id (Sort.ahead w.W m) g 0 (dk.map fun x => BC x.1)) os).heap.size := uR _
    have hext : w.Ext ⟨grow (putRow id (Sort.ahead w.W m) g 0 (dk.map fun x => BC x.1)) os, w.O, fun b => b < (grow (putRow id (Sort.ahead w.W m) g 0 (dk.map fun x => BC x.1)) os).heap.size, fun b hb => by
      rcases hb with hb | hb
      ·exact Nat.lt_of_lt_of_le (w.lt b (.inl hb)) hS
      ·exact hb⟩ := ⟨fun _ h => h, fun b hb => .inr (Nat.lt_of_lt_of_le (w.lt b hb) hS), fun b hb => ve _ (w.lt b hb) (fun e => hgR (e ▸ hb))⟩
    have s0 := (Sl.rl (w := w) (p3 x.1 x.2)).ext hext
    have s1 := (Sl.rl (w := w) (p3 y.1 y.2)).ext hext
    have := hf _ hext x.1.2 x.1.1.1 x.1.1.2 s0 y.1.2 y.1.1.1 y.1.1.2 s1 k hk
    have hargs : (([.slice x.1.1.1 x.1.2.length x.1.1.2, .slice y.1.1.1 y.1.2.length y.1.1.2] : List Value) ++ cap).toArray = #[BC x.1, BC y.1] ++ cap.toArray := by simp [BC]
    rw [hargs] at this
    refine this.mono fun e' W'' ⟨h1, h2⟩ => ⟨by rw [h1]; simp [NA, hk], ?_⟩
    exact below_grow ⟨h2.os, h2.tape, h2.output, h2.size, fun b hb => h2.keep b (.inr hb), h2.drawn⟩
   have main := Any.slices_SortFunc_eq L (fun x : {x // x ∈ ps} => BC x.1) (fun x => rfl) (NA (fun p q : Pr β => cmp p.2 q.2) ps) hokp.swo fid cap.toArray g 0 c ps.attach.toArray w.W hg hcmp hH hgw (by rw [hsz]; exact hok.len)
   rw [hsz] at main
   refine main.mono fun e' W' ⟨h1', n, os, h2⟩ => ⟨(), h1', hrl, ?_⟩
   have hD : sJ (fun p q : Pr β => cmp p.2 q.2) ps ⟨⟨Classical.choose hx, Classical.choose_spec hx⟩⟩ = pdq (ltOf (NA (fun p q : Pr β => cmp p.2 q.2) ps)) ps.attach.toArray 0 l.length (Lib.bitLen l.length) true true := by unfold sJ; rw [hsz]
   rw [← hD] at h2
   obtain ⟨hDp, hDo, hDs⟩ := BJ (fun p q : Pr β => cmp p.2 q.2) ps ⟨⟨Classical.choose hx, Classical.choose_spec hx⟩⟩ hokp
   generalize sJ (fun p q : Pr β => cmp p.2 q.2) ps ⟨⟨Classical.choose hx, Classical.choose_spec hx⟩⟩ = D at h2 hDp hDo hDs
   have hW : W' = grow (putRow id (Sort.ahead w.W n) g 0 (D.map fun x => BC x.1)) os := by rw [h2]; unfold sortWorld; rw [FM]
   have hfs : (D.map fun x => BC x.1).size = l.length := by rw [Array.size_map, hDs, hsz]
   have hDV : (D.map fun x => BC x.1).toList = (D.toList.map (·.1)).map BC := hflat D
   generalize hR : D.toList.map (·.1) = R at hDp hDo hDV
   have hRr : R.map (·.2) = r := by
    refine hap.one ?_ hperm ?_ hsort
    ·rw [← p1]; exact hDp.map _
    ·rw [List.pairwise_map]; exact hDo
   have hRs : ∀ p ∈ R, Sl w.O w.W t' p.1.1 p.1.2 p.2 := fun p hp => p3 p (hDp.mem_iff.1 hp)
   have hRl : R.length = l.length := by rw [hDp.length_eq, hlp]
   clear h2 hDs main hcmp hDo
   generalize (D.map fun x => BC x.1) = DV at hW hfs hDV
   subst hW
   have hOk : ∀ b, w.O b → (grow (putRow id (Sort.ahead w.W n) g 0 DV) os).heap[b]? = w.W.heap[b]? := fun b hb => ve _ (w.lt b (.inl hb)) (fun e => hgR (.inl (e ▸ hb)))
   have hal2 : ∀ qs : List (Pr β), (∀ p ∈ qs, Sl w.O w.W t' p.1.1 p.1.2 p.2) → Al (rp t w.O (grow (putRow id (Sort.ahead w.W n) g 0 DV) os)) (qs.map fun p => [BC p]) (qs.map (·.2)) := fun qs => by
    induction qs with
    | nil => intro _; exact .nil
    | cons q qs ih => intro hq; exact .cons (hmk _ _ _ ((hq q (by simp)).loc hOk)) (ih fun p hp => hq p (by simp [hp]))
   refine (hE.mod (E := iF [ow (some ⟨g, 0, none⟩) c T t l]) (W' := grow (putRow id (Sort.ahead w.W n) g 0 DV) os) 0 (ow (some ⟨g, 0, none⟩) c T t r) rfl rfl rfl (uR _) (Nat.le_add_right _ _) (fun b hb hs => ve _ hb (fun e => hs (by rw [e]; rfl))) (nO _ _ _ _ _) ?_ (fun b hb => ?_)).weaken (fun k => ?_)
   ·have hal3 := hal2 R hRs
    rw [hRr] at hal3
    refine ⟨R.map fun p => [BC p], hal3, by rw [qi hal3], .inr ⟨g, c, _, by rw [hrl], Nat.zero_le _, FO _ hh, by rw [hrl]; exact hn, hc, by simp [putCells, hs], ?_⟩⟩
    have := FN cur DV (by rw [hfs]; exact hcur)
    rw [hrl, h1, Nat.mul_one, Us, ← hfs, this, hDV]
   ·have hb : (Value.slice (some ⟨g, 0, none⟩) r.length c).ownBlock = some b := hb
    simp [Value.ownBlock] at hb
    subst hb
    exact ⟨.inl rfl, Nat.lt_of_lt_of_le hgw (uR _)⟩
   ·cases k with
    | zero => exact .inl rfl
    | succ k => exact .inr rfl
  ·have hps : ps = [] := List.eq_nil_iff_forall_not_mem.2 fun x hm => hx ⟨x, hm⟩
   have hl : l = [] := by rw [← p1, hps]; rfl
   subst hl
   have hr : r = [] := List.eq_nil_of_length_eq_zero hrl
   subst hr
   refine (AnyF.slices_SortFunc_none L0 _ c (.func (.func fid) #[] cap.toArray) w.W).mono fun e' W' ⟨h1, h2⟩ => ?_
   subst h2
   exact ⟨(), h1, rfl, hE⟩
end
open Go.RowKit
section
variable {P : Program} {w : Bs} {n : Nat} {f : Nat → Option Value} {E : Nat → jv} {l : List Oper} {m : Nat} {t : Tn} {Q : Exit → Act → World → Prop} {fu : Nat} {listed : Array Bool}
theorem rH {U : Type} {op : Op} {d ty : Nat} {pos : String} {af : Array Edge} {g : Option (Nat × Bool)} (i : Nat) (Φ : U → Prop) (V : U → Value) (hC : HY l m = true) (hi : l[i]? = some ⟨some d, op, ty, pos, af, g⟩) (hw : Wn l.toArray f ⟨some d, op, ty, pos, af, g⟩) (hdn : Nat.blt d n = true)
  (hB : qB l m i listed (t.ys.map (·.1) ++ t.zs) = true)
  (hr : ∀ a W, FR n f a → HF w W E → ∃ u, Φ u ∧ ∀ W', Below W.heap.size W W' → (execOp a.eval ⟨some d, op, ty, pos, af, g⟩).run P W' = .ok (.value (V u)) W')
  (K : ∀ u, Φ u → Dr P w n l m t Q fu (listed.setIfInBounds i true) (uf f d (V u)) E) : Dr P w n l m t Q (fu + 1) listed f E := by
 intro inv a W h1 h2 hs0
 obtain ⟨u, hu, hrun⟩ := hr a W h1 h2
 simp only [HY, Bool.and_eq_true, Bool.or_eq_true, decide_eq_true_eq] at hC
 obtain ⟨hsel, hT⟩ := hC
 have hs : m = l.toArray.size ∨ Region.sinkB .any l.toArray m = true ∧ Region.chainB .any l.toArray m = true := hT.imp (fun h => by simpa using h) (fun h => ⟨h.1.2, h.2⟩)
 simp only [qB, Bool.and_eq_true, decide_eq_true_eq] at hB
 obtain ⟨⟨⟨him, hrd⟩, hfr⟩, hks⟩ := hB
 have hrd : i ∈ Region.ready .any l.toArray listed := by simpa using hrd
 have hi' : (l.toArray)[i]? = some ⟨some d, op, ty, pos, af, g⟩ := by simpa using hi
 have hyl : ∀ W', rA (fun _ => False) W W' → YieldsIn P l.toArray (fun W'' => Below W'.heap.size W' W'') ⟨some d, op, ty, pos, af, g⟩ (V u) a := fun W' hk => .inl ⟨hw n a h1, fun W'' hb => by
  unfold Oper.quietAt
  rw [hrun W'' (Ck (hk.below fun _ h => h) hb)]
  exact ⟨rfl, rfl⟩⟩
 refine rV.first (oi := ⟨some d, op, ty, pos, af, g⟩) (v := V u) (Z := fun _ => False) hi' hsel hs him (fun _ _ _ hL => seqB_ready hL.1) fu listed a W inv hrd hyl (fun j oj hj hji hun hno => ⟨Region.free_spec hi' hfr j oj hj hji hun hno, fun b hb => ?_⟩) ?_
 ·have hmem : j ∈ t.ys.map (·.1) ++ t.zs := by
   rcases hb with ⟨p, hp, rfl, _⟩ | ⟨hjz, _⟩
   ·exact List.mem_append_left _ (List.mem_map.2 ⟨_, hp, rfl⟩)
   ·exact List.mem_append_right _ hjz
  have := List.all_eq_true.1 hks j hmem
  have hj' : l[j]? = some oj := by simpa using hj
  rw [hj'] at this
  simp only [Bool.or_eq_true, beq_iff_eq, hji, false_or, hun, Bool.false_eq_true] at this
  obtain ⟨e, he, hb2⟩ := Array.any_eq_true'.1 this
  simp only [Bool.and_eq_true, beq_iff_eq] at hb2
  exact hno e he hb2.1 hb2.2
 ·exact K u hu (inv.set hrd him) _ W (h1.put (Nat.le_of_ble_eq_true hdn) (V u)) h2 hs0
end
open Go.RowKit
section
variable {P : Program} {w : Bs} {n : Nat} {ops : Array Oper} {f : Nat → Option Value} {E : Nat → jv} {Q : Exit → Act → World → Prop} {X : Act → World → Prop} {rest : List Oper} {d ty : Nat} {pos : String} {af : Array Edge} {p q : Operand} {u v z : Value} {op : Op} {g : Option (Nat × Bool)}
theorem y5.r : ∀ {l : List (Nat × Value)}, l.map (fun p => f p.1) = l.map (fun p => some p.2) → y5 f l
 | [], _ => trivial
 | _ :: _, h => ⟨(List.cons.inj h).1, y5.r (List.cons.inj h).2⟩
theorem yj.r : ∀ {l : List (Nat × jv)}, l.map (fun p => E p.1) = l.map (fun p => p.2) → yj E l
 | [], _ => trivial
 | _ :: _, h => ⟨(List.cons.inj h).1, yj.r (List.cons.inj h).2⟩
theorem PL (hw : Wn ops f ⟨some d, op, ty, pos, af, g⟩) (hdn : Nat.blt d n = true) (hr : ∀ {ρ : Operand → Value} {W : World}, ρ p = u → (execOp ρ ⟨some d, op, ty, pos, af, g⟩).run P W = .ok (.value v) W) (hp : ev f p = some u) (k : Tr w n (uf f d v) E (wpList P ops Q rest)) : Tr w n f E (wpList P ops Q (⟨some d, op, ty, pos, af, g⟩ :: rest)) :=
 Tr.val hw hdn (fun _ _ h1 _ => hr (h1.ev hp)) k
theorem ME (hw : Wn ops f ⟨some d, op, ty, pos, af, g⟩) (hdn : Nat.blt d n = true) (hr : ∀ {ρ : Operand → Value} {W : World}, ρ p = u → ρ q = z → (execOp ρ ⟨some d, op, ty, pos, af, g⟩).run P W = .ok (.value v) W) (hp : ev f p = some u) (hq : ev f q = some z) (k : Tr w n (uf f d v) E (wpList P ops Q rest)) : Tr w n f E (wpList P ops Q (⟨some d, op, ty, pos, af, g⟩ :: rest)) :=
 Tr.val hw hdn (fun _ _ h1 _ => hr (h1.ev hp) (h1.ev hq)) k
theorem PQ (hw : Wn ops f ⟨some d, op, ty, pos, af, g⟩) (hdn : Nat.blt d n = true) (hr : ∀ {ρ : Operand → Value} {W : World}, ρ p = u → (execOp ρ ⟨some d, op, ty, pos, af, g⟩).run P W = .ok (.value v) W) (hp : ev f p = some u) (k : Tq P w n ops (uf f d v) E X rest) : Tq P w n ops f E X (⟨some d, op, ty, pos, af, g⟩ :: rest) :=
 Tq.val hw hdn (fun _ _ h1 _ => hr (h1.ev hp)) k
theorem PP (hw : Wn ops f ⟨some d, op, ty, pos, af, g⟩) (hdn : Nat.blt d n = true) (hr : ∀ {ρ : Operand → Value} {W : World}, ρ p = u → ρ q = z → (execOp ρ ⟨some d, op, ty, pos, af, g⟩).run P W = .ok (.value v) W) (hp : ev f p = some u) (hq : ev f q = some z) (k : Tq P w n ops (uf f d v) E X rest) : Tq P w n ops f E X (⟨some d, op, ty, pos, af, g⟩ :: rest) :=
 Tq.val hw hdn (fun _ _ h1 _ => hr (h1.ev hp) (h1.ev hq)) k
theorem aA (hp : ev f p = some v) (k : Tr w n (uf f d v) E (wpList P ops Q rest)) (hdn : Nat.blt d n = true := by exact rfl) : Tr w n f E (wpList P ops Q (⟨some d, .move p, ty, pos, af, none⟩ :: rest)) := UL hdn hp k
theorem Tr.k (hp : ev f p = some v) (k : Tr w n (uf f d v) E (wpList P ops Q rest)) (hdn : Nat.blt d n = true := by exact rfl) : Tr w n f E (wpList P ops Q (⟨some d, .assign p, ty, pos, af, none⟩ :: rest)) := Ty hdn hp k
theorem dD (hp : ev f p = some v) (k : Tq P w n ops (uf f d v) E X rest) (hdn : Nat.blt d n = true := by exact rfl) : Tq P w n ops f E X (⟨some d, .move p, ty, pos, af, none⟩ :: rest) := UM hdn hp k
theorem aT (hr : ∀ {ρ : Operand → Value} {W : World}, ρ p = u → (execOp ρ ⟨some d, op, ty, pos, af, none⟩).run P W = .ok (.value v) W) (hp : ev f p = some u) (k : Tr w n (uf f d v) E (wpList P ops Q rest)) (hdn : Nat.blt d n = true := by exact rfl) : Tr w n f E (wpList P ops Q (⟨some d, op, ty, pos, af, none⟩ :: rest)) := PL (wn rfl) hdn hr hp k
theorem aC (hr : ∀ {ρ : Operand → Value} {W : World}, ρ p = u → ρ q = z → (execOp ρ ⟨some d, op, ty, pos, af, none⟩).run P W = .ok (.value v) W) (hp : ev f p = some u) (hq : ev f q = some z) (k : Tr w n (uf f d v) E (wpList P ops Q rest)) (hdn : Nat.blt d n = true := by exact rfl) : Tr w n f E (wpList P ops Q (⟨some d, op, ty, pos, af, none⟩ :: rest)) := ME (wn rfl) hdn hr hp hq k
theorem fQ (hr : ∀ {ρ : Operand → Value} {W : World}, ρ p = u → (execOp ρ ⟨some d, op, ty, pos, af, none⟩).run P W = .ok (.value v) W) (hp : ev f p = some u) (k : Tq P w n ops (uf f d v) E X rest) (hdn : Nat.blt d n = true := by exact rfl) : Tq P w n ops f E X (⟨some d, op, ty, pos, af, none⟩ :: rest) := PQ (wn rfl) hdn hr hp k
theorem fO (hr : ∀ {ρ : Operand → Value} {W : World}, ρ p = u → ρ q = z → (execOp ρ ⟨some d, op, ty, pos, af, none⟩).run P W = .ok (.value v) W) (hp : ev f p = some u) (hq : ev f q = some z) (k : Tq P w n ops (uf f d v) E X rest) (hdn : Nat.blt d n = true := by exact rfl) : Tq P w n ops f E X (⟨some d, op, ty, pos, af, none⟩ :: rest) := PP (wn rfl) hdn hr hp hq k
theorem dU {j t : Nat} {b : Bool} (hr : ∀ {ρ : Operand → Value} {W : World}, ρ p = u → (execOp ρ ⟨some d, op, ty, pos, af, g⟩).run P W = .ok (.value v) W) (hp : ev f p = some u) (k : Tr w n (uf f d v) E (wpList P ops Q rest)) (h : g = some (j, b) := by exact rfl) (hj : (ops[j]?).bind (·.dst) = some t := by exact rfl) (ht : f t = some (.bool b) := by exact rfl) (hdn : Nat.blt d n = true := by exact rfl) : Tr w n f E (wpList P ops Q (⟨some d, op, ty, pos, af, g⟩ :: rest)) := PL (wg h hj ht) hdn hr hp k
theorem kF {j t : Nat} {b : Bool} (hr : ∀ {ρ : Operand → Value} {W : World}, ρ p = u → ρ q = z → (execOp ρ ⟨some d, op, ty, pos, af, g⟩).run P W = .ok (.value v) W) (hp : ev f p = some u) (hq : ev f q = some z) (k : Tr w n (uf f d v) E (wpList P ops Q rest)) (h : g = some (j, b) := by exact rfl) (hj : (ops[j]?).bind (·.dst) = some t := by exact rfl) (ht : f t = some (.bool b) := by exact rfl) (hdn : Nat.blt d n = true := by exact rfl) : Tr w n f E (wpList P ops Q (⟨some d, op, ty, pos, af, g⟩ :: rest)) := ME (wg h hj ht) hdn hr hp hq k
theorem kg {j t : Nat} {b : Bool} (hr : ∀ {ρ : Operand → Value} {W : World}, ρ p = u → (execOp ρ ⟨some d, op, ty, pos, af, g⟩).run P W = .ok (.value v) W) (hp : ev f p = some u) (k : Tq P w n ops (uf f d v) E X rest) (h : g = some (j, b) := by exact rfl) (hj : (ops[j]?).bind (·.dst) = some t := by exact rfl) (ht : f t = some (.bool b) := by exact rfl) (hdn : Nat.blt d n = true := by exact rfl) : Tq P w n ops f E X (⟨some d, op, ty, pos, af, g⟩ :: rest) := PQ (wg h hj ht) hdn hr hp k
theorem ug {j t : Nat} {b : Bool} (hr : ∀ {ρ : Operand → Value} {W : World}, ρ p = u → ρ q = z → (execOp ρ ⟨some d, op, ty, pos, af, g⟩).run P W = .ok (.value v) W) (hp : ev f p = some u) (hq : ev f q = some z) (k : Tq P w n ops (uf f d v) E X rest) (h : g = some (j, b) := by exact rfl) (hj : (ops[j]?).bind (·.dst) = some t := by exact rfl) (ht : f t = some (.bool b) := by exact rfl) (hdn : Nat.blt d n = true := by exact rfl) : Tq P w n ops f E X (⟨some d, op, ty, pos, af, g⟩ :: rest) := PP (wg h hj ht) hdn hr hp hq k
theorem Tr.x {j t : Nat} {b : Bool} (hr : ∀ a W, FR n f a → HF w W E → (execOp a.eval ⟨some d, op, ty, pos, af, g⟩).run P W = .ok (.value v) W) (k : Tr w n (uf f d v) E (wpList P ops Q rest)) (h : g = some (j, b) := by exact rfl) (hj : (ops[j]?).bind (·.dst) = some t := by exact rfl) (ht : f t = some (.bool b) := by exact rfl) (hdn : Nat.blt d n = true := by exact rfl) : Tr w n f E (wpList P ops Q (⟨some d, op, ty, pos, af, g⟩ :: rest)) := Tr.val (wg h hj ht) hdn hr k
theorem Tq.x {j t : Nat} {b : Bool} (hr : ∀ a W, FR n f a → HF w W E → (execOp a.eval ⟨some d, op, ty, pos, af, g⟩).run P W = .ok (.value v) W) (k : Tq P w n ops (uf f d v) E X rest) (h : g = some (j, b) := by exact rfl) (hj : (ops[j]?).bind (·.dst) = some t := by exact rfl) (ht : f t = some (.bool b) := by exact rfl) (hdn : Nat.blt d n = true := by exact rfl) : Tq P w n ops f E X (⟨some d, op, ty, pos, af, g⟩ :: rest) := Tq.val (wg h hj ht) hdn hr k
theorem dQ {fu : Func} {w0 : Bs} (le : w0.Le w) (hr : zU P f E fu.results.toList [v] [] := by exact cO rfl bO) : Tr w n f E (bodyPost P fu (fun e W' => e = .returned v ∧ HF w0 W' E0) .ret) := Tr.out [] hr (fun _ hW => ⟨rfl, hW.low le⟩)
theorem VN (hdn : Nat.blt d n = true) (hr : ∀ {ρ : Operand → Value} {W : World}, ρ p = u → (execOp ρ ⟨some d, op, ty, pos, af, none⟩).run P W = .ok (.value v) W) (hp : ev f p = some u) (k : Tr w n (uf f d v) E (wpList P ops Q rest)) : Tr w n f E (wpList P ops Q (⟨some d, op, ty, pos, af, none⟩ :: rest)) := PL (wn rfl) hdn hr hp k
theorem VM (hdn : Nat.blt d n = true) (hr : ∀ {ρ : Operand → Value} {W : World}, ρ p = u → ρ q = z → (execOp ρ ⟨some d, op, ty, pos, af, none⟩).run P W = .ok (.value v) W) (hp : ev f p = some u) (hq : ev f q = some z) (k : Tr w n (uf f d v) E (wpList P ops Q rest)) : Tr w n f E (wpList P ops Q (⟨some d, op, ty, pos, af, none⟩ :: rest)) := ME (wn rfl) hdn hr hp hq k
theorem VP (hdn : Nat.blt d n = true) (hr : ∀ {ρ : Operand → Value} {W : World}, ρ p = u → (execOp ρ ⟨some d, op, ty, pos, af, none⟩).run P W = .ok (.value v) W) (hp : ev f p = some u) (k : Tq P w n ops (uf f d v) E X rest) : Tq P w n ops f E X (⟨some d, op, ty, pos, af, none⟩ :: rest) := PQ (wn rfl) hdn hr hp k
theorem VO (hdn : Nat.blt d n = true) (hr : ∀ {ρ : Operand → Value} {W : World}, ρ p = u → ρ q = z → (execOp ρ ⟨some d, op, ty, pos, af, none⟩).run P W = .ok (.value v) W) (hp : ev f p = some u) (hq : ev f q = some z) (k : Tq P w n ops (uf f d v) E X rest) : Tq P w n ops f E X (⟨some d, op, ty, pos, af, none⟩ :: rest) := PP (wn rfl) hdn hr hp hq k
theorem bf {o : Oper} {j t : Nat} {b b' : Bool} (hd : o.dst = some d) (k : Tr w n (uf f d undef) E (wpList P ops Q rest)) (h : o.guard = some (j, b) := by rfl) (hj : (ops[j]?).bind (·.dst) = some t := by rfl) (ht : f t = some (.bool b') := by rfl) (hne : (b' == b) = false := by rfl) (hdn : d < n := by decide) : Tr w n f E (wpList P ops Q (o :: rest)) := Rj h hj ht hne hd hdn k
theorem cZ {o : Oper} {j t : Nat} {b b' : Bool} (hd : o.dst = some d) (k : Tq P w n ops (uf f d undef) E X rest) (h : o.guard = some (j, b) := by rfl) (hj : (ops[j]?).bind (·.dst) = some t := by rfl) (ht : f t = some (.bool b') := by rfl) (hne : (b' == b) = false := by rfl) (hdn : d < n := by decide) : Tq P w n ops f E X (o :: rest) := Rk h hj ht hne hd hdn k
theorem tY {o : Oper} {j t : Nat} {b : Bool} (hd : o.dst = some d) (k : Tr w n (uf f d undef) E (wpList P ops Q rest)) (h : o.guard = some (j, b) := by rfl) (hj : (ops[j]?).bind (·.dst) = some t := by rfl) (ht : f t = some undef := by rfl) (hdn : d < n := by decide) : Tr w n f E (wpList P ops Q (o :: rest)) := PN h hj ht hd hdn k
theorem EW {o : Oper} {j t : Nat} {b : Bool} (hd : o.dst = some d) (k : Tq P w n ops (uf f d undef) E X rest) (h : o.guard = some (j, b) := by rfl) (hj : (ops[j]?).bind (·.dst) = some t := by rfl) (ht : f t = some undef := by rfl) (hdn : d < n := by decide) : Tq P w n ops f E X (o :: rest) := PR h hj ht hd hdn k
end
end Go.Proofs.YtcjeebkoafonpaaGreatDoor
