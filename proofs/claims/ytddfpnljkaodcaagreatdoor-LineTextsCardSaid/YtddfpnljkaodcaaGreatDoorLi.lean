/-
  forms of layer 31 (line): the map of what belongs to each word, as it is made; and what a look into it gives.
-/
import Derived.Test.YtddfpnljkaodcaaGreatDoorLh
import Derived.MapKept
namespace Go.Proofs.YtddfpnljkaodcaaGreatDoor
open Go.RowKit
open Go.MapKept (Stamped stamped_empty stamped_push)

/-- a slice of kinds of parts, its cells in a block of their own -/
def PartsAt (W : World) (B : Nat) (v : Value) (l : List Nat) : Prop :=
  (v = .slice none 0 0 ∧ l = []) ∨ ∃ g, B ≤ g ∧ v = .slice (some ⟨g, 0, none⟩) l.length l.length ∧ W.heap[g]? = some (.cells (l.map fun n : Nat => Value.int .i64 (n : Int)).toArray 45 (0, 0))
def EntryAt (W : World) (B : Nat) (e : MapEntry) (p : ByteArray × List Nat) : Prop := e.key = .string p.1 ∧ PartsAt W B e.val p.2
inductive AllAt (W : World) (B : Nat) : List MapEntry → List (ByteArray × List Nat) → Prop where
  | nil : AllAt W B [] []
  | cons {e : MapEntry} {p : ByteArray × List Nat} {es : List MapEntry} {ps : List (ByteArray × List Nat)} : EntryAt W B e p → AllAt W B es ps → AllAt W B (e :: es) (p :: ps)
/-- block m is the map that holds just these -/
def FMap (W : World) (B m : Nat) (tab : List (ByteArray × List Nat)) : Prop := B ≤ m ∧ ∃ es clock, W.heap[m]? = some (.map es clock) ∧ AllAt W B es.toList tab ∧ Stamped es clock

theorem PartsAt.keep {W W' : World} {B : Nat} {v : Value} {l : List Nat} (h : PartsAt W B v l) (hk : ∀ (g : Nat) c e, W.heap[g]? = some (.cells c e (0, 0)) → W'.heap[g]? = some (.cells c e (0, 0))) : PartsAt W' B v l := by
  rcases h with h | ⟨g, hg, hv, hh⟩
  · exact .inl h
  · exact .inr ⟨g, hg, hv, hk g _ _ hh⟩
theorem AllAt.keep {W W' : World} {B : Nat} {es : List MapEntry} {tab : List (ByteArray × List Nat)} (h : AllAt W B es tab) (hk : ∀ (g : Nat) c e, W.heap[g]? = some (.cells c e (0, 0)) → W'.heap[g]? = some (.cells c e (0, 0))) : AllAt W' B es tab := by
  induction h with
  | nil => exact .nil
  | cons h1 _ ih => exact .cons ⟨h1.1, h1.2.keep hk⟩ ih
theorem AllAt.snoc {W : World} {B : Nat} {es : List MapEntry} {tab : List (ByteArray × List Nat)} (h : AllAt W B es tab) {e : MapEntry} {p : ByteArray × List Nat} (he : EntryAt W B e p) : AllAt W B (es ++ [e]) (tab ++ [p]) := by
  induction h with
  | nil => exact .cons he .nil
  | cons h1 _ ih => exact .cons h1 ih
theorem FMap.new (w : World) : FMap (w.alloc (.map #[] 0)) w.heap.size w.heap.size [] := ⟨Nat.le_refl _, #[], 0, heap_alloc_new w _, .nil, stamped_empty 0⟩
theorem FMap.alloc {W : World} {B m : Nat} {tab : List (ByteArray × List Nat)} (h : FMap W B m tab) (o : Obj) : FMap (W.alloc o) B m tab := by
  obtain ⟨hB, es, clock, hm, ha, hst⟩ := h
  refine ⟨hB, es, clock, ?_, ha.keep ?_, hst⟩
  · rw [Lib.alloc_old W _ m (Array.getElem?_eq_some_iff.1 hm).1]; exact hm
  · intro g c e hg
    rw [Lib.alloc_old W _ g (Array.getElem?_eq_some_iff.1 hg).1]; exact hg
theorem FMap.below {W W' : World} {B m : Nat} {tab : List (ByteArray × List Nat)} (h : FMap W B m tab) (hb : Below W.heap.size W W') : FMap W' B m tab := by
  obtain ⟨hB, es, clock, hm, ha, hst⟩ := h
  refine ⟨hB, es, clock, ?_, ha.keep ?_, hst⟩
  · rw [hb.block m (Array.getElem?_eq_some_iff.1 hm).1]; exact hm
  · intro g c e hg
    rw [hb.block g (Array.getElem?_eq_some_iff.1 hg).1]; exact hg
theorem PartsAt.below {W W' : World} {B : Nat} {v : Value} {l : List Nat} (h : PartsAt W B v l) (hb : Below W.heap.size W W') : PartsAt W' B v l :=
  h.keep fun g c e hg => by rw [hb.block g (Array.getElem?_eq_some_iff.1 hg).1]; exact hg

theorem find_not {W : World} {B : Nat} (k : ByteArray) : ∀ {es : List MapEntry} {tab : List (ByteArray × List Nat)} (i : Nat), AllAt W B es tab → tab.lookup k = none → Instr.findNow .string (.string k) es i = some none
  | _, _, i, .nil, _ => rfl
  | e :: es, (k0, l) :: tab, i, .cons he h, hl => by
    rw [List.lookup_cons] at hl
    have hk : (k == k0) = false := by
      cases hkk : (k == k0) with
      | false => rfl
      | true => rw [hkk] at hl; simp at hl
    rw [hk] at hl
    rw [Instr.findNow, he.1]
    simp only [Instr.sameNow, hk]
    exact find_not k (i + 1) h (by simpa using hl)
theorem find_yes {W : World} {B : Nat} (k : ByteArray) : ∀ {es : List MapEntry} {tab : List (ByteArray × List Nat)} (i : Nat) (l : List Nat), AllAt W B es tab → tab.lookup k = some l → ∃ j v, Instr.findNow .string (.string k) es i = some (some (j, v)) ∧ PartsAt W B v l
  | _, _, i, l, .nil, h => by simp at h
  | e :: es, (k0, l0) :: tab, i, l, .cons he h, hl => by
    rw [List.lookup_cons] at hl
    cases hkk : (k == k0) with
    | true =>
      rw [hkk] at hl
      simp only [Option.some.injEq] at hl
      subst hl
      refine ⟨i, e.val, ?_, he.2⟩
      rw [Instr.findNow, he.1]
      simp only [Instr.sameNow, hkk]
    | false =>
      rw [hkk] at hl
      obtain ⟨j, v, hf, hp⟩ := find_yes k (i + 1) l h (by simpa using hl)
      refine ⟨j, v, ?_, hp⟩
      rw [Instr.findNow, he.1]
      simp only [Instr.sameNow, hkk]
      exact hf

theorem key_not {W : World} {B : Nat} (k : ByteArray) : ∀ {es : List MapEntry} {tab : List (ByteArray × List Nat)}, AllAt W B es tab → tab.lookup k = none → ∀ x ∈ es, x.key ≠ .string k
  | _, _, .nil, _ => by simp
  | e :: es, (k0, l0) :: tab, .cons he h, hl => by
    intro x hx
    rw [List.lookup_cons] at hl
    cases hkk : (k == k0) with
    | true => rw [hkk] at hl; simp at hl
    | false =>
      rw [hkk] at hl
      rcases List.mem_cons.1 hx with e1 | hx
      · subst e1
        rw [he.1]
        intro e2
        injection e2 with e2
        subst e2
        have hself : (k0 == k0) = true := by
          have e : (k0 == k0) = (k0.data == k0.data) := rfl
          rw [e]; exact beq_self_eq_true _
        exact absurd hkk (by show ¬ (k0 == k0) = false; rw [hself]; simp)
      · exact key_not k h (by simpa using hl) x hx
theorem check_string (b : Bool) (k : ByteArray) (W : World) : (Instr.checkKey b 10000 9 (.string k)).run Tryz.prog W = .ok () W := by
  rw [show (10000 : Nat) = 9999 + 1 from rfl, Instr.checkKey]
  simp [Sem.run_bind, run_underlying Tryz.underlying9, Result.andThen]

theorem run_insert (W : World) (B m : Nat) (tab : List (ByteArray × List Nat)) (k : ByteArray) (v : Value) (l : List Nat) (h : FMap W B m tab) (hv : PartsAt W B v l) (hk : tab.lookup k = none) :
    ∃ W', (Instr.mapUpdate 42 (.map (some m)) (.string k) v).run Tryz.prog W = .ok () W' ∧ FMap W' B m (tab ++ [(k, l)]) ∧ Below B W W' ∧ (∀ j, j ≠ m → W'.heap[j]? = W.heap[j]?) := by
  obtain ⟨hB, es, clock, hm, ha, hst⟩ := h
  have hf := find_not k 0 ha hk
  refine ⟨{ W with heap := W.heap.setIfInBounds m (.map (es.push { key := .string k, val := v, born := clock }) (clock + 1)) }, ?_, ?_, ?_, ?_⟩
  · simp [Instr.mapUpdate, Sem.run_bind, run_underlying Tryz.underlying42, Result.andThen, getObj, setObj, Sem.run, hm, check_string, Instr.findKey, run_underlying Tryz.underlying9, hf]
  · have hlt := (Array.getElem?_eq_some_iff.1 hm).1
    have hother : ∀ (g : Nat) c e, W.heap[g]? = some (.cells c e (0, 0)) → (W.heap.setIfInBounds m (.map (es.push { key := .string k, val := v, born := clock }) (clock + 1)))[g]? = some (.cells c e (0, 0)) := by
      intro g c e hg
      rw [Array.getElem?_setIfInBounds]
      by_cases hgm : m = g
      · subst hgm; rw [hm] at hg; cases hg
      · rw [if_neg hgm]; exact hg
    refine ⟨hB, _, _, by simp [hlt], ?_, stamped_push (val := v) hst (key_not k ha hk)⟩
    rw [Array.toList_push]
    exact (ha.keep hother).snoc ⟨rfl, hv.keep hother⟩
  · refine ⟨rfl, rfl, rfl, by simp, fun i hi => ?_⟩
    simp only
    rw [Array.getElem?_setIfInBounds, if_neg (by omega)]
  · intro j hj
    simp only
    rw [Array.getElem?_setIfInBounds, if_neg (Ne.symm hj)]

theorem run_look (W : World) (B m : Nat) (tab : List (ByteArray × List Nat)) (k : ByteArray) (h : FMap W B m tab) :
    ∃ v ok, (Instr.lookup 42 (.map (some m)) (.string k) true).run Tryz.prog W = .ok (.tuple #[v, .bool ok]) W ∧ ((ok = false ∧ tab.lookup k = none ∧ v = .slice none 0 0) ∨ (ok = true ∧ ∃ l, tab.lookup k = some l ∧ PartsAt W B v l)) := by
  obtain ⟨hB, es, clock, hm, ha, _⟩ := h
  cases hk : tab.lookup k with
  | none =>
    have hf := find_not k 0 ha hk
    refine ⟨.slice none 0 0, false, ?_, .inl ⟨rfl, rfl, rfl⟩⟩
    simp [Instr.lookup, Sem.run_bind, run_underlying Tryz.underlying42, Result.andThen, getObj, Sem.run, hm, check_string, Instr.findKey, run_underlying Tryz.underlying9, hf, Tryz.zeroValue43]
  | some l =>
    obtain ⟨j, v, hf, hp⟩ := find_yes k 0 l ha hk
    refine ⟨v, true, ?_, .inr ⟨rfl, l, rfl, hp⟩⟩
    simp [Instr.lookup, Sem.run_bind, run_underlying Tryz.underlying42, Result.andThen, getObj, Sem.run, hm, check_string, Instr.findKey, run_underlying Tryz.underlying9, hf]
end Go.Proofs.YtddfpnljkaodcaaGreatDoor
