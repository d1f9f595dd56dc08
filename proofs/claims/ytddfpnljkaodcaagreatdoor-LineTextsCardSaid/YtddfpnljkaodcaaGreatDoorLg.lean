/-
  (*Step).take of layer 31 (line): a part of a line, by its kind, put behind what the step holds.
-/
import Derived.Test.YtddfpnljkaodcaaGreatDoorLf
import Derived.Deep.AppendLies
import Derived.Maps.AppendAt
namespace Go.Proofs.YtddfpnljkaodcaaGreatDoor
open Go.RowKit

theorem info3 : (Tryz.prog.info? 3).map (fun i => (i.zero, i.size, i.bytes)) = some (some (.int .i64 0), 1, 8) := by kernel_rfl
theorem info9 : (Tryz.prog.info? 9).map (fun i => (i.zero, i.size, i.bytes)) = some (some (.string ⟨#[]⟩), 1, 16) := by kernel_rfl

def ints (N : List Int) : List Value := N.map (Value.int .i64)
def strs (S : List ByteArray) : List Value := S.map Value.string

theorem own_below {w w1 : World} {base : Nat} {e : TypeId} {size n : Nat} {v : Value} {xs : List Value} (h : w.ownsRow base e size v n xs) (hb : Below w.heap.size w w1) : w1.ownsRow base e size v n xs :=
  h.kept (row := none) ⟨hb.os, hb.tape, hb.output, hb.size, fun i hi _ => hb.block i hi⟩ (by cases v.ownBlock <;> simp)
theorem own_set {w : World} {base : Nat} {e : TypeId} {size n : Nat} {v : Value} {xs : List Value} (h : w.ownsRow base e size v n xs) {g : Nat} (hg : v.ownBlock ≠ some g) (j : Nat) (u : Value) : (w.setCell ⟨g, j, none⟩ u).ownsRow base e size v n xs := by
  refine h.kept (row := some g) ⟨rfl, rfl, rfl, by simp [World.setCell], fun i _ hne => Below.heap_setCell w ⟨g, j, none⟩ u i (fun e => hne (by rw [e]))⟩ (.inr hg)
theorem heap_set_same {w : World} {g : Nat} {cs : Array Value} {t : TypeId} (h : w.heap[g]? = some (.cells cs t (0, 0))) (j : Nat) (u : Value) : (w.setCell ⟨g, j, none⟩ u).heap[g]? = some (.cells (cs.setIfInBounds j u) t (0, 0)) := by
  simp [World.setCell, Array.getElem?_modify, h]
/-- block b holds a step: its word, its numbers, its bytes; the rows are the call's own -/
def StepAt (w : World) (B b : Nat) (word : ByteArray) (N : List Int) (S : List ByteArray) (vN vS : Value) : Prop :=
  B ≤ b ∧ w.heap[b]? = some (.cells #[.string word, vN, vS] 29 (0, 0)) ∧ w.ownsRow B 3 1 vN N.length (ints N) ∧ w.ownsRow B 9 1 vS S.length (strs S)
theorem StepAt.lt {w : World} {B b : Nat} {word : ByteArray} {N : List Int} {S : List ByteArray} {vN vS : Value} (h : StepAt w B b word N S vN vS) : b < w.heap.size := (Array.getElem?_eq_some_iff.1 h.2.1).1
theorem StepAt.below {w w1 : World} {B b : Nat} {word : ByteArray} {N : List Int} {S : List ByteArray} {vN vS : Value} (h : StepAt w B b word N S vN vS) (hb : Below w.heap.size w w1) : StepAt w1 B b word N S vN vS :=
  ⟨h.1, (hb.block b h.lt).trans h.2.1, own_below h.2.2.1 hb, own_below h.2.2.2 hb⟩
theorem own_ne {w : World} {base : Nat} {e t : TypeId} {size n g : Nat} {v : Value} {xs : List Value} {cs : Array Value} (h : w.ownsRow base e size v n xs) (hg : w.heap[g]? = some (.cells cs t (0, 0))) (hne : e ≠ t) : v.ownBlock ≠ some g := by
  rcases h.2 with ⟨rfl, _⟩ | ⟨g', cap, cur, rfl, _, hh, _⟩
  · simp [Value.ownBlock]
  · intro he
    have : g' = g := by simpa [Value.ownBlock] using he
    subst this
    rw [hh] at hg
    injection hg with hg
    injection hg with _ ht
    exact hne ht
theorem own_ne_row {w : World} {b1 b2 : Nat} {e1 e2 : TypeId} {s1 s2 n1 n2 : Nat} {v1 v2 : Value} {x1 x2 : List Value} (h1 : w.ownsRow b1 e1 s1 v1 n1 x1) (h2 : w.ownsRow b2 e2 s2 v2 n2 x2) (hne : e1 ≠ e2) : v1.ownBlock = none ∨ v1.ownBlock ≠ v2.ownBlock := by
  rcases h2.2 with ⟨rfl, _⟩ | ⟨g', cap, cur, rfl, _, hh, _⟩
  · rcases h1.2 with ⟨rfl, _⟩ | ⟨g, cap, cur, rfl, _⟩
    · exact .inl rfl
    · exact .inr (by simp [Value.ownBlock])
  · exact .inr (own_ne h1 hh hne)

/-- what became of the kinds' parts -/
def ArgIs (k : Nat) (p : ByteArray) (N : List Int) (S : List ByteArray) (ok : Bool) (N' : List Int) (S' : List ByteArray) : Prop :=
  match k with
  | 0 => (ok = false ∧ Pl.numF p.data.toList = none) ∨ (ok = true ∧ ∃ n : Nat, Pl.numF p.data.toList = some n ∧ N' = N ++ [(n : Int)] ∧ S' = S)
  | 1 => (ok = false ∧ Pl.wayF p.data.toList = none) ∨ (ok = true ∧ ∃ n : Nat, Pl.wayF p.data.toList = some n ∧ N' = N ++ [(n : Int)] ∧ S' = S)
  | _ => (ok = false ∧ Pl.bytesF p.data.toList = none) ∨ (ok = true ∧ ∃ r : ByteArray, Pl.bytesF p.data.toList = some r.data.toList ∧ N' = N ∧ S' = S ++ [r])
def PostT (B b : Nat) (word : ByteArray) (k : Nat) (p : ByteArray) (N : List Int) (S : List ByteArray) (w : World) (e : Ending) (w' : World) : Prop :=
  ∃ ok N' S' vN vS, e = .returned (.bool ok) ∧ ArgIs k p N S ok N' S' ∧ N'.length ≤ N.length + 1 ∧ S'.length ≤ S.length + 1 ∧ StepAt w' B b word N' S' vN vS ∧ Below B w w'

set_option maxHeartbeats 2000000 in
set_option maxRecDepth 100000 in
theorem take_num (B b : Nat) (word p : ByteArray) (N : List Int) (S : List ByteArray) (vN vS : Value) (w : World) (h : StepAt w B b word N S vN vS) (hN : N.length ≤ 100000) (hT : Lib.Utf8Tabs 3 4 w) (hB : B ≤ w.heap.size) :
    Calls Tryz.prog 25 #[.pointer (some ⟨b, 0, none⟩), .int .i64 0, .string p] w (PostT B b word 0 p N S w) := by
  obtain ⟨i0, hi, hz0, hz1, hz2⟩ := info_parts info3
  have HT := Lib.hid hT
  have HS := Lib.hid h
  clear hT h
  go_enter Tryz.func25, Tryz.ntmps25
  go_wp2_with (go_at_call 36; refine (numberOf_any p _ HT.out).mono ?_)
  rintro e w1 ⟨v, ok, rfl, hnum, hb1⟩
  have hs1 := HS.out.below hb1
  obtain ⟨hBb, hbk, hownN, hownS⟩ := hs1
  have HNum := Lib.hid hnum
  clear hnum
  have c1 : w1.cell? ⟨b, 1, none⟩ = some vN := by rw [Lib.cell_of_heap hbk]; rfl
  go_wp2_with (at_builtin; refine wpList_append_own _ rfl _ _ 22 rfl B 3 i0 (.int .i64 0) 1 8 Tryz.underlying22 hi hz0 hz1 hz2 rfl (by decide) _ _ _ rfl (hownN.alloc _) ⟨w1.heap.size, 0, none⟩ 1 1 [.int .i64 v] rfl rfl ?c1 ?c2 ?c3 ?c4 ?c5 ?_)
  case c1 => exact World.news_of_block (cs := #[.int .i64 v]) (t := 3) (fr := (0, 0)) (heap_alloc_new w1 _)
  case c2 => intro u hu; simp at hu; subst hu; rfl
  case c3 => unfold maxLen; omega
  case c4 => omega
  case c5 => have := hb1.size; simp; omega
  intro v' w2 hown' hgrow _
  have hlt : b < w1.heap.size := (Array.getElem?_eq_some_iff.1 hbk).1
  have hnb := own_ne hownN hbk (by decide)
  have hb2 : w2.heap[b]? = some (.cells #[.string word, vN, vS] 29 (0, 0)) := by
    rw [hgrow.block b (by simp; omega) (fun e => hnb e.symm), Lib.alloc_old w1 _ b hlt]
    exact hbk
  have d1 : w2.cell? ⟨b, 1, none⟩ = some vN := by rw [Lib.cell_of_heap hb2]; rfl
  have f1 : w2.frozen? ⟨b, 1, none⟩ = false := Lib.frozen_of_heap hb2 1
  have hS2 : w2.ownsRow B 9 1 vS S.length (strs S) := (hownS.alloc _).kept hgrow (own_ne_row hownS hownN (by decide))
  have hb12 : Below B w w2 := (((hb1.mono hB).alloc (by have := hb1.size; omega) _).grown hgrow (by have := hb1.size; simp; omega) (fun k hk => (hownN.lt k hk).1))
  obtain ⟨A, n', c', rfl⟩ : ∃ A n' c', v' = .slice A n' c' := by
    rcases hown'.2 with ⟨hv, _⟩ | ⟨g, cap, cur, hv, _⟩
    · exact ⟨_, _, _, hv⟩
    · exact ⟨_, _, _, hv⟩
  go_wp2
  go_ret
  have hne' := own_ne hown' hb2 (by decide)
  have hneS := own_ne hS2 hb2 (by decide)
  refine ⟨ok, N ++ [v], S, _, vS, rfl, ?_, by simp, by omega, ⟨hBb, heap_set_same hb2 1 _, ?_, own_set hS2 hneS 1 _⟩, hb12.setCell (p := ⟨b, 1, none⟩) hBb _⟩
  · rcases HNum.out with ⟨rfl, n, h1, rfl⟩ | ⟨rfl, h1⟩
    · exact .inr ⟨rfl, n, h1, rfl, rfl⟩
    · exact .inl ⟨rfl, h1⟩
  · have := own_set hown' hne' 1 (.slice A n' c')
    simpa [ints] using this
end Go.Proofs.YtddfpnljkaodcaaGreatDoor
