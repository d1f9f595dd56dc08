/-
  Layer 31 (line): the contracts of the parser and of the law's own helpers, in one form.
-/
import Derived.Test.YtddfpnljkaodcaaGreatDoorLo
import Derived.Test.YtddfpnljkaodcaaGreatDoorLr
import Derived.Test.YtddfpnljkaodcaaGreatDoorZs
import Derived.Test.YtddfpnljkaodcaaGreatDoorPLineTextsx4
namespace Go.Proofs.YtddfpnljkaodcaaGreatDoor
open Go.RowKit PLineTexts Dp Go.Proofs.YtddfpnljkaodcaaGreatDoorW.PrintWords

/-- a step's rows are read in a world -/
def Rows3 (w : World) (N : List Int) (S : List ByteArray) (A1 A2 : Option Addr) (c1 c2 : Nat) : Prop :=
  N.length ≤ c1 ∧ S.length ≤ c2 ∧ Kd.C (Kd.int .i64) w A1 N.length N ∧ Kd.C Kd.string w A2 S.length S ∧ RdS w w.heap.size A1 (ints N) ∧ RdS w w.heap.size A2 (strs S)
theorem Rows3.below {w w' : World} {N : List Int} {S : List ByteArray} {A1 A2 : Option Addr} {c1 c2 : Nat} (h : Rows3 w N S A1 A2 c1 c2) (hb : Below w.heap.size w w') : Rows3 w' N S A1 A2 c1 c2 :=
  ⟨h.1, h.2.1, Kd.C_below h.2.2.1 hb, Kd.C_below h.2.2.2.1 hb, (h.2.2.2.2.1.below hb (Nat.le_refl _)).more hb.size, (h.2.2.2.2.2.below hb (Nat.le_refl _)).more hb.size⟩

def PostPC (s : ByteArray) (w : World) (e : Ending) (w' : World) : Prop :=
  ∃ word N S err A1 c1 A2 c2, e = .returned (.tuple #[.agg #[.string word, .slice A1 N.length c1, .slice A2 S.length c2], .int .i64 err]) ∧ StepIs s word N S err ∧ Rows3 w' N S A1 A2 c1 c2 ∧ Below w.heap.size w w'

theorem parse_c (s : ByteArray) (w : World) (hG : Glob w) : Calls Tryz.prog 11 #[.string s] w (PostPC s w) := by
  refine (parse_any s w hG).mono ?_
  rintro e w' ⟨word, N, S, err, vN, vS, rfl, hst, hN, hS, hb⟩
  obtain ⟨A1, c1, rfl, h1, hr1⟩ := own_reads_of_le (enc := Value.int .i64) (d := (0 : Int)) (show w'.ownsRow w.heap.size 3 1 vN N.length (encs (Value.int .i64) N) from hN)
  obtain ⟨A2, c2, rfl, h2, hr2⟩ := own_reads_of_le (enc := Value.string) (d := ByteArray.empty) (show w'.ownsRow w.heap.size 9 1 vS S.length (encs Value.string S) from hS)
  obtain ⟨A1', c1', e1, _, _, _, hd1⟩ := own_rd hN
  obtain ⟨A2', c2', e2, _, _, _, hd2⟩ := own_rd hS
  injection e1 with e1 _ _; subst e1
  injection e2 with e2 _ _; subst e2
  exact ⟨word, N, S, err, A1, c1, A2, c2, rfl, hst, ⟨h1, h2, Kd.C_of_reads hr1, Kd.C_of_reads hr2, hd1, hd2⟩, hb⟩

/-! ### Same on equal things, Cut -/
theorem same_l0 (l : List Int) (hl : l.length ≤ 9223372036854775807) : ∀ (d i k : Nat), i + d = l.length → d < k → cordellelaw01_Same.l0 k l l (l.length : Int) (i : Int) = some true := by
  intro d
  induction d with
  | zero =>
    intro i k hi hk
    obtain ⟨k, rfl⟩ : ∃ m, k = m + 1 := ⟨k - 1, by omega⟩
    simp only [cordellelaw01_Same.l0]
    rw [if_neg (by omega)]
  | succ d ih =>
    intro i k hi hk
    obtain ⟨k, rfl⟩ : ∃ m, k = m + 1 := ⟨k - 1, by omega⟩
    have ei : wrap64 ((i : Int) + 1) = ((i + 1 : Nat) : Int) := by unfold wrap64; omega
    simp only [cordellelaw01_Same.l0]
    rw [if_pos (by omega), if_pos (by omega), if_pos (by omega), if_pos (by omega), if_true, ei]
    exact ih (i + 1) k (by omega) (by omega)
theorem same_f (l : List Int) (hl : l.length ≤ 9223372036854775807) (k : Nat) (hk : l.length < k) : cordellelaw01_Same.f k l l = some true := by
  unfold cordellelaw01_Same.f
  rw [if_pos rfl]
  exact same_l0 l hl l.length 0 k (by omega) hk
theorem cut_any (s : ByteArray) (n : Int) (h0 : 0 ≤ n) (w : World) : ∃ t, Calls Tryz.prog 5 #[.string s, .int .i64 n] w (fun e w' => e = .returned (.string t) ∧ Drawn0 w w') ∧ (t.size : Int) ≤ max n 0 ∧ dl t = (dl s).take n.toNat := by
  by_cases h : (s.size : Int) > n
  · refine ⟨s.extract 0 n.toNat, cordellelaw02_Cut.calls s n _ w ?_, ?_, ?_⟩
    · unfold cordellelaw02_Cut.f
      rw [if_pos h, if_pos h0, if_pos (by omega)]
    · simp only [ByteArray.size_extract]; omega
    · rw [dl_extract]; simp
  · refine ⟨s, cordellelaw02_Cut.calls s n _ w ?_, by omega, ?_⟩
    · unfold cordellelaw02_Cut.f
      rw [if_neg h]
    · rw [List.take_of_length_le]; rw [dl_len]; omega
end Go.Proofs.YtddfpnljkaodcaaGreatDoor
