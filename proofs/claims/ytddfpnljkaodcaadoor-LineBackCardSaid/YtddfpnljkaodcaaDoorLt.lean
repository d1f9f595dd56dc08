/-
  Layer 31 (line): the contracts of both parsers and of the law's own helpers, in one form.
-/
import Derived.Test.YtddfpnljkaodcaaDoorLo
import Derived.Test.YtddfpnljkaodcaaDoorLr
import Derived.Test.YtddfpnljkaodcaaDoorLs
import Derived.Test.YtddfpnljkaodcaaDoorPLineReadsx8
namespace Go.Proofs.YtddfpnljkaodcaaDoor
open Go.RowKit PLineReads Dp Go.Proofs.YtddfpnljkaodcaaDoorW.PrintWords

/-- a step's rows are read in a world -/
def Rows3 (w : World) (N : List Int) (S : List ByteArray) (A1 A2 : Option Addr) (c1 c2 : Nat) : Prop :=
  N.length ≤ c1 ∧ S.length ≤ c2 ∧ Kd.C (Kd.int .i64) w A1 N.length N ∧ Kd.C Kd.string w A2 S.length S ∧ RdS w w.heap.size A1 (ints N) ∧ RdS w w.heap.size A2 (strs S)
theorem Rows3.below {w w' : World} {N : List Int} {S : List ByteArray} {A1 A2 : Option Addr} {c1 c2 : Nat} (h : Rows3 w N S A1 A2 c1 c2) (hb : Below w.heap.size w w') : Rows3 w' N S A1 A2 c1 c2 :=
  ⟨h.1, h.2.1, Kd.C_below h.2.2.1 hb, Kd.C_below h.2.2.2.1 hb, (h.2.2.2.2.1.below hb (Nat.le_refl _)).more hb.size, (h.2.2.2.2.2.below hb (Nat.le_refl _)).more hb.size⟩

def PostPC (s : ByteArray) (w : World) (e : Ending) (w' : World) : Prop :=
  ∃ word N S err A1 c1 A2 c2, e = .returned (.tuple #[.agg #[.string word, .slice A1 N.length c1, .slice A2 S.length c2], .int .i64 err]) ∧ StepIs s word N S err ∧ Rows3 w' N S A1 A2 c1 c2 ∧ Below w.heap.size w w'

theorem parse_c (s : ByteArray) (w : World) (hG : Glob w) : Calls Tryd.prog 8 #[.string s] w (PostPC s w) := by
  refine (parse_any s w hG).mono ?_
  rintro e w' ⟨word, N, S, err, vN, vS, rfl, hst, hN, hS, hb⟩
  obtain ⟨A1, c1, rfl, h1, hr1⟩ := own_reads_of_le (enc := Value.int .i64) (d := (0 : Int)) (show w'.ownsRow w.heap.size 3 1 vN N.length (encs (Value.int .i64) N) from hN)
  obtain ⟨A2, c2, rfl, h2, hr2⟩ := own_reads_of_le (enc := Value.string) (d := ByteArray.empty) (show w'.ownsRow w.heap.size 9 1 vS S.length (encs Value.string S) from hS)
  obtain ⟨A1', c1', e1, _, _, _, hd1⟩ := own_rd hN
  obtain ⟨A2', c2', e2, _, _, _, hd2⟩ := own_rd hS
  injection e1 with e1 _ _; subst e1
  injection e2 with e2 _ _; subst e2
  exact ⟨word, N, S, err, A1, c1, A2, c2, rfl, hst, ⟨h1, h2, Kd.C_of_reads hr1, Kd.C_of_reads hr2, hd1, hd2⟩, hb⟩

def PostRC (s : ByteArray) (w : World) (e : Ending) (w' : World) : Prop :=
  ∃ word N S err A1 c1 A2 c2, e = .returned (.tuple #[.agg #[.string word, .slice A1 N.length c1, .slice A2 S.length c2], .int .i64 err]) ∧ StepIs s word N S err ∧ N.length ≤ c1 ∧ S.length ≤ c2 ∧ Kd.C (Kd.int .i64) w' A1 N.length N ∧ Kd.C Kd.string w' A2 S.length S ∧ Below w.heap.size w w'
theorem ref_c (s : ByteArray) (w : World) : Calls Tryd.prog 9 #[.string s] w (PostRC s w) := by
  obtain ⟨k, word, N, S, err, hf, hst⟩ := parse_f s
  refine (cordelleref31_Parse.calls k s word N S err w hf).mono ?_
  rintro e w' ⟨v1, v2, rfl, h1, h2, hb⟩
  obtain ⟨A1, c1, rfl, l1, r1⟩ := Kd.R_reads h1
  obtain ⟨A2, c2, rfl, l2, r2⟩ := Kd.R_reads h2
  exact ⟨word, N, S, err, A1, c1, A2, c2, rfl, hst, l1, l2, r1, r2, hb⟩

/-! ### Same and Is on equal things -/
theorem same_l0 (l : List Int) (hl : l.length ≤ 9223372036854775807) : ∀ (d i k : Nat), i + d = l.length → d < k → cordellelaw01_Same.l0 k l l (l.length : Int) (i : Int) = some true := by
  intro d
  induction d with
  | zero =>
    intro i k hi hk
    obtain ⟨k, rfl⟩ : ∃ m, k = m + 1 := ⟨k - 1, by omega⟩
    simp only [cordellelaw01_Same.l0]
    rw [if_neg (by omega)]
  | succ d ih =>
    intro i k hi hk
    obtain ⟨k, rfl⟩ : ∃ m, k = m + 1 := ⟨k - 1, by omega⟩
    have ei : wrap64 ((i : Int) + 1) = ((i + 1 : Nat) : Int) := by unfold wrap64; omega
    simp only [cordellelaw01_Same.l0]
    rw [if_pos (by omega), if_pos (by omega), if_pos (by omega), if_pos (by omega), if_true, ei]
    exact ih (i + 1) k (by omega) (by omega)
theorem same_f (l : List Int) (hl : l.length ≤ 9223372036854775807) (k : Nat) (hk : l.length < k) : cordellelaw01_Same.f k l l = some true := by
  unfold cordellelaw01_Same.f
  rw [if_pos rfl]
  exact same_l0 l hl l.length 0 k (by omega) hk
theorem is_l0 (a b : ByteArray) (N M : List Int) (l : List ByteArray) (hl : l.length ≤ 9223372036854775807) : ∀ (d i k : Nat), i + d = l.length → d < k → cordellelaw31_Is.l0 k (l.length : Int) (i : Int) a N l b M l = some true := by
  intro d
  induction d with
  | zero =>
    intro i k hi hk
    obtain ⟨k, rfl⟩ : ∃ m, k = m + 1 := ⟨k - 1, by omega⟩
    simp only [cordellelaw31_Is.l0]
    rw [if_neg (by omega)]
  | succ d ih =>
    intro i k hi hk
    obtain ⟨k, rfl⟩ : ∃ m, k = m + 1 := ⟨k - 1, by omega⟩
    have ei : wrap64 ((i : Int) + 1) = ((i + 1 : Nat) : Int) := by unfold wrap64; omega
    simp only [cordellelaw31_Is.l0]
    rw [if_pos (by omega), if_pos (by omega), if_pos (by omega), if_pos (by omega), if_true, ei]
    exact ih (i + 1) k (by omega) (by omega)
theorem is_f (a : ByteArray) (N : List Int) (S : List ByteArray) (hN : N.length ≤ 9223372036854775807) (hS : S.length ≤ 9223372036854775807) : ∃ k, cordellelaw31_Is.f k a N S a N S = some true := by
  refine ⟨N.length + S.length + 3, ?_⟩
  unfold cordellelaw31_Is.f
  rw [if_pos rfl, same_f N hN _ (by omega)]
  simp only [Option.bind_some, if_true, bne_self_eq_false, cordellelaw31_Is.j0]
  rw [if_neg (by simp)]
  exact is_l0 a a N N S hS S.length 0 _ (by omega) (by omega)

theorem step_same {s : ByteArray} {word word' : ByteArray} {N N' : List Int} {S S' : List ByteArray} {err err' : Int} (h : StepIs s word N S err) (h' : StepIs s word' N' S' err') : word' = word ∧ N' = N ∧ S' = S ∧ err' = err := by
  obtain ⟨h1, h2, h3, h4⟩ := h
  obtain ⟨k1, k2, k3, k4⟩ := h'
  refine ⟨dl_inj (k1.trans h1.symm), k2.trans h2.symm, ?_, k4.trans h4.symm⟩
  have hinj : ∀ (l l' : List ByteArray), l.map (·.data.toList) = l'.map (·.data.toList) → l = l' := by
    intro l
    induction l with
    | nil => intro l' h; cases l' with
      | nil => rfl
      | cons => simp at h
    | cons a l ih => intro l' h; cases l' with
      | nil => simp at h
      | cons b l' =>
        simp only [List.map_cons, List.cons.injEq] at h
        rw [dl_inj (a := a) (b := b) h.1, ih l' h.2]
  exact hinj _ _ (k3.trans h3.symm)

/-- Is of two equal steps -/
theorem is_c (word : ByteArray) (N : List Int) (S : List ByteArray) (A1 A2 B1 B2 : Option Addr) (c1 c2 d1 d2 : Nat) (w : World) (h1 : Kd.C (Kd.int .i64) w A1 N.length N) (h2 : Kd.C Kd.string w A2 S.length S) (k1 : Kd.C (Kd.int .i64) w B1 N.length N) (k2 : Kd.C Kd.string w B2 S.length S) (l1 : N.length ≤ c1) (l2 : S.length ≤ c2) (m1 : N.length ≤ d1) (m2 : S.length ≤ d2) :
    Calls Tryd.prog 10 #[.agg #[.string word, .slice A1 N.length c1, .slice A2 S.length c2], .agg #[.string word, .slice B1 N.length d1, .slice B2 S.length d2]] w fun e w' => e = .returned (.bool true) ∧ Below w.heap.size w w' := by
  obtain ⟨k, hk⟩ := is_f word N S (Kd.C_max h1) (Kd.C_max h2)
  exact cordellelaw31_Is.calls k word A1 c1 N A2 c2 S word B1 d1 N B2 d2 S true w h1 l1 h2 l2 k1 m1 k2 m2 hk
end Go.Proofs.YtddfpnljkaodcaaDoor
