/-
  Plain laws of layer 31's texts: what a step is written as, and that it is read back. No program in sight.
-/
import Derived.Test.YtddfpnljkaodcaaGreatDoorLr
namespace Go.Proofs.YtddfpnljkaodcaaGreatDoor
namespace Tx
open Go.Lib

/-- the parts of a step, as the document writes them -/
def putF : List Nat → List Int → List (List UInt8) → Option (List (List UInt8))
  | [], [], [] => some []
  | [], _, _ => none
  | 0 :: f, n :: N, S => if 0 ≤ n ∧ n < 4294967296 then (putF f N S).map (itoa n :: ·) else none
  | 1 :: f, n :: N, S => if 0 ≤ n ∧ n < 2 then (putF f N S).map ((if n = 0 then Pl.there else Pl.back) :: ·) else none
  | 0 :: _, [], _ => none
  | 1 :: _, [], _ => none
  | (_ + 2) :: f, N, t :: S => (putF f N S).map (hexF t :: ·)
  | (_ + 2) :: _, _, [] => none
/-- the document's text of a step -/
def refF (word : List UInt8) (N : List Int) (S : List (List UInt8)) : List UInt8 :=
  match Pl.formF word with
  | none => []
  | some f => match putF f N S with
    | none => []
    | some ps => if (join (word :: ps) [32]).length ≤ 4000 then join (word :: ps) [32] else []

/-! ### numerals -/
theorem dec_digs : ∀ (k u : Nat), u < 10 ^ (k + 1) → (decDigits u).all Pl.isDig = true ∧ Pl.numVal (decDigits u) = u ∧ 1 ≤ (decDigits u).length ∧ (decDigits u).length ≤ k + 1
  | 0, u, h => by
    have hu : u < 10 := by simpa using h
    rw [decDigits, dif_pos hu]
    have e : (UInt8.ofNat (48 + u)).toNat = 48 + u := by simp; omega
    refine ⟨?_, ?_, by simp, by simp⟩
    · simp only [List.all_cons, List.all_nil, Bool.and_true, Pl.isDig, Bool.and_eq_true, decide_eq_true_eq, e]; omega
    · simp only [Pl.numVal, List.foldl_cons, List.foldl_nil, e]; omega
  | k + 1, u, h => by
    by_cases hu : u < 10
    · obtain ⟨a, b, c, d⟩ := dec_digs 0 u (by simpa using hu)
      exact ⟨a, b, c, by omega⟩
    · obtain ⟨a, b, c, d⟩ := dec_digs k (u / 10) (by rw [Nat.pow_succ] at h; omega)
      rw [decDigits, dif_neg hu]
      have e : (UInt8.ofNat (48 + u % 10)).toNat = 48 + u % 10 := by simp; omega
      refine ⟨?_, ?_, by simp, by simp; omega⟩
      · rw [List.all_append, a]
        simp only [List.all_cons, List.all_nil, Bool.and_true, Bool.true_and, Pl.isDig, Bool.and_eq_true, decide_eq_true_eq, e]; omega
      · rw [Pl.numVal_snoc, b, e]; omega
theorem num_itoa (n : Int) (h0 : 0 ≤ n) (h1 : n < 4294967296) : Pl.numF (itoa n) = some n.toNat ∧ itoa n ≠ [] ∧ ∀ b ∈ itoa n, b ≠ 32 := by
  obtain ⟨u, rfl⟩ := Int.eq_ofNat_of_zero_le h0
  rw [itoa_nonneg]
  obtain ⟨a, b, c, d⟩ := dec_digs 9 u (by omega)
  refine ⟨?_, fun e => by rw [e] at c; simp at c, fun x hx e => ?_⟩
  · rw [Pl.numF, if_pos ⟨c, d, a, by omega⟩, b]; simp
  · have := List.all_eq_true.1 a x hx
    subst e; exact absurd this (by decide)

/-! ### bytes -/
theorem hexC_val : ∀ n : Fin 16, Pl.hexV (hexC n.val) = some n.val ∧ hexC n.val ≠ 32 ∧ hexC n.val ≠ 45 := by decide
theorem hex_pairs : ∀ t : List UInt8, Pl.hexPairs (hexL t) = some t ∧ ∀ b ∈ hexL t, b ≠ 32
  | [] => ⟨rfl, by simp [hexL]⟩
  | b :: r => by
    have hb := b.toNat_lt
    obtain ⟨h1, h1', _⟩ := hexC_val ⟨b.toNat / 16, by omega⟩
    obtain ⟨h2, h2', _⟩ := hexC_val ⟨b.toNat % 16, by omega⟩
    obtain ⟨ih, ih'⟩ := hex_pairs r
    simp only at h1 h2 h1' h2'
    refine ⟨?_, ?_⟩
    · rw [hexL, Pl.hexPairs, h1, h2, ih]
      have : 16 * (b.toNat / 16) + b.toNat % 16 = b.toNat := by omega
      simp [this]
    · intro x hx
      rw [hexL] at hx
      rcases List.mem_cons.1 hx with e | hx
      · rw [e]; exact h1'
      · rcases List.mem_cons.1 hx with e | hx
        · rw [e]; exact h2'
        · exact ih' x hx
theorem bytes_hex (t : List UInt8) : Pl.bytesF (hexF t) = some t ∧ hexF t ≠ [] ∧ ∀ b ∈ hexF t, b ≠ 32 := by
  by_cases ht : t = []
  · subst ht; refine ⟨rfl, by simp [hexF], by simp [hexF]⟩
  · rw [hexF, if_neg ht]
    obtain ⟨h1, h2⟩ := hex_pairs t
    have hl := hexL_length t
    have hp : 0 < t.length := List.length_pos_iff.2 ht
    refine ⟨?_, fun e => by rw [e] at hl; simp at hl; omega, h2⟩
    rw [Pl.bytesF, if_neg (fun e => by rw [e] at hl; simp at hl; omega), if_neg (fun e => by rw [e] at hl; simp at hl; omega), h1]

/-! ### the parts of a step are read back -/
theorem put_args : ∀ (f : List Nat) (N : List Int) (S : List (List UInt8)) (ps : List (List UInt8)), putF f N S = some ps →
    Pl.argsF f ps = some (N.map Int.toNat, S) ∧ ps.length = f.length ∧ (∀ n ∈ N, 0 ≤ n) ∧ ∀ p ∈ ps, p ≠ [] ∧ ∀ b ∈ p, b ≠ 32
  | [], [], [], ps, h => by
    simp only [putF, Option.some.injEq] at h; subst h
    exact ⟨rfl, rfl, by simp, by simp⟩
  | [], n :: N, S, ps, h => by simp [putF] at h
  | [], [], t :: S, ps, h => by simp [putF] at h
  | 0 :: f, [], S, ps, h => by simp [putF] at h
  | 1 :: f, [], S, ps, h => by simp [putF] at h
  | (_ + 2) :: f, N, [], ps, h => by simp [putF] at h
  | 0 :: f, n :: N, S, ps, h => by
    rw [putF] at h
    split at h
    · rename_i hn
      obtain ⟨qs, hq, rfl⟩ := Option.map_eq_some_iff.1 h
      obtain ⟨a, b, c, d⟩ := put_args f N S qs hq
      obtain ⟨e1, e2, e3⟩ := num_itoa n hn.1 hn.2
      refine ⟨by rw [Pl.argsF, e1, a]; rfl, by simp [b], ?_, ?_⟩
      · intro x hx; rcases List.mem_cons.1 hx with e | hx
        · rw [e]; exact hn.1
        · exact c x hx
      · intro p hp; rcases List.mem_cons.1 hp with e | hp
        · rw [e]; exact ⟨e2, e3⟩
        · exact d p hp
    · cases h
  | 1 :: f, n :: N, S, ps, h => by
    rw [putF] at h
    split at h
    · rename_i hn
      obtain ⟨qs, hq, rfl⟩ := Option.map_eq_some_iff.1 h
      obtain ⟨a, b, c, d⟩ := put_args f N S qs hq
      refine ⟨?_, by simp [b], ?_, ?_⟩
      · by_cases h0 : n = 0
        · subst h0; rw [if_pos rfl, Pl.argsF, show Pl.wayF Pl.there = some 0 by decide, a]; rfl
        · have h1 : n = 1 := by omega
          subst h1; rw [if_neg (by decide), Pl.argsF, show Pl.wayF Pl.back = some 1 by decide, a]; rfl
      · intro x hx; rcases List.mem_cons.1 hx with e | hx
        · rw [e]; exact hn.1
        · exact c x hx
      · intro p hp; rcases List.mem_cons.1 hp with e | hp
        · rw [e]; split <;> decide
        · exact d p hp
    · cases h
  | (k + 2) :: f, N, t :: S, ps, h => by
    rw [putF] at h
    obtain ⟨qs, hq, rfl⟩ := Option.map_eq_some_iff.1 h
    obtain ⟨a, b, c, d⟩ := put_args f N S qs hq
    obtain ⟨e1, e2, e3⟩ := bytes_hex t
    refine ⟨by rw [Pl.argsF, e1, a] <;> simp, by simp [b], c, ?_⟩
    intro p hp; rcases List.mem_cons.1 hp with e | hp
    · rw [e]; exact ⟨e2, e3⟩
    · exact d p hp

theorem args_put : ∀ (f : List Nat) (ps : List (List UInt8)) (N : List Nat) (S : List (List UInt8)), Pl.argsF f ps = some (N, S) → f.length = ps.length → ∃ qs, putF f (N.map fun n : Nat => (n : Int)) S = some qs
  | [], [], N, S, h, _ => by
    simp only [Pl.argsF, Option.some.injEq, Prod.mk.injEq] at h
    obtain ⟨rfl, rfl⟩ := h
    exact ⟨[], rfl⟩
  | [], _ :: _, N, S, h, hl => by simp at hl
  | _ :: _, [], N, S, h, hl => by simp at hl
  | 0 :: f, p :: r, N, S, h, hl => by
    rw [Pl.argsF] at h
    cases hn : Pl.numF p with
    | none => rw [hn] at h; cases h
    | some n =>
      cases ha : Pl.argsF f r with
      | none => rw [hn, ha] at h; cases h
      | some q =>
        obtain ⟨N', S'⟩ := q
        rw [hn, ha] at h
        simp only [Option.some.injEq, Prod.mk.injEq] at h
        obtain ⟨rfl, rfl⟩ := h
        obtain ⟨qs, hq⟩ := args_put f r N' S' ha (by simpa using hl)
        have hlt : n < 4294967296 := by
          unfold Pl.numF at hn
          split at hn
          · rename_i hc; cases hn; exact hc.2.2.2
          · cases hn
        refine ⟨itoa (n : Int) :: qs, ?_⟩
        rw [List.map_cons, putF, if_pos ⟨by omega, by omega⟩, hq]; rfl
  | 1 :: f, p :: r, N, S, h, hl => by
    rw [Pl.argsF] at h
    cases hn : Pl.wayF p with
    | none => rw [hn] at h; cases h
    | some n =>
      cases ha : Pl.argsF f r with
      | none => rw [hn, ha] at h; cases h
      | some q =>
        obtain ⟨N', S'⟩ := q
        rw [hn, ha] at h
        simp only [Option.some.injEq, Prod.mk.injEq] at h
        obtain ⟨rfl, rfl⟩ := h
        obtain ⟨qs, hq⟩ := args_put f r N' S' ha (by simpa using hl)
        have hlt : n < 2 := by
          unfold Pl.wayF at hn
          split at hn
          · cases hn; decide
          · split at hn
            · cases hn; decide
            · cases hn
        refine ⟨(if (n : Int) = 0 then Pl.there else Pl.back) :: qs, ?_⟩
        rw [List.map_cons, putF, if_pos ⟨by omega, by omega⟩, hq]; rfl
  | (k + 2) :: f, p :: r, N, S, h, hl => by
    rw [Pl.argsF] at h
    · cases hn : Pl.bytesF p with
      | none => rw [hn] at h; cases h
      | some t =>
        cases ha : Pl.argsF f r with
        | none => rw [hn, ha] at h; cases h
        | some q =>
          obtain ⟨N', S'⟩ := q
          rw [hn, ha] at h
          simp only [Option.some.injEq, Prod.mk.injEq] at h
          obtain ⟨rfl, rfl⟩ := h
          obtain ⟨qs, hq⟩ := args_put f r N' S' ha (by simpa using hl)
          refine ⟨hexF t :: qs, ?_⟩
          rw [putF, hq]; rfl
    · simp
    · simp

theorem emit_put : ∀ (f : List Nat) (N : List Int) (S : List (List UInt8)) (ps : List (List UInt8)), (∀ x ∈ f, x ≤ 2) → putF f N S = some ps → emit f N S = ps
  | [], [], [], ps, _, h => by simp only [putF, Option.some.injEq] at h; subst h; rfl
  | [], n :: N, S, ps, _, h => by simp [putF] at h
  | [], [], t :: S, ps, _, h => by simp [putF] at h
  | 0 :: f, [], S, ps, _, h => by simp [putF] at h
  | 1 :: f, [], S, ps, _, h => by simp [putF] at h
  | (_ + 2) :: f, N, [], ps, _, h => by simp [putF] at h
  | 0 :: f, n :: N, S, ps, hf, h => by
    rw [putF] at h
    split at h
    · obtain ⟨qs, hq, rfl⟩ := Option.map_eq_some_iff.1 h
      rw [emit, emit_put f N S qs (fun x hx => hf x (List.mem_cons_of_mem _ hx)) hq]
    · cases h
  | 1 :: f, n :: N, S, ps, hf, h => by
    rw [putF] at h
    split at h
    · rename_i hn
      obtain ⟨qs, hq, rfl⟩ := Option.map_eq_some_iff.1 h
      rw [emit, if_pos hn, emit_put f N S qs (fun x hx => hf x (List.mem_cons_of_mem _ hx)) hq]
    · cases h
  | (k + 2) :: f, N, t :: S, ps, hf, h => by
    have hk : k = 0 := by have := hf (k + 2) (by simp); omega
    subst hk
    rw [putF] at h
    obtain ⟨qs, hq, rfl⟩ := Option.map_eq_some_iff.1 h
    rw [emit, emit_put f N S qs (fun x hx => hf x (List.mem_cons_of_mem _ hx)) hq]

theorem pgo_join : ∀ (r : List (List UInt8)) (x : List UInt8), x ≠ [] → (∀ p ∈ r, p ≠ [] ∧ ∀ b ∈ p, b ≠ 32) → Pl.pgo x (joinTail [32] r) = x :: r
  | [], x, hx, _ => by simp [joinTail, Pl.pgo, hx]
  | y :: r, x, hx, h => by
    have hy := h y (by simp)
    have e : joinTail [32] (y :: r) = 32 :: (y ++ joinTail [32] r) := by simp [joinTail]
    rw [e, Pl.pgo_blank, if_neg hx, Pl.pgo_run y [] _ hy.2, List.nil_append, pgo_join r y hy.1 (fun p hp => h p (List.mem_cons_of_mem _ hp))]
theorem parts_join (x : List UInt8) (r : List (List UInt8)) (h : ∀ p ∈ x :: r, p ≠ [] ∧ ∀ b ∈ p, b ≠ 32) : Pl.partsF (join (x :: r) [32]) = x :: r := by
  have hx := h x (by simp)
  rw [join_cons, Pl.partsF, Pl.pgo_run x [] _ hx.2, List.nil_append, pgo_join r x hx.1 (fun p hp => h p (List.mem_cons_of_mem _ hp))]

theorem form_fine {w : List UInt8} {f : List Nat} (h : Pl.formF w = some f) : w ≠ [] ∧ (∀ b ∈ w, b ≠ 32) ∧ f.length ≤ 6 ∧ ∀ x ∈ f, x ≤ 2 := by
  have hm : ∀ q ∈ Pl.formTab, q.1 ≠ [] ∧ (∀ b ∈ q.1, b ≠ 32) ∧ q.2.length ≤ 6 ∧ ∀ x ∈ q.2, x ≤ 2 := by decide
  have : ∀ (T : List (List UInt8 × List Nat)), T.lookup w = some f → (w, f) ∈ T := by
    intro T
    induction T with
    | nil => intro h; simp at h
    | cons a T ih =>
      intro h
      obtain ⟨a, b⟩ := a
      rw [List.lookup] at h
      by_cases e : w = a
      · subst e; simp at h; simp [h]
      · rw [beq_eq_false_iff_ne.2 e] at h
        exact List.mem_cons_of_mem _ (ih h)
  exact hm _ (this _ h)

/-- a step that the document writes is read back -/
theorem parse_put {w : List UInt8} {f : List Nat} {N : List Int} {S ps : List (List UInt8)} (hf : Pl.formF w = some f) (hp : putF f N S = some ps) (hl : (join (w :: ps) [32]).length ≤ 4000) :
    Pl.parseF (join (w :: ps) [32]) = (⟨w, N.map Int.toNat, S⟩, 0) := by
  obtain ⟨h1, h2, _, _⟩ := form_fine hf
  obtain ⟨a, b, _, d⟩ := put_args f N S ps hp
  rw [Pl.parseF, if_neg (by omega), parts_join w ps (fun p hp => by
    rcases List.mem_cons.1 hp with e | hp
    · rw [e]; exact ⟨h1, h2⟩
    · exact d p hp), Pl.lineF, hf]
  simp only
  rw [if_pos b.symm, a]
  rfl
theorem parse_some_put {s : List UInt8} (h : (Pl.parseF s).2 = 0) : s.length ≤ 4000 ∧ ∃ f qs, Pl.formF (Pl.parseF s).1.word = some f ∧ putF f ((Pl.parseF s).1.N.map fun n : Nat => (n : Int)) (Pl.parseF s).1.S = some qs := by
  unfold Pl.parseF at h ⊢
  by_cases hs : 4000 < s.length
  · rw [if_pos hs] at h; cases h
  · rw [if_neg hs] at h ⊢
    refine ⟨by omega, ?_⟩
    cases hl : Pl.lineF (Pl.partsF s) with
    | none => rw [hl] at h; cases h
    | some x =>
      simp only
      cases hp : Pl.partsF s with
      | nil => rw [hp] at hl; cases hl
      | cons w r =>
        rw [hp, Pl.lineF] at hl
        cases hf : Pl.formF w with
        | none => rw [hf] at hl; cases hl
        | some f =>
          rw [hf] at hl
          simp only at hl
          split at hl
          · rename_i hlen
            obtain ⟨q, hq, rfl⟩ := Option.map_eq_some_iff.1 hl
            obtain ⟨qs, hqs⟩ := args_put f r q.1 q.2 hq hlen
            exact ⟨f, qs, hf, hqs⟩
          · cases hl
end Tx

open Tx in
theorem textF_ref (word : ByteArray) (N : List Int) (S : List ByteArray) : textF word N S = refF word.data.toList N (S.map (·.data.toList)) := by
  unfold textF
  have hk : ∀ f, Pl.formF word.data.toList = some f → kindsOf word = f := by
    intro f hf
    rw [formF_eq] at hf
    unfold kindsOf; rw [hf]; rfl
  by_cases hr : ReadsAs (textL word N S) word N S
  · rw [if_pos hr]
    obtain ⟨h1, h2, h3, h4⟩ := hr
    obtain ⟨hl, f, qs, hf, hq⟩ := parse_some_put h1
    rw [h2] at hf
    rw [h3, h4] at hq
    have ht : textL word N S = Lib.join (word.data.toList :: qs) [32] := by
      unfold textL
      rw [hk f hf, emit_put f N _ qs (form_fine hf).2.2.2 hq]
    rw [refF, hf]
    simp only
    rw [hq]
    simp only
    rw [← ht, if_pos hl]
  · rw [if_neg hr]
    rw [refF]
    cases hf : Pl.formF word.data.toList with
    | none => rfl
    | some f =>
      simp only
      cases hq : putF f N (S.map (·.data.toList)) with
      | none => rfl
      | some qs =>
        simp only
        by_cases hl : (Lib.join (word.data.toList :: qs) [32]).length ≤ 4000
        · exfalso
          apply hr
          have ht : textL word N S = Lib.join (word.data.toList :: qs) [32] := by
            unfold textL
            rw [hk f hf, emit_put f N _ qs (form_fine hf).2.2.2 hq]
          have hp := parse_put hf hq hl
          obtain ⟨_, _, c, _⟩ := put_args f N _ qs hq
          rw [ht, ReadsAs, hp]
          refine ⟨rfl, rfl, ?_, rfl⟩
          simp only [List.map_map]
          have : ∀ l : List Int, (∀ n ∈ l, 0 ≤ n) → l.map ((fun n : Nat => (n : Int)) ∘ Int.toNat) = l := by
            intro l
            induction l with
            | nil => intro _; rfl
            | cons a l ih =>
              intro h
              rw [List.map_cons, ih (fun n hn => h n (List.mem_cons_of_mem _ hn))]
              have := h a (by simp)
              simp [Int.toNat_of_nonneg this]
          exact this N c
        · rw [if_neg hl]
end Go.Proofs.YtddfpnljkaodcaaGreatDoor
