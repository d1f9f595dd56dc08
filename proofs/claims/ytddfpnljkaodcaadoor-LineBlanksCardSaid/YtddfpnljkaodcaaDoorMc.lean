/-
  Plain law of layer 31's short lines: the step of a line of at most 400 bytes is written with at most 4000, and read back. No program in sight.
-/
import Derived.Test.YtddfpnljkaodcaaDoorMa
namespace Go.Proofs.YtddfpnljkaodcaaDoor
namespace Tx
open Go.Lib

theorem pgo_short : ∀ (r cur : List UInt8), ∀ p ∈ Pl.pgo cur r, p.length ≤ cur.length + r.length
  | [], cur => by
    intro p hp
    rw [Pl.pgo] at hp
    by_cases h : cur = []
    · simp [h] at hp
    · simp [h] at hp; subst hp; simp
  | b :: r, cur => by
    intro p hp
    rw [Pl.pgo] at hp
    rw [List.length_cons]
    by_cases hb : b = 32
    · rw [if_pos hb] at hp
      by_cases h : cur = []
      · rw [if_pos h] at hp
        have := pgo_short r [] p hp
        simp at this; omega
      · rw [if_neg h] at hp
        rcases List.mem_cons.1 hp with e | e
        · subst e; omega
        · have := pgo_short r [] p e
          simp at this; omega
    · rw [if_neg hb] at hp
      have := pgo_short r _ p hp
      simp at this; omega
theorem hexPairs_len : ∀ (l t : List UInt8), Pl.hexPairs l = some t → 2 * t.length = l.length
  | [], t, h => by simp [Pl.hexPairs] at h; subst h; rfl
  | [_], t, h => by simp [Pl.hexPairs] at h
  | a :: b :: r, t, h => by
    rw [Pl.hexPairs] at h
    cases ha : Pl.hexV a with
    | none => rw [ha] at h; cases h
    | some x =>
      cases hb : Pl.hexV b with
      | none => rw [ha, hb] at h; cases h
      | some y =>
        rw [ha, hb] at h
        obtain ⟨q, hq, rfl⟩ := Option.map_eq_some_iff.1 h
        have := hexPairs_len r q hq
        simp; omega
theorem bytesF_len {l t : List UInt8} (h : Pl.bytesF l = some t) : 2 * t.length ≤ l.length := by
  unfold Pl.bytesF at h
  split at h
  · cases h; simp
  · split at h
    · cases h
    · rw [hexPairs_len _ _ h]; omega
theorem args_short (L : Nat) : ∀ (f : List Nat) (ps : List (List UInt8)) (N : List Nat) (S : List (List UInt8)), Pl.argsF f ps = some (N, S) → (∀ p ∈ ps, p.length ≤ L) → ∀ t ∈ S, 2 * t.length ≤ L
  | [], ps, N, S, h, _ => by
    rw [Pl.argsF] at h
    cases h
    simp
  | _ :: _, [], N, S, h, _ => by simp [Pl.argsF] at h
  | 0 :: f, p :: r, N, S, h, hl => by
    rw [Pl.argsF] at h
    cases hn : Pl.numF p with
    | none => rw [hn] at h; cases h
    | some n =>
      cases ha : Pl.argsF f r with
      | none => rw [hn, ha] at h; cases h
      | some q =>
        obtain ⟨N', S'⟩ := q
        rw [hn, ha] at h
        cases h
        exact args_short L f r N' S ha (fun p hp => hl p (List.mem_cons_of_mem _ hp))
  | 1 :: f, p :: r, N, S, h, hl => by
    rw [Pl.argsF] at h
    cases hn : Pl.wayF p with
    | none => rw [hn] at h; cases h
    | some n =>
      cases ha : Pl.argsF f r with
      | none => rw [hn, ha] at h; cases h
      | some q =>
        obtain ⟨N', S'⟩ := q
        rw [hn, ha] at h
        cases h
        exact args_short L f r N' S ha (fun p hp => hl p (List.mem_cons_of_mem _ hp))
  | (k + 2) :: f, p :: r, N, S, h, hl => by
    rw [Pl.argsF] at h
    · cases hn : Pl.bytesF p with
      | none => rw [hn] at h; cases h
      | some t =>
        cases ha : Pl.argsF f r with
        | none => rw [hn, ha] at h; cases h
        | some q =>
          obtain ⟨N', S'⟩ := q
          rw [hn, ha] at h
          cases h
          intro x hx
          rcases List.mem_cons.1 hx with e | hx
          · subst e
            have h1 := bytesF_len hn
            have h2 := hl p (by simp)
            omega
          · exact args_short L f r N S' ha (fun p hp => hl p (List.mem_cons_of_mem _ hp)) x hx
    · simp
    · simp

theorem itoa_short (n : Int) (h0 : 0 ≤ n) (h1 : n < 4294967296) : (itoa n).length ≤ 10 := by
  obtain ⟨u, rfl⟩ := Int.eq_ofNat_of_zero_le h0
  rw [itoa_nonneg]
  exact (dec_digs 9 u (by omega)).2.2.2
theorem hexF_short (t : List UInt8) (L : Nat) (hL : 10 ≤ L) (h : 2 * t.length ≤ L) : (hexF t).length ≤ L := by
  unfold hexF
  split
  · simp; omega
  · rw [hexL_length]; exact h
theorem put_more (L : Nat) (hL : 10 ≤ L) : ∀ (f : List Nat) (N : List Int) (S : List (List UInt8)) (ps : List (List UInt8)), putF f N S = some ps → (∀ t ∈ S, 2 * t.length ≤ L) →
    N.length ≤ f.length ∧ S.length ≤ f.length ∧ (∀ n ∈ N, 0 ≤ n ∧ n < 4294967296) ∧ ∀ p ∈ ps, p.length ≤ L
  | [], [], [], ps, h, _ => by
    simp only [putF, Option.some.injEq] at h; subst h
    simp
  | [], n :: N, S, ps, h, _ => by simp [putF] at h
  | [], [], t :: S, ps, h, _ => by simp [putF] at h
  | 0 :: f, [], S, ps, h, _ => by simp [putF] at h
  | 1 :: f, [], S, ps, h, _ => by simp [putF] at h
  | (_ + 2) :: f, N, [], ps, h, _ => by simp [putF] at h
  | 0 :: f, n :: N, S, ps, h, hs => by
    rw [putF] at h
    split at h
    · rename_i hn
      obtain ⟨qs, hq, rfl⟩ := Option.map_eq_some_iff.1 h
      obtain ⟨a, b, c, d⟩ := put_more L hL f N S qs hq hs
      refine ⟨by simp; omega, by simp; omega, ?_, ?_⟩
      · intro x hx; rcases List.mem_cons.1 hx with e | hx
        · rw [e]; exact hn
        · exact c x hx
      · intro p hp; rcases List.mem_cons.1 hp with e | hp
        · rw [e]; have := itoa_short n hn.1 hn.2; omega
        · exact d p hp
    · cases h
  | 1 :: f, n :: N, S, ps, h, hs => by
    rw [putF] at h
    split at h
    · rename_i hn
      obtain ⟨qs, hq, rfl⟩ := Option.map_eq_some_iff.1 h
      obtain ⟨a, b, c, d⟩ := put_more L hL f N S qs hq hs
      refine ⟨by simp; omega, by simp; omega, ?_, ?_⟩
      · intro x hx; rcases List.mem_cons.1 hx with e | hx
        · rw [e]; omega
        · exact c x hx
      · intro p hp; rcases List.mem_cons.1 hp with e | hp
        · rw [e]; split
          · exact Nat.le_trans (by decide : Pl.there.length ≤ 10) hL
          · exact Nat.le_trans (by decide : Pl.back.length ≤ 10) hL
        · exact d p hp
    · cases h
  | (k + 2) :: f, N, t :: S, ps, h, hs => by
    rw [putF] at h
    obtain ⟨qs, hq, rfl⟩ := Option.map_eq_some_iff.1 h
    obtain ⟨a, b, c, d⟩ := put_more L hL f N S qs hq (fun x hx => hs x (List.mem_cons_of_mem _ hx))
    refine ⟨by simp; omega, by simp; omega, c, ?_⟩
    intro p hp; rcases List.mem_cons.1 hp with e | hp
    · rw [e]; exact hexF_short t L hL (hs t (by simp))
    · exact d p hp
theorem lens_short (L : Nat) : ∀ ps : List (List UInt8), (∀ p ∈ ps, p.length ≤ L) → lens ps ≤ ps.length * L
  | [], _ => by simp [lens]
  | p :: r, h => by
    have h1 := lens_short L r (fun x hx => h x (List.mem_cons_of_mem _ hx))
    have h2 := h p (by simp)
    have e : lens (p :: r) = p.length + lens r := by simp [lens]
    rw [e, List.length_cons, Nat.add_mul, Nat.one_mul]; omega

/-- a short line's step is written, and read back -/
theorem parse_back {s : List UInt8} (hs : s.length ≤ 400) (h : (Pl.parseF s).2 = 0) :
    ((Pl.parseF s).1.word.length ≤ 400 ∧ (Pl.parseF s).1.N.length ≤ 6 ∧ (Pl.parseF s).1.S.length ≤ 6 ∧ (∀ n ∈ (Pl.parseF s).1.N, n < 4294967296) ∧ ∀ t ∈ (Pl.parseF s).1.S, t.length ≤ 400) ∧
    (refF (Pl.parseF s).1.word ((Pl.parseF s).1.N.map fun n : Nat => (n : Int)) (Pl.parseF s).1.S).length ≤ 4000 ∧
    Pl.parseF (refF (Pl.parseF s).1.word ((Pl.parseF s).1.N.map fun n : Nat => (n : Int)) (Pl.parseF s).1.S) = ((Pl.parseF s).1, 0) := by
  unfold Pl.parseF at h
  rw [if_neg (by omega)] at h
  have hp0 : Pl.parseF s = match Pl.lineF (Pl.partsF s) with | none => (⟨[], [], []⟩, 1) | some x => (x, 0) := by
    rw [Pl.parseF, if_neg (by omega)]; rfl
  cases hl : Pl.lineF (Pl.partsF s) with
  | none => rw [hl] at h; cases h
  | some x =>
    rw [hl] at hp0
    rw [hp0]
    simp only
    have hsh : ∀ p ∈ Pl.partsF s, p.length ≤ 400 := fun p hp => by have := pgo_short s [] p hp; simp at this; omega
    cases hp : Pl.partsF s with
    | nil => rw [hp] at hl; cases hl
    | cons w r =>
      rw [hp] at hsh
      rw [hp, Pl.lineF] at hl
      cases hf : Pl.formF w with
      | none => rw [hf] at hl; cases hl
      | some f =>
        rw [hf] at hl
        simp only at hl
        split at hl
        · rename_i hlen
          obtain ⟨q, hq, rfl⟩ := Option.map_eq_some_iff.1 hl
          obtain ⟨N, S⟩ := q
          obtain ⟨qs, hqs⟩ := args_put f r N S hq hlen
          have hS2 := args_short 400 f r N S hq (fun p hp => hsh p (List.mem_cons_of_mem _ hp))
          obtain ⟨h1, h2, h3, h4⟩ := put_more 400 (by omega) f _ S qs hqs hS2
          obtain ⟨_, hpl, _, _⟩ := put_args f _ S qs hqs
          obtain ⟨_, _, hf6, _⟩ := form_fine hf
          have hw := hsh w (by simp)
          have hjl : (join (w :: qs) [32]).length ≤ 4000 := by
            rw [join_length]
            have := lens_short 400 qs h4
            have e : lens (w :: qs) = w.length + lens qs := by simp [lens]
            have e2 : ([32] : List UInt8).length = 1 := rfl
            have h5 : qs.length * 400 ≤ 2400 := by omega
            simp only [e2]
            omega
          have hr : refF w (N.map fun n : Nat => (n : Int)) S = join (w :: qs) [32] := by
            rw [refF, hf]
            simp only
            rw [hqs]
            simp only
            rw [if_pos hjl]
          simp only
          rw [hr, parse_put hf hqs hjl]
          refine ⟨⟨hw, by simp at h1; omega, by omega, ?_, fun t ht => by have := hS2 t ht; omega⟩, hjl, ?_⟩
          · intro n hn
            have := (h3 (n : Int) (List.mem_map.2 ⟨n, hn, rfl⟩)).2
            omega
          · simp only [List.map_map]
            have : (Int.toNat ∘ fun n : Nat => (n : Int)) = id := by funext n; simp
            rw [this, List.map_id]
        · cases hl
end Tx
end Go.Proofs.YtddfpnljkaodcaaDoor
