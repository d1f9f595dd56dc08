/-
  The walk of Parse of layer 31 (line), where the line has a word.
-/
import Derived.Test.YtddfpnljkaodcaaGreatDoorLm
import Derived.Deep.RegionHeld3
namespace Go.Proofs.YtddfpnljkaodcaaGreatDoor
open Go.RowKit

theorem bytes_beq (a b : ByteArray) : (a == b) = decide (a = b) := by
  have e : (a == b) = (a.data == b.data) := rfl
  rw [e, Bool.eq_iff_iff, beq_iff_eq, decide_eq_true_iff]
  exact ⟨fun h => ByteArray.ext h, fun h => by rw [h]⟩
theorem lookup_keys : ∀ (t : List (ByteArray × List Nat)) (k : ByteArray), (t.map fun p => (p.1.data.toList, p.2)).lookup k.data.toList = t.lookup k
  | [], _ => rfl
  | (k0, l) :: t, k => by
    rw [List.map_cons, List.lookup_cons, List.lookup_cons, lookup_keys t k]
    have : (k.data.toList == k0.data.toList) = (k == k0) := by
      rw [bytes_beq, Bool.eq_iff_iff, beq_iff_eq, decide_eq_true_iff]
      exact ⟨fun h => ByteArray.ext (Array.toList_inj.mp h), fun h => by rw [h]⟩
    rw [this]
set_option maxRecDepth 10000 in
theorem formTab_eq : Pl.formTab = formTabB.map fun p => (p.1.data.toList, p.2) := by decide +kernel
theorem formF_eq (k : ByteArray) : Pl.formF k.data.toList = formTabB.lookup k := by
  unfold Pl.formF; rw [formTab_eq, lookup_keys]

/-- what a line with a word comes to -/
theorem parse_of_parts (s x0 : ByteArray) (r : List ByteArray) (hs : s.size ≤ 4000) (h : partsL s = x0 :: r) :
    Pl.parseF s.data.toList = match formTabB.lookup x0 with
      | none => (⟨[], [], []⟩, 1)
      | some f => if f.length = r.length then match Pl.argsF f (r.map (·.data.toList)) with
        | none => (⟨[], [], []⟩, 1)
        | some p => (⟨x0.data.toList, p.1, p.2⟩, 0)
        else (⟨[], [], []⟩, 1) := by
  unfold Pl.parseF
  rw [if_neg (by have : s.data.toList.length = s.size := by simp
                 omega), ← partsL_data, h]
  simp only [List.map_cons, Pl.lineF, formF_eq]
  cases formTabB.lookup x0 with
  | none => rfl
  | some f =>
    simp only [List.length_map]
    by_cases hl : f.length = r.length
    · rw [if_pos hl, if_pos hl]
      cases Pl.argsF f (r.map (·.data.toList)) <;> rfl
    · rw [if_neg hl, if_neg hl]

theorem err_look {s x0 : ByteArray} {r : List ByteArray} (h : Pl.parseF s.data.toList = match formTabB.lookup x0 with
      | none => (⟨[], [], []⟩, 1)
      | some f => if f.length = r.length then match Pl.argsF f (r.map (·.data.toList)) with
        | none => (⟨[], [], []⟩, 1)
        | some p => (⟨x0.data.toList, p.1, p.2⟩, 0)
        else (⟨[], [], []⟩, 1)) (hk : formTabB.lookup x0 = none) : Pl.parseF s.data.toList = (⟨[], [], []⟩, (1 : Int).toNat) := by rw [h, hk]; rfl
theorem err_len {s x0 : ByteArray} {r : List ByteArray} {f : List Nat} (h : Pl.parseF s.data.toList = match formTabB.lookup x0 with
      | none => (⟨[], [], []⟩, 1)
      | some f => if f.length = r.length then match Pl.argsF f (r.map (·.data.toList)) with
        | none => (⟨[], [], []⟩, 1)
        | some p => (⟨x0.data.toList, p.1, p.2⟩, 0)
        else (⟨[], [], []⟩, 1)) (hk : formTabB.lookup x0 = some f) (hl : ¬ f.length = r.length) : Pl.parseF s.data.toList = (⟨[], [], []⟩, (1 : Int).toNat) := by
  rw [h, hk]; simp only [if_neg hl]; rfl
theorem args_of {s x0 : ByteArray} {r : List ByteArray} {f : List Nat} (h : Pl.parseF s.data.toList = match formTabB.lookup x0 with
      | none => (⟨[], [], []⟩, 1)
      | some f => if f.length = r.length then match Pl.argsF f (r.map (·.data.toList)) with
        | none => (⟨[], [], []⟩, 1)
        | some p => (⟨x0.data.toList, p.1, p.2⟩, 0)
        else (⟨[], [], []⟩, 1)) (hk : formTabB.lookup x0 = some f) (hl : f.length = r.length) : Pl.parseF s.data.toList = match Pl.argsF f (r.map (·.data.toList)) with
        | none => (⟨[], [], []⟩, 1)
        | some p => (⟨x0.data.toList, p.1, p.2⟩, 0) := by
  rw [h, hk]; simp only [if_pos hl]
theorem PartsAt.form {W : World} {B : Nat} {v : Value} {l : List Nat} (h : PartsAt W B v l) : ∃ A, v = .slice A l.length l.length ∧ ∀ j (hj : j < l.length), ∃ g, A = some ⟨g, 0, none⟩ ∧ g < W.heap.size ∧ W.cell? ⟨g, j, none⟩ = some (.int .i64 (l[j] : Int)) := by
  rcases h with ⟨rfl, rfl⟩ | ⟨g, hg, rfl, hh⟩
  · exact ⟨none, rfl, fun j hj => by simp at hj⟩
  · refine ⟨_, rfl, fun j hj => ⟨g, rfl, (Array.getElem?_eq_some_iff.1 hh).1, ?_⟩⟩
    rw [Lib.cell_of_heap hh]; simp [hj]

/-! ### the loop's plain side -/
theorem pgo_len : ∀ (r cur : List UInt8), ∀ p ∈ Pl.pgo cur r, p.length ≤ cur.length + r.length
  | [], cur => by
    intro p hp
    rw [Pl.pgo] at hp
    by_cases h : cur = []
    · simp [h] at hp
    · simp [h] at hp; subst hp; simp
  | b :: r, cur => by
    intro p hp
    rw [Pl.pgo] at hp
    by_cases hb : b = 32
    · rw [if_pos hb] at hp
      by_cases h : cur = []
      · rw [if_pos h] at hp; have := pgo_len r [] p hp; simp at this ⊢; omega
      · rw [if_neg h] at hp
        rcases List.mem_cons.1 hp with e | e
        · subst e; simp
        · have := pgo_len r [] p e; simp at this ⊢; omega
    · rw [if_neg hb] at hp; have := pgo_len r _ p hp; simp at this ⊢; omega
theorem part_size (s x : ByteArray) (h : x ∈ partsL s) : x.size ≤ s.size := by
  have h1 : x.data.toList ∈ Pl.partsF s.data.toList := by rw [← partsL_data]; exact List.mem_map_of_mem h
  have := pgo_len _ _ _ h1
  simpa using this
theorem kinds_len : ∀ (x0 : ByteArray) (f : List Nat), formTabB.lookup x0 = some f → f.length ≤ 6 := by
  have hall : ∀ p ∈ formTabB, p.2.length ≤ 6 := by
    have : formTabB.all (fun p => decide (p.2.length ≤ 6)) = true := by decide +kernel
    intro p hp
    exact of_decide_eq_true (List.all_eq_true.1 this p hp)
  have key : ∀ (t : List (ByteArray × List Nat)) (x : ByteArray) f, t.lookup x = some f → ∃ p ∈ t, p.2 = f := by
    intro t
    induction t with
    | nil => intro x f h; simp at h
    | cons a t ih =>
      intro x f h
      obtain ⟨k, l⟩ := a
      rw [List.lookup_cons] at h
      cases hk : (x == k) with
      | true => rw [hk] at h; simp only [Option.some.injEq] at h; exact ⟨(k, l), by simp, h⟩
      | false => rw [hk] at h; obtain ⟨p, hp, he⟩ := ih x f h; exact ⟨p, by simp [hp], he⟩
  intro x0 f h
  obtain ⟨p, hp, rfl⟩ := key _ _ _ h
  exact hall p hp
theorem kinds_le : ∀ (x0 : ByteArray) (f : List Nat), formTabB.lookup x0 = some f → ∀ n ∈ f, n ≤ 2 := by
  have hall : ∀ p ∈ formTabB, ∀ n ∈ p.2, n ≤ 2 := by
    have : formTabB.all (fun p => p.2.all fun n => decide (n ≤ 2)) = true := by decide +kernel
    intro p hp n hn
    have h1 := List.all_eq_true.1 this p hp
    exact of_decide_eq_true (List.all_eq_true.1 h1 n hn)
  have key : ∀ (t : List (ByteArray × List Nat)) (x : ByteArray) f, t.lookup x = some f → ∃ p ∈ t, p.2 = f := by
    intro t
    induction t with
    | nil => intro x f h; simp at h
    | cons a t ih =>
      intro x f h
      obtain ⟨k, l⟩ := a
      rw [List.lookup_cons] at h
      cases hk : (x == k) with
      | true => rw [hk] at h; simp only [Option.some.injEq] at h; exact ⟨(k, l), by simp, h⟩
      | false => rw [hk] at h; obtain ⟨p, hp, he⟩ := ih x f h; exact ⟨p, by simp [hp], he⟩
  intro x0 f h n hn
  obtain ⟨p, hp, rfl⟩ := key _ _ _ h
  exact hall p hp n hn
def ArgsTo (f : List Nat) (r : List ByteArray) (k : Nat) (N : List Int) (S : List ByteArray) : Prop :=
  ∃ N' : List Nat, N = N'.map (fun n : Nat => (n : Int)) ∧ Pl.argsF f (r.map (·.data.toList)) = (Pl.argsF (f.drop k) ((r.map (·.data.toList)).drop k)).map fun p => (N' ++ p.1, S.map (·.data.toList) ++ p.2)
theorem ArgsTo.zero (f : List Nat) (r : List ByteArray) : ArgsTo f r 0 [] [] := ⟨[], rfl, by simp⟩
theorem drop_one {α : Type} (l : List α) (k : Nat) (h : k < l.length) : l.drop k = l[k] :: l.drop (k + 1) := List.drop_eq_getElem_cons h
theorem ArgsTo.bad {f : List Nat} {r : List ByteArray} {k : Nat} {N N2 : List Int} {S S2 : List ByteArray} (h : ArgsTo f r k N S) (h1 : k < f.length) (h2 : k < r.length) (hle : f[k] ≤ 2) (ha : ArgIs f[k] r[k] N S false N2 S2) : Pl.argsF f (r.map (·.data.toList)) = none := by
  obtain ⟨N', _, h⟩ := h
  rw [h, drop_one f k h1, drop_one (r.map (·.data.toList)) k (by simpa using h2), List.getElem_map]
  generalize f[k] = n at hle ha ⊢
  match n, hle with
  | 0, _ =>
    rcases ha with ⟨_, ha⟩ | ⟨h0, _⟩
    · rw [Pl.argsF, ha]; rfl
    · cases h0
  | 1, _ =>
    rcases ha with ⟨_, ha⟩ | ⟨h0, _⟩
    · rw [Pl.argsF, ha]; rfl
    · cases h0
  | 2, _ =>
    rcases ha with ⟨_, ha⟩ | ⟨h0, _⟩
    · rw [Pl.argsF, ha]
      · rfl
      · omega
      · omega
    · cases h0
theorem ArgsTo.step {f : List Nat} {r : List ByteArray} {k : Nat} {N N2 : List Int} {S S2 : List ByteArray} (h : ArgsTo f r k N S) (h1 : k < f.length) (h2 : k < r.length) (hle : f[k] ≤ 2) (ha : ArgIs f[k] r[k] N S true N2 S2) : ArgsTo f r (k + 1) N2 S2 := by
  obtain ⟨N', hN, h⟩ := h
  rw [drop_one f k h1, drop_one (r.map (·.data.toList)) k (by simpa using h2), List.getElem_map] at h
  generalize f[k] = n at hle ha h
  match n, hle with
  | 0, _ =>
    rcases ha with ⟨h0, _⟩ | ⟨_, m, hm, rfl, rfl⟩
    · cases h0
    · refine ⟨N' ++ [m], by rw [hN]; simp, ?_⟩
      rw [h, Pl.argsF, hm]
      cases Pl.argsF (f.drop (k + 1)) ((r.map (·.data.toList)).drop (k + 1)) <;> simp
  | 1, _ =>
    rcases ha with ⟨h0, _⟩ | ⟨_, m, hm, rfl, rfl⟩
    · cases h0
    · refine ⟨N' ++ [m], by rw [hN]; simp, ?_⟩
      rw [h, Pl.argsF, hm]
      cases Pl.argsF (f.drop (k + 1)) ((r.map (·.data.toList)).drop (k + 1)) <;> simp
  | 2, _ =>
    rcases ha with ⟨h0, _⟩ | ⟨_, t, ht, rfl, rfl⟩
    · cases h0
    · refine ⟨N', hN, ?_⟩
      rw [h, Pl.argsF, ht]
      · cases Pl.argsF (f.drop (k + 1)) ((r.map (·.data.toList)).drop (k + 1)) <;> simp
      · omega
      · omega
theorem ArgsTo.done {f : List Nat} {r : List ByteArray} {N : List Int} {S : List ByteArray} {k : Nat} (h : ArgsTo f r k N S) (hk : f.length ≤ k) : ∃ N' : List Nat, N = N'.map (fun n : Nat => (n : Int)) ∧ Pl.argsF f (r.map (·.data.toList)) = some (N', S.map (·.data.toList)) := by
  obtain ⟨N', hN, h⟩ := h
  rw [List.drop_of_length_le hk] at h
  exact ⟨N', hN, by rw [h, Pl.argsF]; simp⟩
theorem take_any (n : Nat) (hn : n ≤ 2) (B b : Nat) (word p : ByteArray) (N : List Int) (S : List ByteArray) (vN vS : Value) (w : World) (h : StepAt w B b word N S vN vS) (hN : N.length ≤ 100000) (hS : S.length ≤ 100000) (hp : p.size ≤ 4000) (hG : Glob w) (hB : B ≤ w.heap.size) :
    Calls Tryz.prog 25 #[.pointer (some ⟨b, 0, none⟩), .int .i64 (n : Int), .string p] w (PostT B b word n p N S w) := by
  match n, hn with
  | 0, _ => exact take_num B b word p N S vN vS w h hN hG.utf hB
  | 1, _ => exact take_way B b word p N S vN vS w h hN hG.ways hB
  | 2, _ => exact take_bytes B b word p N S vN vS w h hS hp hB

end Go.Proofs.YtddfpnljkaodcaaGreatDoor
