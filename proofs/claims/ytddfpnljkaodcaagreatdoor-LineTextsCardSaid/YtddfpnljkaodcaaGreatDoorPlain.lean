/-
  Plain laws of layer 31's lines: what a line's parts, numbers, ways and bytes are, as functions on lists of bytes. No program in sight.
-/
import Derived.Lib.Split
import Derived.Lib.SplitLaws
import Derived.Lib.AtoiAll
import Derived.Lib.AtoiAllCases
import Derived.Lib.ItoaNum
namespace Go.Proofs.YtddfpnljkaodcaaGreatDoor
namespace Pl
open Go.Lib

/-- Parts between blanks: what is begun, and what is still to come. -/
def pgo : List UInt8 → List UInt8 → List (List UInt8)
  | cur, [] => if cur = [] then [] else [cur]
  | cur, b :: r => if b = 32 then (if cur = [] then pgo [] r else cur :: pgo [] r) else pgo (cur ++ [b]) r
def partsF (s : List UInt8) : List (List UInt8) := pgo [] s

theorem pgo_run : ∀ (a cur r : List UInt8), (∀ b ∈ a, b ≠ 32) → pgo cur (a ++ r) = pgo (cur ++ a) r
  | [], cur, r, _ => by simp
  | b :: a, cur, r, h => by
    have hb : b ≠ 32 := h b (by simp)
    rw [List.cons_append, pgo, if_neg hb, pgo_run a _ r (fun x hx => h x (by simp [hx]))]
    simp
theorem pgo_blank (cur r : List UInt8) : pgo cur (32 :: r) = (if cur = [] then pgo [] r else cur :: pgo [] r) := by
  rw [pgo, if_pos rfl]

theorem pgo_ne : ∀ (r cur : List UInt8), ∀ p ∈ pgo cur r, p ≠ []
  | [], cur => by
    intro p hp
    rw [pgo] at hp
    by_cases h : cur = []
    · simp [h] at hp
    · simp [h] at hp; subst hp; exact h
  | b :: r, cur => by
    intro p hp
    rw [pgo] at hp
    by_cases hb : b = 32
    · rw [if_pos hb] at hp
      by_cases h : cur = []
      · rw [if_pos h] at hp; exact pgo_ne r [] p hp
      · rw [if_neg h] at hp
        rcases List.mem_cons.1 hp with e | e
        · subst e; exact h
        · exact pgo_ne r [] p e
    · rw [if_neg hb] at hp; exact pgo_ne r _ p hp

/-- splitting at the blanks and dropping what is empty -/
theorem split_parts : ∀ (k : Nat) (l : List UInt8), count l [32] = k → (splitK [32] 0 k l).filter (fun p => !p.isEmpty) = partsF l := by
  intro k
  induction k with
  | zero =>
    intro l hk
    have hn : ∀ b ∈ l, b ≠ 32 := by
      intro b hb e
      rw [count_one] at hk
      exact absurd (List.count_eq_zero.1 hk) (by simpa [← e] using hb)
    have := pgo_run l [] [] hn
    simp only [List.append_nil, List.nil_append] at this
    rw [partsF, this, pgo, splitK]
    cases l <;> simp
  | succ k ih =>
    intro l hk
    rcases index_spec l [32] with ⟨hm, _⟩ | ⟨i, hi, hle, hocc, hno⟩
    · rw [count_miss hm] at hk; omega
    · have hc := count_hit (s := l) (sub := [32]) (by simp) hi
      have hr := index_room l [32] (by omega)
      have hget : l[i]? = some 32 := occAt_head (t := []) rfl hocc
      have hil : i < l.length := by simp at hr; omega
      have hsplit : l = l.take i ++ 32 :: l.drop (i + 1) := by
        have h1 : l.drop i = l[i] :: l.drop (i + 1) := List.drop_eq_getElem_cons hil
        have h2 : l[i] = 32 := by rw [List.getElem?_eq_getElem hil] at hget; injection hget
        rw [h2] at h1
        rw [← h1, List.take_append_drop]
      have hno' : ∀ b ∈ l.take i, b ≠ 32 := by
        intro b hb e
        obtain ⟨j, hj, hjb⟩ := List.mem_iff_getElem.1 hb
        simp at hj
        have h1 := hno j (by omega)
        have h2 : l[j] = 32 := by rw [← e, ← hjb]; simp
        rw [occAt_iff_take l [32] j (by simp; try omega)] at h1
        rw [List.drop_eq_getElem_cons (by omega : j < l.length), h2] at h1
        simp at h1
      have ht : (index l [32]).toNat = i := by omega
      have hne : ¬ (index l [32] == -1) = true := by rw [hi]; simp
      rw [splitK, if_neg hne, ht]
      simp only [List.length_cons, List.length_nil, Nat.zero_add, Nat.add_zero]
      simp only [List.length_cons, List.length_nil, Nat.zero_add] at hc
      have ihk := ih (l.drop (i + 1)) (by omega)
      have hrun := pgo_run (l.take i) [] (32 :: l.drop (i + 1)) hno'
      rw [← hsplit, List.nil_append, pgo_blank] at hrun
      rw [List.filter_cons, ihk, partsF, partsF, hrun]
      cases l.take i <;> simp

/-! ### numbers -/
def isDig (b : UInt8) : Bool := decide (48 ≤ b.toNat) && decide (b.toNat ≤ 57)
def numVal (l : List UInt8) : Nat := l.foldl (fun n b => 10 * n + (b.toNat - 48)) 0
def numF (l : List UInt8) : Option Nat :=
  if 1 ≤ l.length ∧ l.length ≤ 10 ∧ l.all isDig = true ∧ numVal l < 4294967296 then some (numVal l) else none

theorem numVal_snoc (l : List UInt8) (b : UInt8) : numVal (l ++ [b]) = 10 * numVal l + (b.toNat - 48) := by simp [numVal]
theorem numVal_lt : ∀ (n : Nat) (l : List UInt8), l.length = n → l.all isDig = true → numVal l < 10 ^ n
  | 0, l, h, _ => by
    have : l = [] := List.length_eq_zero_iff.1 h
    subst this; decide
  | n + 1, l, h, hd => by
    rcases List.eq_nil_or_concat l with e | ⟨l', b, e⟩
    · subst e; simp at h
    · subst e
      simp at h hd
      have h1 := numVal_lt n l' h (by simpa using hd.1)
      have h2 := hd.2
      simp [isDig] at h2
      rw [List.concat_eq_append, numVal_snoc, Nat.pow_succ]; omega

theorem parse_digits : ∀ (l : List UInt8) (acc : Nat), l.all isDig = true → (acc + 1) * 10 ^ l.length ≤ 10 ^ 10 → parseUint10 acc l = .ok (l.foldl (fun n b => 10 * n + (b.toNat - 48)) acc)
  | [], acc, _, _ => rfl
  | c :: r, acc, hd, hb => by
    simp only [List.all_cons, Bool.and_eq_true] at hd
    have hc := hd.1
    simp [isDig] at hc
    have hpos : 1 ≤ 10 ^ r.length := Nat.pos_of_ne_zero (by simp)
    rw [List.length_cons, Nat.pow_succ] at hb
    have hb2 : (acc + 1) * 10 * 10 ^ r.length ≤ 10 ^ 10 := by rw [Nat.mul_assoc, Nat.mul_comm 10]; exact hb
    have hacc : (acc + 1) * 10 ≤ 10 ^ 10 := Nat.le_trans (Nat.le_mul_of_pos_right _ hpos) hb2
    rw [parseUint10, if_pos ⟨hc.1, hc.2⟩, if_neg (by omega), if_neg (by omega), parse_digits r _ hd.2]
    · rw [List.foldl_cons]; congr 1; congr 1; omega
    · refine Nat.le_trans (Nat.mul_le_mul_right _ ?_) hb2
      omega
theorem atoi_digits (l : List UInt8) (h1 : 1 ≤ l.length) (h2 : l.length ≤ 10) (hd : l.all isDig = true) : atoiAll l = .ok (numVal l : Int) := by
  have hlt := numVal_lt l.length l rfl hd
  have hle : 10 ^ l.length ≤ 10 ^ 10 := Nat.pow_le_pow_right (by omega) h2
  cases l with
  | nil => simp at h1
  | cons c r =>
    have hc : isDig c = true := by simp only [List.all_cons, Bool.and_eq_true] at hd; exact hd.1
    simp [isDig] at hc
    have hp := parse_digits (c :: r) 0 hd (by simpa using hle)
    rw [atoiAll_plain c r (by omega) (by omega)]
    have hm : parseMag (c :: r) = .ok (numVal (c :: r)) := by rw [parseMag, if_neg (by simp), hp]; rfl
    rw [hm]
    have : numVal (c :: r) < 9223372036854775808 := by omega
    simp [signless]
    omega

/-! ### ways and bytes -/
def there : List UInt8 := [116, 104, 101, 114, 101]
def back : List UInt8 := [98, 97, 99, 107]
def wayF (l : List UInt8) : Option Nat := if l = there then some 0 else if l = back then some 1 else none

def hexV (b : UInt8) : Option Nat :=
  if 48 ≤ b.toNat ∧ b.toNat ≤ 57 then some (b.toNat - 48) else if 97 ≤ b.toNat ∧ b.toNat ≤ 102 then some (b.toNat - 87) else none
def hexPairs : List UInt8 → Option (List UInt8)
  | [] => some []
  | [_] => none
  | a :: b :: r => match hexV a, hexV b with
    | some x, some y => (hexPairs r).map (UInt8.ofNat (16 * x + y) :: ·)
    | _, _ => none
def bytesF (l : List UInt8) : Option (List UInt8) := if l = [45] then some [] else if l = [] then none else hexPairs l

/-! ### the forms: 0 a number, 1 a way, 2 bytes -/
def w_all : List UInt8 := [97, 108, 108]
def w_audit : List UInt8 := [97, 117, 100, 105, 116]
def w_clock : List UInt8 := [99, 108, 111, 99, 107]
def w_close : List UInt8 := [99, 108, 111, 115, 101]
def w_counts : List UInt8 := [99, 111, 117, 110, 116, 115]
def w_deliver : List UInt8 := [100, 101, 108, 105, 118, 101, 114]
def w_flows : List UInt8 := [102, 108, 111, 119, 115]
def w_forge : List UInt8 := [102, 111, 114, 103, 101]
def w_lose : List UInt8 := [108, 111, 115, 101]
def w_net : List UInt8 := [110, 101, 116]
def w_path : List UInt8 := [112, 97, 116, 104]
def w_paths : List UInt8 := [112, 97, 116, 104, 115]
def w_played : List UInt8 := [112, 108, 97, 121, 101, 100]
def w_session : List UInt8 := [115, 101, 115, 115, 105, 111, 110]
def w_submit : List UInt8 := [115, 117, 98, 109, 105, 116]
def w_tick : List UInt8 := [116, 105, 99, 107]
def w_turn : List UInt8 := [116, 117, 114, 110]
def w_twin : List UInt8 := [116, 119, 105, 110]

def formTab : List (List UInt8 × List Nat) := [
  (w_session, [0, 0, 0, 0, 0, 0]), (w_submit, [0, 2]), (w_path, [0, 0, 0]), (w_tick, [0]), (w_all, [1, 0]), (w_net, [1, 0]),
  (w_turn, [1, 0, 0, 0, 0]), (w_forge, [1, 0, 2]), (w_close, []), (w_clock, []), (w_paths, []), (w_flows, []), (w_played, []), (w_counts, []), (w_audit, []),
  (w_deliver, [1, 0, 0]), (w_lose, [1, 0, 0]), (w_twin, [1, 0, 0])]
def formF (w : List UInt8) : Option (List Nat) := formTab.lookup w

/-! ### a line -/
def argsF : List Nat → List (List UInt8) → Option (List Nat × List (List UInt8))
  | [], _ => some ([], [])
  | _ :: _, [] => none
  | 0 :: f, p :: r => match numF p, argsF f r with | some n, some (N, S) => some (n :: N, S) | _, _ => none
  | 1 :: f, p :: r => match wayF p, argsF f r with | some n, some (N, S) => some (n :: N, S) | _, _ => none
  | _ :: f, p :: r => match bytesF p, argsF f r with | some t, some (N, S) => some (N, t :: S) | _, _ => none

structure Step where
  word : List UInt8
  N : List Nat
  S : List (List UInt8)

def lineF (l : List (List UInt8)) : Option Step :=
  match l with
  | [] => none
  | w :: r => match formF w with
    | none => none
    | some f => if f.length = r.length then (argsF f r).map fun p => ⟨w, p.1, p.2⟩ else none

/-- The step of a line, or the error's number. -/
def parseF (s : List UInt8) : Step × Nat :=
  if 4000 < s.length then (⟨[], [], []⟩, 3) else match lineF (partsF s) with
    | none => (⟨[], [], []⟩, 1)
    | some x => (x, 0)
end Pl
end Go.Proofs.YtddfpnljkaodcaaGreatDoor
