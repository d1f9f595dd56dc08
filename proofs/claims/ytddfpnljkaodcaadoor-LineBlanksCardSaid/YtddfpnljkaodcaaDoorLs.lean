/-
  The pure side of layer 31's document parser: what the printed functions answer.
-/
import Derived.Test.YtddfpnljkaodcaaDoorPLineReadsx7
import Derived.Test.YtddfpnljkaodcaaDoorPlain
namespace Go.Proofs.YtddfpnljkaodcaaDoor.Dp
open Go.RowKit Go.Proofs.YtddfpnljkaodcaaDoor Go.Proofs.YtddfpnljkaodcaaDoor.PLineReads Go.Proofs.YtddfpnljkaodcaaDoorW.PrintWords

def dl (s : ByteArray) : List UInt8 := s.data.toList
@[simp] theorem dl_len (s : ByteArray) : (dl s).length = s.size := by simp [dl]
theorem toList_dl (s : ByteArray) : s.toList = dl s := Lib.toList_data s
theorem dl_inj {a b : ByteArray} (h : dl a = dl b) : a = b := ByteArray.ext (Array.toList_inj.mp h)
theorem dbt_dl (s : ByteArray) (i : Nat) (h : i < s.size) : bt s (i : Int) = (((dl s)[i]'(by rw [dl_len]; exact h)).toNat : Int) := by
  have h' : (i : Int).toNat < s.size := by omega
  rw [← bt_at s i h']
  rfl
theorem dwrap_up (i : Int) (h0 : -1000000000000 ≤ i) (h : i ≤ 1000000000000) : wrap64 i = i := by unfold wrap64; omega
theorem dl_extract (s : ByteArray) (a b : Nat) : dl (s.extract a b) = ((dl s).drop a).take (b - a) := by
  rw [← toList_dl s, toList_dl s, ← toList_dl, Lib.extract_toList]; rfl

/-! ### number -/
def NumIs (p : ByteArray) (n : Int) (b : Bool) : Prop := (b = true ∧ Pl.numF (dl p) = some n.toNat ∧ 0 ≤ n) ∨ (b = false ∧ Pl.numF (dl p) = none)
theorem num_l0 (p : ByteArray) (h1 : 1 ≤ p.size) (h2 : p.size ≤ 10) : ∀ (d i k : Nat), i + d = p.size → d < k → ((dl p).take i).all Pl.isDig = true →
    ∃ n b, cordelleref31_number.l0 k p (Pl.numVal ((dl p).take i) : Nat) (i : Int) = some (n, b) ∧ NumIs p n b := by
  intro d
  induction d with
  | zero =>
    intro i k hi hk hd
    obtain ⟨k, rfl⟩ : ∃ m, k = m + 1 := ⟨k - 1, by omega⟩
    have ht : (dl p).take i = dl p := List.take_of_length_le (by rw [dl_len]; omega)
    rw [ht] at hd ⊢
    refine ⟨_, _, by simp only [cordelleref31_number.l0]; rw [if_neg (by omega)], ?_⟩
    unfold NumIs
    by_cases hv : Pl.numVal (dl p) < 4294967296
    · refine .inl ⟨by simp; omega, ?_, by omega⟩
      rw [Pl.numF, if_pos ⟨by rw [dl_len]; exact h1, by rw [dl_len]; exact h2, hd, hv⟩]; simp
    · refine .inr ⟨by simp; omega, ?_⟩
      rw [Pl.numF, if_neg (fun h => hv h.2.2.2)]
  | succ d ih =>
    intro i k hi hk hd
    obtain ⟨k, rfl⟩ : ∃ m, k = m + 1 := ⟨k - 1, by omega⟩
    have hlt : i < p.size := by omega
    have hlt' : i < (dl p).length := by rw [dl_len]; exact hlt
    have hbt := dbt_dl p i hlt
    have hmem : (dl p)[i] ∈ dl p := List.getElem_mem hlt'
    have hts : (dl p).take (i + 1) = (dl p).take i ++ [(dl p)[i]] := (List.take_append_getElem hlt').symm
    by_cases hdg : Pl.isDig (dl p)[i] = true
    · have hd2 := hdg
      simp only [Pl.isDig, Bool.and_eq_true, decide_eq_true_eq] at hd2
      have hval := Pl.numVal_lt i ((dl p).take i) (by simp; omega) hd
      have hpw : 10 ^ i ≤ 10 ^ 10 := Nat.pow_le_pow_right (by omega) (by omega)
      have e1 : wrap64 (10 * (Pl.numVal ((dl p).take i) : Int)) = 10 * (Pl.numVal ((dl p).take i) : Int) := dwrap_up _ (by omega) (by omega)
      have e2 : wrap64 (bt p (i : Int)) = bt p (i : Int) := dwrap_up _ (by omega) (by omega)
      obtain ⟨n, b, hr, hn⟩ := ih (i + 1) k (by omega) (by omega) (by rw [hts, List.all_append, hd]; simp [hdg])
      refine ⟨n, b, ?_, hn⟩
      simp only [cordelleref31_number.l0]
      rw [if_pos (by omega), if_pos (by omega), if_neg (by omega), if_neg (by omega), e1, e2, dwrap_up (_ + _) (by omega) (by omega), dwrap_up _ (by omega) (by omega), dwrap_up _ (by omega) (by omega)]
      have e3 : 10 * (Pl.numVal ((dl p).take i) : Int) + bt p (i : Int) - 48 = ((Pl.numVal ((dl p).take (i + 1)) : Nat) : Int) := by
        rw [hts, Pl.numVal_snoc, hbt]; omega
      rw [e3]
      exact hr
    · refine ⟨0, false, ?_, .inr ⟨rfl, ?_⟩⟩
      · simp only [cordelleref31_number.l0]
        rw [if_pos (by omega), if_pos (by omega)]
        simp only [Pl.isDig, Bool.and_eq_true, decide_eq_true_eq] at hdg
        by_cases h48 : bt p (i : Int) < 48
        · rw [if_pos h48]
        · rw [if_neg h48, if_pos (by omega)]
      · rw [Pl.numF, if_neg]
        intro h
        exact hdg (List.all_eq_true.1 h.2.2.1 _ hmem)
theorem dnum_f (p : ByteArray) (k : Nat) (hk : 20 ≤ k) : ∃ n b, cordelleref31_number.f k p = some (n, b) ∧ NumIs p n b := by
  obtain ⟨k, rfl⟩ : ∃ m, k = m + 1 := ⟨k - 1, by omega⟩
  unfold cordelleref31_number.f
  have hbad : ¬ (1 ≤ p.size ∧ p.size ≤ 10) → NumIs p 0 false := by
    intro h
    refine .inr ⟨rfl, ?_⟩
    rw [Pl.numF, if_neg]
    intro h'
    rw [dl_len] at h'
    exact h ⟨h'.1, h'.2.1⟩
  by_cases h1 : (p.size : Int) < 1
  · rw [if_pos h1]
    exact ⟨0, false, by simp [cordelleref31_number.j0], hbad (by omega)⟩
  · rw [if_neg h1]
    by_cases h2 : (p.size : Int) > 10
    · exact ⟨0, false, by rw [decide_eq_true h2]; simp [cordelleref31_number.j0], hbad (by omega)⟩
    · rw [decide_eq_false h2]
      obtain ⟨n, b, hr, hn⟩ := num_l0 p (by omega) (by omega) p.size 0 k (by omega) (by omega) (by simp)
      exact ⟨n, b, by simpa [cordelleref31_number.j0, Pl.numVal] using hr, hn⟩

/-! ### bytes -/
theorem digit_f (b : UInt8) (k : Nat) : cordelleref31_digit.f (k + 1) (b.toNat : Int) = some (match Pl.hexV b with | some v => (v : Int) | none => -1) := by
  have hb := b.toNat_lt
  unfold cordelleref31_digit.f Pl.hexV
  by_cases h1 : 48 ≤ b.toNat
  · rw [if_pos (by omega)]
    by_cases h2 : b.toNat ≤ 57
    · rw [decide_eq_true (by omega), if_pos ⟨h1, h2⟩]
      simp only [cordelleref31_digit.j0, if_true]
      rw [dwrap_up (b.toNat : Int) (by omega) (by omega), dwrap_up _ (by omega) (by omega)]
      show some _ = some (((b.toNat - 48 : Nat) : Int))
      congr 1; omega
    · rw [decide_eq_false (by omega), if_neg (by omega)]
      simp only [cordelleref31_digit.j0]
      rw [if_neg (by simp)]
      by_cases h3 : 97 ≤ b.toNat
      · rw [if_pos (by omega)]
        by_cases h4 : b.toNat ≤ 102
        · rw [if_pos (by omega), if_pos ⟨h3, h4⟩, dwrap_up (b.toNat : Int) (by omega) (by omega), dwrap_up _ (by omega) (by omega)]
          show some _ = some (((b.toNat - 87 : Nat) : Int))
          congr 1; omega
        · rw [if_neg (by omega), if_neg (by omega)]
      · rw [if_neg (by omega), if_neg (by omega)]
  · rw [if_neg (by omega), if_neg (by omega), if_neg (by omega)]
    simp only [cordelleref31_digit.j0]
    rw [if_neg (by simp), if_neg (by omega)]

theorem hexV_lt {b : UInt8} {v : Nat} (h : Pl.hexV b = some v) : v < 16 := by
  unfold Pl.hexV at h
  split at h
  · cases h; omega
  · split at h
    · cases h; omega
    · cases h
theorem dl_nums (t : List UInt8) : dl (strOfNums (t.map fun b => (b.toNat : Int))) = t := by
  unfold dl strOfNums
  simp only [List.map_map]
  have : ((fun n : Int => UInt8.ofNat n.toNat) ∘ fun b : UInt8 => (b.toNat : Int)) = id := by
    funext b; simp
  rw [this]; simp
theorem byt_l0 (p : ByteArray) (hp : p.size ≤ 4000) : ∀ (d i k : Nat) (x : List Int), i + 2 * d = p.size → d + 1 < k → x.length + d ≤ 10000 →
    cordelleref31_bytes.l0 k p x (i : Int) = some (match Pl.hexPairs ((dl p).drop i) with | some t => (strOfNums (x ++ t.map fun b => (b.toNat : Int)), true) | none => (⟨#[]⟩, false)) := by
  intro d
  induction d with
  | zero =>
    intro i k x hi hk hx
    obtain ⟨k, rfl⟩ : ∃ m, k = m + 1 := ⟨k - 1, by omega⟩
    have ht : (dl p).drop i = [] := List.drop_of_length_le (by rw [dl_len]; omega)
    simp only [cordelleref31_bytes.l0]
    rw [if_neg (by omega), ht, Pl.hexPairs]
    simp
  | succ d ih =>
    intro i k x hi hk hx
    obtain ⟨k, rfl⟩ : ∃ m, k = m + 1 + 1 := ⟨k - 2, by omega⟩
    have ei : wrap64 ((i : Int) + 1) = (i : Int) + 1 := dwrap_up _ (by omega) (by omega)
    have ei2 : wrap64 ((i : Int) + 2) = ((i + 2 : Nat) : Int) := by unfold wrap64; omega
    have hl0 : i < (dl p).length := by rw [dl_len]; omega
    have hl1 : i + 1 < (dl p).length := by rw [dl_len]; omega
    have hdrop : (dl p).drop i = (dl p)[i] :: (dl p)[i + 1] :: (dl p).drop (i + 2) := by
      rw [List.drop_eq_getElem_cons hl0, List.drop_eq_getElem_cons hl1]
    have hb0 := dbt_dl p i (by omega)
    have hb1 : bt p ((i : Int) + 1) = (((dl p)[i + 1]).toNat : Int) := dbt_dl p (i + 1) (by omega)
    have ihk : ∀ y : List Int, y.length + d ≤ 10000 → _ := fun y hy => ih (i + 2) (k + 1) y (by omega) (by omega) hy
    rw [hdrop, cordelleref31_bytes.l0]
    rw [if_pos (by omega), if_pos (by omega), ei, ei2, hb0, hb1, digit_f, digit_f]
    simp only [Option.bind_some]
    rw [if_pos (by omega), if_pos (by omega), Pl.hexPairs]
    cases h0 : Pl.hexV (dl p)[i] with
    | none => simp
    | some v0 =>
      cases h1 : Pl.hexV (dl p)[i + 1] with
      | none =>
        have := hexV_lt h0
        simp only
        rw [if_neg (by omega), if_pos (by decide)]
      | some v1 =>
        have l0 := hexV_lt h0
        have l1 := hexV_lt h1
        simp only
        have e16 : wrap64 (wrap64 (16 * (v0 : Int)) + v1) % 256 = ((UInt8.ofNat (16 * v0 + v1)).toNat : Int) := by
          rw [dwrap_up (16 * _) (by omega) (by omega), dwrap_up _ (by omega) (by omega)]
          simp
        rw [if_neg (by omega), if_neg (by omega), if_pos (by omega), e16, ihk _ (by simp; omega)]
        cases Pl.hexPairs ((dl p).drop (i + 2)) with
        | none => simp
        | some t => simp

theorem hex_odd : ∀ (l : List UInt8), l.length % 2 = 1 → Pl.hexPairs l = none
  | [], h => by simp at h
  | [_], _ => rfl
  | a :: b :: r, h => by
    rw [Pl.hexPairs, hex_odd r (by simp at h; omega)]
    cases Pl.hexV a <;> cases Pl.hexV b <;> rfl
def BytIs (p r : ByteArray) (b : Bool) : Prop := (b = true ∧ Pl.bytesF (dl p) = some (dl r)) ∨ (b = false ∧ Pl.bytesF (dl p) = none)
theorem byt_f (p : ByteArray) (hp : p.size ≤ 4000) (k : Nat) (hk : 2010 ≤ k) : ∃ r b, cordelleref31_bytes.f k p = some (r, b) ∧ BytIs p r b := by
  obtain ⟨k, rfl⟩ : ∃ m, k = m + 1 := ⟨k - 1, by omega⟩
  unfold cordelleref31_bytes.f
  rw [toList_dl]
  by_cases h45 : dl p = [45]
  · rw [if_pos h45]
    exact ⟨_, _, rfl, .inl ⟨rfl, by rw [Pl.bytesF, if_pos h45]; rfl⟩⟩
  · rw [if_neg h45]
    by_cases hodd : (p.size : Int) % 2 = 1
    · rw [if_pos hodd]
      refine ⟨_, _, by simp only [cordelleref31_bytes.j0, if_true]; rfl, .inr ⟨rfl, ?_⟩⟩
      rw [Pl.bytesF, if_neg h45, hex_odd _ (by rw [dl_len]; omega)]
      simp
    · rw [if_neg hodd]
      by_cases he : dl p = []
      · refine ⟨_, _, by rw [show (dl p == ([] : List UInt8)) = true by simp [he]]; simp only [cordelleref31_bytes.j0, if_true]; rfl, .inr ⟨rfl, ?_⟩⟩
        rw [Pl.bytesF, if_neg h45, if_pos he]
      · rw [show (dl p == ([] : List UInt8)) = false by simpa using he]
        simp only [cordelleref31_bytes.j0]
        rw [if_neg (by simp)]
        have := byt_l0 p hp (p.size / 2) 0 k [] (by omega) (by omega) (by simp; omega)
        simp only [Int.natCast_zero, List.drop_zero, List.nil_append] at this
        rw [this]
        unfold BytIs
        rw [Pl.bytesF, if_neg h45, if_neg he]
        cases Pl.hexPairs (dl p) with
        | none => exact ⟨_, _, rfl, .inr ⟨rfl, rfl⟩⟩
        | some t => exact ⟨_, _, rfl, .inl ⟨rfl, by rw [dl_nums]⟩⟩

/-! ### parts -/
theorem parts_l0 (s : ByteArray) (hs : s.size ≤ 4000) : ∀ (d i a k : Nat) (x : List ByteArray), i + d = s.size → a ≤ i → 2 * d + 4 < k → x.length + d ≤ 10000 →
    ∃ r, cordelleref31_parts.l0 k s x (a : Int) (i : Int) = some r ∧ r.map dl = x.map dl ++ Pl.pgo (((dl s).drop a).take (i - a)) ((dl s).drop i) := by
  intro d
  induction d with
  | zero =>
    intro i a k x hi ha hk hx
    obtain ⟨k, rfl⟩ : ∃ m, k = m + 1 + 1 + 1 := ⟨k - 3, by omega⟩
    have ht : (dl s).drop i = [] := List.drop_of_length_le (by rw [dl_len]; omega)
    simp only [cordelleref31_parts.l0, cordelleref31_parts.j1]
    rw [if_pos (by omega), if_neg (by omega), if_neg (by simp), ht, Pl.pgo]
    by_cases hia : i = a
    · rw [if_neg (by omega), dwrap_up _ (by omega) (by omega), if_neg (by omega)]
      exact ⟨x, rfl, by simp [hia]⟩
    · have hne : ((dl s).drop a).take (i - a) ≠ [] := by
        intro e
        have := congrArg List.length e
        simp at this; omega
      rw [if_pos (by omega), if_pos (by omega), if_pos (by omega), if_pos (by omega), if_pos (by omega), dwrap_up _ (by omega) (by omega), if_neg (by omega), if_neg hne]
      exact ⟨_, rfl, by simp only [List.map_append, List.map_cons, List.map_nil, Int.toNat_natCast, dl_extract]⟩
  | succ d ih =>
    intro i a k x hi ha hk hx
    obtain ⟨k, rfl⟩ : ∃ m, k = m + 1 + 1 := ⟨k - 2, by omega⟩
    have hl : i < (dl s).length := by rw [dl_len]; omega
    have hbt := dbt_dl s i (by omega)
    have ei : wrap64 ((i : Int) + 1) = ((i + 1 : Nat) : Int) := by unfold wrap64; omega
    rw [List.drop_eq_getElem_cons hl]
    simp only [cordelleref31_parts.l0, cordelleref31_parts.j1]
    rw [if_pos (by omega), if_pos (by omega), if_pos (by omega), ei, hbt]
    by_cases h32 : (dl s)[i] = 32
    · rw [h32, if_neg (by simp), Pl.pgo, if_pos rfl]
      by_cases hia : i = a
      · rw [if_neg (by omega)]
        obtain ⟨r, hr, hm⟩ := ih (i + 1) (i + 1) k x (by omega) (Nat.le_refl _) (by omega) (by omega)
        refine ⟨r, hr, ?_⟩
        rw [hm]; simp [hia]
      · have hne : ((dl s).drop a).take (i - a) ≠ [] := by
          intro e
          have := congrArg List.length e
          simp at this; omega
        rw [if_pos (by omega), if_pos (by omega), if_pos (by omega), if_pos (by omega), if_pos (by omega), if_neg hne]
        obtain ⟨r, hr, hm⟩ := ih (i + 1) (i + 1) k (x ++ [s.extract a i]) (by omega) (Nat.le_refl _) (by omega) (by simp; omega)
        refine ⟨r, by simpa using hr, ?_⟩
        rw [hm]; simp [dl_extract]
    · have hn32 : ((((dl s)[i]).toNat : Int) != 32) = true := by
        have : ((dl s)[i]).toNat ≠ 32 := fun e => h32 (UInt8.toNat_inj.mp (by simpa using e))
        simp; omega
      rw [if_pos hn32, Pl.pgo, if_neg h32]
      obtain ⟨r, hr, hm⟩ := ih (i + 1) a k x (by omega) (by omega) (by omega) (by omega)
      refine ⟨r, hr, ?_⟩
      rw [hm]
      congr 2
      have hl2 : i - a < ((dl s).drop a).length := by rw [List.length_drop]; omega
      rw [show i + 1 - a = i - a + 1 by omega, ← List.take_append_getElem hl2]
      congr 2
      rw [List.getElem_drop]
      congr 1; omega
theorem parts_f (s : ByteArray) (hs : s.size ≤ 4000) (k : Nat) (hk : 8020 ≤ k) : ∃ r, cordelleref31_parts.f k s = some r ∧ r.map dl = Pl.partsF (dl s) := by
  obtain ⟨r, hr, hm⟩ := parts_l0 s hs s.size 0 0 k [] (by omega) (Nat.le_refl _) (by omega) (by simp; omega)
  exact ⟨r, hr, by simpa [Pl.partsF] using hm⟩
/-! ### Form -/
def code : Nat → UInt8 := fun k => if k = 0 then 110 else if k = 1 then 119 else 98
set_option linter.unusedSimpArgs false in
theorem form_f (w : ByteArray) (k : Nat) : cordelleref31_Form.f (k + 3) w = some (match Pl.formF (dl w) with | some f => (⟨(f.map code).toArray⟩, true) | none => (⟨#[]⟩, false)) := by
  unfold cordelleref31_Form.f
  simp only [toList_dl, cordelleref31_Form.j0, cordelleref31_Form.j1, cordelleref31_Form.j2]
  generalize dl w = X
  unfold Pl.formF Pl.formTab
  simp only [List.lookup, Pl.w_all, Pl.w_audit, Pl.w_clock, Pl.w_close, Pl.w_counts, Pl.w_deliver, Pl.w_flows, Pl.w_forge, Pl.w_lose, Pl.w_net, Pl.w_path, Pl.w_paths, Pl.w_played, Pl.w_session, Pl.w_submit, Pl.w_tick, Pl.w_turn, Pl.w_twin]
  by_cases h : X = [97, 108, 108]
  · subst h; rfl
  by_cases h1 : X = [97, 117, 100, 105, 116]
  · subst h1; rfl
  by_cases h2 : X = [99, 108, 111, 99, 107]
  · subst h2; rfl
  by_cases h3 : X = [99, 108, 111, 115, 101]
  · subst h3; rfl
  by_cases h4 : X = [99, 111, 117, 110, 116, 115]
  · subst h4; rfl
  by_cases h5 : X = [100, 101, 108, 105, 118, 101, 114]
  · subst h5; rfl
  by_cases h6 : X = [102, 108, 111, 119, 115]
  · subst h6; rfl
  by_cases h7 : X = [102, 111, 114, 103, 101]
  · subst h7; rfl
  by_cases h8 : X = [108, 111, 115, 101]
  · subst h8; rfl
  by_cases h9 : X = [110, 101, 116]
  · subst h9; rfl
  by_cases ha : X = [112, 97, 116, 104]
  · subst ha; rfl
  by_cases hb : X = [112, 97, 116, 104, 115]
  · subst hb; rfl
  by_cases hc : X = [112, 108, 97, 121, 101, 100]
  · subst hc; rfl
  by_cases hd : X = [115, 101, 115, 115, 105, 111, 110]
  · subst hd; rfl
  by_cases he : X = [115, 117, 98, 109, 105, 116]
  · subst he; rfl
  by_cases hf : X = [116, 105, 99, 107]
  · subst hf; rfl
  by_cases hg : X = [116, 117, 114, 110]
  · subst hg; rfl
  by_cases hh : X = [116, 119, 105, 110]
  · subst hh; rfl
  simp [h, h1, h2, h3, h4, h5, h6, h7, h8, h9, ha, hb, hc, hd, he, hf, hg, hh, beq_eq_false_iff_ne.2 h, beq_eq_false_iff_ne.2 h1, beq_eq_false_iff_ne.2 h2, beq_eq_false_iff_ne.2 h3, beq_eq_false_iff_ne.2 h4, beq_eq_false_iff_ne.2 h5, beq_eq_false_iff_ne.2 h6, beq_eq_false_iff_ne.2 h7, beq_eq_false_iff_ne.2 h8, beq_eq_false_iff_ne.2 h9, beq_eq_false_iff_ne.2 ha, beq_eq_false_iff_ne.2 hb, beq_eq_false_iff_ne.2 hc, beq_eq_false_iff_ne.2 hd, beq_eq_false_iff_ne.2 he, beq_eq_false_iff_ne.2 hf, beq_eq_false_iff_ne.2 hg, beq_eq_false_iff_ne.2 hh]

/-! ### Parse -/
theorem drd_at (l : List ByteArray) (i : Nat) (h : i < l.length) : rdOf ByteArray.empty l (i : Int) = l[i] := by
  simp [rdOf, h]
theorem dcode_at (f : List Nat) (i : Nat) (h : i < f.length) : bt ⟨(f.map code).toArray⟩ (i : Int) = ((code f[i]).toNat : Int) := by
  have hs : i < (⟨(f.map code).toArray⟩ : ByteArray).size := by simpa [ByteArray.size] using h
  rw [dbt_dl _ i hs]
  simp [dl]
def ArgsAre (word : ByteArray) (N : List Int) (S : List ByteArray) (q : Option (List Nat × List (List UInt8))) (r : ByteArray × List Int × List ByteArray × Int) : Prop :=
  match q with
  | some (N', S') => ∃ T : List ByteArray, r = (word, N ++ N'.map (fun n : Nat => (n : Int)), S ++ T, 0) ∧ T.map dl = S'
  | none => r = (⟨#[]⟩, [], [], 1)
theorem args_l0 (l : List ByteArray) (f : List Nat) (word : ByteArray) (hl : l.length = f.length + 1) (hf : f.length ≤ 100) (hk2 : ∀ x ∈ f, x ≤ 2) (hp : ∀ p ∈ l, p.size ≤ 4000) :
    ∀ (d i k : Nat) (N : List Int) (S : List ByteArray), i + d = f.length → 3000 + 2 * d < k → N.length ≤ i → S.length ≤ i →
    ∃ r, cordelleref31_Parse.l0 k l ⟨(f.map code).toArray⟩ (i : Int) word N S = some r ∧ ArgsAre word N S (Pl.argsF (f.drop i) ((l.map dl).drop (i + 1))) r := by
  have hsz : ((⟨(f.map code).toArray⟩ : ByteArray).size : Int) = (f.length : Int) := by simp [ByteArray.size]
  intro d
  induction d with
  | zero =>
    intro i k N S hi hk hN hS
    obtain ⟨k, rfl⟩ : ∃ m, k = m + 1 := ⟨k - 1, by omega⟩
    have ht : f.drop i = [] := List.drop_of_length_le (by omega)
    simp only [cordelleref31_Parse.l0]
    rw [hsz, if_neg (by omega), ht, Pl.argsF]
    exact ⟨_, rfl, [], by simp, rfl⟩
  | succ d ih =>
    intro i k N S hi hk hN hS
    obtain ⟨k, rfl⟩ : ∃ m, k = m + 1 + 1 := ⟨k - 2, by omega⟩
    have ei : wrap64 ((i : Int) + 1) = ((i + 1 : Nat) : Int) := by unfold wrap64; omega
    have hil : i < f.length := by omega
    have hil1 : i + 1 < l.length := by omega
    have hfd : f.drop i = f[i] :: f.drop (i + 1) := List.drop_eq_getElem_cons hil
    have hld : (l.map dl).drop (i + 1) = dl l[i + 1] :: (l.map dl).drop (i + 2) := by
      rw [List.drop_eq_getElem_cons (by simpa using hil1)]; simp
    have hpz : (l[i + 1]).size ≤ 4000 := hp _ (List.getElem_mem hil1)
    have hk' : f[i] ≤ 2 := hk2 _ (List.getElem_mem hil)
    rw [hfd, hld]
    generalize hpp : l[i + 1] = p at hpz
    have hrd : rdOf ByteArray.empty l ((i + 1 : Nat) : Int) = p := by rw [drd_at l (i + 1) hil1, hpp]
    have hcode := dcode_at f i hil
    generalize f[i] = c at hk' hcode
    rw [cordelleref31_Parse.l0]
    rw [hsz, if_pos (by omega), ei, if_pos (by omega), if_pos (by omega), if_pos (by omega), hrd, hcode]
    match c, hk' with
    | 0, _ =>
      rw [if_pos (by decide)]
      obtain ⟨n, b, hn, hb⟩ := dnum_f p (k + 1) (by omega)
      rw [hn]
      simp only [Option.bind_some]
      rw [if_pos (by omega)]
      rcases hb with ⟨rfl, hb, h0⟩ | ⟨rfl, hb⟩
      · simp only [if_true]
        obtain ⟨r, hr, ha⟩ := ih (i + 1) (k + 1) (N ++ [n]) S (by omega) (by omega) (by simp; omega) (by omega)
        refine ⟨r, hr, ?_⟩
        rw [Pl.argsF, hb]
        cases hq : Pl.argsF (f.drop (i + 1)) ((l.map dl).drop (i + 2)) with
        | none => rw [hq] at ha; exact ha
        | some q =>
          rw [hq] at ha
          obtain ⟨N', S'⟩ := q
          obtain ⟨T, rfl, hT⟩ := ha
          exact ⟨T, by simp [Int.toNat_of_nonneg h0], hT⟩
      · rw [if_neg (by simp), Pl.argsF, hb]
        exact ⟨_, rfl, rfl⟩
    | 1, _ =>
      rw [if_neg (by decide), if_pos (by decide), toList_dl]
      by_cases h1 : dl p = [116, 104, 101, 114, 101]
      · have h2 : ¬ dl p = [98, 97, 99, 107] := by rw [h1]; decide
        rw [if_pos h1]
        simp only [cordelleref31_Parse.j2]
        rw [toList_dl, if_neg h2, if_pos (by omega)]
        simp only [if_true]
        obtain ⟨r, hr, ha⟩ := ih (i + 1) k (N ++ [0]) S (by omega) (by omega) (by simp; omega) (by omega)
        rw [ei]
        refine ⟨r, hr, ?_⟩
        rw [Pl.argsF, Pl.wayF, Pl.there, Pl.back, if_pos h1]
        cases hq : Pl.argsF (f.drop (i + 1)) ((l.map dl).drop (i + 2)) with
        | none => rw [hq] at ha; exact ha
        | some q =>
          rw [hq] at ha
          obtain ⟨N', S'⟩ := q
          obtain ⟨T, rfl, hT⟩ := ha
          exact ⟨T, by simp, hT⟩
      · rw [if_neg h1]
        simp only [cordelleref31_Parse.j2]
        rw [toList_dl, if_pos (show N.length < 17592186044416 by omega), if_pos (show N.length < 17592186044416 by omega), ei]
        by_cases h2 : dl p = [98, 97, 99, 107]
        · rw [if_pos h2, if_pos (by rw [beq_iff_eq]; exact h2)]
          obtain ⟨r, hr, ha⟩ := ih (i + 1) k (N ++ [1]) S (by omega) (by omega) (by simp; omega) (by omega)
          refine ⟨r, hr, ?_⟩
          rw [Pl.argsF, Pl.wayF, Pl.there, Pl.back, if_neg h1, if_pos h2]
          cases hq : Pl.argsF (f.drop (i + 1)) ((l.map dl).drop (i + 2)) with
          | none => rw [hq] at ha; exact ha
          | some q =>
            rw [hq] at ha
            obtain ⟨N', S'⟩ := q
            obtain ⟨T, rfl, hT⟩ := ha
            exact ⟨T, by simp, hT⟩
        · rw [if_neg h2, if_neg (by rw [beq_iff_eq]; exact h2)]
          refine ⟨_, rfl, ?_⟩
          rw [Pl.argsF, Pl.wayF, Pl.there, Pl.back, if_neg h1, if_neg h2]
          rfl
    | 2, _ =>
      rw [if_neg (by decide), if_neg (by decide)]
      obtain ⟨t, b, hn, hb⟩ := byt_f p hpz (k + 1) (by omega)
      rw [hn]
      simp only [Option.bind_some]
      rw [if_pos (by omega)]
      rcases hb with ⟨rfl, hb⟩ | ⟨rfl, hb⟩
      · simp only [if_true]
        obtain ⟨r, hr, ha⟩ := ih (i + 1) (k + 1) N (S ++ [t]) (by omega) (by omega) (by omega) (by simp; omega)
        refine ⟨r, hr, ?_⟩
        rw [Pl.argsF, hb]
        · cases hq : Pl.argsF (f.drop (i + 1)) ((l.map dl).drop (i + 2)) with
          | none => rw [hq] at ha; exact ha
          | some q =>
            rw [hq] at ha
            obtain ⟨N', S'⟩ := q
            obtain ⟨T, rfl, hT⟩ := ha
            exact ⟨t :: T, by simp, by simp [hT]⟩
        · simp
        · simp
      · rw [if_neg (by simp), Pl.argsF, hb]
        · exact ⟨_, rfl, rfl⟩
        · simp
        · simp

theorem dform_small {w : List UInt8} {f : List Nat} (h : Pl.formF w = some f) : f.length ≤ 100 ∧ ∀ x ∈ f, x ≤ 2 := by
  have hm : ∀ q ∈ Pl.formTab, q.2.length ≤ 100 ∧ ∀ x ∈ q.2, x ≤ 2 := by decide
  have : ∀ (T : List (List UInt8 × List Nat)), T.lookup w = some f → (w, f) ∈ T := by
    intro T
    induction T with
    | nil => intro h; simp at h
    | cons a T ih =>
      intro h
      obtain ⟨a, b⟩ := a
      rw [List.lookup] at h
      by_cases e : w = a
      · subst e; simp at h; simp [h]
      · rw [beq_eq_false_iff_ne.2 e] at h
        exact List.mem_cons_of_mem _ (ih h)
  exact hm _ (this _ h)
theorem dpgo_len : ∀ (r cur : List UInt8), (Pl.pgo cur r).length ≤ r.length + 1
  | [], cur => by
    rw [Pl.pgo]; split <;> simp
  | b :: r, cur => by
    rw [Pl.pgo]
    have h0 := dpgo_len r []
    split
    · split
      · simp; omega
      · simp; omega
    · have := dpgo_len r (cur ++ [b]); simp; omega
theorem dparts_len (s : List UInt8) : (Pl.partsF s).length ≤ s.length + 1 := dpgo_len s []
theorem dpgo_small : ∀ (r cur : List UInt8), ∀ p ∈ Pl.pgo cur r, p.length ≤ cur.length + r.length
  | [], cur => by
    intro p hp
    rw [Pl.pgo] at hp
    by_cases h : cur = []
    · simp [h] at hp
    · simp [h] at hp; subst hp; simp
  | b :: r, cur => by
    intro p hp
    rw [Pl.pgo] at hp
    by_cases hb : b = 32
    · rw [if_pos hb] at hp
      by_cases h : cur = []
      · rw [if_pos h] at hp
        have := dpgo_small r [] p hp
        simp at this ⊢; omega
      · rw [if_neg h] at hp
        rcases List.mem_cons.1 hp with e | e
        · subst e; simp
        · have := dpgo_small r [] p e
          simp at this ⊢; omega
    · rw [if_neg hb] at hp
      have := dpgo_small r _ p hp
      simp at this ⊢; omega

/-- what the document's parser answers is what the plain law says -/
def StepIs' (s : ByteArray) (word : ByteArray) (N : List Int) (S : List ByteArray) (err : Int) : Prop :=
  dl word = (Pl.parseF (dl s)).1.word ∧ N = (Pl.parseF (dl s)).1.N.map (fun n : Nat => (n : Int)) ∧ S.map dl = (Pl.parseF (dl s)).1.S ∧ err = (Pl.parseF (dl s)).2
theorem parse_f (s : ByteArray) : ∃ k word N S err, cordelleref31_Parse.f k s = some (word, N, S, err) ∧ StepIs' s word N S err := by
  refine ⟨10000, ?_⟩
  unfold cordelleref31_Parse.f StepIs' Pl.parseF
  rw [dl_len]
  by_cases hs : 4000 < s.size
  · rw [if_pos (by omega), if_pos hs]
    exact ⟨_, _, _, _, rfl, rfl, rfl, rfl, rfl⟩
  · rw [if_neg (by omega), if_neg hs]
    obtain ⟨l, hl, hm⟩ := parts_f s (by omega) 10000 (by omega)
    rw [hl]
    simp only [Option.bind_some]
    cases l with
    | nil =>
      rw [if_pos (by simp)]
      simp only [List.map_nil] at hm
      rw [← hm]
      exact ⟨_, _, _, _, rfl, rfl, rfl, rfl, rfl⟩
    | cons p r =>
      rw [if_neg (by simp; omega), if_pos (by simp)]
      rw [show rdOf ByteArray.empty (p :: r) (0 : Int) = p from rfl, form_f p 9997]
      simp only [Option.bind_some]
      rw [← hm, List.map_cons, Pl.lineF]
      cases hf : Pl.formF (dl p) with
      | none =>
        simp only [cordelleref31_Parse.j0]
        exact ⟨_, _, _, _, rfl, rfl, rfl, rfl, rfl⟩
      | some f =>
        obtain ⟨hf1, hf2⟩ := dform_small hf
        have hr : r.length ≤ 4001 := by
          have h1 : (p :: r).length ≤ (dl s).length + 1 := by
            have := congrArg List.length hm
            rw [List.length_map] at this
            rw [this]
            exact dparts_len _
          simp at h1; omega
        have hw : wrap64 (((p :: r).length : Int) - 1) = (r.length : Int) := by simp only [List.length_cons]; unfold wrap64; omega
        have hsz : ((⟨(f.map code).toArray⟩ : ByteArray).size : Int) = (f.length : Int) := by simp [ByteArray.size]
        simp only [if_true]
        rw [hw, hsz]
        simp only [cordelleref31_Parse.j0]
        by_cases hlen : f.length = r.length
        · rw [if_neg (by simp; omega), if_pos (by simp)]
          simp only [List.length_map]
          rw [if_pos hlen]
          have hps : ∀ q ∈ p :: r, q.size ≤ 4000 := by
            intro q hq
            have : dl q ∈ (p :: r).map dl := List.mem_map_of_mem hq
            rw [hm] at this
            have := dpgo_small _ _ _ this
            simp at this; omega
          obtain ⟨q, hq, ha⟩ := args_l0 (p :: r) f p (by simp; omega) hf1 hf2 hps f.length 0 9999 [] [] (by omega) (by omega) (by simp) (by simp)
          rw [show rdOf ByteArray.empty (p :: r) (0 : Int) = p from rfl]
          simp only [Int.natCast_zero] at hq
          rw [hq]
          rw [List.drop_zero, List.map_cons, List.drop_succ_cons, List.drop_zero] at ha
          cases hz : Pl.argsF f (r.map dl) with
          | none =>
            rw [hz] at ha
            rw [show q = _ from ha]
            exact ⟨_, _, _, _, rfl, rfl, rfl, rfl, rfl⟩
          | some z =>
            rw [hz] at ha
            obtain ⟨T, rfl, hT⟩ := ha
            exact ⟨_, _, _, _, rfl, rfl, by simp, by simpa using hT, rfl⟩
        · rw [if_pos (by simp; omega)]
          simp only [List.length_map]
          rw [if_neg hlen]
          exact ⟨_, _, _, _, rfl, rfl, rfl, rfl, rfl⟩
end Go.Proofs.YtddfpnljkaodcaaDoor.Dp
