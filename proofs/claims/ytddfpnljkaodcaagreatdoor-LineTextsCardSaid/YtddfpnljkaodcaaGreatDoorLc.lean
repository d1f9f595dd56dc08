/-
  The walk of the digit cuts: cutLeft, cutRight, numberOf of layer 31 (line): what each computes.
-/
import Derived.Test.YtddfpnljkaodcaaGreatDoorShelf
import Derived.WalkKit
import Derived.WalkSpells
import Derived.WalkSmall
import Derived.Lib.OthersKept
import Derived.Lib.Hide
import Derived.Lib.ItoaWalk
import Derived.Laws.RangeAny
import Derived.Lib.TrimUEq
namespace Go.Proofs.YtddfpnljkaodcaaGreatDoor
open Go.RowKit

def dig10 : ByteArray := ⟨#[48, 49, 50, 51, 52, 53, 54, 55, 56, 57]⟩
theorem dig10_at : ∀ j : Fin 10, (dig10.data.toList.getD j.val 0).toNat = 48 + j.val := by decide
theorem dig10_size : dig10.size = 10 := by decide
theorem dig10_get (j : Nat) (h : j < dig10.size) : (dig10[j]'h).toNat = 48 + j := by
  have h' : j < 10 := by rw [dig10_size] at h; exact h
  have := dig10_at ⟨j, h'⟩
  rw [← this]
  have e : dig10.data[j]? = some (dig10[j]'h) := by
    rw [Array.getElem?_eq_getElem (by simpa using h)]; rfl
  simp [List.getD, e]
def InD (b : Bool) (c j : Nat) : Prop := b = decide (48 ≤ c ∧ c < 48 + j)
theorem InD.zero (c : Nat) : InD false c 0 := by unfold InD; symm; rw [decide_eq_false_iff_not]; omega
theorem InD.old {c j : Nat} (h : InD true c j) : InD true c (j + 1) := by
  unfold InD at *
  have := of_decide_eq_true h.symm
  symm; rw [decide_eq_true_iff]; omega
theorem InD.now {c j : Nat} (h : InD false c j) : InD ((c : Int) == 48 + (j : Int)) c (j + 1) := by
  have e0 : ((c : Int) == 48 + (j : Int)) = decide (c = 48 + j) := by
    rw [Bool.eq_iff_iff]; simp; omega
  rw [e0]
  unfold InD at *
  have := of_decide_eq_false h.symm
  by_cases e : c = 48 + j
  · rw [decide_eq_true e]; symm; rw [decide_eq_true_iff]; omega
  · rw [decide_eq_false e]; symm; rw [decide_eq_false_iff_not]; omega

def Ten (b : Bool) (c : Nat) : Prop := (b = true → 48 ≤ c ∧ c ≤ 57) ∧ (b = false → ¬ (48 ≤ c ∧ c ≤ 57))
theorem InD.ten {b : Bool} {c : Nat} (h : InD b c 10) : Ten b c := by
  unfold InD at h
  subst h
  constructor
  · intro h; have := of_decide_eq_true h; omega
  · intro h; have := of_decide_eq_false h; omega
theorem not_dig (s : ByteArray) (pos : Nat) (hp : pos < s.size) (h : Ten false (Utf8.decode s pos).1) : ¬ (48 ≤ (s[pos]'hp).toNat ∧ (s[pos]'hp).toNat ≤ 57) := by
  intro hd
  have e := decode_ascii s pos hp (by omega)
  have := h.2 rfl
  rw [e] at this
  exact this hd
theorem is_dig (s : ByteArray) (pos : Nat) (hp : pos < s.size) (h : Ten true (Utf8.decode s pos).1) : (Utf8.decode s pos).2 = 1 ∧ 48 ≤ (s[pos]'hp).toNat ∧ (s[pos]'hp).toNat ≤ 57 := by
  have h1 := h.1 rfl
  rcases Nat.lt_or_ge (s[pos]'hp).toNat 128 with ha | ha
  · have e := decode_ascii s pos hp ha
    rw [e] at h1 ⊢
    exact ⟨rfl, h1⟩
  · have := decode_high s pos hp ha
    omega

def isD (s : ByteArray) (j : Nat) : Prop := 48 ≤ (s.data.toList.getD j 0).toNat ∧ (s.data.toList.getD j 0).toNat ≤ 57
def CutAt (s : ByteArray) (p : Nat) : Prop := p ≤ s.size ∧ (∀ j, j < p → isD s j) ∧ (p < s.size → ¬ isD s p)
def PostL (s : ByteArray) (w : World) (e : Ending) (w' : World) : Prop := ∃ p : Nat, CutAt s p ∧ e = .returned (.string (s.extract p s.size)) ∧ Below w.heap.size w w'

set_option maxHeartbeats 800000 in
set_option maxRecDepth 100000 in
theorem cutLeft_any (s : ByteArray) (w : World) :
    Calls Tryz.prog 49 #[.string s, .string dig10] w (PostL s w) := by
  have hb0 : Below w.heap.size w (w.iter s 0) := (Below.refl _ w).alloc (Nat.le_refl _) _
  have hk0 := World.iter_heap w s 0
  go_enter Tryz.func49, Tryz.ntmps49
  go_wp2
  go_loopw [5, 6] (fun _ _ wr => ∃ pos : Nat, pos ≤ s.size ∧ wr.heap[w.heap.size]? = some (.stringIter s pos) ∧ (∀ j, j < pos → isD s j) ∧ Below w.heap.size w wr)
    (fun _ _ wr => s.size - wr.iterPos w.heap.size)
  case atStart => exact ⟨0, Nat.zero_le _, hk0, fun j hj => absurd hj (Nat.not_lt_zero _), hb0⟩
  case round =>
    obtain ⟨pos, hps, hk, hd, hb⟩ := hrel
    clear hb0 hk0
    obtain ⟨wo, rfl⟩ : ∃ wo : World, wo = wr := ⟨_, rfl⟩
    by_cases hp : pos < s.size
    · have hnext : ∀ ty, (Instr.next (.pointer (some ⟨w.heap.size, 0, none⟩)) true ty).run Tryz.prog wo = _ := fun ty => Lib.run_next_any_at wo w.heap.size s pos ty hk hp
      have hmu : wo.iterPos w.heap.size = pos := by simp [World.iterPos, hk]
      have hk1 := Lib.iterAt_heap wo w.heap.size s pos (pos + (Utf8.decode s pos).2) hk
      have hb1 : Below w.heap.size w (wo.iterAt w.heap.size s (pos + (Utf8.decode s pos).2)) := Lib.below_iterAt hb (by omega) s _
      have hc : (∃ n : Nat, (Utf8.decode s pos).1 = n) := ⟨_, rfl⟩
      generalize wo.iterAt w.heap.size s (pos + (Utf8.decode s pos).2) = W1 at hnext hk1 hb1
      generalize hdv : (Utf8.decode s pos).1 = c at hnext
      have HD := Lib.hid hdv
      clear hdv hc
      have hk2 := World.iter_heap W1 dig10 0
      have hk3 : (W1.iter dig10 0).heap[w.heap.size]? = some (.stringIter s (pos + (Utf8.decode s pos).2)) := by
        rw [World.iter, Lib.alloc_old W1 _ _ (Array.getElem?_eq_some_iff.1 hk1).1]; exact hk1
      have hb2 : Below w.heap.size w (W1.iter dig10 0) := hb1.alloc hb1.size _
      have hne : w.heap.size ≠ W1.heap.size := by have := (Array.getElem?_eq_some_iff.1 hk1).1; omega
      have hlt : w.heap.size < W1.heap.size := (Array.getElem?_eq_some_iff.1 hk1).1
      generalize hW : W1.heap.size = k2 at hk2 hne hlt
      go_wp2
      go_loopw [7] (fun inn wq => ∃ (j : Nat) (b : Bool), j ≤ 10 ∧ inn = .bool b ∧ InD b c j ∧ wq.heap[k2]? = some (.stringIter dig10 j) ∧ wq.heap[w.heap.size]? = some (.stringIter s (pos + (Utf8.decode s pos).2)) ∧ Below w.heap.size w wq)
        (fun _ wq => 10 - wq.iterPos k2)
      case atStart => exact ⟨0, false, by omega, rfl, InD.zero c, hk2, hk3, hb2⟩
      case round =>
        obtain ⟨j, b, hj, rfl, hin, hq2, hq1, hqb⟩ := hrel
        clear hk2 hk3 hb2
        have hmq : wr.iterPos k2 = j := by simp [World.iterPos, hq2]
        by_cases hj10 : j < 10
        · have hsz : j < dig10.size := by rw [dig10_size]; exact hj10
          have hdj := dig10_get j hsz
          have hnx := fun ty => Lib.run_next_ascii_at (P := Tryz.prog) wr k2 dig10 j ty hq2 hsz (by omega)
          rw [hdj] at hnx
          have hr2 := Lib.iterAt_heap wr k2 dig10 j (j + 1) hq2
          have hr1 : (wr.iterAt k2 dig10 (j + 1)).heap[w.heap.size]? = some (.stringIter s (pos + (Utf8.decode s pos).2)) := by rw [Lib.iterAt_other _ _ _ _ _ hne]; exact hq1
          have hrb : Below w.heap.size w (wr.iterAt k2 dig10 (j + 1)) := Lib.below_iterAt hqb (by omega) _ _
          have hmr : (wr.iterAt k2 dig10 (j + 1)).iterPos k2 = j + 1 := by simp [World.iterPos, hr2]
          generalize wr.iterAt k2 dig10 (j + 1) = W2 at hnx hr2 hr1 hrb hmr
          clear hsz hdj hq2 hq1 hqb
          cases b
          · go_wp2
            go_roundw
            case rel => exact ⟨j + 1, _, by omega, rfl, hin.now, hr2, hr1, hrb⟩
            case measure => rw [hmq, hmr]; omega
          · go_wp2
            go_roundw
            case rel => exact ⟨j + 1, true, by omega, rfl, hin.old, hr2, hr1, hrb⟩
            case measure => rw [hmq, hmr]; omega
        · have hj' : j = 10 := by omega
          subst hj'
          have hnx := fun ty => Lib.run_next_end_at (P := Tryz.prog) wr k2 dig10 10 ty hq2 (by rw [dig10_size]; omega)
          have h58 := Lib.hid (InD.ten hin)
          have hz0 := Lib.hid (Lib.getD_at s pos hp)
          clear hin
          cases b
          · go_wp2
            go_ret
            refine ⟨pos, ⟨hps, hd, fun _ => ?_⟩, rfl, hqb⟩
            unfold isD
            rw [← hz0.out]
            exact not_dig s pos hp (by rw [HD.out]; exact h58.out)
          · have hw := is_dig s pos hp (by rw [HD.out]; exact h58.out)
            rw [hw.1] at hq1
            have hmw : wr.iterPos w.heap.size = pos + 1 := by simp [World.iterPos, hq1]
            have hn := Lib.hid hw.2
            clear hw
            go_wp2
            go_roundw
            case rel =>
              refine ⟨pos + 1, by omega, hq1, fun j hj => ?_, hqb⟩
              rcases Nat.lt_or_ge j pos with h | h
              · exact hd j h
              · have : j = pos := by omega
                subst this
                unfold isD; rw [← hz0.out]; exact hn.out
            case measure => rw [hmu, hmw]; omega
    · have hnext : ∀ ty, (Instr.next (.pointer (some ⟨w.heap.size, 0, none⟩)) true ty).run Tryz.prog wo = _ := fun ty => Lib.run_next_end_at wo w.heap.size s pos ty hk hp
      go_wp2
      go_ret
      have he : pos = s.size := by omega
      refine ⟨pos, ⟨hps, hd, fun h => absurd h hp⟩, ?_, hb⟩
      rw [he]
      exact congrArg (fun x => Ending.returned (.string x)) (by apply ByteArray.ext; simp)
theorem lastHigh (l : List UInt8) (h : l ≠ []) (hb : 128 ≤ (l.getD (l.length - 1) 0).toNat) : 128 ≤ (Lib.decodeLastL l).1 := by
  have hlt := Lib.lastStart_lt' l h
  have h0 : ¬ (l.getD (l.length - 1) 0).toNat < 128 := by omega
  unfold Lib.decodeLastL
  rw [if_neg h, if_neg h0]
  dsimp only
  by_cases hw : Lib.lastStart l + (Lib.decodeL (l.drop (Lib.lastStart l))).2 = l.length
  · rw [if_pos hw]
    have hd := Lib.decodeL_drop ⟨l.toArray⟩ (Lib.lastStart l)
    rw [hd] at hw ⊢
    have hp : Lib.lastStart l < (⟨l.toArray⟩ : ByteArray).size := by show _ < l.toArray.size; simpa using hlt
    rcases Nat.lt_or_ge ((⟨l.toArray⟩ : ByteArray)[Lib.lastStart l]'hp).toNat 128 with ha | ha
    · have e := decode_ascii ⟨l.toArray⟩ _ hp ha
      rw [e] at hw
      have hlast : Lib.lastStart l = l.length - 1 := by simp only at hw; omega
      exfalso
      have : ((⟨l.toArray⟩ : ByteArray)[Lib.lastStart l]'hp) = l.getD (l.length - 1) 0 := by
        rw [Lib.getD_at ⟨l.toArray⟩ _ hp, hlast]
      rw [this] at ha; omega
    · exact (decode_high ⟨l.toArray⟩ _ hp ha).1
  · rw [if_neg hw]; decide

/-- the last rune of the first n bytes, n above 0 -/
theorem last_of (s : ByteArray) (n : Nat) (h0 : 0 < n) (h1 : n ≤ s.size) : ∃ c k : Nat, Lib.decodeLastL (s.extract 0 n).data.toList = (c, k) ∧ ((48 ≤ c ∧ c ≤ 57) → k = 1 ∧ isD s (n - 1)) ∧ (¬ (48 ≤ c ∧ c ≤ 57) → ¬ isD s (n - 1)) := by
  refine ⟨(Lib.decodeLastL (s.extract 0 n).data.toList).1, (Lib.decodeLastL (s.extract 0 n).data.toList).2, rfl, ?_⟩
  have hl : (s.extract 0 n).data.toList = s.data.toList.take n := Lib.extract_from_zero s n
  have hlen : (s.data.toList.take n).length = n := by rw [List.length_take]; have : s.data.toList.length = s.size := by simp
                                                      omega
  have hlast : (s.data.toList.take n).getD ((s.data.toList.take n).length - 1) 0 = s.data.toList.getD (n - 1) 0 := by
    rw [hlen]
    simp only [List.getD_eq_getElem?_getD]
    rw [List.getElem?_take_of_lt (by omega)]
  have hne : s.data.toList.take n ≠ [] := by intro e; rw [e] at hlen; simp at hlen; omega
  rw [hl]
  rcases Nat.lt_or_ge (s.data.toList.getD (n - 1) 0).toNat 128 with ha | ha
  · have e : Lib.decodeLastL (s.data.toList.take n) = ((s.data.toList.getD (n - 1) 0).toNat, 1) := by
      unfold Lib.decodeLastL
      rw [if_neg hne, hlast, if_pos ha]
    rw [e]
    exact ⟨fun h => ⟨rfl, h⟩, fun h => h⟩
  · have := lastHigh _ hne (by rw [hlast]; exact ha)
    exact ⟨fun h => by omega, fun _ h => by unfold isD at h; omega⟩

def RCut (s : ByteArray) (n : Nat) : Prop := n ≤ s.size ∧ (∀ j, n ≤ j → j < s.size → isD s j) ∧ (0 < n → ¬ isD s (n - 1))
def PostR (s : ByteArray) (w : World) (e : Ending) (w' : World) : Prop := ∃ n : Nat, RCut s n ∧ e = .returned (.string (s.extract 0 n)) ∧ Below w.heap.size w w'

theorem extract_take (s : ByteArray) (n m : Nat) (h : m ≤ n) : (s.extract 0 n).extract 0 m = s.extract 0 m := by
  rw [ByteArray.extract_extract, show 0 + 0 = 0 from rfl, show min (0 + m) n = m from by omega]

set_option maxHeartbeats 800000 in
set_option maxRecDepth 100000 in
theorem cutRight_any (s : ByteArray) (w : World) (hT : Lib.Utf8Tabs 3 4 w) (hs : s.size ≤ 1000000) :
    Calls Tryz.prog 48 #[.string s, .string dig10] w (PostR s w) := by
  have HT := Lib.hid hT
  clear hT
  go_enter Tryz.func48, Tryz.ntmps48
  go_wp2
  go_loopw [0] (fun t wr => ∃ n : Nat, n ≤ s.size ∧ t = .string (s.extract 0 n) ∧ (∀ j, n ≤ j → j < s.size → isD s j) ∧ Below w.heap.size w wr)
    (fun t _ => match t with | .string b => b.size | _ => 0)
  case atStart => exact ⟨s.size, Nat.le_refl _, by congr 1; apply ByteArray.ext; simp, fun j h1 h2 => by omega, Below.refl _ _⟩
  case round =>
    obtain ⟨n, hn, rfl, hd, hb⟩ := hrel
    obtain ⟨wo, rfl⟩ : ∃ wo : World, wo = wr := ⟨_, rfl⟩
    have hsz : (s.extract 0 n).size = n := by rw [ByteArray.size_extract]; omega
    by_cases h0 : 0 < n
    · obtain ⟨c, k, hck, hy, hno⟩ := last_of s n h0 hn
      have hTo : Lib.Utf8Tabs 3 4 wo := Utf8Tabs_below HT.out hb
      have hcall := Tryz.utf8_DecodeLastRuneInString (s.extract 0 n) wo (by rw [hsz]; omega) hTo
      rw [hck] at hcall
      have HY := Lib.hid hy
      have HN := Lib.hid hno
      have HS := Lib.hid hsz
      have hsp : 0 < (s.extract 0 n).size := by omega
      clear hck hy hno hTo hsz
      go_wp2_with (go_at_call 73; refine hcall.mono ?_; rintro e W1 ⟨rfl, hb1⟩)
      have hk2 := World.iter_heap W1 dig10 0
      have hb2 : Below w.heap.size w (W1.iter dig10 0) := (hb.trans (hb1.mono hb.size)).alloc (Nat.le_trans hb.size hb1.size) _
      have hle : w.heap.size ≤ W1.heap.size := Nat.le_trans hb.size hb1.size
      generalize hW : W1.heap.size = k2 at hk2 hle
      go_loopw [7] (fun inn wq => ∃ (j : Nat) (b : Bool), j ≤ 10 ∧ inn = .bool b ∧ InD b c j ∧ wq.heap[k2]? = some (.stringIter dig10 j) ∧ Below w.heap.size w wq)
        (fun _ wq => 10 - wq.iterPos k2)
      case atStart => exact ⟨0, false, by omega, rfl, InD.zero c, hk2, hb2⟩
      case round =>
        obtain ⟨j, b, hj, rfl, hin, hq2, hqb⟩ := hrel
        clear hk2 hb2
        have hmq : wr.iterPos k2 = j := by simp [World.iterPos, hq2]
        by_cases hj10 : j < 10
        · have hsz : j < dig10.size := by rw [dig10_size]; exact hj10
          have hdj := dig10_get j hsz
          have hnx := fun ty => Lib.run_next_ascii_at (P := Tryz.prog) wr k2 dig10 j ty hq2 hsz (by omega)
          rw [hdj] at hnx
          have hr2 := Lib.iterAt_heap wr k2 dig10 j (j + 1) hq2
          have hrb : Below w.heap.size w (wr.iterAt k2 dig10 (j + 1)) := Lib.below_iterAt hqb hle _ _
          have hmr : (wr.iterAt k2 dig10 (j + 1)).iterPos k2 = j + 1 := by simp [World.iterPos, hr2]
          generalize wr.iterAt k2 dig10 (j + 1) = W2 at hnx hr2 hrb hmr
          clear hsz hdj hq2 hqb
          cases b
          · go_wp2
            go_roundw
            case rel => exact ⟨j + 1, _, by omega, rfl, hin.now, hr2, hrb⟩
            case measure => rw [hmq, hmr]; omega
          · go_wp2
            go_roundw
            case rel => exact ⟨j + 1, true, by omega, rfl, hin.old, hr2, hrb⟩
            case measure => rw [hmq, hmr]; omega
        · have hj' : j = 10 := by omega
          subst hj'
          have hnx := fun ty => Lib.run_next_end_at (P := Tryz.prog) wr k2 dig10 10 ty hq2 (by rw [dig10_size]; omega)
          have h58 := Lib.hid (InD.ten hin)
          clear hin
          cases b
          · go_wp2
            go_ret
            exact ⟨n, ⟨hn, hd, fun _ => HN.out (h58.out.2 rfl)⟩, rfl, hqb⟩
          · obtain ⟨hk1, hdn⟩ := HY.out (h58.out.1 rfl)
            subst hk1
            have hx := Lib.hid (extract_take s n (n - 1) (by omega))
            have HDn := Lib.hid hdn
            clear hdn
            go_wp2
            go_roundw
            case rel =>
              refine ⟨n - 1, by omega, ?_, fun j h1 h2 => ?_, hqb⟩
              · exact congrArg Value.string hx.out
              · rcases Nat.lt_or_ge j n with h | h
                · have : j = n - 1 := by omega
                  subst this
                  exact HDn.out
                · exact hd j h h2
            case measure => show ((s.extract 0 n).extract 0 (n - 1)).size < (s.extract 0 n).size; rw [hx.out]; simp only [ByteArray.size_extract]; omega
    · have : n = 0 := by omega
      subst this
      go_wp2
      go_ret
      exact ⟨0, ⟨by omega, hd, fun h => absurd h h0⟩, rfl, hb⟩

/-! ### numberOf -/
theorem not_all (s : ByteArray) (p n : Nat) (hp : CutAt s p) (hn : RCut (s.extract p s.size) n) : (n = 0 ↔ ∀ j, j < s.size → isD s j) := by
  obtain ⟨p0, p1, p2⟩ := hp
  obtain ⟨n0, n1, n2⟩ := hn
  have hsz : (s.extract p s.size).size = s.size - p := by rw [ByteArray.size_extract]; omega
  have hget : ∀ j, j < s.size - p → (s.extract p s.size).data.toList.getD j 0 = s.data.toList.getD (p + j) 0 := by
    intro j hj
    rw [Lib.extract_to_end]
    simp only [List.getD_eq_getElem?_getD, List.getElem?_drop]
  have hiff : ∀ j, j < s.size - p → (isD (s.extract p s.size) j ↔ isD s (p + j)) := by
    intro j hj; unfold isD; rw [hget j hj]
  constructor
  · intro h0 j hj
    rcases Nat.lt_or_ge j p with h | h
    · exact p1 j h
    · have := n1 (j - p) (by omega) (by omega)
      rw [hiff _ (by omega)] at this
      rwa [show p + (j - p) = j from by omega] at this
  · intro hall
    rcases Nat.eq_zero_or_pos n with h | h
    · exact h
    · have hlt : n - 1 < s.size - p := by omega
      have h1 := n2 h
      rw [hiff _ hlt] at h1
      exact absurd (hall _ (by omega)) h1
end Go.Proofs.YtddfpnljkaodcaaGreatDoor
