import Derived.Test.YtddfpnljkaodcaaGreatDoorLc
import Derived.Test.YtddfpnljkaodcaaGreatDoorPlain
import Derived.Deep.RegionWith
import Derived.Deep.QuietTactic
import Derived.BigQuiet
import Derived.Deep.RegionHeld3
namespace Go.Proofs.YtddfpnljkaodcaaGreatDoor
open Go.RowKit
def hexd : ByteArray := ⟨#[48, 49, 50, 51, 52, 53, 54, 55, 56, 57, 97, 98, 99, 100, 101, 102]⟩
theorem hexd10 : ({ data := #[48, 49, 50, 51, 52, 53, 54, 55, 56, 57, 97, 98, 99, 100, 101, 102] } : ByteArray).extract 0 10 = dig10 := by decide +kernel
theorem cutLeft_lit (s : ByteArray) (w : World) : Calls Tryz.prog 49 #[.string s, .string (({ data := #[48, 49, 50, 51, 52, 53, 54, 55, 56, 57, 97, 98, 99, 100, 101, 102] } : ByteArray).extract 0 10)] w (PostL s w) := by
  rw [hexd10]; exact cutLeft_any s w
theorem cutRight_lit (s : ByteArray) (w : World) (hT : Lib.Utf8Tabs 3 4 w) (hs : s.size ≤ 1000000) : Calls Tryz.prog 48 #[.string s, .string (({ data := #[48, 49, 50, 51, 52, 53, 54, 55, 56, 57, 97, 98, 99, 100, 101, 102] } : ByteArray).extract 0 10)] w (PostR s w) := by
  rw [hexd10]; exact cutRight_any s w hT hs
def NumIs (s : ByteArray) (v : Int) (ok : Bool) : Prop := (ok = true ∧ ∃ n : Nat, Pl.numF s.data.toList = some n ∧ v = n) ∨ (ok = false ∧ Pl.numF s.data.toList = none)
def PostN (s : ByteArray) (w : World) (e : Ending) (w' : World) : Prop := ∃ (v : Int) (ok : Bool), e = .returned (.tuple #[.int .i64 v, .bool ok]) ∧ NumIs s v ok ∧ Below w.heap.size w w'

theorem num_short {s : ByteArray} (hs : s.size < 1 ∨ 10 < s.size) : NumIs s 0 false := by
  refine .inr ⟨rfl, ?_⟩
  have : s.data.toList.length = s.size := by simp
  unfold Pl.numF
  rw [if_neg]
  omega
theorem num_bad {s : ByteArray} (hs : ¬ ∀ j, j < s.size → isD s j) : NumIs s 0 false := by
  refine .inr ⟨rfl, ?_⟩
  unfold Pl.numF
  rw [if_neg]
  rintro ⟨_, _, h, _⟩
  apply hs
  intro j hj
  have hl : s.data.toList.length = s.size := by simp
  have := List.all_eq_true.1 h (s.data.toList[j]'(by omega)) (List.getElem_mem _)
  simp only [Pl.isDig, Bool.and_eq_true, decide_eq_true_eq] at this
  unfold isD
  rw [List.getD_eq_getElem?_getD, List.getElem?_eq_getElem (by omega)]
  exact this
theorem digs_all {s : ByteArray} (hs : ∀ j, j < s.size → isD s j) : s.data.toList.all Pl.isDig = true := by
  rw [List.all_eq_true]
  intro b hb
  obtain ⟨j, hj, rfl⟩ := List.mem_iff_getElem.1 hb
  have hl : s.data.toList.length = s.size := by simp
  have := hs j (by omega)
  unfold isD at this
  rw [List.getD_eq_getElem?_getD, List.getElem?_eq_getElem hj] at this
  simpa [Pl.isDig] using this
theorem num_good {s : ByteArray} (h1 : 1 ≤ s.size) (h2 : s.size ≤ 10) (hs : ∀ j, j < s.size → isD s j) :
    Lib.atoiAll s.data.toList = .ok (Pl.numVal s.data.toList : Int) ∧ NumIs s (Pl.numVal s.data.toList : Int) (decide ((Pl.numVal s.data.toList : Int) ≤ 4294967295)) := by
  have hl : s.data.toList.length = s.size := by simp
  have hd := digs_all hs
  refine ⟨Pl.atoi_digits _ (by omega) (by omega) hd, ?_⟩
  by_cases h : Pl.numVal s.data.toList < 4294967296
  · exact .inl ⟨by rw [decide_eq_true_iff]; omega, _, by unfold Pl.numF; rw [if_pos ⟨by omega, by omega, hd, h⟩], rfl⟩
  · exact .inr ⟨by rw [decide_eq_false_iff_not]; omega, by unfold Pl.numF; rw [if_neg (fun hh => h hh.2.2.2)]⟩

set_option maxHeartbeats 800000 in
set_option maxRecDepth 100000 in
theorem numberOf_short (s : ByteArray) (w : World) (hs : s.size < 1) :
    Calls Tryz.prog 36 #[.string s] w (PostN s w) := by
  have h1 : decide ((s.size : Int) < 1) = true := by rw [decide_eq_true_iff]; omega
  have h1' : decide (s.size < 1) = true := by rw [decide_eq_true_iff]; omega
  go_enter Tryz.func36, Tryz.ntmps36
  go_wp2
  go_quiet (fail)
  go_wp2
  go_ret2
  exact ⟨0, false, rfl, num_short (.inl hs), below_drewN (Below.refl _ _) _⟩

set_option maxHeartbeats 800000 in
set_option maxRecDepth 100000 in
theorem numberOf_long (s : ByteArray) (w : World) (hs : 10 < s.size) :
    Calls Tryz.prog 36 #[.string s] w (PostN s w) := by
  have h1 : decide ((s.size : Int) < 1) = false := by rw [decide_eq_false_iff_not]; omega
  have h1' : decide (s.size < 1) = false := by rw [decide_eq_false_iff_not]; omega
  have h2 : decide (10 < (s.size : Int)) = true := by rw [decide_eq_true_iff]; omega
  have h2' : decide (10 < s.size) = true := by rw [decide_eq_true_iff]; omega
  go_enter Tryz.func36, Tryz.ntmps36
  go_wp2
  go_quiet (fail)
  go_wp2
  go_ret2
  exact ⟨0, false, rfl, num_short (.inr hs), below_drewN (Below.refl _ _) _⟩

set_option maxHeartbeats 800000 in
set_option maxRecDepth 100000 in
theorem numberOf_mid (s : ByteArray) (w : World) (hs : 1 ≤ s.size) (hs2 : s.size ≤ 10) (hT : Lib.Utf8Tabs 3 4 w) :
    Calls Tryz.prog 36 #[.string s] w (PostN s w) := by
  have h1 : decide ((s.size : Int) < 1) = false := by rw [decide_eq_false_iff_not]; omega
  have h2 : decide (10 < (s.size : Int)) = false := by rw [decide_eq_false_iff_not]; omega
  have h1' : decide (s.size < 1) = false := by rw [decide_eq_false_iff_not]; omega
  have h2' : decide (10 < s.size) = false := by rw [decide_eq_false_iff_not]; omega
  have HT := Lib.hid hT
  clear hT
  go_enter Tryz.func36, Tryz.ntmps36
  go_wp2
  go_region_held3 (fun w' => Below w.heap.size w w') (first | assumption | exact Below.drew (Below.refl _ _)) (first
    | (go_at_call 49; refine (cutLeft_lit s _).mono ?_; rintro e w1 ⟨p, hp, rfl, hb1⟩; have hb1 := (Below.drew (Below.refl _ _)).trans hb1)
    | (go_at_call 48; refine (cutRight_lit (s.extract p s.size) _ (Utf8Tabs_below HT.out hb1) (by rw [ByteArray.size_extract]; omega)).mono ?_; rintro e w2 ⟨n, hn, rfl, hb2⟩; have hb2 := hb1.trans (hb2.mono hb1.size)))
  have hall := not_all s p n hp hn
  have hn0 := hn.1
  clear hp hn
  by_cases h0 : n = 0
  · subst h0
    have hg := num_good hs hs2 (hall.1 rfl)
    have HG := Lib.hid hg.2
    have hcall := fun W => Tryz.strconv_Atoi_ok s (by omega) _ hg.1 W
    have hx0 : ((s.extract p s.size).extract 0 0) = ByteArray.empty := by apply ByteArray.ext; simp
    rw [hx0]
    have hE : (!ByteArray.empty.toList.isEmpty) = false := by rw [Lib.toList_data]; rfl
    rw [hE]
    generalize Pl.numVal s.data.toList = v at hcall HG
    clear hg hall hx0
    go_wp2_with (go_at_call 50; refine (hcall _).mono ?_; rintro e w3 ⟨rfl, hw3⟩)
    have hb3 : Below w.heap.size w w3 := by
      rcases hw3 with rfl | ⟨t, rfl⟩
      · exact hb2
      · exact hb2.trans (Lib.bytesWorld_below w2 5 t |>.mono hb2.size)
    clear hw3
    go_ret2
    exact ⟨_, _, rfl, HG.out, hb3⟩
  · have hne : ¬ ∀ j, j < s.size → isD s j := fun h => h0 (hall.2 h)
    have hz : (!((s.extract p s.size).extract 0 n).toList.isEmpty) = true := by
      have : ((s.extract p s.size).extract 0 n).size = n := by rw [ByteArray.size_extract, ByteArray.size_extract] at *; omega
      rw [Lib.toList_data]
      have h2 : ((s.extract p s.size).extract 0 n).data.toList.length = n := by rw [← Lib.size_eq]; exact this
      cases hx : ((s.extract p s.size).extract 0 n).data.toList with
      | nil => rw [hx] at h2; simp at h2; omega
      | cons _ _ => rfl
    have HN := Lib.hid hne
    clear hne hall h0
    rw [hz]
    go_wp2
    go_ret2
    exact ⟨0, false, rfl, num_bad HN.out, hb2⟩

theorem numberOf_any (s : ByteArray) (w : World) (hT : Lib.Utf8Tabs 3 4 w) :
    Calls Tryz.prog 36 #[.string s] w (PostN s w) := by
  rcases Nat.lt_or_ge s.size 1 with h | h
  · exact numberOf_short s w h
  · rcases Nat.lt_or_ge 10 s.size with h2 | h2
    · exact numberOf_long s w h2
    · exact numberOf_mid s w h h2 hT
end Go.Proofs.YtddfpnljkaodcaaGreatDoor
