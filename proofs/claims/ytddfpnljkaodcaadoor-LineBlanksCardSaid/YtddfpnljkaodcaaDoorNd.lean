/-
  For every text and number the law LineBlanks returns true: more blanks between parts, ahead and behind change nothing; and the arguments read as they did. Conditions: the listed package variables hold what the program's text lays.
-/
import Derived.Test.YtddfpnljkaodcaaDoorMa
import Derived.Test.YtddfpnljkaodcaaDoorMd
import Derived.Test.YtddfpnljkaodcaaDoorLw
import Derived.SevenTiedAt
import Derived.Test.YtddfpnljkaodcaaDoorCards
import Derived.Test.YtddfpnljkaodcaaDoorTie
namespace Go.Proofs.YtddfpnljkaodcaaDoor
namespace Bk
open Go.Lib

/-- a text whose blanks are written m times more -/
def dup (m : Nat) : List UInt8 → List UInt8
  | [] => []
  | b :: r => if b = 32 then 32 :: (List.replicate m 32 ++ dup m r) else b :: dup m r

theorem dup_append (m : Nat) : ∀ a b : List UInt8, dup m (a ++ b) = dup m a ++ dup m b
  | [], b => rfl
  | x :: a, b => by
    rw [List.cons_append, dup, dup, dup_append m a b]
    split <;> simp
theorem dup_length (m : Nat) : ∀ a : List UInt8, (dup m a).length ≤ (m + 1) * a.length
  | [] => by simp [dup]
  | x :: a => by
    have h := dup_length m a
    rw [dup, List.length_cons, Nat.mul_add]
    split
    · simp only [List.length_cons, List.length_append, List.length_replicate]; omega
    · simp only [List.length_cons]; omega
theorem pgo_blanks : ∀ (m : Nat) (r : List UInt8), Pl.pgo [] (List.replicate m 32 ++ r) = Pl.pgo [] r
  | 0, r => rfl
  | m + 1, r => by
    rw [List.replicate_succ, List.cons_append, Pl.pgo_blank, if_pos rfl, pgo_blanks m r]
theorem pgo_dup (m : Nat) : ∀ (s cur : List UInt8), Pl.pgo cur (dup m s) = Pl.pgo cur s
  | [], cur => rfl
  | b :: r, cur => by
    rw [dup]
    by_cases hb : b = 32
    · subst hb
      rw [if_pos rfl, Pl.pgo_blank, Pl.pgo_blank, pgo_blanks, pgo_dup m r]
    · rw [if_neg hb, Pl.pgo, Pl.pgo, if_neg hb, if_neg hb, pgo_dup m r]
theorem pgo_behind : ∀ (t cur : List UInt8), Pl.pgo cur (t ++ [32, 32]) = Pl.pgo cur t
  | [], cur => by
    rw [List.nil_append, Pl.pgo_blank, Pl.pgo_blank, if_pos rfl]
    simp [Pl.pgo]
  | b :: r, cur => by
    rw [List.cons_append, Pl.pgo, Pl.pgo, pgo_behind r, pgo_behind r]
theorem parts_pad (m : Nat) (s : List UInt8) : Pl.partsF (32 :: (dup m s ++ [32, 32])) = Pl.partsF s := by
  rw [Pl.partsF, Pl.pgo_blank, if_pos rfl, pgo_behind, pgo_dup, Pl.partsF]
theorem parse_pad (m : Nat) (s : List UInt8) (hm : m ≤ 3) (hs : s.length ≤ 200) : Pl.parseF (32 :: (dup m s ++ [32, 32])) = Pl.parseF s := by
  have h := dup_length m s
  have h2 : (m + 1) * s.length ≤ 4 * s.length := Nat.mul_le_mul_right _ (by omega)
  unfold Pl.parseF
  rw [if_neg (by simp only [List.length_cons, List.length_append, List.length_nil]; omega), if_neg (by omega), parts_pad]
end Bk
end Go.Proofs.YtddfpnljkaodcaaDoor
namespace Go.Proofs.YtddfpnljkaodcaaDoor
open Go.RowKit PLineReads Dp Go.Proofs.YtddfpnljkaodcaaDoorW.PrintWords

theorem i64_and3 (n : Int) : bits .and .i64 n 3 = n % 4 := by
  have h3 : (BitVec.ofInt 64 3).toNat = 2 ^ 2 - 1 := by decide
  have key : (BitVec.ofInt 64 n &&& BitVec.ofInt 64 3).toNat = (n % ((2 ^ 64 : Nat) : Int)).toNat % 2 ^ 2 := by
    rw [BitVec.toNat_and, BitVec.toNat_ofInt, h3, Nat.and_two_pow_sub_one_eq_mod]
  show IntKind.i64.wrap ((BitVec.ofInt 64 n &&& BitVec.ofInt 64 3).toNat : Nat) = n % 4
  rw [key, IntKind.wrap_i64]
  omega

theorem dl_one (t : ByteArray) (j : Nat) (h : j < t.size) : dl (t.extract j (j + 1)) = [t[j]] := by
  rw [dl_extract, List.drop_eq_getElem_cons (by rw [dl_len]; exact h)]
  simp [dl]; rfl
theorem take_one (t : ByteArray) (j : Nat) (h : j < t.size) : (dl t).take (j + 1) = (dl t).take j ++ [t[j]] := by
  rw [List.take_succ_eq_append_getElem (by rw [dl_len]; exact h)]; rfl
theorem dup_size (m : Nat) (hm : m ≤ 3) (l : List UInt8) (hl : l.length ≤ 200) (tb : ByteArray) (h : dl tb = Bk.dup m l) : tb.size ≤ 800 := by
  have h1 := Bk.dup_length m l
  have h2 : (m + 1) * l.length ≤ 4 * l.length := Nat.mul_le_mul_right _ (by omega)
  have e := congrArg List.length h
  rw [dl_len] at e
  omega
/-- a text between more blanks is read as the text -/
theorem step_pad {t p : ByteArray} {m : Nat} (hm : m ≤ 3) (ht : t.size ≤ 200) (hp : dl p = 32 :: (Bk.dup m (dl t) ++ [32, 32])) {word : ByteArray} {N : List Int} {S : List ByteArray} {err : Int} (h : StepIs p word N S err) : StepIs t word N S err := by
  unfold StepIs at h ⊢
  have e : Pl.parseF p.data.toList = Pl.parseF t.data.toList := by
    show Pl.parseF (dl p) = Pl.parseF (dl t)
    rw [hp]
    exact Bk.parse_pad m (dl t) hm (by rw [dl_len]; exact ht)
  rw [e] at h
  exact h

set_option maxHeartbeats 4000000 in
set_option maxRecDepth 100000 in
theorem blanks_any (s : ByteArray) (n : Int) (w : World) (hG : Glob w) : Calls Tryd.prog 5 #[.string s, .int .i64 n] w (PostA w) := by
  have HG := Lib.hid hG
  clear hG
  obtain ⟨m, hm, hand⟩ : ∃ m : Nat, m ≤ 3 ∧ bits .and .i64 n 3 = (m : Int) := ⟨(n % 4).toNat, by omega, by rw [i64_and3]; omega⟩
  have HAND := Lib.hid hand
  clear hand
  go_enter Tryd.func5, Tryd.ntmps5
  go_wp2_with (go_at_call 6; refine (awake_any _ HG.out).mono ?_)
  rintro e w1 ⟨rfl, hb1⟩
  have HB1 := Lib.hid hb1
  clear hb1
  obtain ⟨t, hcut, hct, _⟩ := cut_any s 200 (by decide) w1
  have HCUT := Lib.hid hcut
  have hts : t.size ≤ 200 := by omega
  clear hcut hct
  go_wp2_with (go_at_call 7; refine (HCUT.out).mono ?_)
  rintro e w2 ⟨rfl, hd2⟩
  have hb2 := hd2.below
  have HB2 := Lib.hid (HB1.out.trans (hb2.mono HB1.out.size))
  clear hb2 hd2
  have hand := HAND.out
  go_wp2
  clear hand
  go_loop [5, 6] (fun tv iv => ∃ (tb : ByteArray) (j : Nat), tv = .string tb ∧ iv = .int .i64 j ∧ j ≤ t.size ∧ dl tb = Bk.dup m ((dl t).take j)) (fun _ iv => t.size - (intOf iv).toNat)
  case atStart => exact ⟨⟨#[]⟩, 0, rfl, rfl, Nat.zero_le _, by simp [Bk.dup, dl]⟩
  case round =>
    obtain ⟨tb, j, rfl, rfl, hj, hx⟩ := hrel
    have htb := dup_size m hm _ (by rw [List.length_take, dl_len]; omega) tb hx
    have HX := Lib.hid hx
    clear hx
    by_cases hlt : j < t.size
    · have hltz : (j : Int) < (t.size : Int) := by omega
      have HTK := Lib.hid (take_one t j hlt)
      have HONE := Lib.hid (dl_one t j hlt)
      have hesz : (t.extract j (j + 1)).size ≤ 1 := by
        have e := congrArg List.length (dl_one t j hlt)
        rw [dl_len] at e
        exact Nat.le_of_eq e
      have hcat : ¬ 9223372036854775807 < tb.size + (t.extract j (j + 1)).size := by omega
      by_cases hb : t[j] = 32
      · have HBB := Lib.hid hb
        go_wp2
        go_loop [5, 7] (fun tv kv => ∃ (tc : ByteArray) (k : Nat), tv = .string tc ∧ kv = .int .i64 k ∧ 1 ≤ k ∧ k ≤ m + 1 ∧ dl tc = Bk.dup m ((dl t).take j) ++ (32 :: List.replicate (k - 1) 32)) (fun _ kv => m + 1 - (intOf kv).toNat)
        case atStart =>
          refine ⟨_, 1, rfl, rfl, Nat.le_refl _, by omega, ?_⟩
          rw [dl_app, HX.out, HONE.out, HBB.out]; rfl
        case round =>
          obtain ⟨tc, k, rfl, rfl, hk1, hk2, hy⟩ := hrel
          have htc : tc.size ≤ 1000 := by
            have e := congrArg List.length hy
            rw [dl_len, List.length_append, List.length_cons, List.length_replicate, ← HX.out, dl_len] at e
            omega
          have HY := Lib.hid hy
          clear hy
          by_cases hkm : k < m + 1
          · have hkz : (k : Int) < 1 + (m : Int) := by omega
            have hcat2 : ¬ 9223372036854775807 < tc.size + 1 := by omega
            go_wp2
            go_round
            case rel =>
              refine ⟨_, k + 1, rfl, by go_num, by omega, by omega, ?_⟩
              rw [dl_app, HY.out]
              obtain ⟨q, rfl⟩ : ∃ q, k = q + 1 := ⟨k - 1, by omega⟩
              rw [Nat.add_sub_cancel, Nat.add_sub_cancel, List.replicate_succ', List.append_assoc]
              rfl
            case measure => simp [intOf]; omega
          · have hkz : ¬ (k : Int) < 1 + (m : Int) := by omega
            have hkz2 : 1 + (m : Int) ≤ (k : Int) := by omega
            go_wp2
            go_round
            case rel =>
              refine ⟨tc, j + 1, rfl, by go_num, by omega, ?_⟩
              have hk : k - 1 = m := by omega
              rw [HY.out, HTK.out, Bk.dup_append, HBB.out, hk]
              simp [Bk.dup]
            case measure => simp [intOf]; omega
      · have hbf : (((t[j]'hlt).toNat : Int) == 32) = false := by
          rw [beq_eq_false_iff_ne]
          intro e
          apply hb
          apply UInt8.toNat_inj.1
          have : (32 : UInt8).toNat = 32 := rfl
          omega
        have HB := Lib.hid hb
        clear hb
        go_wp2
        go_loop [5, 7] (fun tv kv => ∃ (tc : ByteArray), tv = .string tc ∧ kv = .int .i64 1 ∧ dl tc = Bk.dup m ((dl t).take j) ++ [t[j]'hlt]) (fun _ kv => m + 1 - (intOf kv).toNat)
        case atStart =>
          refine ⟨_, rfl, rfl, ?_⟩
          rw [dl_app, HX.out, HONE.out]
        case round =>
          obtain ⟨tc, rfl, rfl, hy⟩ := hrel
          have HY := Lib.hid hy
          clear hy
          go_wp2
          go_round
          case rel =>
            refine ⟨tc, j + 1, rfl, by go_num, by omega, ?_⟩
            rw [HY.out, HTK.out, Bk.dup_append]
            simp [Bk.dup, HB.out]
          case measure => simp [intOf]; omega
    · have hje : j = t.size := by omega
      have hltz : ¬ (j : Int) < (t.size : Int) := by omega
      have hxf : dl tb = Bk.dup m (dl t) := by rw [HX.out, List.take_of_length_le (by rw [dl_len]; omega)]
      have HXF := Lib.hid hxf
      clear hxf HX hje
      go_wp2_with (go_at_call 8; refine (parse_c t _ (HG.out.below HB2.out)).mono ?_)
      rintro e w3 ⟨word, N, S, err, A1, c1, A2, c2, rfl, hst, hR, hb3⟩
      have HST := Lib.hid hst
      have HR := Lib.hid hR
      have HB3 := Lib.hid (HB2.out.trans (hb3.mono HB2.out.size))
      have HBX := Lib.hid (heap_alloc_new w3 (.cells #[.string word, .slice A1 N.length c1, .slice A2 S.length c2] 27))
      have HBA := Lib.hid ((Below.refl w3.heap.size w3).alloc (Nat.le_refl _) (.cells #[.string word, .slice A1 N.length c1, .slice A2 S.length c2] 27))
      have hGa := Lib.hid (HG.out.below (HB3.out.trans (HBA.out.mono HB3.out.size)))
      clear hst hR hb3
      have hcat3 : ¬ 9223372036854775807 < 1 + tb.size := by omega
      have hcat4 : ¬ 9223372036854775807 < 1 + tb.size + 2 := by omega
      go_wp2_with (go_at_call 8; refine (parse_c _ _ hGa.out).mono ?_)
      rintro e w4 ⟨word2, N2, S2, err2, C1, e1, C2, e2, rfl, hst2, hR2, hb4⟩
      have hst2' := step_pad hm hts (by rw [dl_app, dl_app, HXF.out]; rfl) hst2
      obtain ⟨rfl, rfl, rfl, rfl⟩ := step_same HST.out hst2'
      have HST2 := Lib.hid hst2'
      have hx4 : w4.heap[w3.heap.size]? = some (.cells #[.string word2, .slice A1 N2.length c1, .slice A2 S2.length c2] 27 (0, 0)) := by rw [hb4.block _ (by simp)]; exact HBX.out
      have hlt4 : w3.heap.size < w4.heap.size := (Array.getElem?_eq_some_iff.1 hx4).1
      have hb34 : Below w3.heap.size w3 w4 := HBA.out.trans (hb4.mono (by simp))
      have hb4v : Below w4.heap.size w4 (w4.alloc (.cells #[.string word2, .slice C1 N2.length e1, .slice C2 S2.length e2] 27)) := (Below.refl _ w4).alloc (Nat.le_refl _) _
      have hy := heap_alloc_new w4 (.cells #[.string word2, .slice C1 N2.length e1, .slice C2 S2.length e2] 27)
      generalize hV : w4.alloc (.cells #[.string word2, .slice C1 N2.length e1, .slice C2 S2.length e2] 27) = V at hb4v hy
      have hxV : V.heap[w3.heap.size]? = some (.cells #[.string word2, .slice A1 N2.length c1, .slice A2 S2.length c2] 27 (0, 0)) := by rw [hb4v.block _ hlt4]; exact hx4
      have hb3v : Below w3.heap.size w3 V := hb34.trans (hb4v.mono (Nat.le_of_lt hlt4))
      have HRX := Lib.hid (HR.out.below hb3v)
      have HRY := Lib.hid (hR2.below hb4v)
      have HBV := Lib.hid (HB3.out.trans (hb3v.mono HB3.out.size))
      have HXV := Lib.hid hxV
      have HYV := Lib.hid hy
      clear hx4 hb34 hb4v hy hxV hb3v hR2 hb4 hst2 hst2' HBX HBA HB3 HR hcat3 hcat4 hltz hj htb
      go_wp2_with (go_at_call 9; refine (ref_c2 t _).mono ?_)
      rintro e w5 ⟨word3, N3, S3, err3, D1, g1, D2, g2, rfl, hst3, hR3, hb5⟩
      obtain ⟨rfl, rfl, rfl, rfl⟩ := step_same HST2.out hst3
      have hltx := (Array.getElem?_eq_some_iff.1 HXV.out).1
      have hlty := (Array.getElem?_eq_some_iff.1 HYV.out).1
      have hx5 : w5.heap[w3.heap.size]? = some (.cells #[.string word3, .slice A1 N3.length c1, .slice A2 S3.length c2] 27 (0, 0)) := by rw [hb5.block _ hltx]; exact HXV.out
      have hy5 : w5.heap[w4.heap.size]? = some (.cells #[.string word3, .slice C1 N3.length e1, .slice C2 S3.length e2] 27 (0, 0)) := by rw [hb5.block _ hlty]; exact HYV.out
      have hlx5 := (Array.getElem?_eq_some_iff.1 hx5).1
      have hly5 := (Array.getElem?_eq_some_iff.1 hy5).1
      have hb5u : Below w5.heap.size w5 (w5.alloc (.cells #[.string word3, .slice D1 N3.length g1, .slice D2 S3.length g2] 31)) := (Below.refl _ w5).alloc (Nat.le_refl _) _
      have hz := heap_alloc_new w5 (.cells #[.string word3, .slice D1 N3.length g1, .slice D2 S3.length g2] 31)
      generalize hU : w5.alloc (.cells #[.string word3, .slice D1 N3.length g1, .slice D2 S3.length g2] 31) = U at hb5u hz
      have hxU : U.heap[w3.heap.size]? = some (.cells #[.string word3, .slice A1 N3.length c1, .slice A2 S3.length c2] 27 (0, 0)) := by rw [hb5u.block _ hlx5]; exact hx5
      have hyU : U.heap[w4.heap.size]? = some (.cells #[.string word3, .slice C1 N3.length e1, .slice C2 S3.length e2] 27 (0, 0)) := by rw [hb5u.block _ hly5]; exact hy5
      have hVU : Below V.heap.size V U := hb5.trans (hb5u.mono hb5.size)
      have hRXU := HRX.out.below hVU
      have hRYU := HRY.out.below hVU
      have hRZU := hR3.below hb5u
      have f0 : U.cell? ⟨w3.heap.size, 0, none⟩ = some (.string word3) := by rw [Lib.cell_of_heap hxU]; rfl
      have f1 : U.cell? ⟨w3.heap.size, 1, none⟩ = some (.slice A1 N3.length c1) := by rw [Lib.cell_of_heap hxU]; rfl
      have f2 : U.cell? ⟨w3.heap.size, 2, none⟩ = some (.slice A2 S3.length c2) := by rw [Lib.cell_of_heap hxU]; rfl
      have k0 : U.cell? ⟨w5.heap.size, 0, none⟩ = some (.string word3) := by rw [Lib.cell_of_heap hz]; rfl
      have k1 : U.cell? ⟨w5.heap.size, 1, none⟩ = some (.slice D1 N3.length g1) := by rw [Lib.cell_of_heap hz]; rfl
      have k2 : U.cell? ⟨w5.heap.size, 2, none⟩ = some (.slice D2 S3.length g2) := by rw [Lib.cell_of_heap hz]; rfl
      have HIS1 := Lib.hid (is_c word3 N3 S3 A1 A2 D1 D2 c1 c2 g1 g2 U hRXU.2.2.1 hRXU.2.2.2.1 hRZU.2.2.1 hRZU.2.2.2.1 hRXU.1 hRXU.2.1 hRZU.1 hRZU.2.1)
      have HYU := Lib.hid hyU
      have HZU := Lib.hid hz
      have HRYU := Lib.hid hRYU
      have HRZU := Lib.hid hRZU
      have HBU := Lib.hid (HBV.out.trans (hVU.mono HBV.out.size))
      clear hltx hlty hx5 hy5 hlx5 hly5 hb5u hz hxU hyU hVU hRXU hRYU hRZU hR3 hb5 hst3 HRX HRY HXV HYV HBV
      go_wp2_with (go_at_call 10; refine (HIS1.out).mono ?_)
      rintro e w6 ⟨rfl, hb6⟩
      have hy6 : w6.heap[w4.heap.size]? = some (.cells #[.string word3, .slice C1 N3.length e1, .slice C2 S3.length e2] 27 (0, 0)) := by rw [hb6.block _ (Array.getElem?_eq_some_iff.1 HYU.out).1]; exact HYU.out
      have hz6 : w6.heap[w5.heap.size]? = some (.cells #[.string word3, .slice D1 N3.length g1, .slice D2 S3.length g2] 31 (0, 0)) := by rw [hb6.block _ (Array.getElem?_eq_some_iff.1 HZU.out).1]; exact HZU.out
      have m0 : w6.cell? ⟨w4.heap.size, 0, none⟩ = some (.string word3) := by rw [Lib.cell_of_heap hy6]; rfl
      have m1 : w6.cell? ⟨w4.heap.size, 1, none⟩ = some (.slice C1 N3.length e1) := by rw [Lib.cell_of_heap hy6]; rfl
      have m2 : w6.cell? ⟨w4.heap.size, 2, none⟩ = some (.slice C2 S3.length e2) := by rw [Lib.cell_of_heap hy6]; rfl
      have n0 : w6.cell? ⟨w5.heap.size, 0, none⟩ = some (.string word3) := by rw [Lib.cell_of_heap hz6]; rfl
      have n1 : w6.cell? ⟨w5.heap.size, 1, none⟩ = some (.slice D1 N3.length g1) := by rw [Lib.cell_of_heap hz6]; rfl
      have n2 : w6.cell? ⟨w5.heap.size, 2, none⟩ = some (.slice D2 S3.length g2) := by rw [Lib.cell_of_heap hz6]; rfl
      have hRY6 := HRYU.out.below hb6
      have hRZ6 := HRZU.out.below hb6
      have HIS2 := Lib.hid (is_c word3 N3 S3 C1 C2 D1 D2 e1 e2 g1 g2 w6 hRY6.2.2.1 hRY6.2.2.2.1 hRZ6.2.2.1 hRZ6.2.2.2.1 hRY6.1 hRY6.2.1 hRZ6.1 hRZ6.2.1)
      have HB06 := Lib.hid (HBU.out.trans (hb6.mono HBU.out.size))
      clear hy6 hz6 hRY6 hRZ6 hb6 f0 f1 f2 k0 k1 k2
      go_wp2_with (go_at_call 10; refine (HIS2.out).mono ?_)
      rintro e w7 ⟨rfl, hb7⟩
      have hb07 : Below w.heap.size w w7 := HB06.out.trans (hb7.mono HB06.out.size)
      go_wp2
      exact bodyPost_ret (v := .bool true) (by simp [results, Tryd.results5, go_sem]) rfl ⟨rfl, hb07⟩
end Go.Proofs.YtddfpnljkaodcaaDoor
namespace Go.Proofs.YtddfpnljkaodcaaDoor
open Go.ChangeShapes Go.WideShapes Go.ChangeAt Go.RowKit

/-- the wrap of a row with listed variables, the world's shape kept -/
theorem wrap_laid {H : Type} {enc : TypeId × Value → H} {a : Assume} {C : Checked} {os : Os} {f : FuncId} {fn : Func} {s : ChangeSpec} {conds : List PathCond} {apart fresh handsOn again : Bool} {X : World → Array Value → Prop}
    (hX : ∀ (w w' : World) (args : Array Value), w.heap = w'.heap → X w args → X w' args)
    (own : ownKnob C.prog.godebug = none) (started : os.Started) (noInit : C.prog.inits.idxOf? f = none) (hfn : C.prog.funcs[f]? = some fn)
    (witness : ∃ (w : World) (tape : Tape) (i : Input), w.os = os ∧ (w.forCall tape i).Shaped C.prog ∧ i.vars = [] ∧ Input.okWide C.prog (w.forCall tape i) .any w.heap.size f i ∧
      ((s.pre enc C.prog fn conds apart (w.forCall tape i).memory i.args ∧ X (w.forCall tape i).memory i.args) ∧ sizedMet enc C.prog fn (OpenSpec.ofChange s) apart (w.forCall tape i).memory i.args) ∧ a.holds C.prog (lone (Frame.enter C.prog f i.args .normal) [] (w.forCall tape i)))
    (contract : ∀ (W : World) (base : Nat) (args : Array Value) (ds gs : List (DataW H)) (before : List MemPlace),
      (∀ (j : Nat) t v, fn.params[j]? = some t → args[j]? = some v → Value.okWide C.prog W .any base t v) →
      DataW.Whole enc C.prog fn.params.toList s.vars apart W args.toList ds gs before →
      (DataW.weightsEach C.prog (fn.params.toList ++ s.plain.varTypes C.prog) (ds ++ gs)).all (· ≤ reachBytes) = true → X W args → W.ShapedOpen C.prog →
      Calls C.prog f args W fun e W' => ∃ v, e = .returned v ∧ s.post enc C.prog fn apart fresh handsOn again W args v W') :
    ReturnsInHanded a C os f .any (fun w args => (s.pre enc C.prog fn conds apart w args ∧ X w args) ∧ sizedMet enc C.prog fn (OpenSpec.ofChange s) apart w args) (s.post enc C.prog fn apart fresh handsOn again) := by
  refine returnsInHanded_of_calls own started noInit witness ?_
  intro w tape i _ hsh _ hok hpre hholds
  obtain ⟨_, _, _, fn', hfn', _, _, _, _, hval⟩ := hok
  have e : fn' = fn := Option.some.inj (hfn'.symm.trans hfn)
  subst e
  obtain ⟨⟨⟨ds, gs, before, hw, hc⟩, hx⟩, hz⟩ := hpre
  have hw' := DataW.Whole.of_heap (w' := w.forCall tape i) (by rfl) hw
  refine (contract (w.forCall tape i) w.heap.size i.args ds gs before hval hw' (hz.weights hw) (hX _ _ _ (by rfl) hx) hsh).mono fun e W' ⟨v, he, hp⟩ => ?_
  subst he
  exact ChangeSpec.post_blind hp
end Go.Proofs.YtddfpnljkaodcaaDoor
namespace Go.Proofs.YtddfpnljkaodcaaDoor
open Go.ChangeShapes Go.WideShapes Go.ChangeAt Go.RowKit
open Go.ChangeMaps (open_string shut_string)

set_option maxRecDepth 100000 in
theorem blanks_lifted (os : Os) (started : os.Started) (H : Type) (enc : TypeId × Value → H) :
    ReturnsInHanded {} Tryd.checked os 5 .any (fun w args => (Rows.lineBlanksSpec.pre enc Tryd.prog Tryd.f5 Rows.lineBlanksRow.domain false w args ∧ laidMetH Tryd.prog Rows.lineBlanksRow.laid w) ∧ sizedMet enc Tryd.prog Tryd.f5 (OpenSpec.ofChange Rows.lineBlanksSpec) false w args)
      (Rows.lineBlanksSpec.post enc Tryd.prog Tryd.f5 false true false false) := by
  refine wrap_laid (C := Tryd.checked) (X := fun w _ => laidMetH Tryd.prog Rows.lineBlanksRow.laid w) (fun _ _ _ hh h => h.of_heap hh) own started (by kernel_rfl) Tryd.func5
    (ChangeSpec.witness_shaped (enc := enc) (C := Tryd.checked) (os := os) (X := fun w _ => laidMetH Tryd.prog Rows.lineBlanksRow.laid w) false (World.laidAll Tryd.prog os Rows.lineBlanksRow.laid) #[.string ⟨#[]⟩, .int .i64 0] 8 (World.laidAll_os _ _ _)
      (World.shaped_of_ZipB (by kernel_rfl) (by kernel_rfl)) (by kernel_rfl) (by kernel_rfl) (by kernel_rfl)
      (by rw [MakeChecks.laidMetH_plain _ _ _ (by kernel_rfl)]; exact laidMet_laidAll _ (by kernel_rfl) (by kernel_rfl))) ?_
  intro W base args ds gs before hval0 hW _ hL hsh
  have hval : ∀ (j : Nat) t v, Tryd.f5.params[j]? = some t → args[j]? = some v → Value.okWide Tryd.prog W .any base t v := hval0
  have hW' := hW
  obtain ⟨p, q, hA0, hV, rfl, _, _⟩ := hW
  have hA : DataW.TrodAll enc Tryd.prog W 0 (fun _ => true) true Tryd.f5.params.toList args.toList ds p := hA0
  rw [Tryd.params5] at hA hval
  obtain ⟨v0, v1, d0, d1, p0, p1, rfl, rfl, rfl, h0, h1⟩ := trodAll_two hA
  obtain ⟨rfl, rfl⟩ := trodVars_none hV
  obtain ⟨s, rfl, rfl, rfl, ws⟩ := open_string Tryd.underlying9 (hval 0 9 v0 rfl rfl) h0
  obtain ⟨n, rfl, rfl, rfl, wn⟩ := open_int Tryd.underlying3 (hval 1 3 v1 rfl rfl) h1
  refine (blanks_any s n W (glob_of hL hsh)).mono fun e W' ⟨he, bel⟩ => ?_
  subst he
  exact ⟨_, rfl, _, _, _, [], _, [], hW', trodAll_mk1 (shut_bool Tryd.underlying4 _), trodAll_mk2 (shut_string Tryd.underlying9 ws) (shut_int Tryd.underlying3 wn), rfl, bel.frame _, fun h => by cases h⟩

theorem blanks_holds : Rows.LineBlanksSaid :=
  OpenClaim.holds_of_wide 5 Tryd.f5 rfl rfl rfl rfl rfl rfl rfl ⟨rfl, rfl, rfl, rfl, rfl⟩ rfl rfl rfl rfl rfl (by kernel_rfl) Tryd.func5 (by kernel_rfl)
    (of_decide_eq_true (by kernel_rfl)) (by unfold Func.isWrapper; first | (rw [if_pos (by decide +kernel)]; kernel_rfl) | (rw [if_neg (by decide +kernel)]; exact ⟨rfl, rfl⟩))
    (fun os started H enc _ => blanks_lifted os started H enc)
theorem LineBlanksCardSaid : Rows.LineBlanksCardSaid :=
  Claim7.holds_tied_plain_at .later [] [.data, .data, .data, .data, .sentinel, .sentinel, .widerDeep, .pinned] true (true, "621f9da5f19b8a5c328ece77229787ade4ac1ea1651b345441477363afbb4351") true blanks_holds (fun _ h => by cases h) (by kernel_rfl) (fun _ h => by cases h) lineBlanks_row_tie rfl ⟨rfl, rfl⟩ (by kernel_rfl) rfl
    (fun f fn hf hfn => by
      obtain rfl : f = 5 := Option.some.inj ((show Tryd.prog.funcNamed "cordelle/cordellelaw31.LineBlanks" = some 5 by kernel_rfl).symm.trans hf) |>.symm
      obtain rfl : fn = Tryd.f5 := (Option.some.inj (Tryd.func5.symm.trans hfn)).symm
      exact ⟨by kernel_rfl, fun j t ht => by
        rw [Tryd.params5] at ht
        have hm : t ∈ [9, 3] := by simpa using Array.mem_of_getElem? ht
        have hall : ([9, 3].all fun u => !Tryd.prog.wantsStandIn u) = true := by kernel_rfl
        exact (show Tryd.prog.wantsStandIn t = false by simpa using List.all_eq_true.1 hall t hm)⟩)
    (by kernel_rfl)
#print axioms LineBlanksCardSaid
end Go.Proofs.YtddfpnljkaodcaaDoor
