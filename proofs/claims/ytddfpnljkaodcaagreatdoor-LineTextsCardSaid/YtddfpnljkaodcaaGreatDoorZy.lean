/-
  For every step the law LineTexts returns true: any step is written, if a line is it; and the step reads as it did. Conditions: the listed package variables hold what the program's text lays.
-/
import Derived.Test.YtddfpnljkaodcaaGreatDoorWl
import Derived.Test.YtddfpnljkaodcaaGreatDoorZx
import Derived.Test.YtddfpnljkaodcaaGreatDoorCards
import Derived.Test.YtddfpnljkaodcaaGreatDoorTie
import Derived.Lib.SmallJoins
import Derived.SliceStrings
import Derived.Carry
namespace Go.Proofs.YtddfpnljkaodcaaGreatDoor
open Go.ChangeShapes Go.WideShapes Go.ChangeAt Go.RowKit
open Go.ChangeMaps (open_string shut_string)
open Go.Proofs.YtddfpnljkaodcaaGreatDoorW.PrintWords

theorem laidOut : laidOutB Tryz.prog = true := by kernel_rfl
theorem wf_bounds {n : Int} (h : (Lit.int .i64 n).wf = true) : -9223372036854775808 ≤ n ∧ n ≤ 9223372036854775807 := by
  have e1 : IntKind.i64.min = -9223372036854775808 := by decide
  have e2 : IntKind.i64.max = 9223372036854775807 := by decide
  have h' : (decide (IntKind.i64.min ≤ n) && decide (n ≤ IntKind.i64.max)) = true := h
  rw [e1, e2] at h'
  simpa using h'
theorem getD_take {α : Type} (l : List α) (n i : Nat) (d : α) (h : i < n) (hl : i < l.length) : (l.take n)[i]'(by rw [List.length_take]; omega) = l.getD i d := by
  rw [List.getElem_take, List.getD_eq_getElem?_getD, List.getElem?_eq_getElem hl]; rfl
theorem spot_none {W : World} {a : Addr} {v : Value} (h : W.cell? a = some v) : a.spot = none ∧ a.block < W.heap.size := by
  unfold World.cell? at h
  split at h
  · rename_i hb
    refine ⟨?_, (Array.getElem?_eq_some_iff.1 hb).1⟩
    split at h
    · cases h
    · rename_i hs
      cases hsp : a.spot with
      | none => rfl
      | some x => rw [hsp] at hs; simp at hs
  · cases h
/-- a slice of whole numbers that came in -/
theorem open_row {H : Type} {enc : TypeId × Value → H} {W : World} {n : Nat} {v : Value} {y : DataW H × List MemPlace} (h : DataW.trod enc Tryz.prog W 0 (fun _ => true) true n 22 [v] = some y) :
    ∃ (A : Option Addr) (N : List Int) (c : Nat), v = .slice A N.length c ∧ N.length ≤ c ∧ N.length ≤ 9223372036854775807 ∧ (A = none → c = 0) ∧ RdS W W.heap.size A (ints N) ∧ ∀ n ∈ N, -9223372036854775808 ≤ n ∧ n ≤ 9223372036854775807 := by
  rcases open_ints Tryz.underlying22 Tryz.underlying3 (by kernel_rfl) h with ⟨hcs, _⟩ | ⟨a, l, c, zs, hcs, _, hl, hm, hz, _, hcell, hwz⟩
  · injection hcs with hcs
    exact ⟨none, [], 0, hcs, by simp, by simp, fun _ => rfl, .inl rfl, by simp⟩
  · injection hcs with hcs
    have hzl : zs.length = c := hz
    have hln : (zs.take l).length = l := by rw [List.length_take]; omega
    refine ⟨some a, zs.take l, c, by rw [hln]; exact hcs, by omega, (by unfold maxLen at hm; omega), (fun h => by cases h), ?_, fun n hn => wf_bounds (hwz n (List.mem_of_mem_take hn))⟩
    by_cases h0 : l = 0
    · left; rw [h0]; rfl
    · obtain ⟨hs, hb⟩ := spot_none (hcell 0 (by omega))
      have ha0 : a.add 0 = a := by simp [Addr.add]
      rw [ha0] at hs hb
      obtain ⟨g, o, s⟩ := a
      simp only at hs hb
      subst hs
      refine .inr ⟨g, o, rfl, hb, fun j hj => ?_⟩
      have hj' : j < l := by simp only [ints, List.length_map, hln] at hj; exact hj
      have := hcell j (by omega)
      rw [add_at] at this
      rw [this]
      simp only [ints, List.getElem_map]
      rw [getD_take zs l j 0 hj' (by omega)]
/-- a slice of texts that came in -/
theorem open_texts {H : Type} {enc : TypeId × Value → H} {W : World} {n : Nat} {v : Value} {y : DataW H × List MemPlace} (h : DataW.trod enc Tryz.prog W 0 (fun _ => true) true n 23 [v] = some y) :
    ∃ (A : Option Addr) (S : List ByteArray) (c : Nat), v = .slice A S.length c ∧ S.length ≤ c ∧ Kd.C Kd.string W A S.length S := by
  rcases open_strings Tryz.underlying23 Tryz.underlying9 (by kernel_rfl) h with ⟨hcs, _⟩ | ⟨a, l, c, ss, hcs, _, hl, hm, hz, _, hcell, _⟩
  · injection hcs with hcs
    exact ⟨none, [], 0, hcs, by simp, Kd.C_nil _ _⟩
  · injection hcs with hcs
    have hzl : ss.length = c := hz
    have hln : (ss.take l).length = l := by rw [List.length_take]; omega
    refine ⟨some a, ss.take l, c, by rw [hln]; exact hcs, by omega, ?_⟩
    refine Kd.C_of_reads (d := ByteArray.empty) ⟨rfl, by rw [hln]; unfold maxLen at hm; omega, fun _ => ⟨a, rfl, fun j hj => ?_⟩⟩
    rw [hln] at hj
    rw [hcell j (by omega)]
    simp [List.getD_eq_getElem?_getD, hj]

set_option maxRecDepth 100000 in
theorem texts_lifted (os : Os) (started : os.Started) (H : Type) (enc : TypeId × Value → H) :
    ReturnsInHanded {} Tryz.checked os 3 .any (fun w args => (Rows.lineTextsSpec.pre enc Tryz.prog Tryz.f3 Rows.lineTextsRow.domain false w args ∧ laidMetH Tryz.prog Rows.lineTextsRow.laid w) ∧ sizedMet enc Tryz.prog Tryz.f3 (OpenSpec.ofChange Rows.lineTextsSpec) false w args)
      (Rows.lineTextsSpec.post enc Tryz.prog Tryz.f3 false true false false) := by
  refine wrap_laid (C := Tryz.checked) (X := fun w _ => laidMetH Tryz.prog Rows.lineTextsRow.laid w) (fun _ _ _ hh h => h.of_heap hh) own started (by kernel_rfl) Tryz.func3
    (ChangeSpec.witness_shaped (enc := enc) (C := Tryz.checked) (os := os) (X := fun w _ => laidMetH Tryz.prog Rows.lineTextsRow.laid w) false (World.laidAll Tryz.prog os Rows.lineTextsRow.laid) #[.agg #[.string ⟨#[]⟩, .slice none 0 0, .slice none 0 0]] 8 (World.laidAll_os _ _ _)
      (World.shaped_of_ZipB (by kernel_rfl) (by kernel_rfl)) (by kernel_rfl) (by kernel_rfl) (by kernel_rfl)
      (by rw [MakeChecks.laidMetH_plain _ _ _ (by kernel_rfl)]; exact laidMet_laidAll _ (by kernel_rfl) (by kernel_rfl))) ?_
  intro W base args ds gs before hval0 hW _ hL hsh
  have hval : ∀ (j : Nat) t v, Tryz.f3.params[j]? = some t → args[j]? = some v → Value.okWide Tryz.prog W .any base t v := hval0
  have hW' := hW
  obtain ⟨p, q, hA0, hV, rfl, _, _⟩ := hW
  have hA : DataW.TrodAll enc Tryz.prog W 0 (fun _ => true) true Tryz.f3.params.toList args.toList ds p := hA0
  rw [Tryz.params3] at hA hval
  obtain ⟨v0, d0, rfl, rfl, h0⟩ := trodAll_one hA
  obtain ⟨rfl, rfl⟩ := trodVars_none hV
  have k0 := h0
  have lt0 : ∀ x ∈ p, x.block < W.heap.size := by obtain ⟨m, hm⟩ := k0; exact DataW.trod_lt m _ _ _ hm
  obtain ⟨u0, u1, u2, y0, y1, y2, m, rfl, _, _, hy0, hy1, hy2⟩ := Go.Joins.open_agg3 Tryz.underlying25 (by kernel_rfl) (by kernel_rfl) (hval 0 25 v0 rfl rfl) h0
  obtain ⟨s, hs0, _, _⟩ := DataW.trod_string Tryz.underlying9 hy0
  injection hs0 with hs0
  subst hs0
  obtain ⟨A1, N, c1, rfl, n1, n2, n3, n4, n5⟩ := open_row hy1
  obtain ⟨A2, S, c2, rfl, m1, m2⟩ := open_texts hy2
  refine (texts_any s N S A1 A2 c1 c2 W (glob_of hL hsh) n4 m2 n1 m1 n5 n2 n3).mono fun e W' ⟨he, bel⟩ => ?_
  subst he
  exact ⟨_, rfl, _, _, _, [], _, [], hW', trodAll_mk1 (shut_bool Tryz.underlying4 _), trodAll_mk1 (Below.trod laidOut (by kernel_rfl) (of_decide_eq_true (by kernel_rfl)) k0 bel lt0), rfl, bel.frame _, fun h => by cases h⟩

theorem texts_holds : Rows.LineTextsSaid :=
  OpenClaim.holds_of_wide 3 Tryz.f3 rfl rfl rfl rfl rfl rfl rfl ⟨rfl, rfl, rfl, rfl, rfl⟩ rfl rfl rfl rfl rfl (by kernel_rfl) Tryz.func3 (by kernel_rfl)
    (of_decide_eq_true (by kernel_rfl)) (by unfold Func.isWrapper; first | (rw [if_pos (by decide +kernel)]; kernel_rfl) | (rw [if_neg (by decide +kernel)]; exact ⟨rfl, rfl⟩))
    (fun os started H enc _ => texts_lifted os started H enc)
theorem LineTextsCardSaid : Rows.LineTextsCardSaid :=
  Claim7.holds_tied_plain_at .later [] [.data, .data, .data, .data, .sentinel, .sentinel, .widerDeep, .pinned] true (true, "34fae1602fae7ce60f0a3171423bb1e5df771ce9d5aae4609e827f91b70b8eaf") true texts_holds (fun _ h => by cases h) (by kernel_rfl) (fun _ h => by cases h) lineTexts_row_tie rfl ⟨rfl, rfl⟩ (by kernel_rfl) rfl
    (fun f fn hf hfn => by
      obtain rfl : f = 3 := Option.some.inj ((show Tryz.prog.funcNamed "cordelle/cordellelaw31.LineTexts" = some 3 by kernel_rfl).symm.trans hf) |>.symm
      obtain rfl : fn = Tryz.f3 := (Option.some.inj (Tryz.func3.symm.trans hfn)).symm
      exact ⟨by kernel_rfl, fun j t ht => by
        rw [Tryz.params3] at ht
        have hm : t ∈ [25] := by simpa using Array.mem_of_getElem? ht
        have hall : ([25].all fun u => !Tryz.prog.wantsStandIn u) = true := by kernel_rfl
        exact (show Tryz.prog.wantsStandIn t = false by simpa using List.all_eq_true.1 hall t hm)⟩)
    (by kernel_rfl)
#print axioms LineTextsCardSaid
end Go.Proofs.YtddfpnljkaodcaaGreatDoor
