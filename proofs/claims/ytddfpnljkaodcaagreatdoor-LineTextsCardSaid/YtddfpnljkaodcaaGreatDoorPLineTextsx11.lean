-- PRINTED BY print.sh 35421559b90ae4d0a3588c463048766b98c2df88dd9212a6774a882060cdf62d: not written by this session
import Derived.Test.YtddfpnljkaodcaaGreatDoorPLineTextsx0
namespace Go.Proofs.YtddfpnljkaodcaaGreatDoor.PLineTexts
open Go.RowKit Go.Proofs.YtddfpnljkaodcaaGreatDoorW.PrintWords Go.Proofs.YtddfpnljkaodcaaGreatDoorW.PrintLast Go.Proofs.YtddfpnljkaodcaaGreatDoorW.PrintMore
attribute [local go_sem] max2_int min2_int max_two min_two max_three min_three max_four min_four   -- for this text's walks alone
set_option linter.unusedVariables false
set_option linter.unusedSimpArgs false

-- NOT PRINTED: function 60 (slices_partitionOrdered_string)

-- NOT PRINTED: function 40 (slices_pdqsortOrdered_string)

-- NOT PRINTED: function 27 (slices_Sort_string_string)

-- NOT PRINTED: function 13 (slices_Sorted_string)

-- NOT PRINTED: function 14 (line_part)

-- NOT PRINTED: function 7 (line_Words)

/-! ### cordelleref31_Words: function 8 -/
def cordelleref31_Words.f  : Option (List ByteArray) := some (([(⟨#[97, 108, 108]⟩ : ByteArray), (⟨#[97, 117, 100, 105, 116]⟩ : ByteArray), (⟨#[99, 108, 111, 99, 107]⟩ : ByteArray), (⟨#[99, 108, 111, 115, 101]⟩ : ByteArray), (⟨#[99, 111, 117, 110, 116, 115]⟩ : ByteArray), (⟨#[100, 101, 108, 105, 118, 101, 114]⟩ : ByteArray), (⟨#[102, 108, 111, 119, 115]⟩ : ByteArray), (⟨#[102, 111, 114, 103, 101]⟩ : ByteArray), (⟨#[108, 111, 115, 101]⟩ : ByteArray), (⟨#[110, 101, 116]⟩ : ByteArray), (⟨#[112, 97, 116, 104]⟩ : ByteArray), (⟨#[112, 97, 116, 104, 115]⟩ : ByteArray), (⟨#[112, 108, 97, 121, 101, 100]⟩ : ByteArray), (⟨#[115, 101, 115, 115, 105, 111, 110]⟩ : ByteArray), (⟨#[115, 117, 98, 109, 105, 116]⟩ : ByteArray), (⟨#[116, 105, 99, 107]⟩ : ByteArray), (⟨#[116, 117, 114, 110]⟩ : ByteArray), (⟨#[116, 119, 105, 110]⟩ : ByteArray)] : List ByteArray))
set_option maxHeartbeats 8000000 in
set_option maxRecDepth 100000 in
theorem cordelleref31_Words.calls  (r : List ByteArray) (w : World) (h : cordelleref31_Words.f  = some r) :
    Calls Tryz.prog 8 #[] w fun e w' => ∃ v0_ : Value, e = .returned (v0_) ∧ Kd.R Kd.string 9 w' w.heap.size (fun _ => True) v0_ r ∧ Below w.heap.size w w' := by
  have HB := Aside0.mk (Below.refl w.heap.size w)
  have H : (some (([(⟨#[97, 108, 108]⟩ : ByteArray), (⟨#[97, 117, 100, 105, 116]⟩ : ByteArray), (⟨#[99, 108, 111, 99, 107]⟩ : ByteArray), (⟨#[99, 108, 111, 115, 101]⟩ : ByteArray), (⟨#[99, 111, 117, 110, 116, 115]⟩ : ByteArray), (⟨#[100, 101, 108, 105, 118, 101, 114]⟩ : ByteArray), (⟨#[102, 108, 111, 119, 115]⟩ : ByteArray), (⟨#[102, 111, 114, 103, 101]⟩ : ByteArray), (⟨#[108, 111, 115, 101]⟩ : ByteArray), (⟨#[110, 101, 116]⟩ : ByteArray), (⟨#[112, 97, 116, 104]⟩ : ByteArray), (⟨#[112, 97, 116, 104, 115]⟩ : ByteArray), (⟨#[112, 108, 97, 121, 101, 100]⟩ : ByteArray), (⟨#[115, 101, 115, 115, 105, 111, 110]⟩ : ByteArray), (⟨#[115, 117, 98, 109, 105, 116]⟩ : ByteArray), (⟨#[116, 105, 99, 107]⟩ : ByteArray), (⟨#[116, 117, 114, 110]⟩ : ByteArray), (⟨#[116, 119, 105, 110]⟩ : ByteArray)] : List ByteArray))) = some r := h
  clear h
  obtain ⟨y276, hy276⟩ : ∃ y_ : List ByteArray, y_ = (([(⟨#[97, 108, 108]⟩ : ByteArray), (⟨#[97, 117, 100, 105, 116]⟩ : ByteArray), (⟨#[99, 108, 111, 99, 107]⟩ : ByteArray), (⟨#[99, 108, 111, 115, 101]⟩ : ByteArray), (⟨#[99, 111, 117, 110, 116, 115]⟩ : ByteArray), (⟨#[100, 101, 108, 105, 118, 101, 114]⟩ : ByteArray), (⟨#[102, 108, 111, 119, 115]⟩ : ByteArray), (⟨#[102, 111, 114, 103, 101]⟩ : ByteArray), (⟨#[108, 111, 115, 101]⟩ : ByteArray), (⟨#[110, 101, 116]⟩ : ByteArray), (⟨#[112, 97, 116, 104]⟩ : ByteArray), (⟨#[112, 97, 116, 104, 115]⟩ : ByteArray), (⟨#[112, 108, 97, 121, 101, 100]⟩ : ByteArray), (⟨#[115, 101, 115, 115, 105, 111, 110]⟩ : ByteArray), (⟨#[115, 117, 98, 109, 105, 116]⟩ : ByteArray), (⟨#[116, 105, 99, 107]⟩ : ByteArray), (⟨#[116, 117, 114, 110]⟩ : ByteArray), (⟨#[116, 119, 105, 110]⟩ : ByteArray)] : List ByteArray)) := ⟨_, rfl⟩
  replace H : (some y276) = some r := by first | (rw [hy276]; with_reducible exact H) | (have H2_ := (Option.bind_some _ _).symm.trans H; rw [hy276]; with_reducible exact H2_) | (have H2_ := (Option.bind_some _ _).symm.trans H; with_reducible exact H2_) | with_reducible exact H | (rw [hy276]; exact H) | exact H
  have Ny276 := Aside0.mk hy276
  clear hy276
  obtain rfl := Option.some.inj H
  go_enter Tryz.func8, Tryz.ntmps8
  go_wp2_with (first | ((with_reducible refine gate_dst (N := 1) rfl ?_); refine Kd.R_lit Kd.string _ 9 ?hg (N := 1) ?hd (xs := ([(⟨#[97, 108, 108]⟩ : ByteArray), (⟨#[97, 117, 100, 105, 116]⟩ : ByteArray), (⟨#[99, 108, 111, 99, 107]⟩ : ByteArray), (⟨#[99, 108, 111, 115, 101]⟩ : ByteArray), (⟨#[99, 111, 117, 110, 116, 115]⟩ : ByteArray), (⟨#[100, 101, 108, 105, 118, 101, 114]⟩ : ByteArray), (⟨#[102, 108, 111, 119, 115]⟩ : ByteArray), (⟨#[102, 111, 114, 103, 101]⟩ : ByteArray), (⟨#[108, 111, 115, 101]⟩ : ByteArray), (⟨#[110, 101, 116]⟩ : ByteArray), (⟨#[112, 97, 116, 104]⟩ : ByteArray), (⟨#[112, 97, 116, 104, 115]⟩ : ByteArray), (⟨#[112, 108, 97, 121, 101, 100]⟩ : ByteArray), (⟨#[115, 101, 115, 115, 105, 111, 110]⟩ : ByteArray), (⟨#[115, 117, 98, 109, 105, 116]⟩ : ByteArray), (⟨#[116, 105, 99, 107]⟩ : ByteArray), (⟨#[116, 117, 114, 110]⟩ : ByteArray), (⟨#[116, 119, 105, 110]⟩ : ByteArray)] : List ByteArray)) (inner := [.string (⟨#[97, 108, 108]⟩ : ByteArray), .string (⟨#[97, 117, 100, 105, 116]⟩ : ByteArray), .string (⟨#[99, 108, 111, 99, 107]⟩ : ByteArray), .string (⟨#[99, 108, 111, 115, 101]⟩ : ByteArray), .string (⟨#[99, 111, 117, 110, 116, 115]⟩ : ByteArray), .string (⟨#[100, 101, 108, 105, 118, 101, 114]⟩ : ByteArray), .string (⟨#[102, 108, 111, 119, 115]⟩ : ByteArray), .string (⟨#[102, 111, 114, 103, 101]⟩ : ByteArray), .string (⟨#[108, 111, 115, 101]⟩ : ByteArray), .string (⟨#[110, 101, 116]⟩ : ByteArray), .string (⟨#[112, 97, 116, 104]⟩ : ByteArray), .string (⟨#[112, 97, 116, 104, 115]⟩ : ByteArray), .string (⟨#[112, 108, 97, 121, 101, 100]⟩ : ByteArray), .string (⟨#[115, 101, 115, 115, 105, 111, 110]⟩ : ByteArray), .string (⟨#[115, 117, 98, 109, 105, 116]⟩ : ByteArray), .string (⟨#[116, 105, 99, 107]⟩ : ByteArray), .string (⟨#[116, 117, 114, 110]⟩ : ByteArray), .string (⟨#[116, 119, 105, 110]⟩ : ByteArray)]) (ok := fun _ => True) (okp := fun _ => True) ?hr ?hp (fun _ hk => hk) trivial (Below.refl _ _) (Nat.le_refl _) (by simp) ?_; (case hd => rfl); (case hg => rfl); (case hr => first | (go_simp; done) | (go_simp; rfl)); (case hp => exact (Reps.one (show Kd.M Kd.string _ _ _ (⟨#[97, 108, 108]⟩ : ByteArray) [.string (⟨#[97, 108, 108]⟩ : ByteArray)] from rfl) (Reps.one (show Kd.M Kd.string _ _ _ (⟨#[97, 117, 100, 105, 116]⟩ : ByteArray) [.string (⟨#[97, 117, 100, 105, 116]⟩ : ByteArray)] from rfl) (Reps.one (show Kd.M Kd.string _ _ _ (⟨#[99, 108, 111, 99, 107]⟩ : ByteArray) [.string (⟨#[99, 108, 111, 99, 107]⟩ : ByteArray)] from rfl) (Reps.one (show Kd.M Kd.string _ _ _ (⟨#[99, 108, 111, 115, 101]⟩ : ByteArray) [.string (⟨#[99, 108, 111, 115, 101]⟩ : ByteArray)] from rfl) (Reps.one (show Kd.M Kd.string _ _ _ (⟨#[99, 111, 117, 110, 116, 115]⟩ : ByteArray) [.string (⟨#[99, 111, 117, 110, 116, 115]⟩ : ByteArray)] from rfl) (Reps.one (show Kd.M Kd.string _ _ _ (⟨#[100, 101, 108, 105, 118, 101, 114]⟩ : ByteArray) [.string (⟨#[100, 101, 108, 105, 118, 101, 114]⟩ : ByteArray)] from rfl) (Reps.one (show Kd.M Kd.string _ _ _ (⟨#[102, 108, 111, 119, 115]⟩ : ByteArray) [.string (⟨#[102, 108, 111, 119, 115]⟩ : ByteArray)] from rfl) (Reps.one (show Kd.M Kd.string _ _ _ (⟨#[102, 111, 114, 103, 101]⟩ : ByteArray) [.string (⟨#[102, 111, 114, 103, 101]⟩ : ByteArray)] from rfl) (Reps.one (show Kd.M Kd.string _ _ _ (⟨#[108, 111, 115, 101]⟩ : ByteArray) [.string (⟨#[108, 111, 115, 101]⟩ : ByteArray)] from rfl) (Reps.one (show Kd.M Kd.string _ _ _ (⟨#[110, 101, 116]⟩ : ByteArray) [.string (⟨#[110, 101, 116]⟩ : ByteArray)] from rfl) (Reps.one (show Kd.M Kd.string _ _ _ (⟨#[112, 97, 116, 104]⟩ : ByteArray) [.string (⟨#[112, 97, 116, 104]⟩ : ByteArray)] from rfl) (Reps.one (show Kd.M Kd.string _ _ _ (⟨#[112, 97, 116, 104, 115]⟩ : ByteArray) [.string (⟨#[112, 97, 116, 104, 115]⟩ : ByteArray)] from rfl) (Reps.one (show Kd.M Kd.string _ _ _ (⟨#[112, 108, 97, 121, 101, 100]⟩ : ByteArray) [.string (⟨#[112, 108, 97, 121, 101, 100]⟩ : ByteArray)] from rfl) (Reps.one (show Kd.M Kd.string _ _ _ (⟨#[115, 101, 115, 115, 105, 111, 110]⟩ : ByteArray) [.string (⟨#[115, 101, 115, 115, 105, 111, 110]⟩ : ByteArray)] from rfl) (Reps.one (show Kd.M Kd.string _ _ _ (⟨#[115, 117, 98, 109, 105, 116]⟩ : ByteArray) [.string (⟨#[115, 117, 98, 109, 105, 116]⟩ : ByteArray)] from rfl) (Reps.one (show Kd.M Kd.string _ _ _ (⟨#[116, 105, 99, 107]⟩ : ByteArray) [.string (⟨#[116, 105, 99, 107]⟩ : ByteArray)] from rfl) (Reps.one (show Kd.M Kd.string _ _ _ (⟨#[116, 117, 114, 110]⟩ : ByteArray) [.string (⟨#[116, 117, 114, 110]⟩ : ByteArray)] from rfl) (Reps.one (show Kd.M Kd.string _ _ _ (⟨#[116, 119, 105, 110]⟩ : ByteArray) [.string (⟨#[116, 119, 105, 110]⟩ : ByteArray)] from rfl) (Reps.none _ _)))))))))))))))))))); intro v277 w1 ho2 hb hg_ hnew_; clear hg_ hnew_; (first | rw [← Ny276.out] at ho2 | (simp only [Int.reduceToNat] at ho2; rw [← Ny276.out] at ho2)); have n0_ := Aside0.mk (Kd.R_lower ho2 (below_size (by repeat (first | (with_reducible first | exact HB.out | apply below_alloc | apply pw_below_drewN | apply below_drew1) | exact HB.out)))); have n1_ := Aside0.mk (below_step (by repeat (first | (with_reducible first | exact HB.out | apply below_alloc | apply pw_below_drewN | apply below_drew1) | exact HB.out)) hb); clear HB; have HO278 := n0_; have HB := n1_; clear n0_ n1_; clear hb ho2))
  go_ret
  exact ⟨_, by first | rfl | (simp [errW_none, errW_some] <;> rfl) | (simp [*, errW_none, errW_some] <;> rfl), by (with_reducible repeat (first | apply Kd.R_alloc | apply Kd.R_drewN | apply Kd.R_drew)); exact HO278.out, by repeat (first | (with_reducible first | exact HB.out | apply below_alloc | apply pw_below_drewN | apply below_drew1) | exact HB.out)⟩

/-! ### cordelleref31_Form: function 21 -/
mutual
def cordelleref31_Form.j0 : Nat → ByteArray → Bool → Option (ByteArray × Bool)
  | 0, _, _ => none
  | k + 1, x4, x5 => if x5 = true then (some ((⟨#[]⟩ : ByteArray), true)) else (if x4.toList = ([115, 101, 115, 115, 105, 111, 110] : List UInt8) then (some ((⟨#[110, 110, 110, 110, 110, 110]⟩ : ByteArray), true)) else (if x4.toList = ([115, 117, 98, 109, 105, 116] : List UInt8) then (some ((⟨#[110, 98]⟩ : ByteArray), true)) else (if x4.toList = ([112, 97, 116, 104] : List UInt8) then (some ((⟨#[110, 110, 110]⟩ : ByteArray), true)) else (if x4.toList = ([116, 105, 99, 107] : List UInt8) then (some ((⟨#[110]⟩ : ByteArray), true)) else (if x4.toList = ([100, 101, 108, 105, 118, 101, 114] : List UInt8) then (cordelleref31_Form.j1 k x4 (x4.toList == ([100, 101, 108, 105, 118, 101, 114] : List UInt8))) else (if x4.toList = ([108, 111, 115, 101] : List UInt8) then (cordelleref31_Form.j1 k x4 (x4.toList == ([108, 111, 115, 101] : List UInt8))) else (cordelleref31_Form.j1 k x4 (x4.toList == ([116, 119, 105, 110] : List UInt8)))))))))
def cordelleref31_Form.j1 : Nat → ByteArray → Bool → Option (ByteArray × Bool)
  | 0, _, _ => none
  | k + 1, x4, x21 => if x21 = true then (some ((⟨#[119, 110, 110]⟩ : ByteArray), true)) else (if x4.toList = ([97, 108, 108] : List UInt8) then (cordelleref31_Form.j2 k x4 (x4.toList == ([97, 108, 108] : List UInt8))) else (cordelleref31_Form.j2 k x4 (x4.toList == ([110, 101, 116] : List UInt8))))
def cordelleref31_Form.j2 : Nat → ByteArray → Bool → Option (ByteArray × Bool)
  | 0, _, _ => none
  | k + 1, x4, x25 => if x25 = true then (some ((⟨#[119, 110]⟩ : ByteArray), true)) else (if x4.toList = ([116, 117, 114, 110] : List UInt8) then (some ((⟨#[119, 110, 110, 110, 110]⟩ : ByteArray), true)) else (if x4.toList = ([102, 111, 114, 103, 101] : List UInt8) then (some ((⟨#[119, 110, 98]⟩ : ByteArray), true)) else (some ((⟨#[]⟩ : ByteArray), false))))
end
def cordelleref31_Form.f (k : Nat) (a0 : ByteArray) : Option (ByteArray × Bool) := if a0.toList = ([99, 108, 111, 115, 101] : List UInt8) then (cordelleref31_Form.j0 k a0 (a0.toList == ([99, 108, 111, 115, 101] : List UInt8))) else (if a0.toList = ([99, 108, 111, 99, 107] : List UInt8) then (cordelleref31_Form.j0 k a0 (a0.toList == ([99, 108, 111, 99, 107] : List UInt8))) else (if a0.toList = ([112, 97, 116, 104, 115] : List UInt8) then (cordelleref31_Form.j0 k a0 (a0.toList == ([112, 97, 116, 104, 115] : List UInt8))) else (if a0.toList = ([102, 108, 111, 119, 115] : List UInt8) then (cordelleref31_Form.j0 k a0 (a0.toList == ([102, 108, 111, 119, 115] : List UInt8))) else (if a0.toList = ([112, 108, 97, 121, 101, 100] : List UInt8) then (cordelleref31_Form.j0 k a0 (a0.toList == ([112, 108, 97, 121, 101, 100] : List UInt8))) else (if a0.toList = ([99, 111, 117, 110, 116, 115] : List UInt8) then (cordelleref31_Form.j0 k a0 (a0.toList == ([99, 111, 117, 110, 116, 115] : List UInt8))) else (cordelleref31_Form.j0 k a0 (a0.toList == ([97, 117, 100, 105, 116] : List UInt8))))))))
theorem cordelleref31_Form.mono_l : ∀ k, (∀ y0 y1, LeO (cordelleref31_Form.j0 k y0 y1) (cordelleref31_Form.j0 (k + 1) y0 y1)) ∧ (∀ y0 y1, LeO (cordelleref31_Form.j1 k y0 y1) (cordelleref31_Form.j1 (k + 1) y0 y1)) ∧ (∀ y0 y1, LeO (cordelleref31_Form.j2 k y0 y1) (cordelleref31_Form.j2 (k + 1) y0 y1))
  | 0 => ⟨fun _ _ r h => by simp [cordelleref31_Form.j0] at h, fun _ _ r h => by simp [cordelleref31_Form.j1] at h, fun _ _ r h => by simp [cordelleref31_Form.j2] at h⟩
  | k + 1 => by
    obtain ⟨ih0, ih1, ih2⟩ := cordelleref31_Form.mono_l k
    refine ⟨?_, ?_, ?_⟩
    · intro y0 y1
      unfold cordelleref31_Form.j0
      repeat' first
      | (with_reducible exact ih0 _ _)
      | (with_reducible exact ih1 _ _)
      | (with_reducible exact ih2 _ _)
      | (with_reducible exact LeO.refl _)
      | (with_reducible exact LeO.none _)
      | (with_reducible refine LeO.ite ?_ ?_)
      | (with_reducible refine LeO.bind ?_ (fun _ => ?_))
      | exact ih0 _ _
      | exact ih1 _ _
      | exact ih2 _ _
      | exact LeO.none _
      | refine LeO.ite ?_ ?_
      | refine LeO.bind ?_ (fun _ => ?_)
    · intro y0 y1
      unfold cordelleref31_Form.j1
      repeat' first
      | (with_reducible exact ih0 _ _)
      | (with_reducible exact ih1 _ _)
      | (with_reducible exact ih2 _ _)
      | (with_reducible exact LeO.refl _)
      | (with_reducible exact LeO.none _)
      | (with_reducible refine LeO.ite ?_ ?_)
      | (with_reducible refine LeO.bind ?_ (fun _ => ?_))
      | exact ih0 _ _
      | exact ih1 _ _
      | exact ih2 _ _
      | exact LeO.none _
      | refine LeO.ite ?_ ?_
      | refine LeO.bind ?_ (fun _ => ?_)
    · intro y0 y1
      unfold cordelleref31_Form.j2
      repeat' first
      | (with_reducible exact ih0 _ _)
      | (with_reducible exact ih1 _ _)
      | (with_reducible exact ih2 _ _)
      | (with_reducible exact LeO.refl _)
      | (with_reducible exact LeO.none _)
      | (with_reducible refine LeO.ite ?_ ?_)
      | (with_reducible refine LeO.bind ?_ (fun _ => ?_))
      | exact ih0 _ _
      | exact ih1 _ _
      | exact ih2 _ _
      | exact LeO.none _
      | refine LeO.ite ?_ ?_
      | refine LeO.bind ?_ (fun _ => ?_)
theorem cordelleref31_Form.mono : ∀ a0 k, LeO (cordelleref31_Form.f k a0) (cordelleref31_Form.f (k + 1) a0) := by
  intro a0 k
  obtain ⟨ih0, ih1, ih2⟩ := cordelleref31_Form.mono_l k
  unfold cordelleref31_Form.f
  repeat' first
      | (with_reducible exact ih0 _ _)
      | (with_reducible exact ih1 _ _)
      | (with_reducible exact ih2 _ _)
      | (with_reducible exact LeO.refl _)
      | (with_reducible exact LeO.none _)
      | (with_reducible refine LeO.ite ?_ ?_)
      | (with_reducible refine LeO.bind ?_ (fun _ => ?_))
      | exact ih0 _ _
      | exact ih1 _ _
      | exact ih2 _ _
      | exact LeO.none _
      | refine LeO.ite ?_ ?_
      | refine LeO.bind ?_ (fun _ => ?_)
set_option maxHeartbeats 8000000 in
set_option maxRecDepth 100000 in
theorem cordelleref31_Form.calls (k : Nat) (a0 : ByteArray) (r1 : ByteArray) (r2 : Bool) (w : World) (h : cordelleref31_Form.f k a0 = some (r1, r2)) :
    Calls Tryz.prog 21 #[.string a0] w fun e w' => e = .returned (.tuple #[.string r1, .bool r2]) ∧ Drawn0 w w' := by
  have H : (if a0.toList = ([99, 108, 111, 115, 101] : List UInt8) then (cordelleref31_Form.j0 k a0 (a0.toList == ([99, 108, 111, 115, 101] : List UInt8))) else (if a0.toList = ([99, 108, 111, 99, 107] : List UInt8) then (cordelleref31_Form.j0 k a0 (a0.toList == ([99, 108, 111, 99, 107] : List UInt8))) else (if a0.toList = ([112, 97, 116, 104, 115] : List UInt8) then (cordelleref31_Form.j0 k a0 (a0.toList == ([112, 97, 116, 104, 115] : List UInt8))) else (if a0.toList = ([102, 108, 111, 119, 115] : List UInt8) then (cordelleref31_Form.j0 k a0 (a0.toList == ([102, 108, 111, 119, 115] : List UInt8))) else (if a0.toList = ([112, 108, 97, 121, 101, 100] : List UInt8) then (cordelleref31_Form.j0 k a0 (a0.toList == ([112, 108, 97, 121, 101, 100] : List UInt8))) else (if a0.toList = ([99, 111, 117, 110, 116, 115] : List UInt8) then (cordelleref31_Form.j0 k a0 (a0.toList == ([99, 111, 117, 110, 116, 115] : List UInt8))) else (cordelleref31_Form.j0 k a0 (a0.toList == ([97, 117, 100, 105, 116] : List UInt8))))))))) = some (r1, r2) := h
  clear h
  have HC2 := Aside0.mk H
  clear H
  go_enter Tryz.func21, Tryz.ntmps21
  go_upto_if 5 with (fail)
  go_cut [5] (fun v5 wc => ∃ (kq : Nat) (x5_1 : Bool), v5 = .bool x5_1 ∧ Aside0 (cordelleref31_Form.j0 kq a0 x5_1 = some (r1, r2)) ∧ Aside0 (kq ≤ k) ∧ Drawn0 w wc)
  case first =>
    have H := HC2.out
    clear HC2
    by_cases c3 : a0.toList = ([99, 108, 111, 115, 101] : List UInt8)
    · rw [if_pos c3] at H
      have c3b0 : (a0.toList == ([99, 108, 111, 115, 101] : List UInt8)) = true := beq_iff_eq.mpr c3
      have c3b1 : (a0.toList != ([99, 108, 111, 115, 101] : List UInt8)) = false := bne_eq_false_iff_eq.mpr c3
      clear c3
      (first | rw [c3b0] | (simp only [i64_w, i32_w]; rw [c3b0]) | skip)
      have H' := Aside0.mk H
      clear H
      go_wp2
      go_meet
      case rel => exact ⟨_, ((a0.toList == ([99, 108, 111, 115, 101] : List UInt8))), (by first | rfl | (simp; done) | (simp [*]; done)), H', ⟨by first | omega | exact Nat.le_refl _⟩, by repeat (first | exact Drawn0.refl _ | apply Drawn0.step)⟩
    · rw [if_neg c3] at H
      have c3b0 : (a0.toList == ([99, 108, 111, 115, 101] : List UInt8)) = false := beq_eq_false_iff_ne.mpr c3
      have c3b1 : (a0.toList != ([99, 108, 111, 115, 101] : List UInt8)) = true := bne_iff_ne.mpr c3
      (first | rw [c3b0] | (simp only [i64_w, i32_w]; rw [c3b0]) | skip)
      by_cases c4 : a0.toList = ([99, 108, 111, 99, 107] : List UInt8)
      · rw [if_pos c4] at H
        have c4b0 : (a0.toList == ([99, 108, 111, 99, 107] : List UInt8)) = true := beq_iff_eq.mpr c4
        have c4b1 : (a0.toList != ([99, 108, 111, 99, 107] : List UInt8)) = false := bne_eq_false_iff_eq.mpr c4
        clear c4
        have H' := Aside0.mk H
        clear H
        go_wp2
        go_meet
        case rel => exact ⟨_, ((a0.toList == ([99, 108, 111, 99, 107] : List UInt8))), (by first | rfl | (simp; done) | (simp [*]; done)), H', ⟨by first | omega | exact Nat.le_refl _⟩, by repeat (first | exact Drawn0.refl _ | apply Drawn0.step)⟩
      · rw [if_neg c4] at H
        have c4b0 : (a0.toList == ([99, 108, 111, 99, 107] : List UInt8)) = false := beq_eq_false_iff_ne.mpr c4
        have c4b1 : (a0.toList != ([99, 108, 111, 99, 107] : List UInt8)) = true := bne_iff_ne.mpr c4
        by_cases c5 : a0.toList = ([112, 97, 116, 104, 115] : List UInt8)
        · rw [if_pos c5] at H
          have c5b0 : (a0.toList == ([112, 97, 116, 104, 115] : List UInt8)) = true := beq_iff_eq.mpr c5
          have c5b1 : (a0.toList != ([112, 97, 116, 104, 115] : List UInt8)) = false := bne_eq_false_iff_eq.mpr c5
          clear c5
          have H' := Aside0.mk H
          clear H
          go_wp2
          go_meet
          case rel => exact ⟨_, ((a0.toList == ([112, 97, 116, 104, 115] : List UInt8))), (by first | rfl | (simp; done) | (simp [*]; done)), H', ⟨by first | omega | exact Nat.le_refl _⟩, by repeat (first | exact Drawn0.refl _ | apply Drawn0.step)⟩
        · rw [if_neg c5] at H
          have c5b0 : (a0.toList == ([112, 97, 116, 104, 115] : List UInt8)) = false := beq_eq_false_iff_ne.mpr c5
          have c5b1 : (a0.toList != ([112, 97, 116, 104, 115] : List UInt8)) = true := bne_iff_ne.mpr c5
          by_cases c6 : a0.toList = ([102, 108, 111, 119, 115] : List UInt8)
          · rw [if_pos c6] at H
            have c6b0 : (a0.toList == ([102, 108, 111, 119, 115] : List UInt8)) = true := beq_iff_eq.mpr c6
            have c6b1 : (a0.toList != ([102, 108, 111, 119, 115] : List UInt8)) = false := bne_eq_false_iff_eq.mpr c6
            clear c6
            have H' := Aside0.mk H
            clear H
            go_wp2
            go_meet
            case rel => exact ⟨_, ((a0.toList == ([102, 108, 111, 119, 115] : List UInt8))), (by first | rfl | (simp; done) | (simp [*]; done)), H', ⟨by first | omega | exact Nat.le_refl _⟩, by repeat (first | exact Drawn0.refl _ | apply Drawn0.step)⟩
          · rw [if_neg c6] at H
            have c6b0 : (a0.toList == ([102, 108, 111, 119, 115] : List UInt8)) = false := beq_eq_false_iff_ne.mpr c6
            have c6b1 : (a0.toList != ([102, 108, 111, 119, 115] : List UInt8)) = true := bne_iff_ne.mpr c6
            by_cases c7 : a0.toList = ([112, 108, 97, 121, 101, 100] : List UInt8)
            · rw [if_pos c7] at H
              have c7b0 : (a0.toList == ([112, 108, 97, 121, 101, 100] : List UInt8)) = true := beq_iff_eq.mpr c7
              have c7b1 : (a0.toList != ([112, 108, 97, 121, 101, 100] : List UInt8)) = false := bne_eq_false_iff_eq.mpr c7
              clear c7
              have H' := Aside0.mk H
              clear H
              go_wp2
              go_meet
              case rel => exact ⟨_, ((a0.toList == ([112, 108, 97, 121, 101, 100] : List UInt8))), (by first | rfl | (simp; done) | (simp [*]; done)), H', ⟨by first | omega | exact Nat.le_refl _⟩, by repeat (first | exact Drawn0.refl _ | apply Drawn0.step)⟩
            · rw [if_neg c7] at H
              have c7b0 : (a0.toList == ([112, 108, 97, 121, 101, 100] : List UInt8)) = false := beq_eq_false_iff_ne.mpr c7
              have c7b1 : (a0.toList != ([112, 108, 97, 121, 101, 100] : List UInt8)) = true := bne_iff_ne.mpr c7
              by_cases c8 : a0.toList = ([99, 111, 117, 110, 116, 115] : List UInt8)
              · rw [if_pos c8] at H
                have c8b0 : (a0.toList == ([99, 111, 117, 110, 116, 115] : List UInt8)) = true := beq_iff_eq.mpr c8
                have c8b1 : (a0.toList != ([99, 111, 117, 110, 116, 115] : List UInt8)) = false := bne_eq_false_iff_eq.mpr c8
                clear c8
                have H' := Aside0.mk H
                clear H
                go_wp2
                go_meet
                case rel => exact ⟨_, ((a0.toList == ([99, 111, 117, 110, 116, 115] : List UInt8))), (by first | rfl | (simp; done) | (simp [*]; done)), H', ⟨by first | omega | exact Nat.le_refl _⟩, by repeat (first | exact Drawn0.refl _ | apply Drawn0.step)⟩
              · rw [if_neg c8] at H
                have c8b0 : (a0.toList == ([99, 111, 117, 110, 116, 115] : List UInt8)) = false := beq_eq_false_iff_ne.mpr c8
                have c8b1 : (a0.toList != ([99, 111, 117, 110, 116, 115] : List UInt8)) = true := bne_iff_ne.mpr c8
                have H' := Aside0.mk H
                clear H
                go_wp2
                go_meet
                case rel => exact ⟨_, ((a0.toList == ([97, 117, 100, 105, 116] : List UInt8))), (by first | rfl | (simp; done) | (simp [*]; done)), H', ⟨by first | omega | exact Nat.le_refl _⟩, by repeat (first | exact Drawn0.refl _ | apply Drawn0.step)⟩
  case rest =>
    clear HC2
    try clear c2
    try clear p2
    try clear c3
    try clear c3b0
    try clear c3b1
    try clear c4
    try clear c4b0
    try clear c4b1
    try clear c5
    try clear c5b0
    try clear c5b1
    try clear c6
    try clear c6b0
    try clear c6b1
    try clear c7
    try clear c7b0
    try clear c7b1
    try clear c8
    try clear c8b0
    try clear c8b1
    obtain ⟨kq, x5_1, rfl, HA, HJ1, ⟨mc1, rfl⟩⟩ := hcut
    cases kq with
    | zero => exact absurd HA.out (by simp [cordelleref31_Form.j0])
    | succ kj1 =>
      have H := HA.out
      clear HA
      simp only [cordelleref31_Form.j0] at H
      by_cases c9 : x5_1 = true
      · subst c9
        have H1 : (some ((⟨#[]⟩ : ByteArray), true)) = some (r1, r2) := by rw [if_pos rfl] at H; exact H
        clear H
        have H := H1
        clear H1
        simp only [Option.some.injEq, Prod.mk.injEq] at H
        obtain ⟨rfl, rfl⟩ := H
        go_wp2
        go_ret2
        exact ⟨by first | rfl | (simp; done) | (simp [*]; done), by repeat (first | exact Drawn0.refl _ | apply Drawn0.step)⟩
      · replace c9 := Bool.eq_false_iff.mpr c9
        subst c9
        have H1 : (if a0.toList = ([115, 101, 115, 115, 105, 111, 110] : List UInt8) then (some ((⟨#[110, 110, 110, 110, 110, 110]⟩ : ByteArray), true)) else (if a0.toList = ([115, 117, 98, 109, 105, 116] : List UInt8) then (some ((⟨#[110, 98]⟩ : ByteArray), true)) else (if a0.toList = ([112, 97, 116, 104] : List UInt8) then (some ((⟨#[110, 110, 110]⟩ : ByteArray), true)) else (if a0.toList = ([116, 105, 99, 107] : List UInt8) then (some ((⟨#[110]⟩ : ByteArray), true)) else (if a0.toList = ([100, 101, 108, 105, 118, 101, 114] : List UInt8) then (cordelleref31_Form.j1 kj1 a0 (a0.toList == ([100, 101, 108, 105, 118, 101, 114] : List UInt8))) else (if a0.toList = ([108, 111, 115, 101] : List UInt8) then (cordelleref31_Form.j1 kj1 a0 (a0.toList == ([108, 111, 115, 101] : List UInt8))) else (cordelleref31_Form.j1 kj1 a0 (a0.toList == ([116, 119, 105, 110] : List UInt8))))))))) = some (r1, r2) := by rw [if_neg (show ¬ (false = true) by decide)] at H; exact H
        clear H
        have H := H1
        clear H1
        by_cases c10 : a0.toList = ([115, 101, 115, 115, 105, 111, 110] : List UInt8)
        · rw [if_pos c10] at H
          have c10b0 : (a0.toList == ([115, 101, 115, 115, 105, 111, 110] : List UInt8)) = true := beq_iff_eq.mpr c10
          have c10b1 : (a0.toList != ([115, 101, 115, 115, 105, 111, 110] : List UInt8)) = false := bne_eq_false_iff_eq.mpr c10
          clear c10
          simp only [Option.some.injEq, Prod.mk.injEq] at H
          obtain ⟨rfl, rfl⟩ := H
          go_wp2
          go_ret2
          exact ⟨by first | rfl | (simp; done) | (simp [*]; done), by repeat (first | exact Drawn0.refl _ | apply Drawn0.step)⟩
        · rw [if_neg c10] at H
          have c10b0 : (a0.toList == ([115, 101, 115, 115, 105, 111, 110] : List UInt8)) = false := beq_eq_false_iff_ne.mpr c10
          have c10b1 : (a0.toList != ([115, 101, 115, 115, 105, 111, 110] : List UInt8)) = true := bne_iff_ne.mpr c10
          by_cases c11 : a0.toList = ([115, 117, 98, 109, 105, 116] : List UInt8)
          · rw [if_pos c11] at H
            have c11b0 : (a0.toList == ([115, 117, 98, 109, 105, 116] : List UInt8)) = true := beq_iff_eq.mpr c11
            have c11b1 : (a0.toList != ([115, 117, 98, 109, 105, 116] : List UInt8)) = false := bne_eq_false_iff_eq.mpr c11
            clear c11
            simp only [Option.some.injEq, Prod.mk.injEq] at H
            obtain ⟨rfl, rfl⟩ := H
            go_wp2
            go_ret2
            exact ⟨by first | rfl | (simp; done) | (simp [*]; done), by repeat (first | exact Drawn0.refl _ | apply Drawn0.step)⟩
          · rw [if_neg c11] at H
            have c11b0 : (a0.toList == ([115, 117, 98, 109, 105, 116] : List UInt8)) = false := beq_eq_false_iff_ne.mpr c11
            have c11b1 : (a0.toList != ([115, 117, 98, 109, 105, 116] : List UInt8)) = true := bne_iff_ne.mpr c11
            by_cases c12 : a0.toList = ([112, 97, 116, 104] : List UInt8)
            · rw [if_pos c12] at H
              have c12b0 : (a0.toList == ([112, 97, 116, 104] : List UInt8)) = true := beq_iff_eq.mpr c12
              have c12b1 : (a0.toList != ([112, 97, 116, 104] : List UInt8)) = false := bne_eq_false_iff_eq.mpr c12
              clear c12
              simp only [Option.some.injEq, Prod.mk.injEq] at H
              obtain ⟨rfl, rfl⟩ := H
              go_wp2
              go_ret2
              exact ⟨by first | rfl | (simp; done) | (simp [*]; done), by repeat (first | exact Drawn0.refl _ | apply Drawn0.step)⟩
            · rw [if_neg c12] at H
              have c12b0 : (a0.toList == ([112, 97, 116, 104] : List UInt8)) = false := beq_eq_false_iff_ne.mpr c12
              have c12b1 : (a0.toList != ([112, 97, 116, 104] : List UInt8)) = true := bne_iff_ne.mpr c12
              by_cases c13 : a0.toList = ([116, 105, 99, 107] : List UInt8)
              · rw [if_pos c13] at H
                have c13b0 : (a0.toList == ([116, 105, 99, 107] : List UInt8)) = true := beq_iff_eq.mpr c13
                have c13b1 : (a0.toList != ([116, 105, 99, 107] : List UInt8)) = false := bne_eq_false_iff_eq.mpr c13
                clear c13
                simp only [Option.some.injEq, Prod.mk.injEq] at H
                obtain ⟨rfl, rfl⟩ := H
                go_wp2
                go_ret2
                exact ⟨by first | rfl | (simp; done) | (simp [*]; done), by repeat (first | exact Drawn0.refl _ | apply Drawn0.step)⟩
              · rw [if_neg c13] at H
                have c13b0 : (a0.toList == ([116, 105, 99, 107] : List UInt8)) = false := beq_eq_false_iff_ne.mpr c13
                have c13b1 : (a0.toList != ([116, 105, 99, 107] : List UInt8)) = true := bne_iff_ne.mpr c13
                have HC14 := Aside0.mk H
                clear H
                go_upto_if 21 with (fail)
                go_cut [21] (fun v21 wc => ∃ (kq : Nat) (x21_13 : Bool), v21 = .bool x21_13 ∧ Aside0 (cordelleref31_Form.j1 kq a0 x21_13 = some (r1, r2)) ∧ Aside0 (kq ≤ kj1) ∧ Drawn0 w wc)
                case first =>
                  have H := HC14.out
                  clear HC14
                  by_cases c15 : a0.toList = ([100, 101, 108, 105, 118, 101, 114] : List UInt8)
                  · rw [if_pos c15] at H
                    have c15b0 : (a0.toList == ([100, 101, 108, 105, 118, 101, 114] : List UInt8)) = true := beq_iff_eq.mpr c15
                    have c15b1 : (a0.toList != ([100, 101, 108, 105, 118, 101, 114] : List UInt8)) = false := bne_eq_false_iff_eq.mpr c15
                    clear c15
                    (first | rw [c15b0] | (simp only [i64_w, i32_w]; rw [c15b0]) | skip)
                    have H' := Aside0.mk H
                    clear H
                    go_wp2
                    go_meet
                    case rel => exact ⟨_, ((a0.toList == ([100, 101, 108, 105, 118, 101, 114] : List UInt8))), (by first | rfl | (simp; done) | (simp [*]; done)), H', ⟨by have := HJ1.out; first | omega | exact Nat.le_refl _⟩, by repeat (first | exact Drawn0.refl _ | apply Drawn0.step)⟩
                  · rw [if_neg c15] at H
                    have c15b0 : (a0.toList == ([100, 101, 108, 105, 118, 101, 114] : List UInt8)) = false := beq_eq_false_iff_ne.mpr c15
                    have c15b1 : (a0.toList != ([100, 101, 108, 105, 118, 101, 114] : List UInt8)) = true := bne_iff_ne.mpr c15
                    (first | rw [c15b0] | (simp only [i64_w, i32_w]; rw [c15b0]) | skip)
                    by_cases c16 : a0.toList = ([108, 111, 115, 101] : List UInt8)
                    · rw [if_pos c16] at H
                      have c16b0 : (a0.toList == ([108, 111, 115, 101] : List UInt8)) = true := beq_iff_eq.mpr c16
                      have c16b1 : (a0.toList != ([108, 111, 115, 101] : List UInt8)) = false := bne_eq_false_iff_eq.mpr c16
                      clear c16
                      have H' := Aside0.mk H
                      clear H
                      go_wp2
                      go_meet
                      case rel => exact ⟨_, ((a0.toList == ([108, 111, 115, 101] : List UInt8))), (by first | rfl | (simp; done) | (simp [*]; done)), H', ⟨by have := HJ1.out; first | omega | exact Nat.le_refl _⟩, by repeat (first | exact Drawn0.refl _ | apply Drawn0.step)⟩
                    · rw [if_neg c16] at H
                      have c16b0 : (a0.toList == ([108, 111, 115, 101] : List UInt8)) = false := beq_eq_false_iff_ne.mpr c16
                      have c16b1 : (a0.toList != ([108, 111, 115, 101] : List UInt8)) = true := bne_iff_ne.mpr c16
                      have H' := Aside0.mk H
                      clear H
                      go_wp2
                      go_meet
                      case rel => exact ⟨_, ((a0.toList == ([116, 119, 105, 110] : List UInt8))), (by first | rfl | (simp; done) | (simp [*]; done)), H', ⟨by have := HJ1.out; first | omega | exact Nat.le_refl _⟩, by repeat (first | exact Drawn0.refl _ | apply Drawn0.step)⟩
                case rest =>
                  clear HC14
                  try clear c1
                  try clear c2
                  try clear p2
                  try clear c3
                  try clear c3b0
                  try clear c3b1
                  try clear c4
                  try clear c4b0
                  try clear c4b1
                  try clear c5
                  try clear c5b0
                  try clear c5b1
                  try clear c6
                  try clear c6b0
                  try clear c6b1
                  try clear c7
                  try clear c7b0
                  try clear c7b1
                  try clear c8
                  try clear c8b0
                  try clear c8b1
                  try clear c9
                  try clear c10
                  try clear c10b0
                  try clear c10b1
                  try clear c11
                  try clear c11b0
                  try clear c11b1
                  try clear c12
                  try clear c12b0
                  try clear c12b1
                  try clear c13
                  try clear c13b0
                  try clear c13b1
                  try clear c15
                  try clear c15b0
                  try clear c15b1
                  try clear c16
                  try clear c16b0
                  try clear c16b1
                  try clear p2
                  obtain ⟨kq, x21_13, rfl, HA, HJ13, ⟨mc13, rfl⟩⟩ := hcut
                  cases kq with
                  | zero => exact absurd HA.out (by simp [cordelleref31_Form.j1])
                  | succ kj13 =>
                    have H := HA.out
                    clear HA
                    simp only [cordelleref31_Form.j1] at H
                    by_cases c17 : x21_13 = true
                    · subst c17
                      have H1 : (some ((⟨#[119, 110, 110]⟩ : ByteArray), true)) = some (r1, r2) := by rw [if_pos rfl] at H; exact H
                      clear H
                      have H := H1
                      clear H1
                      simp only [Option.some.injEq, Prod.mk.injEq] at H
                      obtain ⟨rfl, rfl⟩ := H
                      go_wp2
                      go_ret2
                      exact ⟨by first | rfl | (simp; done) | (simp [*]; done), by repeat (first | exact Drawn0.refl _ | apply Drawn0.step)⟩
                    · replace c17 := Bool.eq_false_iff.mpr c17
                      subst c17
                      have H1 : (if a0.toList = ([97, 108, 108] : List UInt8) then (cordelleref31_Form.j2 kj13 a0 (a0.toList == ([97, 108, 108] : List UInt8))) else (cordelleref31_Form.j2 kj13 a0 (a0.toList == ([110, 101, 116] : List UInt8)))) = some (r1, r2) := by rw [if_neg (show ¬ (false = true) by decide)] at H; exact H
                      clear H
                      have H := H1
                      clear H1
                      have HC18 := Aside0.mk H
                      clear H
                      go_upto_if 25 with (fail)
                      go_cut [25] (fun v25 wc => ∃ (kq : Nat) (x25_17 : Bool), v25 = .bool x25_17 ∧ Aside0 (cordelleref31_Form.j2 kq a0 x25_17 = some (r1, r2)) ∧ Aside0 (kq ≤ kj13) ∧ Drawn0 w wc)
                      case first =>
                        have H := HC18.out
                        clear HC18
                        by_cases c19 : a0.toList = ([97, 108, 108] : List UInt8)
                        · rw [if_pos c19] at H
                          have c19b0 : (a0.toList == ([97, 108, 108] : List UInt8)) = true := beq_iff_eq.mpr c19
                          have c19b1 : (a0.toList != ([97, 108, 108] : List UInt8)) = false := bne_eq_false_iff_eq.mpr c19
                          clear c19
                          (first | rw [c19b0] | (simp only [i64_w, i32_w]; rw [c19b0]) | skip)
                          have H' := Aside0.mk H
                          clear H
                          go_wp2
                          go_meet
                          case rel => exact ⟨_, ((a0.toList == ([97, 108, 108] : List UInt8))), (by first | rfl | (simp; done) | (simp [*]; done)), H', ⟨by have := HJ1.out; have := HJ13.out; first | omega | exact Nat.le_refl _⟩, by repeat (first | exact Drawn0.refl _ | apply Drawn0.step)⟩
                        · rw [if_neg c19] at H
                          have c19b0 : (a0.toList == ([97, 108, 108] : List UInt8)) = false := beq_eq_false_iff_ne.mpr c19
                          have c19b1 : (a0.toList != ([97, 108, 108] : List UInt8)) = true := bne_iff_ne.mpr c19
                          (first | rw [c19b0] | (simp only [i64_w, i32_w]; rw [c19b0]) | skip)
                          have H' := Aside0.mk H
                          clear H
                          go_wp2
                          go_meet
                          case rel => exact ⟨_, ((a0.toList == ([110, 101, 116] : List UInt8))), (by first | rfl | (simp; done) | (simp [*]; done)), H', ⟨by have := HJ1.out; have := HJ13.out; first | omega | exact Nat.le_refl _⟩, by repeat (first | exact Drawn0.refl _ | apply Drawn0.step)⟩
                      case rest =>
                        clear HC18
                        try clear c1
                        try clear c2
                        try clear p2
                        try clear c3
                        try clear c3b0
                        try clear c3b1
                        try clear c4
                        try clear c4b0
                        try clear c4b1
                        try clear c5
                        try clear c5b0
                        try clear c5b1
                        try clear c6
                        try clear c6b0
                        try clear c6b1
                        try clear c7
                        try clear c7b0
                        try clear c7b1
                        try clear c8
                        try clear c8b0
                        try clear c8b1
                        try clear c9
                        try clear c10
                        try clear c10b0
                        try clear c10b1
                        try clear c11
                        try clear c11b0
                        try clear c11b1
                        try clear c12
                        try clear c12b0
                        try clear c12b1
                        try clear c13
                        try clear c13b0
                        try clear c13b1
                        try clear c15
                        try clear c15b0
                        try clear c15b1
                        try clear c16
                        try clear c16b0
                        try clear c16b1
                        try clear c17
                        try clear c19
                        try clear c19b0
                        try clear c19b1
                        try clear p2
                        obtain ⟨kq, x25_17, rfl, HA, HJ17, ⟨mc17, rfl⟩⟩ := hcut
                        cases kq with
                        | zero => exact absurd HA.out (by simp [cordelleref31_Form.j2])
                        | succ kj17 =>
                          have H := HA.out
                          clear HA
                          simp only [cordelleref31_Form.j2] at H
                          by_cases c20 : x25_17 = true
                          · subst c20
                            have H1 : (some ((⟨#[119, 110]⟩ : ByteArray), true)) = some (r1, r2) := by rw [if_pos rfl] at H; exact H
                            clear H
                            have H := H1
                            clear H1
                            simp only [Option.some.injEq, Prod.mk.injEq] at H
                            obtain ⟨rfl, rfl⟩ := H
                            go_wp2
                            go_ret2
                            exact ⟨by first | rfl | (simp; done) | (simp [*]; done), by repeat (first | exact Drawn0.refl _ | apply Drawn0.step)⟩
                          · replace c20 := Bool.eq_false_iff.mpr c20
                            subst c20
                            have H1 : (if a0.toList = ([116, 117, 114, 110] : List UInt8) then (some ((⟨#[119, 110, 110, 110, 110]⟩ : ByteArray), true)) else (if a0.toList = ([102, 111, 114, 103, 101] : List UInt8) then (some ((⟨#[119, 110, 98]⟩ : ByteArray), true)) else (some ((⟨#[]⟩ : ByteArray), false)))) = some (r1, r2) := by rw [if_neg (show ¬ (false = true) by decide)] at H; exact H
                            clear H
                            have H := H1
                            clear H1
                            by_cases c21 : a0.toList = ([116, 117, 114, 110] : List UInt8)
                            · rw [if_pos c21] at H
                              have c21b0 : (a0.toList == ([116, 117, 114, 110] : List UInt8)) = true := beq_iff_eq.mpr c21
                              have c21b1 : (a0.toList != ([116, 117, 114, 110] : List UInt8)) = false := bne_eq_false_iff_eq.mpr c21
                              clear c21
                              simp only [Option.some.injEq, Prod.mk.injEq] at H
                              obtain ⟨rfl, rfl⟩ := H
                              go_wp2
                              go_ret2
                              exact ⟨by first | rfl | (simp; done) | (simp [*]; done), by repeat (first | exact Drawn0.refl _ | apply Drawn0.step)⟩
                            · rw [if_neg c21] at H
                              have c21b0 : (a0.toList == ([116, 117, 114, 110] : List UInt8)) = false := beq_eq_false_iff_ne.mpr c21
                              have c21b1 : (a0.toList != ([116, 117, 114, 110] : List UInt8)) = true := bne_iff_ne.mpr c21
                              by_cases c22 : a0.toList = ([102, 111, 114, 103, 101] : List UInt8)
                              · rw [if_pos c22] at H
                                have c22b0 : (a0.toList == ([102, 111, 114, 103, 101] : List UInt8)) = true := beq_iff_eq.mpr c22
                                have c22b1 : (a0.toList != ([102, 111, 114, 103, 101] : List UInt8)) = false := bne_eq_false_iff_eq.mpr c22
                                clear c22
                                simp only [Option.some.injEq, Prod.mk.injEq] at H
                                obtain ⟨rfl, rfl⟩ := H
                                go_wp2
                                go_ret2
                                exact ⟨by first | rfl | (simp; done) | (simp [*]; done), by repeat (first | exact Drawn0.refl _ | apply Drawn0.step)⟩
                              · rw [if_neg c22] at H
                                have c22b0 : (a0.toList == ([102, 111, 114, 103, 101] : List UInt8)) = false := beq_eq_false_iff_ne.mpr c22
                                have c22b1 : (a0.toList != ([102, 111, 114, 103, 101] : List UInt8)) = true := bne_iff_ne.mpr c22
                                simp only [Option.some.injEq, Prod.mk.injEq] at H
                                obtain ⟨rfl, rfl⟩ := H
                                go_wp2
                                go_ret2
                                exact ⟨by first | rfl | (simp; done) | (simp [*]; done), by repeat (first | exact Drawn0.refl _ | apply Drawn0.step)⟩

-- NOT PRINTED: function 10 (cordelleref31_Text)

-- NOT PRINTED: function 3 (cordellelaw31_LineTexts)

end Go.Proofs.YtddfpnljkaodcaaGreatDoor.PLineTexts
