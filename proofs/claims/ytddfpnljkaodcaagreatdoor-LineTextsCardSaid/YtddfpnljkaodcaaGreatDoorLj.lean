/-
  The walk of forms of layer 31 (line): it makes the map of what belongs to each word.
-/
import Derived.Test.YtddfpnljkaodcaaGreatDoorLi
namespace Go.Proofs.YtddfpnljkaodcaaGreatDoor
open Go.RowKit
set_option maxRecDepth 10000
def plainW : List ByteArray := [⟨#[99, 108, 111, 115, 101]⟩, ⟨#[99, 108, 111, 99, 107]⟩, ⟨#[112, 97, 116, 104, 115]⟩, ⟨#[102, 108, 111, 119, 115]⟩, ⟨#[112, 108, 97, 121, 101, 100]⟩, ⟨#[99, 111, 117, 110, 116, 115]⟩, ⟨#[97, 117, 100, 105, 116]⟩]
def pairW : List ByteArray := [⟨#[100, 101, 108, 105, 118, 101, 114]⟩, ⟨#[108, 111, 115, 101]⟩, ⟨#[116, 119, 105, 110]⟩]
def headTab : List (ByteArray × List Nat) := [(⟨#[115, 101, 115, 115, 105, 111, 110]⟩, [0, 0, 0, 0, 0, 0]), (⟨#[115, 117, 98, 109, 105, 116]⟩, [0, 2]), (⟨#[112, 97, 116, 104]⟩, [0, 0, 0]), (⟨#[116, 105, 99, 107]⟩, [0]), (⟨#[97, 108, 108]⟩, [1, 0]), (⟨#[110, 101, 116]⟩, [1, 0]), (⟨#[116, 117, 114, 110]⟩, [1, 0, 0, 0, 0]), (⟨#[102, 111, 114, 103, 101]⟩, [1, 0, 2])]
def tab1 (k : Nat) : List (ByteArray × List Nat) := headTab ++ (plainW.take k).map fun x => (x, [])
def tab2 (k : Nat) : List (ByteArray × List Nat) := tab1 7 ++ (pairW.take k).map fun x => (x, [1, 0, 0])
def formTabB : List (ByteArray × List Nat) := tab2 3
theorem ins_step {o : Oper} {a : Act} {K : Act → World → Prop} {Q : Exit → Act → World → Prop} {W : World} {B m : Nat} {tab : List (ByteArray × List Nat)} {k : ByteArray} {v : Value} (l : List Nat) (h : FMap W B m tab) (hv : PartsAt W B v l) (hk : tab.lookup k = none)
    (cont : ∀ W', FMap W' B m (tab ++ [(k, l)]) → Below B W W' → (∀ j, j ≠ m → W'.heap[j]? = W.heap[j]?) → K (a.put o.dst undef) W') :
    o.upon Tryz.prog a K Q (((Instr.mapUpdate 42 (.map (some m)) (.string k) v).run Tryz.prog W).andThen fun _ w' => Result.ok Next.skip w') := by
  obtain ⟨W', hr, h1, h2, h3⟩ := run_insert W B m tab k v l h hv hk
  rw [hr]
  exact cont W' h1 h2 h3
theorem parts_new (W : World) (B : Nat) (hB : B ≤ W.heap.size) (l : List Nat) : PartsAt (W.alloc (.cells (l.map fun n : Nat => Value.int .i64 (n : Int)).toArray 45)) B (.slice (some ⟨W.heap.size, 0, none⟩) l.length l.length) l :=
  .inr ⟨W.heap.size, hB, rfl, heap_alloc_new W _⟩

theorem tab1_new : ∀ k, k < 7 → ∀ x, plainW[k]? = some x → (tab1 k).lookup x = none := by
  intro k hk
  match k, hk with
  | 0, _ | 1, _ | 2, _ | 3, _ | 4, _ | 5, _ | 6, _ => intro x hx; simp only [plainW, List.getElem?_cons_zero, List.getElem?_cons_succ, Option.some.injEq] at hx; subst hx; decide +kernel
theorem tab2_new : ∀ k, k < 3 → ∀ x, pairW[k]? = some x → (tab2 k).lookup x = none := by
  intro k hk
  match k, hk with
  | 0, _ | 1, _ | 2, _ => intro x hx; simp only [pairW, List.getElem?_cons_zero, List.getElem?_cons_succ, Option.some.injEq] at hx; subst hx; decide +kernel

set_option maxHeartbeats 4000000 in
set_option maxRecDepth 100000 in
theorem forms_any (w : World) :
    Calls Tryz.prog 15 #[] w fun e w' => e = .returned (.map (some w.heap.size)) ∧ FMap w' w.heap.size w.heap.size formTabB ∧ Below w.heap.size w w' := by
  have hmm := @run_makeMap Tryz.prog
  have hF0 := (FMap.new w)
  have hb0 : Below w.heap.size w (w.alloc (.map #[] 0)) := (Below.refl _ w).alloc (Nat.le_refl _) _
  go_enter Tryz.func15, Tryz.ntmps15
  go_wp2
  refine ins_step [0, 0, 0, 0, 0, 0] (hF0.alloc _) (by have := parts_new (w.alloc (.map #[] 0)) w.heap.size hb0.size [0, 0, 0, 0, 0, 0]; simpa using this) (by decide +kernel) ?_
  intro W1 hF1 hi1 hs1
  have hb1 : Below w.heap.size w W1 := (hb0.alloc hb0.size _).trans hi1
  clear hF0 hb0 hi1 hs1
  go_wp2
  refine ins_step [0, 2] (hF1.alloc _) (parts_new _ _ hb1.size [0, 2]) (by decide +kernel) ?_
  intro W2 hF2 hi2 hs2
  have hb2 : Below w.heap.size w W2 := (hb1.alloc hb1.size _).trans hi2
  clear hF1 hb1 hi2 hs2
  go_wp2
  refine ins_step [0, 0, 0] (hF2.alloc _) (parts_new _ _ hb2.size [0, 0, 0]) (by decide +kernel) ?_
  intro W3 hF3 hi3 hs3
  have hb3 : Below w.heap.size w W3 := (hb2.alloc hb2.size _).trans hi3
  clear hF2 hb2 hi3 hs3
  go_wp2
  refine ins_step [0] (hF3.alloc _) (parts_new _ _ hb3.size [0]) (by decide +kernel) ?_
  intro W4 hF4 hi4 hs4
  have hb4 : Below w.heap.size w W4 := (hb3.alloc hb3.size _).trans hi4
  clear hF3 hb3 hi4 hs4
  go_wp2
  refine ins_step [1, 0] (hF4.alloc _) (parts_new _ _ hb4.size [1, 0]) (by decide +kernel) ?_
  intro W5 hF5 hi5 hs5
  have hb5 : Below w.heap.size w W5 := (hb4.alloc hb4.size _).trans hi5
  clear hF4 hb4 hi5 hs5
  go_wp2
  refine ins_step [1, 0] (hF5.alloc _) (parts_new _ _ hb5.size [1, 0]) (by decide +kernel) ?_
  intro W6 hF6 hi6 hs6
  have hb6 : Below w.heap.size w W6 := (hb5.alloc hb5.size _).trans hi6
  clear hF5 hb5 hi6 hs6
  go_wp2
  refine ins_step [1, 0, 0, 0, 0] (hF6.alloc _) (parts_new _ _ hb6.size [1, 0, 0, 0, 0]) (by decide +kernel) ?_
  intro W7 hF7 hi7 hs7
  have hb7 : Below w.heap.size w W7 := (hb6.alloc hb6.size _).trans hi7
  clear hF6 hb6 hi7 hs7
  go_wp2
  refine ins_step [1, 0, 2] (hF7.alloc _) (parts_new _ _ hb7.size [1, 0, 2]) (by decide +kernel) ?_
  intro W8 hF8 hi8 hs8
  have hb8 : Below w.heap.size w W8 := (hb7.alloc hb7.size _).trans hi8
  clear hF7 hb7 hi8 hs8
  go_wp2
  have hT8 : FMap W8 w.heap.size w.heap.size (tab1 0) := hF8
  clear hF8
  have hg : (W8.alloc (.cells (plainW.map Value.string).toArray 9)).heap[W8.heap.size]? = some (.cells (plainW.map Value.string).toArray 9 (0, 0)) := heap_alloc_new W8 _
  have hgm : W8.heap.size ≠ w.heap.size := by have := (Array.getElem?_eq_some_iff.1 hT8.2.choose_spec.choose_spec.1).1; omega
  have hT9 := hT8.alloc (.cells (plainW.map Value.string).toArray 9)
  have hb9 : Below w.heap.size w (W8.alloc (.cells (plainW.map Value.string).toArray 9)) := hb8.alloc hb8.size _
  generalize hgg : W8.heap.size = g at hg hgm ⊢
  clear hT8 hb8 hgg
  go_loopw [18] (fun i wr => ∃ k : Nat, k ≤ 7 ∧ i = .int .i64 k ∧ FMap wr w.heap.size w.heap.size (tab1 k) ∧ wr.heap[g]? = some (.cells (plainW.map Value.string).toArray 9 (0, 0)) ∧ Below w.heap.size w wr)
    (fun i _ => 7 - (intOf i).toNat)
  case atStart => exact ⟨0, by omega, rfl, hT9, hg, hb9⟩
  case round =>
    obtain ⟨k, hk, rfl, hT, hgk, hb⟩ := hrel
    clear hT9 hg hb9
    by_cases hlt : k < 7
    · obtain ⟨x, hx⟩ : ∃ x, plainW[k]? = some x := ⟨_, List.getElem?_eq_getElem (by simpa [plainW] using hlt)⟩
      have hcell : wr.cell? ⟨g, k, none⟩ = some (.string x) := by rw [Lib.cell_of_heap hgk]; simp [hx]
      have hnew : (tab1 k).lookup x = none := tab1_new k hlt x hx
      have htab : tab1 k ++ [(x, [])] = tab1 (k + 1) := by simp [tab1, List.take_add_one, hx]
      have HN := Lib.hid hnew
      have HT := Lib.hid htab
      clear hnew htab hx
      go_wp2
      refine ins_step [] hT (.inl ⟨rfl, rfl⟩) HN.out ?_
      intro w1 hF1 hi1 ho1
      rw [HT.out] at hF1
      go_wp2
      go_roundw
      case rel => exact ⟨k + 1, by omega, by go_num, hF1, by rw [ho1 g hgm]; exact hgk, hb.trans hi1⟩
      case measure => simp [intOf]; omega
    · have hk7 : k = 7 := by omega
      subst hk7
      go_wp2
      have hT2 : FMap wr w.heap.size w.heap.size (tab2 0) := hT
      clear hT hgk
      have hg : (wr.alloc (.cells (pairW.map Value.string).toArray 9)).heap[wr.heap.size]? = some (.cells (pairW.map Value.string).toArray 9 (0, 0)) := heap_alloc_new wr _
      have hgm2 : wr.heap.size ≠ w.heap.size := by have := (Array.getElem?_eq_some_iff.1 hT2.2.choose_spec.choose_spec.1).1; omega
      have hT9 := hT2.alloc (.cells (pairW.map Value.string).toArray 9)
      have hb9 : Below w.heap.size w (wr.alloc (.cells (pairW.map Value.string).toArray 9)) := hb.alloc hb.size _
      obtain ⟨wo, hwo⟩ : ∃ wo : World, wo = wr := ⟨_, rfl⟩
      subst hwo
      generalize hgg : wo.heap.size = g2 at hg hgm2 ⊢
      clear hT2 hb hgg
      go_loopw [27] (fun i wr => ∃ k : Nat, k ≤ 3 ∧ i = .int .i64 k ∧ FMap wr w.heap.size w.heap.size (tab2 k) ∧ wr.heap[g2]? = some (.cells (pairW.map Value.string).toArray 9 (0, 0)) ∧ Below w.heap.size w wr)
        (fun i _ => 3 - (intOf i).toNat)
      case atStart => exact ⟨0, by omega, rfl, hT9, hg, hb9⟩
      case round =>
        obtain ⟨k, hk, rfl, hT, hgk, hb⟩ := hrel
        clear hT9 hg hb9
        by_cases hlt : k < 3
        · obtain ⟨x, hx⟩ : ∃ x, pairW[k]? = some x := ⟨_, List.getElem?_eq_getElem (by simpa [pairW] using hlt)⟩
          have hcell : wr.cell? ⟨g2, k, none⟩ = some (.string x) := by rw [Lib.cell_of_heap hgk]; simp [hx]
          have hnew : (tab2 k).lookup x = none := tab2_new k hlt x hx
          have htab : tab2 k ++ [(x, [1, 0, 0])] = tab2 (k + 1) := by simp [tab2, List.take_add_one, hx]
          have HN := Lib.hid hnew
          have HT := Lib.hid htab
          clear hnew htab hx
          go_wp2
          refine ins_step [1, 0, 0] (hT.alloc _) (parts_new _ _ hb.size [1, 0, 0]) HN.out ?_
          intro w1 hF1 hi1 ho1
          rw [HT.out] at hF1
          have hgk1 : w1.heap[g2]? = some (.cells (pairW.map Value.string).toArray 9 (0, 0)) := by
            rw [ho1 g2 hgm2, Lib.alloc_old wr _ g2 (Array.getElem?_eq_some_iff.1 hgk).1]; exact hgk
          have hb1 : Below w.heap.size w w1 := (hb.alloc hb.size _).trans hi1
          clear hcell hgk ho1 hi1
          go_wp2
          go_roundw
          case rel =>
            refine ⟨_, _, _, _, _, _, _, _, _, ⟨k + 1, by omega, by go_num, hF1, hgk1, hb1⟩, rfl⟩
          case measure => simp [intOf]; omega
        · have hk3 : k = 3 := by omega
          subst hk3
          go_wp2
          go_ret
          exact ⟨rfl, hT, hb⟩
end Go.Proofs.YtddfpnljkaodcaaGreatDoor
