/-
  The walk of Parse of layer 31 (line).
-/
import Derived.Test.YtddfpnljkaodcaaGreatDoorLk
namespace Go.Proofs.YtddfpnljkaodcaaGreatDoor
open Go.RowKit

/-- what the program's memory lays for layer 31: the table of ways, utf8's tables, one number -/
structure Glob (w : World) : Prop where
  utf : Lib.Utf8Tabs 3 4 w
  ways : WaysAt w
  len : ∃ m, w.cell? ⟨2, 0, none⟩ = some (.int .i64 m)
  pow : Lib.TabIs Tryz.prog w "internal/strconv.uint64pow10" .u64 Lib.pow10Tab
theorem tab_below {n : String} {g : Nat} {k : IntKind} {zs : List Int} {w w' : World} (hg : Tryz.prog.globalNamed n = some g) (h : Lib.TabIs Tryz.prog w n k zs) (hb : Below w.heap.size w w') : Lib.TabIs Tryz.prog w' n k zs := by
  unfold Lib.TabIs World.var? at h ⊢
  rw [hg] at h ⊢
  simp only [Option.bind_some] at h ⊢
  have hlt : g < w.heap.size := by
    rcases Nat.lt_or_ge g w.heap.size with h' | h'
    · exact h'
    · rw [Array.getElem?_eq_none h'] at h; cases h
  rw [hb.block g hlt]
  exact h
theorem pow_named : Tryz.prog.globalNamed "internal/strconv.uint64pow10" = some 1 := by kernel_rfl
theorem Glob.below {w w' : World} (h : Glob w) (hb : Below w.heap.size w w') : Glob w' := by
  have hc : ∀ (a : Addr) v, w.cell? a = some v → w'.cell? a = some v := fun a v hv => (hb.cell (World.block_lt_of_cell? w a hv)).trans hv
  exact ⟨Utf8Tabs_below h.utf hb, ⟨hc _ _ h.ways.1, hc _ _ h.ways.2⟩, by obtain ⟨m, hm⟩ := h.len; exact ⟨m, hc _ _ hm⟩, tab_below pow_named h.pow hb⟩

def StepIs (s : ByteArray) (word : ByteArray) (N : List Int) (S : List ByteArray) (err : Int) : Prop :=
  word.data.toList = (Pl.parseF s.data.toList).1.word ∧ N = (Pl.parseF s.data.toList).1.N.map (fun n : Nat => (n : Int)) ∧ S.map (·.data.toList) = (Pl.parseF s.data.toList).1.S ∧ err = (Pl.parseF s.data.toList).2
def PostP (s : ByteArray) (w : World) (e : Ending) (w' : World) : Prop :=
  ∃ word N S err vN vS, e = .returned (.tuple #[.agg #[.string word, vN, vS], .int .i64 err]) ∧ StepIs s word N S err ∧ w'.ownsRow w.heap.size 3 1 vN N.length (ints N) ∧ w'.ownsRow w.heap.size 9 1 vS S.length (strs S) ∧ Below w.heap.size w w'

theorem step_err (s : ByteArray) (w w' : World) (e : Ending) (err : Int) (he : e = .returned (.tuple #[.agg #[.string ⟨#[]⟩, .slice none 0 0, .slice none 0 0], .int .i64 err])) (h : Pl.parseF s.data.toList = (⟨[], [], []⟩, err.toNat)) (h0 : 0 ≤ err) (hb : Below w.heap.size w w') : PostP s w e w' := by
  refine ⟨⟨#[]⟩, [], [], err, _, _, he, ⟨by rw [h], by rw [h]; rfl, by rw [h]; rfl, by rw [h]; omega⟩, ⟨by simp [ints], .inl ⟨rfl, rfl⟩⟩, ⟨by simp [strs], .inl ⟨rfl, rfl⟩⟩, hb⟩

set_option maxHeartbeats 2000000 in
set_option maxRecDepth 100000 in
theorem parse_big (s : ByteArray) (w : World) (hs : 4000 < s.size) : Calls Tryz.prog 11 #[.string s] w (PostP s w) := by
  have hz : (4000 : Int) < (s.size : Int) := by omega
  have hp : Pl.parseF s.data.toList = (⟨[], [], []⟩, (3 : Int).toNat) := by
    unfold Pl.parseF; rw [if_pos (by simpa using hs)]; rfl
  have HP := Lib.hid hp
  clear hp
  go_enter Tryz.func11, Tryz.ntmps11
  go_wp2
  refine bodyPost_ret (v := .tuple #[.agg #[.string ⟨#[]⟩, .slice none 0 0, .slice none 0 0], .int .i64 3]) (by simp [results, Tryz.results11, go_sem]) rfl ?_
  exact step_err s w _ _ 3 rfl HP.out (by decide) ((Below.refl _ _).alloc (Nat.le_refl _) _)

def PostS (s : ByteArray) (W : World) (e : Ending) (w' : World) : Prop :=
  ∃ d : Array ByteArray, d.toList = splitL s ∧ d.size ≤ 1000000 ∧ e = .returned (.slice (some ⟨W.heap.size, 0, none⟩) d.size d.size) ∧ Go.Sort.Holds Value.string w' W.heap.size 0 d ∧ Below W.heap.size W w' ∧ w'.heap.size = W.heap.size + 1
theorem split_any (s : ByteArray) (W : World) (hs : s.size ≤ 4000) (hG : Glob W) : Calls Tryz.prog 23 #[.string s, .string { data := #[32] }] W (PostS s W) := by
  obtain ⟨m, hm⟩ := hG.len
  refine (Tryz.strings_Split s blankB m W (by omega) hm (by decide)).mono ?_
  rintro e w' ⟨rfl, rfl⟩
  have hl := splitL_length s
  have hcle := Lib.countB_le blankB (by decide) s.size s (Nat.le_refl _)
  refine ⟨(splitL s).toArray, by simp, by simp [hl]; omega, by simp [hl], ?_, (Below.refl _ _).alloc (Nat.le_refl _) _, by simp⟩
  intro j hj
  have hj' : j < (splitL s).length := by simpa using hj
  have hh := heap_alloc_new W (.cells ((splitL s).map Value.string).toArray 9)
  refine ⟨?_, Lib.frozen_of_heap hh _⟩
  show (W.alloc (.cells ((splitL s).map Value.string).toArray 9)).cell? _ = _
  rw [Lib.cell_of_heap hh, Nat.zero_add]
  simp [getElem!_pos, hj']
/-- behind Split and DeleteFunc: the parts lie in block g -/
theorem parts_pred (s : ByteArray) (d : Array ByteArray) (hd : d.toList = splitL s) : (d.toList.filter fun x => !x.toList.isEmpty) = partsL s := by rw [hd]; rfl

set_option maxHeartbeats 2000000 in
set_option maxRecDepth 100000 in
theorem parse_none (s : ByteArray) (w : World) (hG : Glob w) (hs : s.size ≤ 4000) (hn : partsL s = []) : Calls Tryz.prog 11 #[.string s] w (PostP s w) := by
  have hz : ¬ (4000 : Int) < (s.size : Int) := by omega
  have hp : Pl.parseF s.data.toList = (⟨[], [], []⟩, (1 : Int).toNat) := by
    unfold Pl.parseF; rw [if_neg (by have : s.data.toList.length = s.size := by simp
                                     omega), ← partsL_data, hn]; rfl
  have HP := Lib.hid hp
  have hb0 : Below w.heap.size w (w.alloc (.cells #[.string ⟨#[]⟩, .slice none 0 0, .slice none 0 0] 29)) := (Below.refl _ w).alloc (Nat.le_refl _) _
  have hres := heap_alloc_new w (.cells #[.string ⟨#[]⟩, .slice none 0 0, .slice none 0 0] 29)
  have HG := Lib.hid (hG.below hb0)
  have HN := Lib.hid hn
  clear hp hG hn
  go_enter Tryz.func11, Tryz.ntmps11
  go_wp2_with (go_at_call 23; refine (split_any s _ hs HG.out).mono ?_)
  rintro e w1 ⟨d, hd, hdl, rfl, hH, hb1, hz1⟩
  have HD := Lib.hid hd
  have hres1 : w1.heap[w.heap.size]? = some (.cells #[.string ⟨#[]⟩, .slice none 0 0, .slice none 0 0] 29 (0, 0)) := by rw [hb1.block _ (by simp)]; exact hres
  have hb01 : Below w.heap.size w w1 := hb0.trans (hb1.mono hb0.size)
  have hH' : Go.Sort.Holds Value.string w1 (w.heap.size + 1) 0 d := by simpa using hH
  have hHH := Lib.hid hH'
  have hZ := Lib.hid hz1
  clear hd hb0 hres hb1 hH hH' hz1
  go_wp2_with (go_at_call 22; refine (del_any d (w.heap.size + 1) w1 hHH.out (by omega)).mono ?_)
  rintro e w2 ⟨rfl, hI, hbB, hz2⟩
  have hp0 : (d.toList.filter fun x => !x.toList.isEmpty) = [] := by rw [parts_pred s d HD.out]; exact HN.out
  rw [hp0]
  have hb02 : Below w.heap.size w w2 := hb01.trans (hbB _ (by omega))
  have hres2 : w2.heap[w.heap.size]? = some (.cells #[.string ⟨#[]⟩, .slice none 0 0, .slice none 0 0] 29 (0, 0)) := by
    rw [(hbB (w.heap.size + 1) (Nat.le_refl _)).block _ (by omega)]; exact hres1
  have c0 : w2.cell? ⟨w.heap.size, 0, none⟩ = some (.string ⟨#[]⟩) := by rw [Lib.cell_of_heap hres2]; rfl
  have c1 : w2.cell? ⟨w.heap.size, 1, none⟩ = some (.slice none 0 0) := by rw [Lib.cell_of_heap hres2]; rfl
  have c2 : w2.cell? ⟨w.heap.size, 2, none⟩ = some (.slice none 0 0) := by rw [Lib.cell_of_heap hres2]; rfl
  have f0 : w2.frozen? ⟨w.heap.size, 0, none⟩ = false := Lib.frozen_of_heap hres2 0
  have f1 : w2.frozen? ⟨w.heap.size, 1, none⟩ = false := Lib.frozen_of_heap hres2 1
  have f2 : w2.frozen? ⟨w.heap.size, 2, none⟩ = false := Lib.frozen_of_heap hres2 2
  clear hI hbB hz2 hp0 hres1 hb01 hres2
  go_wp2
  refine bodyPost_ret (v := .tuple #[.agg #[.string ⟨#[]⟩, .slice none 0 0, .slice none 0 0], .int .i64 1]) (by simp [results, Tryz.results11, go_sem, c0, c1, c2]) rfl ?_
  exact step_err s w _ _ 1 rfl HP.out (by decide) (by first | exact ((hb02.setCell (p := ⟨w.heap.size, 0, none⟩) (Nat.le_refl _) _).setCell (p := ⟨w.heap.size, 1, none⟩) (Nat.le_refl _) _).setCell (p := ⟨w.heap.size, 2, none⟩) (Nat.le_refl _) _ | exact hb02)
end Go.Proofs.YtddfpnljkaodcaaGreatDoor
