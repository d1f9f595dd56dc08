/-
  What stands ahead of Parse's loop: the closure of DeleteFunc, DeleteFunc at it, the plain words for a line's parts.
-/
import Derived.Test.YtddfpnljkaodcaaGreatDoorLj
import Derived.Lib.OwnBridge
import Derived.Shelf.SlicesE.DeleteFunc
namespace Go.Proofs.YtddfpnljkaodcaaGreatDoor
open Go.RowKit Go.Shelf Go.Lib Go.Sort

theorem gives16 (x : ByteArray) (W : World) : FnGives Tryz.prog 24 #[] #[.string x] (.bool x.toList.isEmpty) W := by
  show Calls Tryz.prog 24 #[.string x] W _
  go_enter Tryz.func24, Tryz.ntmps24
  go_wp2
  go_ret
  exact ⟨rfl, 0, rfl⟩

def StrsIn (w : World) (g : Nat) (l : List ByteArray) : Prop := ∀ j (h : j < l.length), w.cell? ⟨g, j, none⟩ = some (.string l[j])
theorem StrsIn.below {w w' : World} {g : Nat} {l : List ByteArray} {B : Nat} (h : StrsIn w g l) (hb : Below B w w') (hg : g < B) : StrsIn w' g l :=
  fun j hj => (hb.cell (p := ⟨g, j, none⟩) hg).trans (h j hj)
def PostD (d : Array ByteArray) (g : Nat) (W : World) (e : Ending) (w' : World) : Prop :=
  e = .returned (.slice (some ⟨g, 0, none⟩) (d.toList.filter fun x => !x.toList.isEmpty).length d.size) ∧ StrsIn w' g (d.toList.filter fun x => !x.toList.isEmpty) ∧ (∀ B, B ≤ g → Below B W w') ∧ w'.heap.size = W.heap.size

theorem del_any (d : Array ByteArray) (g : Nat) (W : World) (hH : Holds Value.string W g 0 d) (hsz : d.size ≤ 9223372036854775807) :
    Calls Tryz.prog 22 #[.slice (some ⟨g, 0, none⟩) d.size d.size, .func (.func 24) #[] #[]] W (PostD d g W) := by
  have eg : ∀ args w, (callFunc 24 args).run Tryz.prog w = .ok (.enter 24 args) w := enters_of Tryz.func24 (by kernel_rfl) rfl
  refine (Tryz.slices_DeleteFunc Value.string (fun _ => rfl) (fun x => x.toList.isEmpty) 24 #[] eg ⟨#[]⟩ Tryz.zeroValue9 g 0 d.size d W (fun W' x _ => gives16 x W') (fun n os dk x _ => gives16 x _) hH hsz (Nat.le_refl _)).mono ?_
  rintro e w' ⟨rfl, q, rfl⟩
  have hle : (d.toList.filter fun x => !x.toList.isEmpty).length ≤ d.size := by have := List.length_filter_le (fun x => !x.toList.isEmpty) d.toList; simpa using this
  refine ⟨rfl, ?_, fun B hB => below_putRow (Below.refl _ _) hB, size_putRow _ _ _ _ _⟩
  intro j hj
  have hh := holds_putRow Value.string (Sort.ahead W q) g 0 d ((d.toList.filter fun x => !x.toList.isEmpty) ++ List.replicate (d.size - (d.toList.filter fun x => !x.toList.isEmpty).length) (⟨#[]⟩ : ByteArray)).toArray (holds_ahead Value.string W q g 0 d hH) (by simp; omega)
  have := (hh j (by simp; omega)).1
  rw [Nat.zero_add] at this
  rw [this]
  congr 2
  rw [getElem!_pos _ j (by simp; omega)]
  simp [List.getElem_append_left hj]

/-- a line's parts, as texts -/
def blankB : ByteArray := ⟨#[32]⟩
def splitL (s : ByteArray) : List ByteArray := splitB blankB 0 (countB s blankB) s
def partsL (s : ByteArray) : List ByteArray := (splitL s).filter fun x => !x.toList.isEmpty
theorem filter_map_data (l : List ByteArray) : (l.filter fun x => !x.toList.isEmpty).map (·.data.toList) = (l.map (·.data.toList)).filter fun p => !p.isEmpty := by
  induction l with
  | nil => rfl
  | cons a r ih =>
    rw [List.map_cons, List.filter_cons, List.filter_cons, Lib.toList_data]
    cases a.data.toList.isEmpty <;> simp [ih]
theorem partsL_data (s : ByteArray) : (partsL s).map (·.data.toList) = Pl.partsF s.data.toList := by
  unfold partsL
  rw [filter_map_data, splitL, splitB_data]
  exact Pl.split_parts _ _ rfl
theorem splitL_length (s : ByteArray) : (splitL s).length = countB s blankB + 1 := splitB_all blankB (by decide) 0 _ s rfl
end Go.Proofs.YtddfpnljkaodcaaGreatDoor
