/-
  Layer 31 (line): texts as lists of bytes, and what the document's printed Form answers.
-/
import Derived.Test.YtddfpnljkaodcaaGreatDoorPLineTextsx11
import Derived.Test.YtddfpnljkaodcaaGreatDoorPlain
namespace Go.Proofs.YtddfpnljkaodcaaGreatDoor.Dp
open Go.RowKit Go.Proofs.YtddfpnljkaodcaaGreatDoor Go.Proofs.YtddfpnljkaodcaaGreatDoor.PLineTexts Go.Proofs.YtddfpnljkaodcaaGreatDoorW.PrintWords

def dl (s : ByteArray) : List UInt8 := s.data.toList
@[simp] theorem dl_len (s : ByteArray) : (dl s).length = s.size := by simp [dl]
theorem toList_dl (s : ByteArray) : s.toList = dl s := Lib.toList_data s
theorem dl_inj {a b : ByteArray} (h : dl a = dl b) : a = b := ByteArray.ext (Array.toList_inj.mp h)
theorem dbt_dl (s : ByteArray) (i : Nat) (h : i < s.size) : bt s (i : Int) = (((dl s)[i]'(by rw [dl_len]; exact h)).toNat : Int) := by
  have h' : (i : Int).toNat < s.size := by omega
  rw [← bt_at s i h']
  rfl
theorem dwrap_up (i : Int) (h0 : -1000000000000 ≤ i) (h : i ≤ 1000000000000) : wrap64 i = i := by unfold wrap64; omega
theorem dl_extract (s : ByteArray) (a b : Nat) : dl (s.extract a b) = ((dl s).drop a).take (b - a) := by
  rw [← toList_dl s, toList_dl s, ← toList_dl, Lib.extract_toList]; rfl

/-! ### Form -/
def code : Nat → UInt8 := fun k => if k = 0 then 110 else if k = 1 then 119 else 98
set_option linter.unusedSimpArgs false in
theorem form_f (w : ByteArray) (k : Nat) : cordelleref31_Form.f (k + 3) w = some (match Pl.formF (dl w) with | some f => (⟨(f.map code).toArray⟩, true) | none => (⟨#[]⟩, false)) := by
  unfold cordelleref31_Form.f
  simp only [toList_dl, cordelleref31_Form.j0, cordelleref31_Form.j1, cordelleref31_Form.j2]
  generalize dl w = X
  unfold Pl.formF Pl.formTab
  simp only [List.lookup, Pl.w_all, Pl.w_audit, Pl.w_clock, Pl.w_close, Pl.w_counts, Pl.w_deliver, Pl.w_flows, Pl.w_forge, Pl.w_lose, Pl.w_net, Pl.w_path, Pl.w_paths, Pl.w_played, Pl.w_session, Pl.w_submit, Pl.w_tick, Pl.w_turn, Pl.w_twin]
  by_cases h : X = [97, 108, 108]
  · subst h; rfl
  by_cases h1 : X = [97, 117, 100, 105, 116]
  · subst h1; rfl
  by_cases h2 : X = [99, 108, 111, 99, 107]
  · subst h2; rfl
  by_cases h3 : X = [99, 108, 111, 115, 101]
  · subst h3; rfl
  by_cases h4 : X = [99, 111, 117, 110, 116, 115]
  · subst h4; rfl
  by_cases h5 : X = [100, 101, 108, 105, 118, 101, 114]
  · subst h5; rfl
  by_cases h6 : X = [102, 108, 111, 119, 115]
  · subst h6; rfl
  by_cases h7 : X = [102, 111, 114, 103, 101]
  · subst h7; rfl
  by_cases h8 : X = [108, 111, 115, 101]
  · subst h8; rfl
  by_cases h9 : X = [110, 101, 116]
  · subst h9; rfl
  by_cases ha : X = [112, 97, 116, 104]
  · subst ha; rfl
  by_cases hb : X = [112, 97, 116, 104, 115]
  · subst hb; rfl
  by_cases hc : X = [112, 108, 97, 121, 101, 100]
  · subst hc; rfl
  by_cases hd : X = [115, 101, 115, 115, 105, 111, 110]
  · subst hd; rfl
  by_cases he : X = [115, 117, 98, 109, 105, 116]
  · subst he; rfl
  by_cases hf : X = [116, 105, 99, 107]
  · subst hf; rfl
  by_cases hg : X = [116, 117, 114, 110]
  · subst hg; rfl
  by_cases hh : X = [116, 119, 105, 110]
  · subst hh; rfl
  simp [h, h1, h2, h3, h4, h5, h6, h7, h8, h9, ha, hb, hc, hd, he, hf, hg, hh, beq_eq_false_iff_ne.2 h, beq_eq_false_iff_ne.2 h1, beq_eq_false_iff_ne.2 h2, beq_eq_false_iff_ne.2 h3, beq_eq_false_iff_ne.2 h4, beq_eq_false_iff_ne.2 h5, beq_eq_false_iff_ne.2 h6, beq_eq_false_iff_ne.2 h7, beq_eq_false_iff_ne.2 h8, beq_eq_false_iff_ne.2 h9, beq_eq_false_iff_ne.2 ha, beq_eq_false_iff_ne.2 hb, beq_eq_false_iff_ne.2 hc, beq_eq_false_iff_ne.2 hd, beq_eq_false_iff_ne.2 he, beq_eq_false_iff_ne.2 hf, beq_eq_false_iff_ne.2 hg, beq_eq_false_iff_ne.2 hh]

/-! ### Parse -/
end Go.Proofs.YtddfpnljkaodcaaGreatDoor.Dp
