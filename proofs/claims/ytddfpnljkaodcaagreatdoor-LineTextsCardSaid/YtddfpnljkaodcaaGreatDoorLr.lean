/-
  The walk of Text of layer 31 (line): what a step's text is.
-/
import Derived.Test.YtddfpnljkaodcaaGreatDoorLq
import Derived.Deep.RegionHeld3
import Derived.BigQuiet
import Derived.Deep.QuietTactic
namespace Go.Proofs.YtddfpnljkaodcaaGreatDoor
open Go.RowKit

/-- the parts of a text behind its word -/
def emit : List Nat → List Int → List (List UInt8) → List (List UInt8)
  | [], _, _ => []
  | 2 :: f, N, t :: S => hexF t :: emit f N S
  | 2 :: f, N, [] => emit f N []
  | 1 :: f, n :: N, S => if 0 ≤ n ∧ n < 2 then (if n = 0 then Pl.there else Pl.back) :: emit f N S else emit f (n :: N) S
  | 1 :: f, [], S => emit f [] S
  | 0 :: f, n :: N, S => Lib.itoa n :: emit f N S
  | _ :: f, N, S => emit f N S
def kindsOf (word : ByteArray) : List Nat := (formTabB.lookup word).getD []
def textL (word : ByteArray) (N : List Int) (S : List ByteArray) : List UInt8 := Lib.join (word.data.toList :: emit (kindsOf word) N (S.map (·.data.toList))) [32]
/-- is that text read as just this step? -/
def ReadsAs (t : List UInt8) (word : ByteArray) (N : List Int) (S : List ByteArray) : Prop :=
  (Pl.parseF t).2 = 0 ∧ (Pl.parseF t).1.word = word.data.toList ∧ (Pl.parseF t).1.N.map (fun n : Nat => (n : Int)) = N ∧ (Pl.parseF t).1.S = S.map (·.data.toList)
instance (t : List UInt8) (word : ByteArray) (N : List Int) (S : List ByteArray) : Decidable (ReadsAs t word N S) := by unfold ReadsAs; infer_instance
def textF (word : ByteArray) (N : List Int) (S : List ByteArray) : List UInt8 := if ReadsAs (textL word N S) word N S then textL word N S else []

theorem run_look1 (W : World) (B m : Nat) (tab : List (ByteArray × List Nat)) (k : ByteArray) (h : FMap W B m tab) :
    ∃ v, (Instr.lookup 42 (.map (some m)) (.string k) false).run Tryz.prog W = .ok v W ∧ PartsAt W B v ((tab.lookup k).getD []) := by
  obtain ⟨hB, es, clock, hm, ha, _⟩ := h
  cases hk : tab.lookup k with
  | none =>
    have hf := find_not k 0 ha hk
    refine ⟨.slice none 0 0, ?_, .inl ⟨rfl, rfl⟩⟩
    simp [Instr.lookup, Sem.run_bind, run_underlying Tryz.underlying42, Result.andThen, getObj, Sem.run, hm, check_string, Instr.findKey, run_underlying Tryz.underlying9, hf, Tryz.zeroValue43]
  | some l =>
    obtain ⟨j, v, hf, hp⟩ := find_yes k 0 l ha hk
    refine ⟨v, ?_, hp⟩
    simp [Instr.lookup, Sem.run_bind, run_underlying Tryz.underlying42, Result.andThen, getObj, Sem.run, hm, check_string, Instr.findKey, run_underlying Tryz.underlying9, hf]

def PostX (word : ByteArray) (N : List Int) (S : List ByteArray) (w : World) (e : Ending) (w' : World) : Prop :=
  e = .returned (.string ⟨(textF word N S).toArray⟩) ∧ Below w.heap.size w w'

theorem kindsOf_len (word : ByteArray) : (kindsOf word).length ≤ 6 := by
  unfold kindsOf
  cases h : formTabB.lookup word with
  | none => simp
  | some f => exact kinds_len word f h
theorem kindsOf_le (word : ByteArray) : ∀ n ∈ kindsOf word, n ≤ 2 := by
  unfold kindsOf
  cases h : formTabB.lookup word with
  | none => simp
  | some f => exact kinds_le word f h
theorem PartsAt.lower {W : World} {B B' : Nat} {v : Value} {l : List Nat} (h : PartsAt W B v l) (hB : B' ≤ B) : PartsAt W B' v l := by
  rcases h with h | ⟨g, hg, hv, hh⟩
  · exact .inl h
  · exact .inr ⟨g, by omega, hv, hh⟩
theorem PartsAt.form' {W : World} {B : Nat} {A : Option Addr} {l : List Nat} (h : PartsAt W B (.slice A l.length l.length) l) : ∀ j (hj : j < l.length), ∃ g, A = some ⟨g, 0, none⟩ ∧ g < W.heap.size ∧ W.cell? ⟨g, j, none⟩ = some (.int .i64 (l[j] : Int)) := by
  obtain ⟨A', he, h'⟩ := h.form
  have : A = A' := by injection he
  subst this
  exact h'
structure TI (w : World) (word : ByteArray) (N : List Int) (S : List ByteArray) (AN : Option Addr) (cN : Nat) (AS : Option Addr) (cS : Nat) (f : List Nat) (A2 : Option Addr) (wr : World) (k : Nat) (vout : Value) (outs : List ByteArray)
    (A4 : Option Addr) (c4 : Nat) (Nr : List Int) (A5 : Option Addr) (c5 : Nat) (Sr : List ByteArray) : Prop where
  hk : k ≤ f.length
  own : wr.ownsRow w.heap.size 9 1 vout outs.length (strs outs)
  n1 : Nr.length ≤ c4
  n2 : RdS wr w.heap.size A4 (ints Nr)
  n3 : ∀ n ∈ Nr, -9223372036854775808 ≤ n ∧ n ≤ 9223372036854775807
  s1 : Sr.length ≤ c5
  s2 : RdS wr w.heap.size A5 (strs Sr)
  s3 : ∀ t ∈ Sr, t.size ≤ 100000
  em : word.data.toList :: emit f N (S.map (·.data.toList)) = outs.map (·.data.toList) ++ emit (f.drop k) Nr (Sr.map (·.data.toList))
  ol : outs.length ≤ k + 1
  o1 : 1 ≤ outs.length
  ole : Lib.lens (outs.map (·.data.toList)) ≤ 300000 * outs.length
  box : wr.heap[w.heap.size]? = some (.cells #[.string word, .slice AN N.length cN, .slice AS S.length cS] 29 (0, 0))
  pa : PartsAt wr w.heap.size (.slice A2 f.length f.length) f
  bl : Below w.heap.size w wr
theorem TI.skip {w : World} {word : ByteArray} {N : List Int} {S : List ByteArray} {AN : Option Addr} {cN : Nat} {AS : Option Addr} {cS : Nat} {f : List Nat} {A2 : Option Addr} {wr : World} {k : Nat} {vout : Value} {outs : List ByteArray}
    {A4 : Option Addr} {c4 : Nat} {Nr : List Int} {A5 : Option Addr} {c5 : Nat} {Sr : List ByteArray} (h : TI w word N S AN cN AS cS f A2 wr k vout outs A4 c4 Nr A5 c5 Sr) (hlt : k < f.length)
    (he : emit (f.drop k) Nr (Sr.map (·.data.toList)) = emit (f.drop (k + 1)) Nr (Sr.map (·.data.toList))) : TI w word N S AN cN AS cS f A2 wr (k + 1) vout outs A4 c4 Nr A5 c5 Sr :=
  { h with hk := hlt, em := by rw [h.em, he], ol := by have := h.ol; omega }

theorem lens_snoc (l : List (List UInt8)) (x : List UInt8) : Lib.lens (l ++ [x]) = Lib.lens l + x.length := by simp [Lib.lens]
theorem TI.push {w : World} {word : ByteArray} {N : List Int} {S : List ByteArray} {AN : Option Addr} {cN : Nat} {AS : Option Addr} {cS : Nat} {f : List Nat} {A2 : Option Addr} {wr : World} {k : Nat} {vout : Value} {outs : List ByteArray}
    {A4 : Option Addr} {c4 : Nat} {Nr : List Int} {A5 : Option Addr} {c5 : Nat} {Sr : List ByteArray} (h : TI w word N S AN cN AS cS f A2 wr k vout outs A4 c4 Nr A5 c5 Sr) (hlt : k < f.length)
    {w1 w2 : World} {t : ByteArray} {v' : Value} {A4' : Option Addr} {c4' : Nat} {Nr' : List Int} {A5' : Option Addr} {c5' : Nat} {Sr' : List ByteArray}
    (hb1 : Below wr.heap.size wr w1) (hown' : w2.ownsRow w.heap.size 9 1 v' (outs.length + 1) (strs outs ++ [.string t])) (hgrow : (w1.alloc (.cells #[.string t] 9)).grownBy w2 vout.ownBlock)
    (hn1 : Nr'.length ≤ c4') (hn2 : RdS wr w.heap.size A4' (ints Nr')) (hn3 : ∀ n ∈ Nr', -9223372036854775808 ≤ n ∧ n ≤ 9223372036854775807)
    (hs1 : Sr'.length ≤ c5') (hs2 : RdS wr w.heap.size A5' (strs Sr')) (hs3 : ∀ t ∈ Sr', t.size ≤ 100000) (ht : t.size ≤ 299999)
    (he : emit (f.drop k) Nr (Sr.map (·.data.toList)) = t.data.toList :: emit (f.drop (k + 1)) Nr' (Sr'.map (·.data.toList))) : TI w word N S AN cN AS cS f A2 w2 (k + 1) v' (outs ++ [t]) A4' c4' Nr' A5' c5' Sr' := by
  have hbl := h.bl.size
  have hb1s := hb1.size
  have hb12 : Below w.heap.size wr w2 := (((hb1.mono hbl).alloc (by omega) _).grown hgrow (by simp; omega) (fun k hk => (h.own.lt k hk).1))
  have hkeep : ∀ (g : Nat) c e, e ≠ 9 → wr.heap[g]? = some (.cells c e (0, 0)) → w2.heap[g]? = some (.cells c e (0, 0)) := by
    intro g c e hne hg
    have hlt := (Array.getElem?_eq_some_iff.1 hg).1
    have hnb := own_ne h.own hg (Ne.symm hne)
    rw [hgrow.block g (by simp; omega) (fun e => hnb e.symm), Lib.alloc_old w1 _ g (by omega), hb1.block g hlt]
    exact hg
  exact {
    hk := hlt
    own := by simpa [strs] using hown'
    n1 := hn1
    n2 := hn2.below hb12 (Nat.le_refl _)
    n3 := hn3
    s1 := hs1
    s2 := hs2.below hb12 (Nat.le_refl _)
    s3 := hs3
    em := by rw [h.em, he]; simp
    ol := by have := h.ol; simp; omega
    o1 := by simp
    ole := by
      have h1 := h.ole
      rw [List.map_append, List.map_cons, List.map_nil, lens_snoc, List.length_append, List.length_singleton]
      have : t.data.toList.length = t.size := by simp
      omega
    box := hkeep _ _ _ (by decide) h.box
    pa := by
      rcases h.pa with hp | ⟨g, hg, hv, hh⟩
      · exact .inl hp
      · exact .inr ⟨g, hg, hv, hkeep _ _ _ (by decide) hh⟩
    bl := h.bl.trans hb12 }
theorem RdS.tail {w : World} {B g o : Nat} {x : Value} {xs : List Value} (h : RdS w B (some ⟨g, o, none⟩) (x :: xs)) : RdS w B (some ⟨g, o + 1, none⟩) xs := by
  rcases h with h | ⟨g', o', he, hg, hc⟩
  · simp at h
  · injection he with he
    injection he with h1 h2
    subst h1 h2
    refine .inr ⟨g, o + 1, rfl, hg, fun j hj => ?_⟩
    have := hc (j + 1) (by simp; omega)
    rw [show o + 1 + j = o + (j + 1) by omega, this]
    simp
theorem RdS.head {w : World} {B : Nat} {A : Option Addr} {x : Value} {xs : List Value} (h : RdS w B A (x :: xs)) : ∃ g o, A = some ⟨g, o, none⟩ ∧ w.cell? ⟨g, o, none⟩ = some x ∧ g < B := by
  rcases h with h | ⟨g, o, he, hg, hc⟩
  · simp at h
  · exact ⟨g, o, he, by have := hc 0 (by simp); simpa using this, hg⟩

theorem RdS.cut {w : World} {B g o c n : Nat} {x : Value} {xs : List Value} (h : RdS w B (some ⟨g, o, none⟩) (x :: xs)) (hc : n + 1 ≤ c) (hn : xs.length = n) : RdS w B (if c = 1 then some ⟨g, o, none⟩ else some ⟨g, o + 1, none⟩) xs := by
  by_cases h1 : c = 1
  · rw [if_pos h1]; exact .inl (List.eq_nil_of_length_eq_zero (by omega))
  · rw [if_neg h1]; exact h.tail
theorem hexF_size (t : ByteArray) (h : t.size ≤ 100000) : (⟨(hexF t.data.toList).toArray⟩ : ByteArray).size ≤ 299999 := by
  show (hexF t.data.toList).toArray.size ≤ 299999
  unfold hexF
  have hl := hexL_length t.data.toList
  have : t.data.toList.length = t.size := by simp
  split
  · simp
  · simp only [List.size_toArray]; omega
theorem itoa_size (n : Int) (h0 : -9223372036854775808 ≤ n) (h1 : n ≤ 9223372036854775807) : (⟨(Lib.itoa n).toArray⟩ : ByteArray).size ≤ 299999 := by
  show (Lib.itoa n).toArray.size ≤ 299999
  have key : ∀ u : Nat, u < 10 ^ 20 → (Lib.decDigits u).length ≤ 20 := by
    intro u hu
    rw [Lib.decDigits_length]
    rcases Nat.lt_or_ge 20 (Lib.nDigits u) with h | h
    · have h2 : ∀ (k v : Nat), Lib.nDigits v = k + 1 → 1 ≤ v → 10 ^ k ≤ v := by
        intro k
        induction k with
        | zero => intro v _ hv; simpa using hv
        | succ k ih =>
          intro v hv h1
          by_cases hs : v < 10
          · rw [Lib.nDigits_small hs] at hv; omega
          · rw [Lib.nDigits_big hs] at hv
            have := ih (v / 10) (by omega) (by omega)
            rw [Nat.pow_succ]; omega
      obtain ⟨m, hm⟩ : ∃ m, Lib.nDigits u = m + 1 := ⟨Lib.nDigits u - 1, by omega⟩
      have hpos : 1 ≤ u := by
        rcases Nat.eq_zero_or_pos u with h0 | h0
        · subst h0; rw [Lib.nDigits_small (by omega)] at h; omega
        · exact h0
      have h3 := h2 m u hm hpos
      have h4 : 10 ^ 20 ≤ 10 ^ m := Nat.pow_le_pow_right (by omega) (by omega)
      omega
    · exact h
  unfold Lib.itoa
  split
  · have := key n.natAbs (by omega)
    simp; omega
  · have := key n.toNat (by omega)
    simp; omega
theorem emit0_nil (f : List Nat) (S : List (List UInt8)) : emit (0 :: f) [] S = emit f [] S := by rw [emit.eq_def]; rfl
theorem emit1_nil (f : List Nat) (S : List (List UInt8)) : emit (1 :: f) [] S = emit f [] S := by rw [emit.eq_def]; rfl
theorem emit1_out (f : List Nat) (n : Int) (N : List Int) (S : List (List UInt8)) (h : ¬ (0 ≤ n ∧ n < 2)) : emit (1 :: f) (n :: N) S = emit f (n :: N) S := by rw [emit, if_neg h]

theorem text_done {w : World} {word : ByteArray} {N : List Int} {S : List ByteArray} {AN : Option Addr} {cN : Nat} {AS : Option Addr} {cS : Nat} {f : List Nat} {A2 : Option Addr} {wr : World} {k : Nat} {vout : Value} {outs : List ByteArray}
    {A4 : Option Addr} {c4 : Nat} {Nr : List Int} {A5 : Option Addr} {c5 : Nat} {Sr : List ByteArray} (hf : kindsOf word = f) (h : TI w word N S AN cN AS cS f A2 wr k vout outs A4 c4 Nr A5 c5 Sr) (hk : f.length ≤ k) :
    textL word N S = Lib.join (outs.map (·.data.toList)) [32] := by
  unfold textL
  rw [hf, h.em, List.drop_of_length_le hk, emit]
  simp
theorem join_bound (outs : List ByteArray) (h1 : 1 ≤ outs.length) (h2 : Lib.lens (outs.map (·.data.toList)) ≤ 300000 * outs.length) (h3 : outs.length ≤ 7) : (Lib.join (outs.map (·.data.toList)) blankB.data.toList).length ≤ 140737488355328 := by
  cases outs with
  | nil => simp at h1
  | cons x r =>
    rw [List.map_cons, Lib.join_length]
    rw [List.map_cons] at h2
    have : blankB.data.toList.length = 1 := rfl
    rw [this, List.length_map]
    simp only [List.length_cons] at h2 h3
    omega
theorem reads_iff {T word2 : ByteArray} {N2 : List Int} {S2 : List ByteArray} {err : Int} (h : StepIs T word2 N2 S2 err) (word : ByteArray) (N : List Int) (S : List ByteArray) :
    ReadsAs T.data.toList word N S ↔ err = 0 ∧ word2 = word ∧ N2 = N ∧ S2 = S := by
  obtain ⟨h1, h2, h3, h4⟩ := h
  unfold ReadsAs
  rw [← h1, ← h2, ← h3]
  have hinj : ∀ a b : ByteArray, a.data.toList = b.data.toList → a = b := fun a b h => ByteArray.ext (Array.toList_inj.mp h)
  constructor
  · rintro ⟨a, b, c, d⟩
    exact ⟨by omega, hinj _ _ b, c, (List.map_inj_right hinj).1 d⟩
  · rintro ⟨a, rfl, rfl, rfl⟩
    exact ⟨by omega, rfl, rfl, rfl⟩

theorem text_ret {word : ByteArray} {N : List Int} {S : List ByteArray} (h : ¬ ReadsAs (textL word N S) word N S) : Ending.returned (.string ⟨#[]⟩) = Ending.returned (.string ⟨(textF word N S).toArray⟩) := by rw [textF, if_neg h]
theorem text_ok {word : ByteArray} {N : List Int} {S : List ByteArray} {l : List UInt8} (h : ReadsAs (textL word N S) word N S) (hl : l = textL word N S) : Ending.returned (.string ⟨l.toArray⟩) = Ending.returned (.string ⟨(textF word N S).toArray⟩) := by rw [textF, if_pos h, hl]
theorem text_not {word : ByteArray} {N : List Int} {S : List ByteArray} {P : Prop} {T : List UInt8} (h : ReadsAs T word N S ↔ P) (hp : ¬ P) : ¬ ReadsAs T word N S := fun hr => hp (h.1 hr)

set_option maxHeartbeats 600000 in
set_option maxRecDepth 100000 in
theorem text_any (word : ByteArray) (N : List Int) (S : List ByteArray) (AN AS : Option Addr) (cN cS : Nat) (w : World) (hG : Glob w) (hN : RdS w w.heap.size AN (ints N)) (hS : RdS w w.heap.size AS (strs S)) (hcN : N.length ≤ cN) (hcS : S.length ≤ cS)
    (hNl : N.length ≤ 100000) (hSl : S.length ≤ 100000) (hNb : ∀ n ∈ N, -9223372036854775808 ≤ n ∧ n ≤ 9223372036854775807) (hw : word.size ≤ 100000) (hSb : ∀ t ∈ S, t.size ≤ 100000) :
    Calls Tryz.prog 9 #[.agg #[.string word, .slice AN N.length cN, .slice AS S.length cS]] w (PostX word N S w) := by
  have hbox := heap_alloc_new w (.cells #[.string word, .slice AN N.length cN, .slice AS S.length cS] 29)
  have hb0 : Below w.heap.size w (w.alloc (.cells #[.string word, .slice AN N.length cN, .slice AS S.length cS] 29)) := (Below.refl _ w).alloc (Nat.le_refl _) _
  have HG := Lib.hid hG
  have HNB := Lib.hid hNb
  have HSB := Lib.hid hSb
  clear hG hNb hSb
  go_enter Tryz.func9, Tryz.ntmps9
  go_wp2
  go_quiet (fail)
  go_wp2
  have hbox1 : (((w.alloc (.cells #[.string word, .slice AN N.length cN, .slice AS S.length cS] 29)).alloc (.cells #[.string word] 9)).drewN nq).heap[w.heap.size]? = some (.cells #[.string word, .slice AN N.length cN, .slice AS S.length cS] 29 (0, 0)) := by
    show ((w.alloc _).alloc _).heap[w.heap.size]? = _
    rw [Lib.alloc_old _ _ _ (by simp)]; exact hbox
  have hb1 : Below w.heap.size w (((w.alloc (.cells #[.string word, .slice AN N.length cN, .slice AS S.length cS] 29)).alloc (.cells #[.string word] 9)).drewN nq) := below_drewN (hb0.alloc hb0.size _) nq
  have hout1 : (((w.alloc (.cells #[.string word, .slice AN N.length cN, .slice AS S.length cS] 29)).alloc (.cells #[.string word] 9)).drewN nq).ownsRow w.heap.size 9 1 (.slice (some ⟨w.heap.size + 1, 0, none⟩) 1 1) 1 (strs [word]) := by
    have h := World.ownsRow_lit (base := w.heap.size) (e := 9) (size := 1) (w.alloc (.cells #[.string word, .slice AN N.length cN, .slice AS S.length cS] 29)) #[.string word] 1 (by simp) (by simp [maxLen]) (by simp)
    have h' : ((w.alloc (.cells #[.string word, .slice AN N.length cN, .slice AS S.length cS] 29)).alloc (.cells #[.string word] 9)).ownsRow w.heap.size 9 1 (.slice (some ⟨w.heap.size + 1, 0, none⟩) 1 1) 1 (strs [word]) := by simpa [strs] using h
    exact h'
  generalize (((w.alloc (.cells #[.string word, .slice AN N.length cN, .slice AS S.length cS] 29)).alloc (.cells #[.string word] 9)).drewN nq) = W1 at hbox1 hb1 hout1 ⊢
  have hc0 : W1.cell? ⟨w.heap.size, 0, none⟩ = some (.string word) := by rw [Lib.cell_of_heap hbox1]; rfl
  have hlt1 := (Array.getElem?_eq_some_iff.1 hbox1).1
  clear hbox hb0
  go_region_held3 (fun w' => w'.cell? ⟨w.heap.size, 0, none⟩ = some (.string word)) (first | assumption | (exact (hb3.cell (p := ⟨w.heap.size, 0, none⟩) hlt1).trans hc0)) (first
    | (go_at_call 15; refine (forms_any _).mono ?_; rintro e w3 ⟨rfl, hF, hb3⟩; obtain ⟨v, hlook, hv⟩ := run_look1 w3 W1.heap.size W1.heap.size formTabB word hF; obtain ⟨A2, rfl, _⟩ := hv.form))
  have hb13 : Below W1.heap.size W1 w3 := (Below.drew (Below.refl _ _)).trans hb3
  have hb03 : Below w.heap.size w w3 := hb1.trans (hb13.mono hb1.size)
  have hf6 := kindsOf_len word
  have HK2 := Lib.hid (kindsOf_le word)
  have hti : TI w word N S AN cN AS cS (kindsOf word) A2 w3 0 (.slice (some ⟨w.heap.size + 1, 0, none⟩) 1 1) [word] AN cN N AS cS S := {
    hk := Nat.zero_le _
    own := own_below hout1 hb13
    n1 := hcN
    n2 := hN.below hb03 (Nat.le_refl _)
    n3 := HNB.out
    s1 := hcS
    s2 := hS.below hb03 (Nat.le_refl _)
    s3 := HSB.out
    em := rfl
    ol := by simp
    o1 := by simp
    ole := by simp [Lib.lens]; omega
    box := (hb13.block _ hlt1).trans hbox1
    pa := hv.lower hb1.size
    bl := hb03 }
  have hNl' := hNl
  have hSl' := hSl
  have HN0 := Lib.hid hN
  have HS0 := Lib.hid hS
  clear hN hS hcN hcS hNl hSl HNB HSB hbox1 hb1 hout1 hc0 hF hb3 hlook hv hb13 hb03
  change (kindsOf word).length ≤ 6 at hf6
  generalize hkk : (List.lookup word formTabB).getD [] = f0
  have hkk' : kindsOf word = f0 := hkk
  rw [hkk'] at hti hf6 HK2
  clear hkk
  have HKK := Lib.hid hkk'
  clear hkk'
  obtain ⟨i0, hi, hz0, hz1, hz2⟩ := info_parts info9
  go_wp2
  go_loopw [3, 4, 5, 23] (fun o3 o4 o5 i wr => ∃ (k : Nat) (outs : List ByteArray) (A4 : Option Addr) (c4 : Nat) (Nr : List Int) (A5 : Option Addr) (c5 : Nat) (Sr : List ByteArray), i = .int .i64 k ∧ o4 = .slice A4 Nr.length c4 ∧ o5 = .slice A5 Sr.length c5 ∧ TI w word N S AN cN AS cS f0 A2 wr k o3 outs A4 c4 Nr A5 c5 Sr)
    (fun _ _ _ i _ => f0.length - (intOf i).toNat)
  case atStart => exact ⟨0, [word], AN, cN, N, AS, cS, S, rfl, rfl, rfl, hti⟩
  case round =>
    obtain ⟨k, outs, A4, c4, Nr, A5, c5, Sr, rfl, rfl, rfl, h⟩ := hrel
    clear hti
    by_cases hlt : k < f0.length
    · have hltz : (k : Int) < (f0.length : Int) := by omega
      have hle : f0[k] ≤ 2 := HK2.out _ (List.getElem_mem _)
      obtain ⟨ga, hga, hgl, hcf⟩ := h.pa.form' k hlt
      subst hga
      have HTI := Lib.hid h
      clear h
      have hf0k := Lib.hid (rfl : f0[k] = f0[k])
      generalize hfk : f0[k] = n at hle hcf
      have HFK := Lib.hid hfk
      clear hfk hf0k
      rcases (by omega : n = 0 ∨ n = 1 ∨ n = 2) with rfl | rfl | rfl
      · cases Nr with
        | nil =>
          go_wp2
          go_roundw
          case rel => exact ⟨k + 1, outs, A4, c4, [], A5, c5, Sr, by go_num, rfl, rfl, HTI.out.skip hlt (by rw [drop_one f0 k hlt, HFK.out]; exact emit0_nil _ _)⟩
          case measure => simp [intOf]; omega
        | cons n0 Nr =>
          obtain ⟨g, o, hA4, hct, hgB⟩ := HTI.out.n2.head
          subst hA4
          have hn0 := HTI.out.n3 n0 (by simp)
          have hol := HTI.out.ol
          have hc4 : Nr.length + 1 ≤ c4 := HTI.out.n1
          have hwr := HTI.out.bl.size
          have HN0 := Lib.hid hn0
          have hcall := itoa_any n0 hn0.1 hn0.2 wr (HG.out.below HTI.out.bl)
          clear hn0
          go_wp2_with (go_at_call 17; refine hcall.mono ?_)
          rintro e w1 ⟨rfl, hb1⟩
          have hown1 := own_below HTI.out.own hb1
          have HB1 := Lib.hid hb1
          have hb1s := hb1.size
          clear hb1 hcf hct
          go_wp2_with (at_builtin; refine wpList_append_own _ rfl _ _ 23 rfl w.heap.size 9 i0 (.string ⟨#[]⟩) 1 16 Tryz.underlying23 hi hz0 hz1 hz2 rfl (by decide) _ _ _ rfl (hown1.alloc _) ⟨w1.heap.size, 0, none⟩ 1 1 [.string ⟨(Lib.itoa n0).toArray⟩] rfl rfl ?c1 ?c2 ?c3 ?c4 ?c5 ?_)
          case c1 => exact World.news_of_block (cs := #[.string ⟨(Lib.itoa n0).toArray⟩]) (t := 9) (fr := (0, 0)) (heap_alloc_new w1 _)
          case c2 => intro u hu; simp at hu; subst hu; rfl
          case c3 => unfold maxLen; omega
          case c4 => omega
          case c5 => simp; omega
          intro v' w2 hown' hgrow _
          go_wp2
          go_roundw
          case rel =>
            refine ⟨k + 1, outs ++ [⟨(Lib.itoa n0).toArray⟩], _, c4 - 1, Nr, A5, c5, Sr, by go_num, rfl, rfl, HTI.out.push hlt HB1.out hown' hgrow (by omega) (HTI.out.n2.cut hc4 (by simp)) (fun x hx => HTI.out.n3 x (by simp [hx])) HTI.out.s1 HTI.out.s2 HTI.out.s3 (itoa_size n0 HN0.out.1 HN0.out.2) ?_⟩
            rw [drop_one f0 k hlt, HFK.out]; rfl
          case measure => simp [intOf]; omega
      · cases Nr with
        | nil =>
          go_wp2
          go_roundw
          case rel => exact ⟨k + 1, outs, A4, c4, [], A5, c5, Sr, by go_num, rfl, rfl, HTI.out.skip hlt (by rw [drop_one f0 k hlt, HFK.out]; exact emit1_nil _ _)⟩
          case measure => simp [intOf]; omega
        | cons n0 Nr =>
          obtain ⟨g, o, hA4, hct, hgB⟩ := HTI.out.n2.head
          subst hA4
          have hol := HTI.out.ol
          have hc4 : Nr.length + 1 ≤ c4 := HTI.out.n1
          have hwr := HTI.out.bl.size
          by_cases hin : 0 ≤ n0 ∧ n0 < 2
          · rcases (by omega : n0 = 0 ∨ n0 = 1) with hn0 | hn0
            · subst hn0
              have hgl0 := (HG.out.below HTI.out.bl).ways
              have hgw0 := hgl0.1
              have hgw1 := hgl0.2
              clear hgl0
              have hown1 := HTI.out.own
              clear hin
              go_wp2_with (at_builtin; refine wpList_append_own _ rfl _ _ 23 rfl w.heap.size 9 i0 (.string ⟨#[]⟩) 1 16 Tryz.underlying23 hi hz0 hz1 hz2 rfl (by decide) _ _ _ rfl (hown1.alloc _) ⟨wr.heap.size, 0, none⟩ 1 1 [.string thereB] rfl rfl ?c1 ?c2 ?c3 ?c4 ?c5 ?_)
              case c1 => exact World.news_of_block (cs := #[.string thereB]) (t := 9) (fr := (0, 0)) (heap_alloc_new wr _)
              case c2 => intro u hu; simp at hu; subst hu; rfl
              case c3 => unfold maxLen; omega
              case c4 => omega
              case c5 => simp; omega
              intro v' w2 hown' hgrow _
              go_wp2
              go_roundw
              case rel =>
                refine ⟨k + 1, outs ++ [thereB], _, c4 - 1, Nr, A5, c5, Sr, by go_num, rfl, rfl, HTI.out.push hlt (Below.refl _ _) hown' hgrow (by omega) (HTI.out.n2.cut hc4 (by simp)) (fun x hx => HTI.out.n3 x (by simp [hx])) HTI.out.s1 HTI.out.s2 HTI.out.s3 (by decide) ?_⟩
                rw [drop_one f0 k hlt, HFK.out]; rfl
              case measure => simp [intOf]; omega
            · subst hn0
              have hgl0 := (HG.out.below HTI.out.bl).ways
              have hgw0 := hgl0.1
              have hgw1 := hgl0.2
              clear hgl0
              have hown1 := HTI.out.own
              clear hin
              go_wp2_with (at_builtin; refine wpList_append_own _ rfl _ _ 23 rfl w.heap.size 9 i0 (.string ⟨#[]⟩) 1 16 Tryz.underlying23 hi hz0 hz1 hz2 rfl (by decide) _ _ _ rfl (hown1.alloc _) ⟨wr.heap.size, 0, none⟩ 1 1 [.string backB] rfl rfl ?c1 ?c2 ?c3 ?c4 ?c5 ?_)
              case c1 => exact World.news_of_block (cs := #[.string backB]) (t := 9) (fr := (0, 0)) (heap_alloc_new wr _)
              case c2 => intro u hu; simp at hu; subst hu; rfl
              case c3 => unfold maxLen; omega
              case c4 => omega
              case c5 => simp; omega
              intro v' w2 hown' hgrow _
              go_wp2
              go_roundw
              case rel =>
                refine ⟨k + 1, outs ++ [backB], _, c4 - 1, Nr, A5, c5, Sr, by go_num, rfl, rfl, HTI.out.push hlt (Below.refl _ _) hown' hgrow (by omega) (HTI.out.n2.cut hc4 (by simp)) (fun x hx => HTI.out.n3 x (by simp [hx])) HTI.out.s1 HTI.out.s2 HTI.out.s3 (by decide) ?_⟩
                rw [drop_one f0 k hlt, HFK.out]; rfl
              case measure => simp [intOf]; omega
          · rcases (by omega : n0 < 0 ∨ 2 ≤ n0) with hn0 | hn0
            · have HIN := Lib.hid hin
              clear hin
              go_wp2
              go_roundw
              case rel => exact ⟨k + 1, outs, _, c4, n0 :: Nr, A5, c5, Sr, by go_num, rfl, rfl, HTI.out.skip hlt (by rw [drop_one f0 k hlt, HFK.out]; exact emit1_out _ _ _ _ HIN.out)⟩
              case measure => simp [intOf]; omega
            · have HIN := Lib.hid hin
              clear hin
              go_wp2
              go_roundw
              case rel => exact ⟨k + 1, outs, _, c4, n0 :: Nr, A5, c5, Sr, by go_num, rfl, rfl, HTI.out.skip hlt (by rw [drop_one f0 k hlt, HFK.out]; exact emit1_out _ _ _ _ HIN.out)⟩
              case measure => simp [intOf]; omega
      · cases Sr with
        | nil =>
          go_wp2
          go_roundw
          case rel => exact ⟨k + 1, outs, A4, c4, Nr, A5, c5, [], by go_num, rfl, rfl, HTI.out.skip hlt (by rw [drop_one f0 k hlt, HFK.out]; rfl)⟩
          case measure => simp [intOf]; omega
        | cons t Sr =>
          obtain ⟨g, o, hA5, hct, hgB⟩ := HTI.out.s2.head
          subst hA5
          have ht0 := HTI.out.s3 t (by simp)
          have hol := HTI.out.ol
          have hc5 : Sr.length + 1 ≤ c5 := HTI.out.s1
          have hwr := HTI.out.bl.size
          go_wp2_with (go_at_call 16; refine (hex_any t wr (by omega)).mono ?_)
          rintro e w1 ⟨rfl, hb1⟩
          have hown1 := own_below HTI.out.own hb1
          have HB1 := Lib.hid hb1
          have hb1s := hb1.size
          clear hb1 hcf hct
          go_wp2_with (at_builtin; refine wpList_append_own _ rfl _ _ 23 rfl w.heap.size 9 i0 (.string ⟨#[]⟩) 1 16 Tryz.underlying23 hi hz0 hz1 hz2 rfl (by decide) _ _ _ rfl (hown1.alloc _) ⟨w1.heap.size, 0, none⟩ 1 1 [.string ⟨(hexF t.data.toList).toArray⟩] rfl rfl ?c1 ?c2 ?c3 ?c4 ?c5 ?_)
          case c1 => exact World.news_of_block (cs := #[.string ⟨(hexF t.data.toList).toArray⟩]) (t := 9) (fr := (0, 0)) (heap_alloc_new w1 _)
          case c2 => intro u hu; simp at hu; subst hu; rfl
          case c3 => unfold maxLen; omega
          case c4 => omega
          case c5 => simp; omega
          intro v' w2 hown' hgrow _
          go_wp2
          go_roundw
          case rel =>
            refine ⟨k + 1, outs ++ [⟨(hexF t.data.toList).toArray⟩], A4, c4, Nr, _, c5 - 1, Sr, by go_num, rfl, rfl, HTI.out.push hlt HB1.out hown' hgrow HTI.out.n1 HTI.out.n2 HTI.out.n3 (by omega) (HTI.out.s2.cut hc5 (by simp)) (fun x hx => HTI.out.s3 x (by simp [hx])) (hexF_size t ht0) ?_⟩
            rw [drop_one f0 k hlt, HFK.out]; rfl
          case measure => simp [intOf]; omega
    · have hkf : f0.length ≤ k := by omega
      have hT := Lib.hid (text_done HKK.out h hkf)
      obtain ⟨x0, r0, hx0⟩ : ∃ x0 r0, outs = x0 :: r0 := by
        have := h.o1
        cases outs with
        | nil => simp at this
        | cons a b => exact ⟨a, b, rfl⟩
      obtain ⟨g, cap, hu3, hgc, hgl, hcells⟩ : ∃ g cap, u3 = .slice (some ⟨g, 0, none⟩) outs.length cap ∧ outs.length ≤ cap ∧ g < wr.heap.size ∧ ∀ (j : Nat) x, outs[j]? = some x → wr.cell? ⟨g, 0 + j, none⟩ = some (.string x) := by
        obtain ⟨A, c, hv, hnc, _, _, hrd⟩ := own_rd h.own
        rcases hrd with hrd | ⟨g, o, hA, hg, hc⟩
        · rw [hx0] at hrd; simp [strs] at hrd
        · rcases h.own.2 with ⟨hv2, _⟩ | ⟨g2, cap2, cur2, hv2, _⟩
          · rw [hv2] at hv; injection hv with h1; rw [← h1] at hA; cases hA
          · rw [hv2] at hv
            injection hv with h1 h2 h3
            rw [← h1] at hA
            injection hA with hA
            injection hA with h4 h5
            subst h4 h5
            refine ⟨g2, cap2, hv2, by omega, hg, fun j x hx => ?_⟩
            have hj : j < outs.length := (List.getElem?_eq_some_iff.1 hx).1
            have := hc j (by simpa [strs] using hj)
            rw [this]
            have hxx := (List.getElem?_eq_some_iff.1 hx).2
            simp [strs, hxx]
      have hkl := h.hk
      have hol := h.ol
      have hjl := join_bound outs h.o1 h.ole (by omega)
      have HJ := Lib.hid hjl
      have HC := Lib.hid hcells
      have HW := Lib.hid h
      clear h hcells hx0 hjl
      subst hu3
      go_wp2_with (go_at_call 18; refine (Tryz.strings_Join g 0 cap outs blankB wr HC.out hgl (by omega) hgc HJ.out).mono ?_)
      rintro e w4 ⟨rfl, hb4⟩
      have hG4 := (HG.out.below HW.out.bl).below hb4
      have HB4 := Lib.hid hb4
      clear hb4
      go_wp2_with (go_at_call 11; refine (parse_any _ w4 hG4).mono ?_)
      rintro e w5 ⟨word2, N2, S2, err, vN2, vS2, rfl, hst, hoN, hoS, hb5⟩
      have hb45 : Below wr.heap.size wr w5 := HB4.out.trans (hb5.mono HB4.out.size)
      have hb05 : Below w.heap.size w w5 := HW.out.bl.trans (hb45.mono HW.out.bl.size)
      have hbox5 : w5.heap[w.heap.size]? = some (.cells #[.string word, .slice AN N.length cN, .slice AS S.length cS] 29 (0, 0)) := by
        rw [hb45.block _ (Array.getElem?_eq_some_iff.1 HW.out.box).1]; exact HW.out.box
      obtain ⟨A6, c6, rfl, hc6, _, hl6, hr6⟩ := own_rd hoN
      obtain ⟨A7, c7, rfl, hc7, _, hl7, hr7⟩ := own_rd hoS
      have hTe : (Lib.join (outs.map (·.data.toList)) blankB.data.toList) = textL word N S := hT.out.symm
      have hiff := reads_iff hst word N S
      rw [show (⟨(Lib.join (outs.map (·.data.toList)) blankB.data.toList).toArray⟩ : ByteArray).data.toList = textL word N S from hTe] at hiff
      have HIFF := Lib.hid hiff
      have HTE := Lib.hid hTe
      clear hiff
      have d0 : w5.cell? ⟨w.heap.size, 0, none⟩ = some (.string word) := by rw [Lib.cell_of_heap hbox5]; rfl
      have d1 : w5.cell? ⟨w.heap.size, 1, none⟩ = some (.slice AN N.length cN) := by rw [Lib.cell_of_heap hbox5]; rfl
      have d2 : w5.cell? ⟨w.heap.size, 2, none⟩ = some (.slice AS S.length cS) := by rw [Lib.cell_of_heap hbox5]; rfl
      have hl5 := (Array.getElem?_eq_some_iff.1 hbox5).1
      clear hst hoN hoS hTe hb5 hb45
      have hfin : ∀ w6 : World, Below w5.heap.size w5 w6 → Below w.heap.size w w6 := fun w6 hb => hb05.trans (hb.mono hb05.size)
      by_cases herr : err = 0
      · subst herr
        cases hwd : (word2.toList == word.toList) with
        | false =>
          have hne : (!(word2.toList == word.toList)) = true := by rw [hwd]; rfl
          have HR := Lib.hid (text_not HIFF.out (by rintro ⟨_, hww, _⟩; subst hww; simp at hwd))
          clear hwd
          go_wp2
          go_ret
          exact ⟨text_ret HR.out, hfin _ ((Below.refl _ _).alloc (Nat.le_refl _) _)⟩
        | true =>
          have hne : (!(word2.toList == word.toList)) = false := by rw [hwd]; rfl
          have hweq : word2 = word := by
            rw [beq_iff_eq, Lib.toList_data, Lib.toList_data] at hwd
            exact ByteArray.ext (Array.toList_inj.mp hwd)
          have HWE := Lib.hid hweq
          clear hwd hweq
          have hb56 : Below w5.heap.size w5 (w5.alloc (.cells #[.string word2, .slice A6 N2.length c6, .slice A7 S2.length c7] 29)) := (Below.refl _ _).alloc (Nat.le_refl _) _
          have hc26 := eq_ints A6 AN c6 cN w5.heap.size w.heap.size N2 N (w5.alloc (.cells #[.string word2, .slice A6 N2.length c6, .slice A7 S2.length c7] 29)) (hr6.below hb56 (Nat.le_refl _)) (HN0.out.below (hfin _ hb56) (Nat.le_refl _)) hl6 (by omega)
          clear hr6 hl6
          go_wp2_with (go_at_call 19; refine hc26.mono ?_)
          rintro e w6 ⟨rfl, hb6⟩
          have hb56' : Below w5.heap.size w5 w6 := hb56.trans (hb6.mono hb56.size)
          have hl56 : w5.heap.size < w6.heap.size := Nat.lt_of_lt_of_le (by simp) hb6.size
          have hyb : w6.heap[w5.heap.size]? = some (.cells #[.string word2, .slice A6 N2.length c6, .slice A7 S2.length c7] 29 (0, 0)) := by
            rw [hb6.block _ (by simp)]; exact heap_alloc_new w5 _
          have e2 : w6.cell? ⟨w5.heap.size, 2, none⟩ = some (.slice A7 S2.length c7) := by rw [Lib.cell_of_heap hyb]; rfl
          have g2 : w6.cell? ⟨w.heap.size, 2, none⟩ = some (.slice AS S.length cS) := (hb56'.cell (p := ⟨w.heap.size, 2, none⟩) hl5).trans d2
          have hc27 := eq_strs A7 AS c7 cS w5.heap.size w.heap.size S2 S w6 (hr7.below hb56' (Nat.le_refl _)) (HS0.out.below (hfin _ hb56') (Nat.le_refl _)) hl7 (by omega)
          clear hr7 hl7 hb56 hb6 hyb hc26 d0 d1 d2
          by_cases hNN : N2 = N
          · have hd : decide (N2 = N) = true := decide_eq_true hNN
            have HNN := Lib.hid hNN
            clear hNN
            rw [hd]
            go_wp2_with (go_at_call 20; refine hc27.mono ?_)
            rintro e w7 ⟨rfl, hb7⟩
            have hb57 := hfin _ (hb56'.trans (hb7.mono hb56'.size))
            by_cases hSS : S2 = S
            · have hd2 : decide (S2 = S) = true := decide_eq_true hSS
              have HOK := Lib.hid (HIFF.out.2 ⟨by simp, HWE.out, HNN.out, hSS⟩)
              clear hSS hc27 hd
              rw [hd2]
              go_wp2
              go_ret
              exact ⟨text_ok HOK.out HTE.out, hb57⟩
            · have hd2 : decide (S2 = S) = false := decide_eq_false hSS
              have HR := Lib.hid (text_not HIFF.out (by rintro ⟨_, _, _, h0⟩; exact hSS h0))
              clear hSS hc27 hd
              rw [hd2]
              go_wp2
              go_ret
              exact ⟨text_ret HR.out, hb57⟩
          · have hd : decide (N2 = N) = false := decide_eq_false hNN
            have HR := Lib.hid (text_not HIFF.out (by rintro ⟨_, _, h0, _⟩; exact hNN h0))
            clear hNN hc27
            rw [hd]
            go_wp2
            go_ret
            exact ⟨text_ret HR.out, hfin _ hb56'⟩
      · have HR := Lib.hid (text_not HIFF.out (by rintro ⟨h0, _⟩; exact herr h0))
        have hne : (err != 0) = true := by rw [bne_iff_ne]; exact herr
        clear herr
        go_wp2
        go_ret
        exact ⟨text_ret HR.out, hfin _ ((Below.refl _ _).alloc (Nat.le_refl _) _)⟩
end Go.Proofs.YtddfpnljkaodcaaGreatDoor
