/-
  Two laws for regions that draw their order: a load that the last store waits for may be taken first; an append to a new slice as one step. And what the law LineTexts makes of its step.
-/
import Derived.Test.YtddfpnljkaodcaaGreatDoorZw
import Derived.Deep.RegionHeld3
import Derived.Deep.AppendLies
import Derived.Laws.AppendOwnNone
namespace Go.Proofs.YtddfpnljkaodcaaGreatDoor
namespace Lk

section
variable {P : Program} {ops : Array Oper} {Q : Exit → Act → World → Prop} {md : Region.Mode} {S : World → Prop} {k : Nat}

/-- Whatever order is picked from here on; S holds behind every operation that is carried out ahead of number k. -/
def Any (P : Program) (md : Region.Mode) (ops : Array Oper) (Q : Exit → Act → World → Prop) (S : World → Prop) (k : Nat) : Nat → Array Bool → Act → World → Prop
  | 0, listed, a, w => Region.ready md ops listed = [] ∧ Q .normal a w
  | fuel + 1, listed, a, w =>
    (Region.ready md ops listed = [] → Q .normal a w) ∧
    ∀ i ∈ Region.ready md ops listed, wpOp P ops Q i (fun a' w' => ((listed.setIfInBounds i true).getD k true = true ∨ S w') ∧ Any P md ops Q S k fuel (listed.setIfInBounds i true) a' w') a w

theorem Any.plain : ∀ (fuel : Nat) (listed : Array Bool) (a : Act) (w : World), Any P md ops Q S k fuel listed a w → wpAny P md ops Q fuel listed a w
  | 0, _, _, _, h => h
  | fuel + 1, _, _, _, h => ⟨h.1, fun i hi => wpOp_mono (fun a' w' h' => Any.plain fuel _ a' w' h'.2) (h.2 i hi)⟩

theorem Any.first {i : Nat} {oi : Oper} {v : Value} (hi : ops[i]? = some oi) (hsel : ∀ (j : Nat) (o : Oper) cs b, ops[j]? = some o → o.op ≠ .select cs b)
    (hQ : ∀ c a w, Q (.panic c) (a.put oi.dst v) w → Q (.panic c) a w)
    (hk : ∀ o, ops[k]? = some o → ∃ e ∈ o.after, Region.binds md e = true ∧ e.on = i) :
    ∀ (fuel : Nat) (listed : Array Bool) (a : Act) (w : World),
      (∀ j oj, ops[j]? = some oj → j ≠ i → listed.getD j true = false → (∀ e ∈ oj.after, Region.binds md e = true → e.on ≠ i) → oi.apart ops oj = true) →
      i ∈ Region.ready md ops listed → listed.getD k true = false → k ≠ i → YieldsIf P ops S oi v a → S w →
      Any P md ops Q S k fuel (listed.setIfInBounds i true) (a.put oi.dst v) w → Any P md ops Q S k (fuel + 1) listed a w := by
  intro fuel
  induction fuel with
  | zero =>
    intro listed a w _ hr _ _ hy hS H
    refine ⟨fun h => (by rw [h] at hr; cases hr), fun j hj => ?_⟩
    by_cases hji : j = i
    · subst hji; exact hy.wpOp hi hS ⟨.inr hS, H⟩
    · have := ready_mono hj hji
      rw [H.1] at this
      cases this
  | succ fuel ih =>
    intro listed a w hfree hr hlk hki hy hS H
    refine ⟨fun h => (by rw [h] at hr; cases hr), fun j hj => ?_⟩
    by_cases hji : j = i
    · subst hji; exact hy.wpOp hi hS ⟨.inr hS, H⟩
    · have h1 := H.2 j (ready_mono hj hji)
      obtain ⟨hjun, oj, hoj, hall⟩ := mem_ready.1 hj
      have hiun := (mem_ready.1 hr).1
      have hon : listed.getD i false = true → False := fun h => by
        rcases Nat.lt_or_ge i listed.size with h' | h'
        · simp [h'] at h hiun; rw [hiun] at h; cases h
        · simp [Array.getElem?_eq_none h'] at h
      have hnot : ∀ e ∈ oj.after, Region.binds md e = true → e.on ≠ i := fun e he hb heq => hon (heq ▸ hall e he hb)
      have hjk : j ≠ k := fun e => by
        subst e
        obtain ⟨e, he, hb, heq⟩ := hk oj hoj
        exact hnot e he hb heq
      have h2 := wpOp_putIf hoj (hfree j oj hoj hji hjun hnot) (fun cs b => hsel i oi cs b hi) (fun cs b => hsel j oj cs b hoj) hQ hy h1
      have hfree' : ∀ m om, ops[m]? = some om → m ≠ i → (listed.setIfInBounds j true).getD m true = false →
          (∀ e ∈ om.after, Region.binds md e = true → e.on ≠ i) → oi.apart ops om = true := fun m om hm hmi hun hno => by
        refine hfree m om hm hmi ?_ hno
        by_cases hjm : j = m
        · subst hjm; exact hjun
        · rw [getD_set_ne true hjm] at hun; exact hun
      have hlk' : (listed.setIfInBounds j true).getD k true = false := by rw [getD_set_ne true hjk]; exact hlk
      refine wpOp_mono (fun a' w' h3 => ?_) h2
      have hS' : S w' := by
        rcases h3.2.1 with h | h
        · rw [getD_set_ne true hjk, getD_set_ne true (Ne.symm hki), hlk] at h; cases h
        · exact h
      refine ⟨.inr hS', ih (listed.setIfInBounds j true) a' w' hfree' (ready_mono hr (Ne.symm hji)) hlk' hki h3.1 hS' ?_⟩
      rw [Array.setIfInBounds_comm _ _ hji]
      exact h3.2.2

/-- does number k wait for number i? -/
def waits (md : Region.Mode) (ops : Array Oper) (k i : Nat) : Bool := match ops[k]? with
  | none => true
  | some o => o.after.any fun e => Region.binds md e && e.on == i
theorem waits_spec {i : Nat} (h : waits md ops k i = true) : ∀ o, ops[k]? = some o → ∃ e ∈ o.after, Region.binds md e = true ∧ e.on = i := by
  intro o ho
  simp only [waits, ho] at h
  obtain ⟨e, he, hb⟩ := Array.any_eq_true'.1 h
  simp only [Bool.and_eq_true, beq_iff_eq] at hb
  exact ⟨e, he, hb⟩
theorem Any.take {i : Nat} {oi : Oper} {v : Value} {fuel : Nat} {listed : Array Bool} {a : Act} {w : World} (hi : ops[i]? = some oi)
    (hs : (Region.noSelect ops && Region.free md ops listed i && (Region.ready md ops listed).contains i && waits md ops k i && !listed.getD k true && k != i) = true)
    (hQ : ∀ c a w, Q (.panic c) (a.put oi.dst v) w → Q (.panic c) a w) (hy : YieldsIf P ops S oi v a) (hS : S w)
    (h : Any P md ops Q S k fuel (listed.setIfInBounds i true) (a.put oi.dst v) w) : Any P md ops Q S k (fuel + 1) listed a w := by
  simp only [Bool.and_eq_true, Bool.not_eq_true', bne_iff_ne] at hs
  obtain ⟨⟨⟨⟨⟨h1, h2⟩, h3⟩, h4⟩, h5⟩, h6⟩ := hs
  exact Any.first hi (Region.noSelect_spec h1) hQ (waits_spec h4) fuel listed a w (Region.free_spec hi h2) (by simpa using h3) h5 h6 hy hS h
/-- Number j alone may come up. -/
theorem Any.one {j : Nat} {o : Oper} {fuel : Nat} {listed : Array Bool} {a : Act} {w : World} (hr : Region.ready md ops listed = [j]) (ho : ops[j]? = some o)
    (h : ∀ K' : Act → World → Prop, Shut (∀ a w, ((listed.setIfInBounds j true).getD k true = true ∨ S w) → Any P md ops Q S k fuel (listed.setIfInBounds j true) a w → K' a w) →
      if Region.wanted o (yielded ops a.tmps) = true then Oper.wp P o a w K' Q else K' (a.put o.dst undef) w) : Any P md ops Q S k (fuel + 1) listed a w := by
  refine ⟨fun h0 => (by rw [h0] at hr; cases hr), ?_⟩
  rw [hr]
  intro i hi
  rw [List.mem_singleton.1 hi]
  exact wpOp_step ho (fun K' hK => h K' (fun a w hS hW => hK a w ⟨hS, hW⟩))
theorem Any.done {fuel : Nat} {listed : Array Bool} {a : Act} {w : World} (hr : Region.ready md ops listed = []) (h : Q .normal a w) : Any P md ops Q S k fuel listed a w := by
  cases fuel with
  | zero => exact ⟨hr, h⟩
  | succ n => exact ⟨fun _ => h, by rw [hr]; simp⟩
theorem region {id : Nat} {a : Act} {w : World} (hm : P.follows .mixedOrders = true)
    (h : Any P .any ops Q S k ops.size (Array.replicate ops.size false) a w.drew) : (Code.region id ops true).wp P Q a w :=
  wp_region_any hm (Any.plain _ _ _ _ h)
end
end Lk
open Go.RowKit Go.Proofs.YtddfpnljkaodcaaGreatDoorW.PrintWords
/-! ### an append to a new slice, as a step of a region that draws its order -/
def Keeps (w w' : World) (e : TypeId) : Prop := ∀ (j : Nat) cs t, t ≠ e → w.heap[j]? = some (.cells cs t (0, 0)) → w'.heap[j]? = some (.cells cs t (0, 0))
def OwnKeeps (B : Nat) (w w' : World) (e : TypeId) : Prop := ∀ (e' : TypeId) (v : Value) (n : Nat) (xs : List Value), e' ≠ e → w.ownsRow B e' 1 v n xs → w'.ownsRow B e' 1 v n xs
theorem keep_alloc {w : World} {j : Nat} {cs : Array Value} {t : TypeId} (h : w.heap[j]? = some (.cells cs t (0, 0))) (o : Obj) : (w.alloc o).heap[j]? = some (.cells cs t (0, 0)) := by
  rw [Lib.alloc_old _ _ _ (Array.getElem?_eq_some_iff.1 h).1]; exact h
theorem keep_drew {w : World} {j : Nat} {cs : Array Value} {t : TypeId} (h : w.heap[j]? = some (.cells cs t (0, 0))) : w.drew.heap[j]? = some (.cells cs t (0, 0)) := h
theorem new_at (w : World) (cs : Array Value) (t : TypeId) (g : Nat) (hg : w.heap.size = g) : (w.alloc (.cells cs t)).heap[g]? = some (.cells cs t (0, 0)) := by
  subst hg; exact heap_alloc_new w _
theorem cells3 {w : World} {b : Nat} {x y z : Value} {t : TypeId} (h : w.heap[b]? = some (.cells #[x, y, z] t (0, 0))) : w.cell? ⟨b, 0, none⟩ = some x ∧ w.cell? ⟨b, 1, none⟩ = some y ∧ w.cell? ⟨b, 2, none⟩ = some z :=
  ⟨by rw [Lib.cell_of_heap h]; rfl, by rw [Lib.cell_of_heap h]; rfl, by rw [Lib.cell_of_heap h]; rfl⟩

theorem run_app {w w0 : World} {B : Nat} (t ty e : TypeId) (i : TypeInfo) (z : Value) (bytes : Nat) (ht : Tryz.prog.underlying t = some (.slice e)) (hi : Tryz.prog.info? e = some i) (hz : i.zero = some z) (hsize : i.size = 1) (hby : i.bytes = bytes) (hzs : z.cells.size = 1)
    (g : Nat) (A : Option Addr) (m c : Nat) (news : List Value) (hA : A = none → c = 0) (hl : news.length = m) (hone : ∀ u ∈ news, u.oneCell' = true) (hm : m ≤ 100) (hbb : bytes ≤ 100)
    (hread : RdS w0 B A news) (hb : Below B w0 w) (hB : B ≤ g) (hgh : w.heap[g]? = some (.cells #[] e (0, 0))) :
    ∃ An cn w', (Builtin.append_ #[t, t] ty #[.slice (some ⟨g, 0, none⟩) 0 0, .slice A m c]).run Tryz.prog w = .ok (.slice An m cn) w' ∧ w'.ownsRow B e 1 (.slice An m cn) m news ∧ m ≤ cn ∧ Keeps w w' e ∧ OwnKeeps B w w' e ∧ Below B w0 w' := by
  have hlt : g < w.heap.size := (Array.getElem?_eq_some_iff.1 hgh).1
  have hown : w.ownsRow B e 1 (.slice (some ⟨g, 0, none⟩) 0 0) 0 [] := ⟨rfl, .inr ⟨g, 0, #[], rfl, hB, hgh, Nat.le_refl _, by unfold maxLen; omega, rfl, rfl⟩⟩
  have key : ∀ v' w', (Builtin.append_ #[t, t] ty #[.slice (some ⟨g, 0, none⟩) 0 0, .slice A m c]).run Tryz.prog w = .ok v' w' → w'.ownsRow B e 1 v' (0 + m) ([] ++ news) → w.grownBy w' (Value.slice (some ⟨g, 0, none⟩) 0 0).ownBlock →
      ∃ An cn w', (Builtin.append_ #[t, t] ty #[.slice (some ⟨g, 0, none⟩) 0 0, .slice A m c]).run Tryz.prog w = .ok (.slice An m cn) w' ∧ w'.ownsRow B e 1 (.slice An m cn) m news ∧ m ≤ cn ∧ Keeps w w' e ∧ OwnKeeps B w w' e ∧ Below B w0 w' := by
    intro v' w' hr ho hgr
    rw [Nat.zero_add, List.nil_append] at ho
    obtain ⟨An, cn, rfl, hcn, _, _, _⟩ := own_rd ho
    refine ⟨An, cn, w', hr, ho, hcn, fun j cs t' hne hj => ?_, fun e' v n xs hne h => ?_, hb.grown hgr (by omega) (fun k hk => (hown.lt k hk).1)⟩
    · have hlj := (Array.getElem?_eq_some_iff.1 hj).1
      rw [hgr.block j hlj (fun e2 => own_ne hown hj (Ne.symm hne) e2.symm)]
      exact hj
    · exact h.kept hgr (own_ne_row h hown hne)
  cases A with
  | none =>
    have h0 : news = [] := by
      rcases hread with h | ⟨_, _, h, _⟩
      · exact h
      · cases h
    subst h0
    obtain rfl := hA rfl
    have hm0 : m = 0 := by simpa using hl.symm
    subst hm0
    exact key _ w (run_append_owned_none (P := Tryz.prog) (w := w) B t ty e i 1 ht hi _ 0 [] hown) hown ⟨rfl, rfl, rfl, Nat.le_refl _, fun _ _ _ => rfl⟩
  | some ad =>
    have hnews : ∀ j u, news[j]? = some u → w.cell? (ad.add j) = some u := by
      intro j u hj
      rcases hread.below hb (Nat.le_refl _) with h | ⟨g1, o1, he, _, hc⟩
      · rw [h] at hj; simp at hj
      · obtain rfl := Option.some.inj he
        obtain ⟨hjl, hju⟩ := List.getElem?_eq_some_iff.1 hj
        rw [add_at, hc j hjl, hju]
    obtain ⟨v', w', hr, ho, hgr, _, _⟩ := run_append_own_at (P := Tryz.prog) w B t ty e i z 1 bytes ht hi hz hsize hby hzs (by decide) _ 0 [] hown ad m c news (by omega) hnews hone (by unfold maxLen; omega) (Nat.le_trans (Nat.mul_le_mul (by omega : 0 + m ≤ 100) hbb) (by decide)) (by omega)
    exact key v' w' hr ho hgr

theorem step_app {ops : Array Oper} {o : Oper} {a : Act} {w : World} {K : Act → World → Prop} {Q : Exit → Act → World → Prop} {E : Prop} {w0 : World} {B : Nat} (hg : o.guard = none) (s x : Operand) (t : TypeId)
    (hop : o.op = Op.call { callee := Callee.builtin Builtin.append, args := #[s, x], argTypes := #[t, t] })
    (e : TypeId) (i : TypeInfo) (z : Value) (bytes : Nat) (ht : Tryz.prog.underlying t = some (.slice e)) (hi : Tryz.prog.info? e = some i) (hz : i.zero = some z) (hsize : i.size = 1) (hby : i.bytes = bytes) (hzs : z.cells.size = 1)
    (g : Nat) (A : Option Addr) (m c : Nat) (news : List Value) (hs : a.eval s = .slice (some ⟨g, 0, none⟩) 0 0) (hx : a.eval x = .slice A m c) (hA : A = none → c = 0) (hl : news.length = m) (hone : ∀ u ∈ news, u.oneCell' = true) (hm : m ≤ 100) (hbb : bytes ≤ 100)
    (hread : RdS w0 B A news) (hb : Below B w0 w) (hB : B ≤ g) (hgh : w.heap[g]? = some (.cells #[] e (0, 0)))
    (hK : ∀ An cn w', w'.ownsRow B e 1 (.slice An m cn) m news → m ≤ cn → Keeps w w' e → OwnKeeps B w w' e → Below B w0 w' → K (a.put o.dst (.slice An m cn)) w') :
    if Region.wanted o (yielded ops a.tmps) = true then Oper.wp Tryz.prog o a w K Q else E := by
  have hw : Region.wanted o (yielded ops a.tmps) = true := by simp [Region.wanted, hg]
  rw [if_pos hw]
  obtain ⟨An, cn, w', hr, h1, h2, h3, h4, h5⟩ := run_app t o.type e i z bytes ht hi hz hsize hby hzs g A m c news hA hl hone hm hbb hread hb hB hgh
  unfold Oper.wp
  simp [execOp, hop, resolve, invoke, builtin, hs, hx, hr, Result.andThen]
  exact hK An cn w' h1 h2 h3 h4 h5
theorem keeps_at {w w' : World} {e : TypeId} (h : Keeps w w' e) {j : Nat} {cs : Array Value} {t : TypeId} (hne : t ≠ e) (hj : w.heap[j]? = some (.cells cs t (0, 0))) : w'.heap[j]? = some (.cells cs t (0, 0)) := h j cs t hne hj
theorem with_frozen {w : World} {g : Nat} {x y z : Value} {t : TypeId} {C : Prop} (h : w.heap[g]? = some (.cells #[x, y, z] t (0, 0))) (k : w.cell? ⟨g, 0, none⟩ = some x → w.cell? ⟨g, 1, none⟩ = some y → w.cell? ⟨g, 2, none⟩ = some z → w.frozen? ⟨g, 0, none⟩ = false → w.frozen? ⟨g, 1, none⟩ = false → w.frozen? ⟨g, 2, none⟩ = false → C) : C :=
  k (cells3 h).1 (cells3 h).2.1 (cells3 h).2.2 (Lib.frozen_of_heap h 0) (Lib.frozen_of_heap h 1) (Lib.frozen_of_heap h 2)
theorem bel_alloc {w0 w : World} (h : Below w0.heap.size w0 w) (o : Obj) : Below w0.heap.size w0 (w.alloc o) := h.alloc h.size o
theorem keep_set {w : World} {j g i : Nat} {cs : Array Value} {t : TypeId} (h : w.heap[j]? = some (.cells cs t (0, 0))) (hne : j ≠ g) (u : Value) : (w.setCell ⟨g, i, none⟩ u).heap[j]? = some (.cells cs t (0, 0)) := by
  rw [Below.heap_setCell w ⟨g, i, none⟩ u j hne]; exact h
theorem set3_at {w : World} {g : Nat} {x y z : Value} {t : TypeId} (h : w.heap[g]? = some (.cells #[x, y, z] t (0, 0))) (a b c : Value) :
    (((w.setCell ⟨g, 0, none⟩ a).setCell ⟨g, 1, none⟩ b).setCell ⟨g, 2, none⟩ c).heap[g]? = some (.cells #[a, b, c] t (0, 0)) := by
  have := heap_set_same (heap_set_same (heap_set_same h 0 a) 1 b) 2 c
  simpa using this
theorem own_set3 {w : World} {B g n : Nat} {e t : TypeId} {v x y z : Value} {xs : List Value} (h : w.ownsRow B e 1 v n xs) (hg : w.heap[g]? = some (.cells #[x, y, z] t (0, 0))) (hne : e ≠ t) (a b c : Value) :
    (((w.setCell ⟨g, 0, none⟩ a).setCell ⟨g, 1, none⟩ b).setCell ⟨g, 2, none⟩ c).ownsRow B e 1 v n xs := by
  have hn := own_ne h hg hne
  exact own_set (own_set (own_set h hn 0 a) hn 1 b) hn 2 c
theorem rd_slice {w : World} {B n cn : Nat} {e : TypeId} {An : Option Addr} {xs : List Value} (h : w.ownsRow B e 1 (.slice An n cn) n xs) : RdS w w.heap.size An xs := by
  obtain ⟨A', c', e', _, _, _, hrd⟩ := own_rd h
  injection e' with e' _ _
  subst e'
  exact hrd

/-- the step that the law makes of the cut one -/
def Made (w0 : World) (word : ByteArray) (n : Nat) (N : List Int) (S : List ByteArray) (s3 : Value) (wx : World) : Prop :=
  ∃ g An cn As cs, s3 = .pointer (some ⟨g, 0, none⟩) ∧ wx.heap[g]? = some (.cells #[.string word, .slice An n cn, .slice As S.length cs] 29 (0, 0)) ∧ n ≤ cn ∧ S.length ≤ cs ∧
    RdS wx wx.heap.size An (ints N) ∧ RdS wx wx.heap.size As (strs S) ∧ w0.heap.size ≤ g ∧ Below w0.heap.size w0 wx
theorem made_alloc {w0 W : World} {g n cn cs : Nat} {word : ByteArray} {An As : Option Addr} {N : List Int} {S : List ByteArray} (hW : W.heap.size = g) (h5 : W.ownsRow w0.heap.size 3 1 (.slice An n cn) n (ints N)) (h6 : W.ownsRow w0.heap.size 9 1 (.slice As S.length cs) S.length (strs S))
    (h1 : n ≤ cn) (h2 : S.length ≤ cs) (hb : Below w0.heap.size w0 W) : Made w0 word n N S (.pointer (some ⟨g, 0, none⟩)) (W.alloc (.cells #[.string word, .slice An n cn, .slice As S.length cs] 29)) :=
  ⟨g, An, cn, As, cs, rfl, new_at _ _ _ _ hW, h1, h2, rd_slice (h5.alloc _), rd_slice (h6.alloc _), by have := hb.size; omega, bel_alloc hb _⟩
theorem made_set {w0 W : World} {g n cn cs : Nat} {word : ByteArray} {An As : Option Addr} {N : List Int} {S : List ByteArray} {x y z : Value} (hg : W.heap[g]? = some (.cells #[x, y, z] 29 (0, 0))) (hB : w0.heap.size ≤ g)
    (h5 : W.ownsRow w0.heap.size 3 1 (.slice An n cn) n (ints N)) (h6 : W.ownsRow w0.heap.size 9 1 (.slice As S.length cs) S.length (strs S))
    (h1 : n ≤ cn) (h2 : S.length ≤ cs) (hb : Below w0.heap.size w0 W) : Made w0 word n N S (.pointer (some ⟨g, 0, none⟩)) (((W.setCell ⟨g, 0, none⟩ (.string word)).setCell ⟨g, 1, none⟩ (.slice An n cn)).setCell ⟨g, 2, none⟩ (.slice As S.length cs)) :=
  ⟨g, An, cn, As, cs, rfl, set3_at hg _ _ _, h1, h2, rd_slice (own_set3 h5 hg (by decide) _ _ _), rd_slice (own_set3 h6 hg (by decide) _ _ _), hB,
    ((hb.setCell (p := ⟨g, 0, none⟩) hB _).setCell (p := ⟨g, 1, none⟩) hB _).setCell (p := ⟨g, 2, none⟩) hB _⟩
theorem one_ints (N : List Int) : ∀ u ∈ ints N, u.oneCell' = true := by
  intro u hu
  obtain ⟨n, _, rfl⟩ := List.mem_map.1 hu
  rfl
theorem one_strs (S : List ByteArray) : ∀ u ∈ strs S, u.oneCell' = true := by
  intro u hu
  obtain ⟨n, _, rfl⟩ := List.mem_map.1 hu
  rfl
end Go.Proofs.YtddfpnljkaodcaaGreatDoor
