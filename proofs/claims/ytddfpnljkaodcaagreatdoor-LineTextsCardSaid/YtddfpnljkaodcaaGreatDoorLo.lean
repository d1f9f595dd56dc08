/-
  The walk of Parse of layer 31 (line): what it answers to any line of at most 4000 bytes that has a word; and Parse whole.
-/
import Derived.Test.YtddfpnljkaodcaaGreatDoorLn
namespace Go.Proofs.YtddfpnljkaodcaaGreatDoor
open Go.RowKit

theorem bad_args {s x0 : ByteArray} {r : List ByteArray} {f : List Nat} (h : Pl.parseF s.data.toList = match Pl.argsF f (r.map (·.data.toList)) with
        | none => (⟨[], [], []⟩, 1)
        | some p => (⟨x0.data.toList, p.1, p.2⟩, 0)) (hb : Pl.argsF f (r.map (·.data.toList)) = none) : Pl.parseF s.data.toList = (⟨[], [], []⟩, (1 : Int).toNat) := by
  rw [h, hb]; rfl

theorem good_args {s x0 : ByteArray} {r : List ByteArray} {f : List Nat} {N : List Int} {S : List ByteArray} (h : Pl.parseF s.data.toList = match Pl.argsF f (r.map (·.data.toList)) with
        | none => (⟨[], [], []⟩, 1)
        | some p => (⟨x0.data.toList, p.1, p.2⟩, 0)) (hb : ∃ N' : List Nat, N = N'.map (fun n : Nat => (n : Int)) ∧ Pl.argsF f (r.map (·.data.toList)) = some (N', S.map (·.data.toList))) : StepIs s x0 N S 0 := by
  obtain ⟨N', h1, h2⟩ := hb
  rw [h2] at h
  exact ⟨by rw [h], by rw [h]; exact h1, by rw [h], by rw [h]; rfl⟩
theorem own_lower {w : World} {base base' : Nat} {e : TypeId} {size n : Nat} {v : Value} {xs : List Value} (h : w.ownsRow base e size v n xs) (hb : base' ≤ base) : w.ownsRow base' e size v n xs := by
  refine ⟨h.1, ?_⟩
  rcases h.2 with h2 | ⟨g, cap, cur, a, b, c⟩
  · exact .inl h2
  · exact .inr ⟨g, cap, cur, a, by omega, c⟩

set_option maxHeartbeats 2000000 in
set_option maxRecDepth 100000 in
theorem parse_some (s x0 : ByteArray) (r : List ByteArray) (w : World) (hG : Glob w) (hs : s.size ≤ 4000) (hn : partsL s = x0 :: r) : Calls Tryz.prog 11 #[.string s] w (PostP s w) := by
  have hz : ¬ (4000 : Int) < (s.size : Int) := by omega
  have HP := Lib.hid (parse_of_parts s x0 r hs hn)
  have hb0 : Below w.heap.size w (w.alloc (.cells #[.string ⟨#[]⟩, .slice none 0 0, .slice none 0 0] 29)) := (Below.refl _ w).alloc (Nat.le_refl _) _
  have hres := heap_alloc_new w (.cells #[.string ⟨#[]⟩, .slice none 0 0, .slice none 0 0] 29)
  have HG := Lib.hid (hG.below hb0)
  have HG0 := Lib.hid hG
  have HN := Lib.hid hn
  clear hG hn
  go_enter Tryz.func11, Tryz.ntmps11
  go_wp2_with (go_at_call 23; refine (split_any s _ hs HG.out).mono ?_)
  rintro e w1 ⟨d, hd, hdl, rfl, hH, hb1, hz1⟩
  have HD := Lib.hid hd
  have hres1 : w1.heap[w.heap.size]? = some (.cells #[.string ⟨#[]⟩, .slice none 0 0, .slice none 0 0] 29 (0, 0)) := by rw [hb1.block _ (by simp)]; exact hres
  have hb01 : Below w.heap.size w w1 := hb0.trans (hb1.mono hb0.size)
  have hH' : Go.Sort.Holds Value.string w1 (w.heap.size + 1) 0 d := by simpa using hH
  have hHH := Lib.hid hH'
  have hZ := Lib.hid hz1
  clear hd hb0 hres hb1 hH hH' hz1
  go_wp2_with (go_at_call 22; refine (del_any d (w.heap.size + 1) w1 hHH.out (by omega)).mono ?_)
  rintro e w2 ⟨rfl, hI, hbB, hz2⟩
  have hp0 : (d.toList.filter fun x => !x.toList.isEmpty) = x0 :: r := by rw [parts_pred s d HD.out]; exact HN.out
  have hrl : (x0 :: r).length ≤ d.size := by rw [← hp0]; have := List.length_filter_le (fun x : ByteArray => !x.toList.isEmpty) d.toList; simpa using this
  rw [hp0] at hI ⊢
  have hb02 : Below w.heap.size w w2 := hb01.trans (hbB _ (by omega))
  have hres2 : w2.heap[w.heap.size]? = some (.cells #[.string ⟨#[]⟩, .slice none 0 0, .slice none 0 0] 29 (0, 0)) := by
    rw [(hbB (w.heap.size + 1) (Nat.le_refl _)).block _ (by omega)]; exact hres1
  have hsz2 : w.heap.size + 1 < w2.heap.size := by rw [hz2, hZ.out]; simp
  have HRES := Lib.hid hres2
  have HI := Lib.hid hI
  have hc0 : w2.cell? ⟨w.heap.size + 1, 0, none⟩ = some (.string x0) := hI 0 (by simp)
  rw [List.length_cons] at hrl ⊢
  have hne : (((r.length + 1 : Nat) : Int) == 0) = false := by rw [beq_eq_false_iff_ne]; omega
  have hpos : 0 < r.length + 1 := by omega
  clear hI hbB hz2 hp0 hres1 hb01 hres2
  generalize hgg : w.heap.size + 1 = g at *
  go_wp2
  go_region_held3 (fun w' => w'.cell? ⟨g, 0, none⟩ = some (.string x0)) (first | assumption | (exact (hb3.cell (p := ⟨g, 0, none⟩) hsz2).trans hc0)) (first
    | (go_at_call 15; refine (forms_any _).mono ?_; rintro e w3 ⟨rfl, hF, hb3⟩; obtain ⟨v, ok, hlook, hv⟩ := run_look w3 w2.heap.size w2.heap.size formTabB x0 hF))
  have hb23 : Below w2.heap.size w2 w3 := (Below.drew (Below.refl _ _)).trans hb3
  have hb03 : Below w.heap.size w w3 := hb02.trans (hb23.mono hb02.size)
  have hres3 : w3.heap[w.heap.size]? = some (.cells #[.string ⟨#[]⟩, .slice none 0 0, .slice none 0 0] 29 (0, 0)) := by rw [hb23.block _ (by omega)]; exact HRES.out
  have HI3 := Lib.hid (HI.out.below hb23 hsz2)
  have HG3 := Lib.hid (HG0.out.below hb03)
  have hs3 : g < w3.heap.size := Nat.lt_of_lt_of_le hsz2 hb23.size
  clear hF hb3 hb23 hlook hc0 HRES HI hsz2 hb02 hHH
  rcases hv with ⟨rfl, hlk, rfl⟩ | ⟨rfl, f, hlk, hpa⟩
  · have HR := Lib.hid (err_look HP.out hlk)
    clear hlk
    have c0 : w3.cell? ⟨w.heap.size, 0, none⟩ = some (.string ⟨#[]⟩) := by rw [Lib.cell_of_heap hres3]; rfl
    have c1 : w3.cell? ⟨w.heap.size, 1, none⟩ = some (.slice none 0 0) := by rw [Lib.cell_of_heap hres3]; rfl
    have c2 : w3.cell? ⟨w.heap.size, 2, none⟩ = some (.slice none 0 0) := by rw [Lib.cell_of_heap hres3]; rfl
    have f0 : w3.frozen? ⟨w.heap.size, 0, none⟩ = false := Lib.frozen_of_heap hres3 0
    have f1 : w3.frozen? ⟨w.heap.size, 1, none⟩ = false := Lib.frozen_of_heap hres3 1
    have f2 : w3.frozen? ⟨w.heap.size, 2, none⟩ = false := Lib.frozen_of_heap hres3 2
    clear hres3
    go_wp2
    refine bodyPost_ret (v := .tuple #[.agg #[.string ⟨#[]⟩, .slice none 0 0, .slice none 0 0], .int .i64 1]) (by simp [results, Tryz.results11, go_sem, c0, c1, c2]) rfl ?_
    exact step_err s w _ _ 1 rfl HR.out (by decide) (by first | exact ((hb03.setCell (p := ⟨w.heap.size, 0, none⟩) (Nat.le_refl _) _).setCell (p := ⟨w.heap.size, 1, none⟩) (Nat.le_refl _) _).setCell (p := ⟨w.heap.size, 2, none⟩) (Nat.le_refl _) _ | exact hb03)
  · obtain ⟨A, rfl, hpc⟩ := hpa.form
    have HPC := Lib.hid hpc
    by_cases hl : f.length = r.length
    · have hlb : ((f.length : Int) != (r.length : Int)) = false := by rw [bne_eq_false_iff_eq]; omega
      have HA := Lib.hid (args_of HP.out hlk hl)
      have HL := Lib.hid hl
      have HK := Lib.hid (kinds_le x0 f hlk)
      have hfl : f.length ≤ 6 := kinds_len x0 f hlk
      have hx0 : w3.cell? ⟨g, 0, none⟩ = some (.string x0) := HI3.out 0 (by simp)
      clear hlk hl hpc hpa
      go_wp2
      clear hlb hx0
      have hst0 : StepAt (w3.alloc (.cells #[.string x0, .slice none 0 0, .slice none 0 0] 29)) w3.heap.size w3.heap.size x0 [] [] (.slice none 0 0) (.slice none 0 0) :=
        ⟨Nat.le_refl _, heap_alloc_new w3 _, ⟨by simp [ints], .inl ⟨rfl, rfl⟩⟩, ⟨by simp [strs], .inl ⟨rfl, rfl⟩⟩⟩
      have hbl0 : Below w3.heap.size w3 (w3.alloc (.cells #[.string x0, .slice none 0 0, .slice none 0 0] 29)) := (Below.refl _ w3).alloc (Nat.le_refl _) _
      go_loopw [46] (fun i wr => ∃ (k : Nat) (N : List Int) (S : List ByteArray) (vN vS : Value), k ≤ f.length ∧ i = .int .i64 k ∧ StepAt wr w3.heap.size w3.heap.size x0 N S vN vS ∧ N.length ≤ k ∧ S.length ≤ k ∧ ArgsTo f r k N S ∧ Below w3.heap.size w3 wr)
        (fun i _ => f.length - (intOf i).toNat)
      case atStart => exact ⟨0, [], [], _, _, by omega, rfl, hst0, by simp, by simp, ArgsTo.zero f r, hbl0⟩
      case round =>
        obtain ⟨k, N, S, vN, vS, hk, rfl, hst, hNk, hSk, hargs, hbl⟩ := hrel
        clear hst0 hbl0
        by_cases hlt : k < f.length
        · have hkr : k < r.length := by have := HL.out; omega
          have hltz : (k : Int) < (f.length : Int) := by omega
          obtain ⟨ga, hga, hgl, hcf⟩ := HPC.out k hlt
          subst hga
          have hcf' : wr.cell? ⟨ga, k, none⟩ = some (.int .i64 (f[k] : Int)) := (hbl.cell (p := ⟨ga, k, none⟩) hgl).trans hcf
          have hcl : wr.cell? ⟨g, k + 1, none⟩ = some (.string r[k]) := by
            have h1 := HI3.out (k + 1) (by simp; omega)
            have h2 := (hbl.cell (p := ⟨g, k + 1, none⟩) hs3).trans h1
            rw [h2]; simp
          have hle : f[k] ≤ 2 := HK.out _ (List.getElem_mem _)
          have hpsz : r[k].size ≤ 4000 := Nat.le_trans (part_size s r[k] (by rw [HN.out]; simp)) hs
          have hGr := HG3.out.below hbl
          have hcall := take_any f[k] hle w3.heap.size w3.heap.size x0 r[k] N S vN vS wr hst (by omega) (by omega) hpsz hGr hbl.size
          have HARGS := Lib.hid hargs
          have HLE := Lib.hid hle
          clear hcf hst hargs hGr hpsz hle
          generalize hfk : f[k] = n at hcf' hcall
          generalize hrk : r[k] = pk at hcl hcall
          have HFK := Lib.hid hfk
          have HRK := Lib.hid hrk
          clear hfk hrk
          have hkz : (k : Int) + 1 < (r.length : Int) + 1 := by omega
          have hkz0 : (0 : Int) ≤ (k : Int) + 1 := by omega
          go_wp2_with (go_at_call 25; refine hcall.mono ?_)
          rintro e w4 ⟨ok, N2, S2, vN2, vS2, rfl, harg, hN2, hS2, hst2, hb4⟩
          have HARG := Lib.hid harg
          have hbl4 : Below w3.heap.size w3 w4 := hbl.trans hb4
          clear harg hcall hcf' hcl hb4
          cases ok
          · have hres4 : w4.heap[w.heap.size]? = some (.cells #[.string ⟨#[]⟩, .slice none 0 0, .slice none 0 0] 29 (0, 0)) := by rw [hbl4.block _ (Array.getElem?_eq_some_iff.1 hres3).1]; exact hres3
            have hbw4 : Below w.heap.size w w4 := hb03.trans (hbl4.mono hb03.size)
            have HBAD := Lib.hid (HARGS.out.bad hlt hkr HLE.out (by rw [HFK.out, HRK.out]; exact HARG.out))
            have HR := Lib.hid (bad_args HA.out HBAD.out)
            have c0 : w4.cell? ⟨w.heap.size, 0, none⟩ = some (.string ⟨#[]⟩) := by rw [Lib.cell_of_heap hres4]; rfl
            have c1 : w4.cell? ⟨w.heap.size, 1, none⟩ = some (.slice none 0 0) := by rw [Lib.cell_of_heap hres4]; rfl
            have c2 : w4.cell? ⟨w.heap.size, 2, none⟩ = some (.slice none 0 0) := by rw [Lib.cell_of_heap hres4]; rfl
            have f0 : w4.frozen? ⟨w.heap.size, 0, none⟩ = false := Lib.frozen_of_heap hres4 0
            have f1 : w4.frozen? ⟨w.heap.size, 1, none⟩ = false := Lib.frozen_of_heap hres4 1
            have f2 : w4.frozen? ⟨w.heap.size, 2, none⟩ = false := Lib.frozen_of_heap hres4 2
            clear hres3 hres4 hst2
            go_wp2
            refine bodyPost_ret (v := .tuple #[.agg #[.string ⟨#[]⟩, .slice none 0 0, .slice none 0 0], .int .i64 1]) (by simp [results, Tryz.results11, go_sem, c0, c1, c2]) rfl ?_
            exact step_err s w _ _ 1 rfl HR.out (by decide) (by first | exact ((hbw4.setCell (p := ⟨w.heap.size, 0, none⟩) (Nat.le_refl _) _).setCell (p := ⟨w.heap.size, 1, none⟩) (Nat.le_refl _) _).setCell (p := ⟨w.heap.size, 2, none⟩) (Nat.le_refl _) _ | exact hbw4)
          · have HST := Lib.hid (HARGS.out.step hlt hkr HLE.out (by rw [HFK.out, HRK.out]; exact HARG.out))
            go_wp2
            go_roundw
            case rel => exact ⟨k + 1, N2, S2, vN2, vS2, by omega, by go_num, hst2, by omega, by omega, HST.out, hbl4⟩
            case measure => simp [intOf]; omega
        · have hkf : f.length ≤ k := by omega
          have HRES := Lib.hid (good_args HA.out (hargs.done hkf))
          have hres4 : wr.heap[w.heap.size]? = some (.cells #[.string ⟨#[]⟩, .slice none 0 0, .slice none 0 0] 29 (0, 0)) := by rw [hbl.block _ (Array.getElem?_eq_some_iff.1 hres3).1]; exact hres3
          have hbw4 : Below w.heap.size w wr := hb03.trans (hbl.mono hb03.size)
          have hw3 : w.heap.size ≤ w3.heap.size := hb03.size
          obtain ⟨hB, hbk, hN, hS⟩ := hst
          obtain ⟨AN, cN, rfl⟩ : ∃ AN cN, vN = .slice AN N.length cN := by
            rcases hN.2 with ⟨hv, h0⟩ | ⟨g, cap, cur, hv, _⟩
            · exact ⟨none, 0, by rw [hv, h0]⟩
            · exact ⟨_, _, hv⟩
          obtain ⟨AS, cS, rfl⟩ : ∃ AS cS, vS = .slice AS S.length cS := by
            rcases hS.2 with ⟨hv, h0⟩ | ⟨g, cap, cur, hv, _⟩
            · exact ⟨none, 0, by rw [hv, h0]⟩
            · exact ⟨_, _, hv⟩
          have d0 : wr.cell? ⟨w3.heap.size, 0, none⟩ = some (.string x0) := by rw [Lib.cell_of_heap hbk]; rfl
          have d1 : wr.cell? ⟨w3.heap.size, 1, none⟩ = some (.slice AN N.length cN) := by rw [Lib.cell_of_heap hbk]; rfl
          have d2 : wr.cell? ⟨w3.heap.size, 2, none⟩ = some (.slice AS S.length cS) := by rw [Lib.cell_of_heap hbk]; rfl
          have c0 : wr.cell? ⟨w.heap.size, 0, none⟩ = some (.string ⟨#[]⟩) := by rw [Lib.cell_of_heap hres4]; rfl
          have c1 : wr.cell? ⟨w.heap.size, 1, none⟩ = some (.slice none 0 0) := by rw [Lib.cell_of_heap hres4]; rfl
          have c2 : wr.cell? ⟨w.heap.size, 2, none⟩ = some (.slice none 0 0) := by rw [Lib.cell_of_heap hres4]; rfl
          have f0 : wr.frozen? ⟨w.heap.size, 0, none⟩ = false := Lib.frozen_of_heap hres4 0
          have f1 : wr.frozen? ⟨w.heap.size, 1, none⟩ = false := Lib.frozen_of_heap hres4 1
          have f2 : wr.frozen? ⟨w.heap.size, 2, none⟩ = false := Lib.frozen_of_heap hres4 2
          have hgeN := own_ne hN hres4 (by decide)
          have hgeS := own_ne hS hres4 (by decide)
          have HNN := Lib.hid (own_lower hN hw3)
          have HSS := Lib.hid (own_lower hS hw3)
          clear hres3 hres4 hbk hN hS hargs
          go_wp2
          refine bodyPost_ret (v := .tuple #[.agg #[.string x0, .slice AN N.length cN, .slice AS S.length cS], .int .i64 0]) (by simp [results, Tryz.results11, go_sem, c0, c1, c2]) rfl ?_
          refine ⟨x0, N, S, 0, _, _, rfl, HRES.out, ?_, ?_, ?_⟩
          · exact own_set (own_set (own_set HNN.out hgeN 0 _) hgeN 1 _) hgeN 2 _
          · exact own_set (own_set (own_set HSS.out hgeS 0 _) hgeS 1 _) hgeS 2 _
          · exact ((hbw4.setCell (p := ⟨w.heap.size, 0, none⟩) (Nat.le_refl _) _).setCell (p := ⟨w.heap.size, 1, none⟩) (Nat.le_refl _) _).setCell (p := ⟨w.heap.size, 2, none⟩) (Nat.le_refl _) _
    · have HR := Lib.hid (err_len HP.out hlk hl)
      have hlb : ((f.length : Int) != (r.length : Int)) = true := by rw [bne_iff_ne]; omega
      clear hlk hl hpc hpa
      have c0 : w3.cell? ⟨w.heap.size, 0, none⟩ = some (.string ⟨#[]⟩) := by rw [Lib.cell_of_heap hres3]; rfl
      have c1 : w3.cell? ⟨w.heap.size, 1, none⟩ = some (.slice none 0 0) := by rw [Lib.cell_of_heap hres3]; rfl
      have c2 : w3.cell? ⟨w.heap.size, 2, none⟩ = some (.slice none 0 0) := by rw [Lib.cell_of_heap hres3]; rfl
      have f0 : w3.frozen? ⟨w.heap.size, 0, none⟩ = false := Lib.frozen_of_heap hres3 0
      have f1 : w3.frozen? ⟨w.heap.size, 1, none⟩ = false := Lib.frozen_of_heap hres3 1
      have f2 : w3.frozen? ⟨w.heap.size, 2, none⟩ = false := Lib.frozen_of_heap hres3 2
      clear hres3
      go_wp2
      refine bodyPost_ret (v := .tuple #[.agg #[.string ⟨#[]⟩, .slice none 0 0, .slice none 0 0], .int .i64 1]) (by simp [results, Tryz.results11, go_sem, c0, c1, c2]) rfl ?_
      exact step_err s w _ _ 1 rfl HR.out (by decide) (by first | exact ((hb03.setCell (p := ⟨w.heap.size, 0, none⟩) (Nat.le_refl _) _).setCell (p := ⟨w.heap.size, 1, none⟩) (Nat.le_refl _) _).setCell (p := ⟨w.heap.size, 2, none⟩) (Nat.le_refl _) _ | exact hb03)

theorem parse_any (s : ByteArray) (w : World) (hG : Glob w) : Calls Tryz.prog 11 #[.string s] w (PostP s w) := by
  rcases Nat.lt_or_ge 4000 s.size with h | h
  · exact parse_big s w h
  · cases hn : partsL s with
    | nil => exact parse_none s w hG h hn
    | cons x0 r => exact parse_some s x0 r w hG h hn
end Go.Proofs.YtddfpnljkaodcaaGreatDoor
