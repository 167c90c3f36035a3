import Derived.Test.YtbpefmidgfmcaaaDoorV14
import Derived.Laws.EntriesVeiled
section
set_option linter.unusedVariables false
namespace Go.Proofs.YtbpefmidgfmcaaaDoor
open Go.RowKit PTreeApart Go.Proofs.YtbpefmidgfmcaaaDoorW.PrintWords
def sixL : List Int := [15, 16, 17, 18, 34, 35]
def keyL : List Int := [1, 2, 3, 4, 5, 6, 7, 8, 9, 10, 11, 12, 13, 14, 19, 20, 21, 22, 23, 24, 25, 26, 27, 28, 29, 30, 31, 32, 33, 36]
theorem six_tbl : ∀ j (h : j < sixL.length), tbl sixL[j] = tTerm := by
  intro j h
  have h' : j < 6 := h
  match j, h' with
  | 0, _ => rfl
  | 1, _ => rfl
  | 2, _ => rfl
  | 3, _ => rfl
  | 4, _ => rfl
  | 5, _ => rfl
theorem six_not : ∀ j (h : j < sixL.length), sixL[j] ∉ keyL ++ sixL.take j := by
  intro j h
  have h' : j < 6 := h
  match j, h' with
  | 0, _ => exact (by decide : ¬ (15 : Int) ∈ keyL ++ sixL.take 0)
  | 1, _ => exact (by decide : ¬ (16 : Int) ∈ keyL ++ sixL.take 1)
  | 2, _ => exact (by decide : ¬ (17 : Int) ∈ keyL ++ sixL.take 2)
  | 3, _ => exact (by decide : ¬ (18 : Int) ∈ keyL ++ sixL.take 3)
  | 4, _ => exact (by decide : ¬ (34 : Int) ∈ keyL ++ sixL.take 4)
  | 5, _ => exact (by decide : ¬ (35 : Int) ∈ keyL ++ sixL.take 5)
theorem FC.insert2 {w0 : World} {m : Nat} {v1 v2 v3 : Value} {b5 : Nat} {c5 : Array Value} {ks : List Int} {w : World} (h : FC w0 m v1 v2 v3 b5 c5 ks w) (k : Int) (F : Value) (hk : k ∉ ks) (hF : FormV w (tbl k) F) :
    ∃ w', (Instr.mapUpdate 50 (.map (some m)) (.int .i64 k) F).run Tryd.prog w = .ok () w' ∧ FC w0 m v1 v2 v3 b5 c5 (ks ++ [k]) w' ∧ ∀ g cs T, Blk g cs T w → Blk g cs T w' := by
  obtain ⟨es, h1, h2, h3⟩ := h.map
  obtain ⟨arr, clk, hh, he⟩ := id h2
  obtain ⟨w', hr, hf⟩ := h.insert k F hk hF
  obtain ⟨w2, hr2, _, hx⟩ := h2.run_insert (P := Tryd.prog) (t := 50) (kt := 30) (et := 64) (d := .int .i64) (by kernel_rfl) (by kernel_rfl) .int k F (lookup_none es k (by rw [h1]; exact hk))
  have e : w' = w2 := by
    have := hr.symm.trans hr2
    injection this
  subst e
  exact ⟨w', hr, hf, fun g cs T hg => hg.keeps hh (.of_ext hx)⟩
set_option maxHeartbeats 8000000 in
set_option maxRecDepth 100000 in
theorem forms_any (w0 : World) :
    Calls Tryd.prog 18 #[] w0 fun e w' => ∃ m es, e = .returned (.map (some m)) ∧ IMap encI m es w' ∧ (∀ k, 1 ≤ k → k ≤ 36 → k ∈ es.map (·.1)) ∧ (∀ p ∈ es, FormV w' (tbl p.1) p.2) ∧ Below w0.heap.size w0 w' := by
  have hmm := @run_makeMap Tryd.prog
  go_enter Tryd.func18, Tryd.ntmps18

  have hBelow0 := Lib.hid (Below.refl w0.heap.size w0)
  go_wp2_with fail
  refine (one_v [12] (by decide) w0.heap.size _ (Blk.new w0 (ints [12]) 30)).mono ?_
  rintro e a1 ⟨⟨v1, rfl, ho1⟩, hb1⟩
  obtain ⟨_, x1, y1, hv1, _, _⟩ := id ho1
  subst hv1
  have hbb1 : Below w0.heap.size w0 a1 := below_after ((Below.refl _ _).alloc (Nat.le_refl _) _) hb1
  have HO1 := Lib.hid ho1
  have HB1 := Lib.hid (below_after hBelow0.out hbb1)
  clear ho1 hb1 hbb1
  go_wp2_with fail
  refine (one_v [29] (by decide) a1.heap.size _ (Blk.new a1 (ints [29]) 30)).mono ?_
  rintro e a2 ⟨⟨v2, rfl, ho2⟩, hb2⟩
  obtain ⟨_, x2, y2, hv2, _, _⟩ := id ho2
  subst hv2
  have hbb2 : Below a1.heap.size a1 a2 := below_after ((Below.refl _ _).alloc (Nat.le_refl _) _) hb2
  have HO1 := Lib.hid (HO1.out.step hbb2)
  have HO2 := Lib.hid ho2
  have HB2 := Lib.hid (below_after HB1.out hbb2)
  clear ho2 hb2 hbb2
  go_wp2_with fail
  refine (one_v [5] (by decide) a2.heap.size _ (Blk.new a2 (ints [5]) 30)).mono ?_
  rintro e a3 ⟨⟨v3, rfl, ho3⟩, hb3⟩
  obtain ⟨_, x3, y3, hv3, _, _⟩ := id ho3
  subst hv3
  have hbb3 : Below a2.heap.size a2 a3 := below_after ((Below.refl _ _).alloc (Nat.le_refl _) _) hb3
  have HO1 := Lib.hid (HO1.out.step hbb3)
  have HO2 := Lib.hid (HO2.out.step hbb3)
  have HO3 := Lib.hid ho3
  have HB3 := Lib.hid (below_after HB2.out hbb3)
  clear ho3 hb3 hbb3
  go_wp2_with fail
  refine (row_same (some ⟨a3.heap.size, 0, none⟩) 1 1 _).mono ?_
  rintro e a4 ⟨rfl, rfl⟩
  go_wp2_with fail
  have hF : FC w0 (a3.heap.size + 1 + 1) (.func (.func 59) #[] #[.pointer (some ⟨x1, 0, none⟩)]) (.func (.func 59) #[] #[.pointer (some ⟨x2, 0, none⟩)]) (.func (.func 59) #[] #[.pointer (some ⟨x3, 0, none⟩)]) (a3.heap.size + 1) #[.nilFunc, .int .i64 0, .int .i64 0, .slice (some ⟨a3.heap.size, 0, none⟩) 1 1, .nilFunc, .nilFunc] [] (((a3.alloc (.cells #[.func (.func 23) #[] #[]] 54)).alloc (.cells #[.nilFunc, .int .i64 0, .int .i64 0, .slice (some ⟨a3.heap.size, 0, none⟩) 1 1, .nilFunc, .nilFunc] 64)).alloc (.map #[] 0)) := by
    have s1 : (a3.alloc (.cells #[.func (.func 23) #[] #[]] 54)).heap.size = a3.heap.size + 1 := by show (a3.heap.push _).size = _; simp
    have s2 : ((a3.alloc (.cells #[.func (.func 23) #[] #[]] 54)).alloc (.cells #[.nilFunc, .int .i64 0, .int .i64 0, .slice (some ⟨a3.heap.size, 0, none⟩) 1 1, .nilFunc, .nilFunc] 64)).heap.size = a3.heap.size + 1 + 1 := by
      show ((a3.alloc (.cells #[.func (.func 23) #[] #[]] 54)).heap.push _).size = _
      rw [Array.size_push, s1]
    have t1 := (Below.refl a3.heap.size a3).alloc (Nat.le_refl _) (.cells #[.func (.func 23) #[] #[]] 54)
    have t2 := (Below.refl _ (a3.alloc (.cells #[.func (.func 23) #[] #[]] 54))).alloc (Nat.le_refl _) (.cells #[.nilFunc, .int .i64 0, .int .i64 0, .slice (some ⟨a3.heap.size, 0, none⟩) 1 1, .nilFunc, .nilFunc] 64)
    have t3 := (Below.refl _ ((a3.alloc (.cells #[.func (.func 23) #[] #[]] 54)).alloc (.cells #[.nilFunc, .int .i64 0, .int .i64 0, .slice (some ⟨a3.heap.size, 0, none⟩) 1 1, .nilFunc, .nilFunc] 64))).alloc (Nat.le_refl _) (.map #[] 0)
    have t12 := below_after t1 t2
    have t123 := below_after t12 t3
    have g5 := ((Blk.new a3 #[.func (.func 23) #[] #[]] 54).step t2).step t3
    have b5 := (Blk.new (a3.alloc (.cells #[.func (.func 23) #[] #[]] 54)) #[.nilFunc, .int .i64 0, .int .i64 0, .slice (some ⟨a3.heap.size, 0, none⟩) 1 1, .nilFunc, .nilFunc] 64).step t3
    rw [s1] at b5
    have hm := IMap.new encI ((a3.alloc (.cells #[.func (.func 23) #[] #[]] 54)).alloc (.cells #[.nilFunc, .int .i64 0, .int .i64 0, .slice (some ⟨a3.heap.size, 0, none⟩) 1 1, .nilFunc, .nilFunc] 64))
    rw [s2] at hm
    refine ⟨below_after HB3.out t123, by have := HB3.out.size; omega, ⟨[], rfl, hm, by simp⟩, HO1.out.step t123, HO2.out.step t123, HO3.out.step t123, b5, ?_⟩
    exact ⟨_, _, _, rfl, ks1 g5 rfl, rfl, rfl⟩
  have HF := Lib.hid hF
  clear hF HO1 HO2 HO3
  generalize hc0 : ((a3.alloc (.cells #[.func (.func 23) #[] #[]] 54)).alloc (.cells #[.nilFunc, .int .i64 0, .int .i64 0, .slice (some ⟨a3.heap.size, 0, none⟩) 1 1, .nilFunc, .nilFunc] 64)).alloc (.map #[] 0) = c0 at HF ⊢
  generalize hm0 : a3.heap.size + 1 + 1 = m at HF ⊢
  generalize hb5 : a3.heap.size + 1 = b5 at HF ⊢
  clear hc0 hm0
  obtain ⟨c1, hr1, hf1⟩ := HF.out.insert 1 (.agg #[.nilFunc, .int .i64 0, .int .i64 0, .slice none 0 0, .nilFunc, .func (.func 37) #[] #[]]) (by decide) ⟨_, _, _, rfl, ks0, rfl, rfl⟩
  replace HF := Lib.hid hf1
  clear hf1
  rw [hr1]
  simp only [Result.andThen]
  rw [Oper.upon_skip]
  clear hr1
  go_wp2_with fail
  obtain ⟨c2, hr2, hf2⟩ := HF.out.insert 2 (.agg #[.func (.func 38) #[] #[], .int .i64 0, .int .i64 0, .slice none 0 0, .nilFunc, .nilFunc]) (by decide) ⟨_, _, _, rfl, ks0, rfl, rfl⟩
  replace HF := Lib.hid hf2
  clear hf2
  rw [hr2]
  simp only [Result.andThen]
  rw [Oper.upon_skip]
  clear hr2
  go_wp2_with fail
  have hal3y : Below c2.heap.size c2 (c2.alloc (.cells (ints [4]) 30)) := (Below.refl _ _).alloc (Nat.le_refl _) _
  refine (one_v [4] (by decide) c2.heap.size _ (Blk.new c2 (ints [4]) 30)).mono ?_
  rintro e a3y ⟨⟨r3, rfl, hor⟩, hbr⟩
  obtain ⟨_, rx3, ry3, hv3, _, _⟩ := id hor
  subst hv3
  have hbb3 := below_after hal3y hbr
  replace HF := Lib.hid (HF.out.step hbb3)
  have HR3 := Lib.hid hor
  clear hor hbr hbb3 hal3y
  go_wp2_with fail
  obtain ⟨c3, hr3, hf3⟩ := HF.out.insert 3 (.agg #[.func (.func 38) #[] #[], .int .i64 0, .int .i64 0, .slice none 0 0, .nilFunc, .func (.func 59) #[] #[.pointer (some ⟨rx3, 0, none⟩)]]) (by decide) ⟨_, _, _, rfl, ks0, rfl, HR3.out⟩
  replace HF := Lib.hid hf3
  clear hf3
  rw [hr3]
  simp only [Result.andThen]
  rw [Oper.upon_skip]
  clear hr3
  go_wp2_with fail
  have hal4 : Below c3.heap.size c3 (c3.alloc (.cells #[.func (.func 59) #[] #[.pointer (some ⟨x3, 0, none⟩)]] 54)) := (Below.refl _ _).alloc (Nat.le_refl _) _
  have HG4 := Lib.hid (Blk.new c3 #[.func (.func 59) #[] #[.pointer (some ⟨x3, 0, none⟩)]] 54)
  replace HF := Lib.hid (HF.out.step hal4)
  clear hal4
  refine (row_same (some ⟨c3.heap.size, 0, none⟩) 1 1 _).mono ?_
  rintro e a4x ⟨rfl, rfl⟩
  generalize hn4 : c3.alloc (.cells #[.func (.func 59) #[] #[.pointer (some ⟨x3, 0, none⟩)]] 54) = d4 at HF HG4 ⊢
  generalize hg4 : c3.heap.size = g4 at HG4 ⊢
  clear hn4 hg4
  go_wp2_with fail
  obtain ⟨c4, hr4, hf4⟩ := HF.out.insert 4 (.agg #[.func (.func 38) #[] #[], .int .i64 0, .int .i64 0, .slice (some ⟨g4, 0, none⟩) 1 1, .nilFunc, .nilFunc]) (by decide) ⟨_, _, _, rfl, (ks1 HG4.out HF.out.o3), rfl, rfl⟩
  replace HF := Lib.hid hf4
  clear hf4
  rw [hr4]
  simp only [Result.andThen]
  rw [Oper.upon_skip]
  clear hr4
  clear HG4
  go_wp2_with fail
  obtain ⟨c5, hr5, hf5⟩ := HF.out.insert 5 (.agg #[.func (.func 39) #[] #[], .int .i64 0, .int .i64 0, .slice none 0 0, .nilFunc, .nilFunc]) (by decide) ⟨_, _, _, rfl, ks0, rfl, rfl⟩
  replace HF := Lib.hid hf5
  clear hf5
  rw [hr5]
  simp only [Result.andThen]
  rw [Oper.upon_skip]
  clear hr5
  go_wp2_with fail
  have hal6 : Below c5.heap.size c5 (c5.alloc (.cells #[.func (.func 59) #[] #[.pointer (some ⟨x3, 0, none⟩)]] 54)) := (Below.refl _ _).alloc (Nat.le_refl _) _
  have HG6 := Lib.hid (Blk.new c5 #[.func (.func 59) #[] #[.pointer (some ⟨x3, 0, none⟩)]] 54)
  replace HF := Lib.hid (HF.out.step hal6)
  clear hal6
  refine (row_same (some ⟨c5.heap.size, 0, none⟩) 1 1 _).mono ?_
  rintro e a6x ⟨rfl, rfl⟩
  generalize hn6 : c5.alloc (.cells #[.func (.func 59) #[] #[.pointer (some ⟨x3, 0, none⟩)]] 54) = d6 at HF HG6 ⊢
  generalize hg6 : c5.heap.size = g6 at HG6 ⊢
  clear hn6 hg6
  go_wp2_with fail
  obtain ⟨c6, hr6, hf6⟩ := HF.out.insert 6 (.agg #[.func (.func 38) #[] #[], .int .i64 0, .int .i64 0, .slice (some ⟨g6, 0, none⟩) 1 1, .nilFunc, .nilFunc]) (by decide) ⟨_, _, _, rfl, (ks1 HG6.out HF.out.o3), rfl, rfl⟩
  replace HF := Lib.hid hf6
  clear hf6
  rw [hr6]
  simp only [Result.andThen]
  rw [Oper.upon_skip]
  clear hr6
  clear HG6
  go_wp2_with fail
  have hal7 : Below c6.heap.size c6 (c6.alloc (.cells #[.func (.func 59) #[] #[.pointer (some ⟨x1, 0, none⟩)]] 54)) := (Below.refl _ _).alloc (Nat.le_refl _) _
  have HG7 := Lib.hid (Blk.new c6 #[.func (.func 59) #[] #[.pointer (some ⟨x1, 0, none⟩)]] 54)
  replace HF := Lib.hid (HF.out.step hal7)
  clear hal7
  refine (row_same (some ⟨c6.heap.size, 0, none⟩) 1 1 _).mono ?_
  rintro e a7x ⟨rfl, rfl⟩
  generalize hn7 : c6.alloc (.cells #[.func (.func 59) #[] #[.pointer (some ⟨x1, 0, none⟩)]] 54) = d7 at HF HG7 ⊢
  generalize hg7 : c6.heap.size = g7 at HG7 ⊢
  clear hn7 hg7
  go_wp2_with fail
  obtain ⟨c7, hr7, hf7⟩ := HF.out.insert 7 (.agg #[.func (.func 38) #[] #[], .int .i64 0, .int .i64 0, .slice (some ⟨g7, 0, none⟩) 1 1, .nilFunc, .nilFunc]) (by decide) ⟨_, _, _, rfl, (ks1 HG7.out HF.out.o1), rfl, rfl⟩
  replace HF := Lib.hid hf7
  clear hf7
  rw [hr7]
  simp only [Result.andThen]
  rw [Oper.upon_skip]
  clear hr7
  clear HG7
  go_wp2_with fail
  have hal8 : Below c7.heap.size c7 (c7.alloc (.cells #[.func (.func 59) #[] #[.pointer (some ⟨x2, 0, none⟩)]] 54)) := (Below.refl _ _).alloc (Nat.le_refl _) _
  have HG8 := Lib.hid (Blk.new c7 #[.func (.func 59) #[] #[.pointer (some ⟨x2, 0, none⟩)]] 54)
  replace HF := Lib.hid (HF.out.step hal8)
  clear hal8
  refine (row_same (some ⟨c7.heap.size, 0, none⟩) 1 1 _).mono ?_
  rintro e a8x ⟨rfl, rfl⟩
  generalize hn8 : c7.alloc (.cells #[.func (.func 59) #[] #[.pointer (some ⟨x2, 0, none⟩)]] 54) = d8 at HF HG8 ⊢
  generalize hg8 : c7.heap.size = g8 at HG8 ⊢
  clear hn8 hg8
  go_wp2_with fail
  have hal8y : Below d8.heap.size d8 (d8.alloc (.cells (ints [9]) 30)) := (Below.refl _ _).alloc (Nat.le_refl _) _
  refine (one_v [9] (by decide) d8.heap.size _ (Blk.new d8 (ints [9]) 30)).mono ?_
  rintro e a8y ⟨⟨r8, rfl, hor⟩, hbr⟩
  obtain ⟨_, rx8, ry8, hv8, _, _⟩ := id hor
  subst hv8
  have hbb8 := below_after hal8y hbr
  replace HF := Lib.hid (HF.out.step hbb8)
  replace HG8 := Lib.hid (HG8.out.step hbb8)
  have HR8 := Lib.hid hor
  clear hor hbr hbb8 hal8y
  go_wp2_with fail
  obtain ⟨c8, hr8, hf8⟩ := HF.out.insert 8 (.agg #[.func (.func 38) #[] #[], .int .i64 0, .int .i64 0, .slice (some ⟨g8, 0, none⟩) 1 1, .nilFunc, .func (.func 59) #[] #[.pointer (some ⟨rx8, 0, none⟩)]]) (by decide) ⟨_, _, _, rfl, (ks1 HG8.out HF.out.o2), rfl, HR8.out⟩
  replace HF := Lib.hid hf8
  clear hf8
  rw [hr8]
  simp only [Result.andThen]
  rw [Oper.upon_skip]
  clear hr8
  clear HG8
  go_wp2_with fail
  have hal9 : Below c8.heap.size c8 (c8.alloc (.cells #[.func (.func 59) #[] #[.pointer (some ⟨x1, 0, none⟩)]] 54)) := (Below.refl _ _).alloc (Nat.le_refl _) _
  have HG9 := Lib.hid (Blk.new c8 #[.func (.func 59) #[] #[.pointer (some ⟨x1, 0, none⟩)]] 54)
  replace HF := Lib.hid (HF.out.step hal9)
  clear hal9
  refine (row_same (some ⟨c8.heap.size, 0, none⟩) 1 1 _).mono ?_
  rintro e a9x ⟨rfl, rfl⟩
  generalize hn9 : c8.alloc (.cells #[.func (.func 59) #[] #[.pointer (some ⟨x1, 0, none⟩)]] 54) = d9 at HF HG9 ⊢
  generalize hg9 : c8.heap.size = g9 at HG9 ⊢
  clear hn9 hg9
  go_wp2_with fail
  obtain ⟨c9, hr9, hf9⟩ := HF.out.insert 9 (.agg #[.nilFunc, .int .i64 0, .int .i64 3, .slice (some ⟨g9, 0, none⟩) 1 1, .nilFunc, .nilFunc]) (by decide) ⟨_, _, _, rfl, (ks1 HG9.out HF.out.o1), rfl, rfl⟩
  replace HF := Lib.hid hf9
  clear hf9
  rw [hr9]
  simp only [Result.andThen]
  rw [Oper.upon_skip]
  clear hr9
  clear HG9
  go_wp2_with fail
  have hal10 : Below c9.heap.size c9 (c9.alloc (.cells #[.func (.func 59) #[] #[.pointer (some ⟨x2, 0, none⟩)], .func (.func 59) #[] #[.pointer (some ⟨x1, 0, none⟩)]] 54)) := (Below.refl _ _).alloc (Nat.le_refl _) _
  have HG10 := Lib.hid (Blk.new c9 #[.func (.func 59) #[] #[.pointer (some ⟨x2, 0, none⟩)], .func (.func 59) #[] #[.pointer (some ⟨x1, 0, none⟩)]] 54)
  replace HF := Lib.hid (HF.out.step hal10)
  clear hal10
  refine (row_same (some ⟨c9.heap.size, 0, none⟩) 2 2 _).mono ?_
  rintro e a10x ⟨rfl, rfl⟩
  generalize hn10 : c9.alloc (.cells #[.func (.func 59) #[] #[.pointer (some ⟨x2, 0, none⟩)], .func (.func 59) #[] #[.pointer (some ⟨x1, 0, none⟩)]] 54) = d10 at HF HG10 ⊢
  generalize hg10 : c9.heap.size = g10 at HG10 ⊢
  clear hn10 hg10
  go_wp2_with fail
  obtain ⟨c10, hr10, hf10⟩ := HF.out.insert 10 (.agg #[.func (.func 38) #[] #[], .int .i64 0, .int .i64 1, .slice (some ⟨g10, 0, none⟩) 2 2, .nilFunc, .nilFunc]) (by decide) ⟨_, _, _, rfl, (ks2 HG10.out HF.out.o2 HF.out.o1), rfl, rfl⟩
  replace HF := Lib.hid hf10
  clear hf10
  rw [hr10]
  simp only [Result.andThen]
  rw [Oper.upon_skip]
  clear hr10
  clear HG10
  go_wp2_with fail
  have hal11 : Below c10.heap.size c10 (c10.alloc (.cells #[.func (.func 59) #[] #[.pointer (some ⟨x1, 0, none⟩)]] 54)) := (Below.refl _ _).alloc (Nat.le_refl _) _
  have HG11 := Lib.hid (Blk.new c10 #[.func (.func 59) #[] #[.pointer (some ⟨x1, 0, none⟩)]] 54)
  replace HF := Lib.hid (HF.out.step hal11)
  clear hal11
  refine (row_same (some ⟨c10.heap.size, 0, none⟩) 1 1 _).mono ?_
  rintro e a11x ⟨rfl, rfl⟩
  generalize hn11 : c10.alloc (.cells #[.func (.func 59) #[] #[.pointer (some ⟨x1, 0, none⟩)]] 54) = d11 at HF HG11 ⊢
  generalize hg11 : c10.heap.size = g11 at HG11 ⊢
  clear hn11 hg11
  go_wp2_with fail
  obtain ⟨c11, hr11, hf11⟩ := HF.out.insert 11 (.agg #[.nilFunc, .int .i64 0, .int .i64 0, .slice (some ⟨g11, 0, none⟩) 1 1, .nilFunc, .nilFunc]) (by decide) ⟨_, _, _, rfl, (ks1 HG11.out HF.out.o1), rfl, rfl⟩
  replace HF := Lib.hid hf11
  clear hf11
  rw [hr11]
  simp only [Result.andThen]
  rw [Oper.upon_skip]
  clear hr11
  clear HG11
  go_wp2_with fail
  obtain ⟨c12, hr12, hf12⟩ := HF.out.insert 12 (.agg #[.nilFunc, .int .i64 0, .int .i64 0, .slice none 0 0, .nilFunc, .func (.func 21) #[] #[]]) (by decide) ⟨_, _, _, rfl, ks0, rfl, rfl⟩
  replace HF := Lib.hid hf12
  clear hf12
  rw [hr12]
  simp only [Result.andThen]
  rw [Oper.upon_skip]
  clear hr12
  go_wp2_with fail
  have hal13 : Below c12.heap.size c12 (c12.alloc (.cells #[.func (.func 59) #[] #[.pointer (some ⟨x3, 0, none⟩)], .func (.func 23) #[] #[]] 54)) := (Below.refl _ _).alloc (Nat.le_refl _) _
  have HG13 := Lib.hid (Blk.new c12 #[.func (.func 59) #[] #[.pointer (some ⟨x3, 0, none⟩)], .func (.func 23) #[] #[]] 54)
  replace HF := Lib.hid (HF.out.step hal13)
  clear hal13
  refine (row_same (some ⟨c12.heap.size, 0, none⟩) 2 2 _).mono ?_
  rintro e a13x ⟨rfl, rfl⟩
  generalize hn13 : c12.alloc (.cells #[.func (.func 59) #[] #[.pointer (some ⟨x3, 0, none⟩)], .func (.func 23) #[] #[]] 54) = d13 at HF HG13 ⊢
  generalize hg13 : c12.heap.size = g13 at HG13 ⊢
  clear hn13 hg13
  go_wp2_with fail
  obtain ⟨c13, hr13, hf13⟩ := HF.out.insert 13 (.agg #[.func (.func 38) #[] #[], .int .i64 0, .int .i64 0, .slice (some ⟨g13, 0, none⟩) 2 2, .nilFunc, .nilFunc]) (by decide) ⟨_, _, _, rfl, (ks2 HG13.out HF.out.o3 rfl), rfl, rfl⟩
  replace HF := Lib.hid hf13
  clear hf13
  rw [hr13]
  simp only [Result.andThen]
  rw [Oper.upon_skip]
  clear hr13
  clear HG13
  go_wp2_with fail
  have hal14 : Below c13.heap.size c13 (c13.alloc (.cells #[.func (.func 40) #[] #[], .func (.func 23) #[] #[]] 54)) := (Below.refl _ _).alloc (Nat.le_refl _) _
  have HG14 := Lib.hid (Blk.new c13 #[.func (.func 40) #[] #[], .func (.func 23) #[] #[]] 54)
  replace HF := Lib.hid (HF.out.step hal14)
  clear hal14
  refine (row_same (some ⟨c13.heap.size, 0, none⟩) 2 2 _).mono ?_
  rintro e a14x ⟨rfl, rfl⟩
  generalize hn14 : c13.alloc (.cells #[.func (.func 40) #[] #[], .func (.func 23) #[] #[]] 54) = d14 at HF HG14 ⊢
  generalize hg14 : c13.heap.size = g14 at HG14 ⊢
  clear hn14 hg14
  go_wp2_with fail
  obtain ⟨c14, hr14, hf14⟩ := HF.out.insert 14 (.agg #[.nilFunc, .int .i64 0, .int .i64 0, .slice (some ⟨g14, 0, none⟩) 2 2, .nilFunc, .nilFunc]) (by decide) ⟨_, _, _, rfl, (ks2 HG14.out rfl rfl), rfl, rfl⟩
  replace HF := Lib.hid hf14
  clear hf14
  rw [hr14]
  simp only [Result.andThen]
  rw [Oper.upon_skip]
  clear hr14
  clear HG14
  go_wp2_with fail
  have hal19 : Below c14.heap.size c14 (c14.alloc (.cells #[.func (.func 23) #[] #[]] 54)) := (Below.refl _ _).alloc (Nat.le_refl _) _
  have HG19 := Lib.hid (Blk.new c14 #[.func (.func 23) #[] #[]] 54)
  replace HF := Lib.hid (HF.out.step hal19)
  clear hal19
  refine (row_same (some ⟨c14.heap.size, 0, none⟩) 1 1 _).mono ?_
  rintro e a19x ⟨rfl, rfl⟩
  generalize hn19 : c14.alloc (.cells #[.func (.func 23) #[] #[]] 54) = d19 at HF HG19 ⊢
  generalize hg19 : c14.heap.size = g19 at HG19 ⊢
  clear hn19 hg19
  go_wp2_with fail
  obtain ⟨c19, hr19, hf19⟩ := HF.out.insert 19 (.agg #[.func (.func 38) #[] #[], .int .i64 (-1), .int .i64 2147483647, .slice (some ⟨g19, 0, none⟩) 1 1, .func (.func 40) #[] #[], .nilFunc]) (by decide) ⟨_, _, _, rfl, (ks1 HG19.out rfl), rfl, rfl⟩
  replace HF := Lib.hid hf19
  clear hf19
  rw [hr19]
  simp only [Result.andThen]
  rw [Oper.upon_skip]
  clear hr19
  clear HG19
  go_wp2_with fail
  have hal20 : Below c19.heap.size c19 (c19.alloc (.cells #[.func (.func 23) #[] #[]] 54)) := (Below.refl _ _).alloc (Nat.le_refl _) _
  have HG20 := Lib.hid (Blk.new c19 #[.func (.func 23) #[] #[]] 54)
  replace HF := Lib.hid (HF.out.step hal20)
  clear hal20
  refine (row_same (some ⟨c19.heap.size, 0, none⟩) 1 1 _).mono ?_
  rintro e a20x ⟨rfl, rfl⟩
  generalize hn20 : c19.alloc (.cells #[.func (.func 23) #[] #[]] 54) = d20 at HF HG20 ⊢
  generalize hg20 : c19.heap.size = g20 at HG20 ⊢
  clear hn20 hg20
  go_wp2_with fail
  obtain ⟨c20, hr20, hf20⟩ := HF.out.insert 20 (.agg #[.nilFunc, .int .i64 0, .int .i64 0, .slice (some ⟨g20, 0, none⟩) 1 1, .func (.func 40) #[] #[], .nilFunc]) (by decide) ⟨_, _, _, rfl, (ks1 HG20.out rfl), rfl, rfl⟩
  replace HF := Lib.hid hf20
  clear hf20
  rw [hr20]
  simp only [Result.andThen]
  rw [Oper.upon_skip]
  clear hr20
  clear HG20
  go_wp2_with fail
  obtain ⟨c21, hr21, hf21⟩ := HF.out.insert 21 (.agg #[.func (.func 38) #[] #[], .int .i64 0, .int .i64 0, .slice none 0 0, .nilFunc, .nilFunc]) (by decide) ⟨_, _, _, rfl, ks0, rfl, rfl⟩
  replace HF := Lib.hid hf21
  clear hf21
  rw [hr21]
  simp only [Result.andThen]
  rw [Oper.upon_skip]
  clear hr21
  go_wp2_with fail
  obtain ⟨c22, hr22, hf22⟩ := HF.out.insert 22 (.agg #[.func (.func 38) #[] #[], .int .i64 0, .int .i64 0, .slice none 0 0, .nilFunc, .nilFunc]) (by decide) ⟨_, _, _, rfl, ks0, rfl, rfl⟩
  replace HF := Lib.hid hf22
  clear hf22
  rw [hr22]
  simp only [Result.andThen]
  rw [Oper.upon_skip]
  clear hr22
  go_wp2_with fail
  have hal23 : Below c22.heap.size c22 (c22.alloc (.cells #[.func (.func 23) #[] #[], .func (.func 59) #[] #[.pointer (some ⟨x1, 0, none⟩)], .func (.func 59) #[] #[.pointer (some ⟨x1, 0, none⟩)]] 54)) := (Below.refl _ _).alloc (Nat.le_refl _) _
  have HG23 := Lib.hid (Blk.new c22 #[.func (.func 23) #[] #[], .func (.func 59) #[] #[.pointer (some ⟨x1, 0, none⟩)], .func (.func 59) #[] #[.pointer (some ⟨x1, 0, none⟩)]] 54)
  replace HF := Lib.hid (HF.out.step hal23)
  clear hal23
  refine (row_same (some ⟨c22.heap.size, 0, none⟩) 3 3 _).mono ?_
  rintro e a23x ⟨rfl, rfl⟩
  generalize hn23 : c22.alloc (.cells #[.func (.func 23) #[] #[], .func (.func 59) #[] #[.pointer (some ⟨x1, 0, none⟩)], .func (.func 59) #[] #[.pointer (some ⟨x1, 0, none⟩)]] 54) = d23 at HF HG23 ⊢
  generalize hg23 : c22.heap.size = g23 at HG23 ⊢
  clear hn23 hg23
  go_wp2_with fail
  obtain ⟨c23, hr23, hf23⟩ := HF.out.insert 23 (.agg #[.nilFunc, .int .i64 0, .int .i64 0, .slice (some ⟨g23, 0, none⟩) 3 3, .nilFunc, .nilFunc]) (by decide) ⟨_, _, _, rfl, (ks3 HG23.out rfl HF.out.o1 HF.out.o1), rfl, rfl⟩
  replace HF := Lib.hid hf23
  clear hf23
  rw [hr23]
  simp only [Result.andThen]
  rw [Oper.upon_skip]
  clear hr23
  clear HG23
  go_wp2_with fail
  have hal24 : Below c23.heap.size c23 (c23.alloc (.cells #[.func (.func 23) #[] #[], .func (.func 59) #[] #[.pointer (some ⟨x1, 0, none⟩)]] 54)) := (Below.refl _ _).alloc (Nat.le_refl _) _
  have HG24 := Lib.hid (Blk.new c23 #[.func (.func 23) #[] #[], .func (.func 59) #[] #[.pointer (some ⟨x1, 0, none⟩)]] 54)
  replace HF := Lib.hid (HF.out.step hal24)
  clear hal24
  refine (row_same (some ⟨c23.heap.size, 0, none⟩) 2 2 _).mono ?_
  rintro e a24x ⟨rfl, rfl⟩
  generalize hn24 : c23.alloc (.cells #[.func (.func 23) #[] #[], .func (.func 59) #[] #[.pointer (some ⟨x1, 0, none⟩)]] 54) = d24 at HF HG24 ⊢
  generalize hg24 : c23.heap.size = g24 at HG24 ⊢
  clear hn24 hg24
  go_wp2_with fail
  obtain ⟨c24, hr24, hf24⟩ := HF.out.insert 24 (.agg #[.nilFunc, .int .i64 0, .int .i64 0, .slice (some ⟨g24, 0, none⟩) 2 2, .nilFunc, .nilFunc]) (by decide) ⟨_, _, _, rfl, (ks2 HG24.out rfl HF.out.o1), rfl, rfl⟩
  replace HF := Lib.hid hf24
  clear hf24
  rw [hr24]
  simp only [Result.andThen]
  rw [Oper.upon_skip]
  clear hr24
  clear HG24
  go_wp2_with fail
  obtain ⟨c25, hr25, hf25⟩ := HF.out.insert 25 (.agg #[.nilFunc, .int .i64 0, .int .i64 0, .slice none 0 0, .nilFunc, .nilFunc]) (by decide) ⟨_, _, _, rfl, ks0, rfl, rfl⟩
  replace HF := Lib.hid hf25
  clear hf25
  rw [hr25]
  simp only [Result.andThen]
  rw [Oper.upon_skip]
  clear hr25
  go_wp2_with fail
  obtain ⟨c26, hr26, hf26⟩ := HF.out.insert 26 (.agg #[.nilFunc, .int .i64 0, .int .i64 2147483647, .slice none 0 0, .nilFunc, .nilFunc]) (by decide) ⟨_, _, _, rfl, ks0, rfl, rfl⟩
  replace HF := Lib.hid hf26
  clear hf26
  rw [hr26]
  simp only [Result.andThen]
  rw [Oper.upon_skip]
  clear hr26
  go_wp2_with fail
  obtain ⟨c27, hr27, hf27⟩ := HF.out.insert 27 (.agg #[.nilFunc, .int .i64 0, .int .i64 0, .slice none 0 0, .nilFunc, .nilFunc]) (by decide) ⟨_, _, _, rfl, ks0, rfl, rfl⟩
  replace HF := Lib.hid hf27
  clear hf27
  rw [hr27]
  simp only [Result.andThen]
  rw [Oper.upon_skip]
  clear hr27
  go_wp2_with fail
  obtain ⟨c28, hr28, hf28⟩ := HF.out.insert 28 (.agg #[.nilFunc, .int .i64 0, .int .i64 0, .slice none 0 0, .nilFunc, .nilFunc]) (by decide) ⟨_, _, _, rfl, ks0, rfl, rfl⟩
  replace HF := Lib.hid hf28
  clear hf28
  rw [hr28]
  simp only [Result.andThen]
  rw [Oper.upon_skip]
  clear hr28
  go_wp2_with fail
  obtain ⟨c29, hr29, hf29⟩ := HF.out.insert 29 (.agg #[.func (.func 38) #[] #[], .int .i64 0, .int .i64 0, .slice none 0 0, .nilFunc, .nilFunc]) (by decide) ⟨_, _, _, rfl, ks0, rfl, rfl⟩
  replace HF := Lib.hid hf29
  clear hf29
  rw [hr29]
  simp only [Result.andThen]
  rw [Oper.upon_skip]
  clear hr29
  go_wp2_with fail
  have hal30 : Below c29.heap.size c29 (c29.alloc (.cells #[.func (.func 23) #[] #[]] 54)) := (Below.refl _ _).alloc (Nat.le_refl _) _
  have HG30 := Lib.hid (Blk.new c29 #[.func (.func 23) #[] #[]] 54)
  replace HF := Lib.hid (HF.out.step hal30)
  clear hal30
  refine (row_same (some ⟨c29.heap.size, 0, none⟩) 1 1 _).mono ?_
  rintro e a30x ⟨rfl, rfl⟩
  generalize hn30 : c29.alloc (.cells #[.func (.func 23) #[] #[]] 54) = d30 at HF HG30 ⊢
  generalize hg30 : c29.heap.size = g30 at HG30 ⊢
  clear hn30 hg30
  go_wp2_with fail
  obtain ⟨c30, hr30, hf30⟩ := HF.out.insert 30 (.agg #[.func (.func 38) #[] #[], .int .i64 0, .int .i64 0, .slice (some ⟨g30, 0, none⟩) 1 1, .nilFunc, .nilFunc]) (by decide) ⟨_, _, _, rfl, (ks1 HG30.out rfl), rfl, rfl⟩
  replace HF := Lib.hid hf30
  clear hf30
  rw [hr30]
  simp only [Result.andThen]
  rw [Oper.upon_skip]
  clear hr30
  clear HG30
  go_wp2_with fail
  have hal31 : Below c30.heap.size c30 (c30.alloc (.cells #[.func (.func 23) #[] #[], .func (.func 23) #[] #[]] 54)) := (Below.refl _ _).alloc (Nat.le_refl _) _
  have HG31 := Lib.hid (Blk.new c30 #[.func (.func 23) #[] #[], .func (.func 23) #[] #[]] 54)
  replace HF := Lib.hid (HF.out.step hal31)
  clear hal31
  refine (row_same (some ⟨c30.heap.size, 0, none⟩) 2 2 _).mono ?_
  rintro e a31x ⟨rfl, rfl⟩
  generalize hn31 : c30.alloc (.cells #[.func (.func 23) #[] #[], .func (.func 23) #[] #[]] 54) = d31 at HF HG31 ⊢
  generalize hg31 : c30.heap.size = g31 at HG31 ⊢
  clear hn31 hg31
  go_wp2_with fail
  obtain ⟨c31, hr31, hf31⟩ := HF.out.insert 31 (.agg #[.nilFunc, .int .i64 0, .int .i64 0, .slice (some ⟨g31, 0, none⟩) 2 2, .nilFunc, .nilFunc]) (by decide) ⟨_, _, _, rfl, (ks2 HG31.out rfl rfl), rfl, rfl⟩
  replace HF := Lib.hid hf31
  clear hf31
  rw [hr31]
  simp only [Result.andThen]
  rw [Oper.upon_skip]
  clear hr31
  clear HG31
  go_wp2_with fail
  have hal32 : Below c31.heap.size c31 (c31.alloc (.cells #[.func (.func 23) #[] #[], .func (.func 23) #[] #[]] 54)) := (Below.refl _ _).alloc (Nat.le_refl _) _
  have HG32 := Lib.hid (Blk.new c31 #[.func (.func 23) #[] #[], .func (.func 23) #[] #[]] 54)
  replace HF := Lib.hid (HF.out.step hal32)
  clear hal32
  refine (row_same (some ⟨c31.heap.size, 0, none⟩) 2 2 _).mono ?_
  rintro e a32x ⟨rfl, rfl⟩
  generalize hn32 : c31.alloc (.cells #[.func (.func 23) #[] #[], .func (.func 23) #[] #[]] 54) = d32 at HF HG32 ⊢
  generalize hg32 : c31.heap.size = g32 at HG32 ⊢
  clear hn32 hg32
  go_wp2_with fail
  obtain ⟨c32, hr32, hf32⟩ := HF.out.insert 32 (.agg #[.func (.func 41) #[] #[], .int .i64 0, .int .i64 0, .slice (some ⟨g32, 0, none⟩) 2 2, .nilFunc, .nilFunc]) (by decide) ⟨_, _, _, rfl, (ks2 HG32.out rfl rfl), rfl, rfl⟩
  replace HF := Lib.hid hf32
  clear hf32
  rw [hr32]
  simp only [Result.andThen]
  rw [Oper.upon_skip]
  clear hr32
  clear HG32
  go_wp2_with fail
  obtain ⟨c33, hr33, hf33⟩ := HF.out.insert 33 (.agg #[.func (.func 38) #[] #[], .int .i64 0, .int .i64 0, .slice none 0 0, .nilFunc, .nilFunc]) (by decide) ⟨_, _, _, rfl, ks0, rfl, rfl⟩
  replace HF := Lib.hid hf33
  clear hf33
  rw [hr33]
  simp only [Result.andThen]
  rw [Oper.upon_skip]
  clear hr33
  go_wp2_with fail
  have hal36 : Below c33.heap.size c33 (c33.alloc (.cells #[.func (.func 59) #[] #[.pointer (some ⟨x1, 0, none⟩)]] 54)) := (Below.refl _ _).alloc (Nat.le_refl _) _
  have HG36 := Lib.hid (Blk.new c33 #[.func (.func 59) #[] #[.pointer (some ⟨x1, 0, none⟩)]] 54)
  replace HF := Lib.hid (HF.out.step hal36)
  clear hal36
  refine (row_same (some ⟨c33.heap.size, 0, none⟩) 1 1 _).mono ?_
  rintro e a36x ⟨rfl, rfl⟩
  generalize hn36 : c33.alloc (.cells #[.func (.func 59) #[] #[.pointer (some ⟨x1, 0, none⟩)]] 54) = d36 at HF HG36 ⊢
  generalize hg36 : c33.heap.size = g36 at HG36 ⊢
  clear hn36 hg36
  go_wp2_with fail
  obtain ⟨c36, hr36, hf36⟩ := HF.out.insert 36 (.agg #[.nilFunc, .int .i64 0, .int .i64 0, .slice (some ⟨g36, 0, none⟩) 1 1, .nilFunc, .nilFunc]) (by decide) ⟨_, _, _, rfl, (ks1 HG36.out HF.out.o1), rfl, rfl⟩
  replace HF := Lib.hid hf36
  clear hf36
  rw [hr36]
  simp only [Result.andThen]
  rw [Oper.upon_skip]
  clear hr36
  clear HG36
  have hal : Below c36.heap.size c36 (c36.alloc (.cells #[.int .i64 15, .int .i64 16, .int .i64 17, .int .i64 18, .int .i64 34, .int .i64 35] 30)) := (Below.refl _ _).alloc (Nat.le_refl _) _
  go_wp2
  have HGL := Lib.hid (show Blk c36.heap.size (ints sixL) 30 (c36.alloc (.cells #[.int .i64 15, .int .i64 16, .int .i64 17, .int .i64 18, .int .i64 34, .int .i64 35] 30)) from Blk.new c36 #[.int .i64 15, .int .i64 16, .int .i64 17, .int .i64 18, .int .i64 34, .int .i64 35] 30)
  replace HF := Lib.hid (HF.out.step hal)
  clear hal
  generalize hn : c36.alloc (.cells #[.int .i64 15, .int .i64 16, .int .i64 17, .int .i64 18, .int .i64 34, .int .i64 35] 30) = dd at HF HGL ⊢
  generalize hg : c36.heap.size = gl at HGL ⊢
  clear hn hg
  go_loopw [121] (fun i wr => ∃ j : Nat, j ≤ 6 ∧ i = .int .i64 j ∧ Hid (FC w0 m (.func (.func 59) #[] #[.pointer (some ⟨x1, 0, none⟩)]) (.func (.func 59) #[] #[.pointer (some ⟨x2, 0, none⟩)]) (.func (.func 59) #[] #[.pointer (some ⟨x3, 0, none⟩)]) b5 #[.nilFunc, .int .i64 0, .int .i64 0, .slice (some ⟨a3.heap.size, 0, none⟩) 1 1, .nilFunc, .nilFunc] (keyL ++ sixL.take j) wr) ∧ Hid (Blk gl (ints sixL) 30 wr)) (fun i _ => 6 - (intOf i).toNat)
  case atStart => exact ⟨0, Nat.zero_le _, rfl, Lib.hid HF.out, HGL⟩
  case round =>
    obtain ⟨j, hj, rfl, hf, hgl⟩ := hrel
    by_cases hlt : j < 6
    · have hjs : j < sixL.length := hlt
      have hc := hgl.out.cell j (.int .i64 sixL[j]) (by simp [ints, hjs])
      obtain ⟨wn, hr, hfn, hkeep⟩ := hf.out.insert2 sixL[j] (.agg #[.nilFunc, .int .i64 0, .int .i64 0, .slice (some ⟨a3.heap.size, 0, none⟩) 1 1, .nilFunc, .nilFunc]) (six_not j hjs) (by rw [six_tbl j hjs]; exact hf.out.f5)
      have HT := Lib.hid (List.take_succ_eq_append_getElem hjs)
      generalize sixL[j] = kk at hc hr hfn HT
      have HFN := Lib.hid hfn
      have HGN := Lib.hid (hkeep _ _ _ hgl.out)
      have z0 := hf.out.b5.cell 0 _ rfl
      have z1 := hf.out.b5.cell 1 _ rfl
      have z2 := hf.out.b5.cell 2 _ rfl
      have z3 := hf.out.b5.cell 3 _ rfl
      have z4 := hf.out.b5.cell 4 _ rfl
      have z5 := hf.out.b5.cell 5 _ rfl
      clear hfn hkeep
      go_wp2
      go_roundw
      case rel =>
        refine ⟨j + 1, by omega, by go_num, ?_, HGN⟩
        rw [HT.out, ← List.append_assoc]
        exact HFN
      case measure => simp [intOf]; omega
    · have e : j = 6 := by omega
      subst e
      go_wp2
      go_ret
      obtain ⟨es, h1, h2, h3⟩ := hf.out.map
      refine ⟨_, es, rfl, h2, fun k a b => ?_, h3, hf.out.below⟩
      rw [h1]
      have hk : k = 1 ∨ k = 2 ∨ k = 3 ∨ k = 4 ∨ k = 5 ∨ k = 6 ∨ k = 7 ∨ k = 8 ∨ k = 9 ∨ k = 10 ∨ k = 11 ∨ k = 12 ∨ k = 13 ∨ k = 14 ∨ k = 15 ∨ k = 16 ∨ k = 17 ∨ k = 18 ∨ k = 19 ∨ k = 20 ∨ k = 21 ∨ k = 22 ∨ k = 23 ∨ k = 24 ∨ k = 25 ∨ k = 26 ∨ k = 27 ∨ k = 28 ∨ k = 29 ∨ k = 30 ∨ k = 31 ∨ k = 32 ∨ k = 33 ∨ k = 34 ∨ k = 35 ∨ k = 36 := by omega
      clear a b
      rcases hk with rfl | rfl | rfl | rfl | rfl | rfl | rfl | rfl | rfl | rfl | rfl | rfl | rfl | rfl | rfl | rfl | rfl | rfl | rfl | rfl | rfl | rfl | rfl | rfl | rfl | rfl | rfl | rfl | rfl | rfl | rfl | rfl | rfl | rfl | rfl | rfl <;> decide
end Go.Proofs.YtbpefmidgfmcaaaDoor
end
