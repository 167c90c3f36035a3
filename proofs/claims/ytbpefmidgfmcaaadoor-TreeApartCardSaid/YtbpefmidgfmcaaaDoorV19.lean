/-
  The law TreeApart of the package detentlaw02 answers true at every two trees, and changes neither. No condition.
-/
import Derived.Test.YtbpefmidgfmcaaaDoorCards
import Derived.Test.YtbpefmidgfmcaaaDoorRows
import Derived.Test.YtbpefmidgfmcaaaDoorTie
import Derived.Test.YtbpefmidgfmcaaaDoorV18
import Derived.ProofKit
import Derived.LaidMore
import Derived.OpenShut
import Derived.Stop.Joined
import Derived.Lib.LaidU8
import Derived.SizedLaws
import Derived.Deep.Slices
import Derived.ChangeSame
import Derived.SevenTiedAt
section
set_option linter.unusedVariables false
set_option linter.unusedSimpArgs false
namespace Go.Proofs.YtbpefmidgfmcaaaDoor
open Go.RowKit Go.ChangeShapes Go.WideShapes PTreeApart Go.Proofs.YtbpefmidgfmcaaaDoorW.PrintWords
section
variable {H : Type} {enc : TypeId × Value → H} {W : World} {base : Nat} {sp : Nat → Bool} {held : Bool}
set_option maxRecDepth 100000 in
theorem open_kids {n : Nat} {v : Value} {x : DataW H × List MemPlace} (h : DataW.trod enc Tryd.prog W base sp held n 31 [v] = some x) :
    ∃ (A : Option Addr) (c : Nat) (xs : List Int), v = .slice A xs.length c ∧ xs.length ≤ c ∧ (Kd.int .i64).C W A xs.length xs := by
  rcases Deep.open_slice1 Tryd.underlying31 (show Tryd.prog.cellsOf 3 = 1 by kernel_rfl) h with ⟨hv, _⟩ | ⟨a, len, cap, m, n', V, D, Pl, hv, _, hl, hm, hmm, _, hx⟩
  · simp only [List.cons.injEq, and_true] at hv
    exact ⟨none, 0, [], hv, Nat.le_refl _, kd_nil W⟩
  · simp only [List.cons.injEq, and_true] at hv
    have hlm : len ≤ m := by rw [hmm]; split <;> omega
    obtain ⟨F, hF⟩ := Deep.choose_lt (α := Int) (n := len) (p := fun i z => W.cell? (a.add i) = some (.int .i64 z)) (fun i hi => by
      obtain ⟨h1, h2⟩ := hx i (by omega)
      obtain ⟨z, e1, _, _⟩ := DataW.trod_int Tryd.underlying3 h2
      simp only [List.cons.injEq, and_true] at e1
      exact ⟨z, by rw [h1, e1]⟩)
    have hlen : ((List.range len).map F).length = len := by simp
    have hmax : cap ≤ 140737488355328 ∨ True := .inr trivial
    refine ⟨some a, cap, (List.range len).map F, by rw [hlen]; exact hv, by rw [hlen]; exact hl, by rw [hlen], ?_, fun _ => ⟨a, rfl, fun j p hj => ⟨[.int .i64 p], rfl, rfl, fun i u hu => ?_⟩⟩⟩
    · have : maxLen ≤ 9223372036854775807 := by unfold maxLen; omega
      rw [hlen]; omega
    · cases i with
      | zero =>
        obtain rfl : Value.int .i64 p = u := by simpa using hu
        have hj' : j < len := by have := (List.getElem?_eq_some_iff.1 hj).1; rwa [hlen] at this
        have hp : p = F j := by
          rw [List.getElem?_map, List.getElem?_range hj'] at hj
          simpa using hj.symm
        rw [show (Kd.int .i64).sz = 1 from rfl, Nat.mul_one, Nat.add_zero, hp]
        exact hF j hj'
      | succ i => simp at hu
instance : Inhabited S33 := ⟨z33⟩
set_option maxRecDepth 100000 in
theorem open_twigs {n : Nat} {v : Value} {x : DataW H × List MemPlace} (h : DataW.trod enc Tryd.prog W base sp held n 22 [v] = some x) :
    ∃ (A : Option Addr) (c : Nat) (l : List S33), v = .slice A l.length c ∧ l.length ≤ c ∧ Kd.C k33 W A l.length l := by
  rcases Deep.open_slice Tryd.underlying22 h with ⟨hv, _⟩ | ⟨a, len, cap, m, n', D, Pl, hv, _, hl, hm, hmm, _, hx⟩
  · simp only [List.cons.injEq, and_true] at hv
    exact ⟨none, 0, [], hv, Nat.le_refl _, Kd.C_nil k33 W⟩
  · simp only [List.cons.injEq, and_true] at hv
    have hlm : len ≤ m := by rw [hmm]; split <;> omega
    have c33 : Tryd.prog.cellsOf 33 = 6 := by kernel_rfl
    have c30 : Tryd.prog.cellsOf 30 = 1 := by kernel_rfl
    have c9 : Tryd.prog.cellsOf 9 = 1 := by kernel_rfl
    have c2 : Tryd.prog.cellsOf 2 = 1 := by kernel_rfl
    have c3 : Tryd.prog.cellsOf 3 = 1 := by kernel_rfl
    have c31 : Tryd.prog.cellsOf 31 = 1 := by kernel_rfl
    obtain ⟨F, hF⟩ := Deep.choose_lt (α := S33) (n := len) (p := fun i s => ∃ cs : List Value, cs.length = 6 ∧ k33.K W s cs ∧ ∀ j u, cs[j]? = some u → W.cell? (a.add (i * 6 + j)) = some u) (fun i hi => by
      obtain ⟨cs', h1, h2⟩ := hx i (by omega)
      rw [c33] at h1
      obtain ⟨_, hcl, hat⟩ := World.cells?_some h1
      obtain ⟨ys, n2, _, _, _, hyl, hf⟩ := DataW.trod_struct Tryd.underlying33 h2
      match cs', hcl with
      | [u0, u1, u2, u3, u4, u5], _ =>
        match ys, hyl with
        | [y0, y1, y2, y3, y4, y5], _ =>
          have f0 := hf 0 { name := "Kind", type := 30, offset := 0, embedded := false, tag := "", pkgPath := "", byteOffset := 0 } rfl
          have f1 := hf 1 { name := "Text", type := 9, offset := 1, embedded := false, tag := "", pkgPath := "", byteOffset := 8 } rfl
          have f2 := hf 2 { name := "N", type := 2, offset := 2, embedded := false, tag := "", pkgPath := "", byteOffset := 24 } rfl
          have f3 := hf 3 { name := "Line", type := 3, offset := 3, embedded := false, tag := "", pkgPath := "", byteOffset := 32 } rfl
          have f4 := hf 4 { name := "Col", type := 3, offset := 4, embedded := false, tag := "", pkgPath := "", byteOffset := 40 } rfl
          have f5 := hf 5 { name := "Kids", type := 31, offset := 5, embedded := false, tag := "", pkgPath := "", byteOffset := 48 } rfl
          simp only [c30, c9, c2, c3, c31, List.drop_zero, List.drop_succ_cons, List.take_succ_cons, List.take_zero, List.getElem?_cons_zero, List.getElem?_cons_succ] at f0 f1 f2 f3 f4 f5
          obtain ⟨z0, e0', _, _⟩ := DataW.trod_int Tryd.underlying30 f0
          obtain ⟨z1, e1', _, _⟩ := DataW.trod_string Tryd.underlying9 f1
          obtain ⟨z2, e2', _, _⟩ := DataW.trod_int Tryd.underlying2 f2
          obtain ⟨z3, e3', _, _⟩ := DataW.trod_int Tryd.underlying3 f3
          obtain ⟨z4, e4', _, _⟩ := DataW.trod_int Tryd.underlying3 f4
          obtain ⟨A5, k5, xs, e5', l5, g5⟩ := open_kids f5
          simp only [List.cons.injEq, and_true] at e0' e1' e2' e3' e4'
          subst e0' e1' e2' e3' e4' e5'
          refine ⟨⟨z0, z1, z2, z3, z4, xs⟩, _, rfl, k33_mk W ⟨z0, z1, z2, z3, z4, xs⟩ l5 g5, fun j u hu => ?_⟩
          have hj : j < 6 := by have := (List.getElem?_eq_some_iff.1 hu).1; simpa using this
          rw [← Deep.add_add, hat j hj]; exact hu)
    have hlen : ((List.range len).map F).length = len := by simp
    refine ⟨some a, cap, (List.range len).map F, by rw [hlen]; exact hv, by rw [hlen]; exact hl, by rw [hlen], ?_, fun _ => ⟨a, rfl, fun j p hj => ?_⟩⟩
    · have : maxLen ≤ 9223372036854775807 := by unfold maxLen; omega
      rw [hlen]; omega
    · have hj' : j < len := by have := (List.getElem?_eq_some_iff.1 hj).1; rwa [hlen] at this
      have hp : p = F j := by
        rw [List.getElem?_map, List.getElem?_range hj'] at hj
        simpa using hj.symm
      obtain ⟨cs, g1, g2, g3⟩ := hF j hj'
      rw [hp]
      exact ⟨cs, g1, g2, fun i u hu => g3 i u hu⟩
set_option maxRecDepth 100000 in
theorem open_tree {r : Reach} {b0 : Nat} {v : Value} {d : DataW H} {p : List MemPlace} (hv : Value.okWide Tryd.prog W r b0 24 v) (h : DataW.Trod enc Tryd.prog W base sp held 24 v d p) :
    ∃ (A : Option Addr) (c : Nat) (l : List S33), v = .agg #[.slice A l.length c] ∧ l.length ≤ c ∧ Kd.C k33 W A l.length l := by
  obtain ⟨cs, rfl, hsz⟩ := okWide_struct Tryd.underlying24 hv
  have c24 : Tryd.prog.cellsOf 24 = 1 := by kernel_rfl
  have c22 : Tryd.prog.cellsOf 22 = 1 := by kernel_rfl
  obtain ⟨l⟩ := cs
  match l, hsz.trans c24 with
  | [u0], _ =>
    obtain ⟨fuel, hf⟩ := h
    obtain ⟨ys, n2, _, _, _, hyl, hg⟩ := DataW.trod_struct Tryd.underlying24 hf
    match ys, hyl with
    | [y0], _ =>
      have f0 := hg 0 { name := "Twigs", type := 22, offset := 0, embedded := false, tag := "", pkgPath := "", byteOffset := 0 } rfl
      simp only [Value.cells, c22, List.drop_zero, List.take_succ_cons, List.take_zero, List.getElem?_cons_zero] at f0
      obtain ⟨A, c, l, e, g1, g2⟩ := open_twigs f0
      exact ⟨A, c, l, by rw [e], g1, g2⟩
end
theorem tab_of_reads {w : World} {name : String} {k : IntKind} {zs : List Int} {g : Nat} {t e : TypeId} {n : Nat}
    (hg : Tryd.prog.globalNamed name = some g) (hty : (Tryd.prog.globals[g]?).map (·.type) = some t) (ht : Tryd.prog.underlying t = some (.array n e)) (he : Tryd.prog.underlying e = some (.int k)) (hce : Tryd.prog.cellsOf e = 1) (hct : Tryd.prog.cellsOf t = n)
    (h : Lib.VarReads Tryd.prog w name (Lib.tabData k zs)) : Lib.TabIs Tryd.prog w name k zs := by
  obtain ⟨g', t', cs, fuel, p, hg', ht', hvar, hd⟩ := h
  obtain rfl := Option.some.inj (hg.symm.trans hg')
  obtain rfl := Option.some.inj (hty.symm.trans ht')
  unfold Lib.TabIs
  rw [hvar, ← Lib.cells_of_tab ht he hce hct hd]
set_option maxRecDepth 100000 in
theorem tabs_of_laid {w : World} (h : laidMetH Tryd.prog Rows.treeApartRow.laid w) :
    Lib.TabIs Tryd.prog w "internal/strconv.uint64pow10" .u64 Lib.pow10Tab ∧ Lib.TabIs Tryd.prog w "strings.asciiSpace" .u8 Lib.asciiSpaceTab := by
  rw [MakeChecks.laidMetH_plain _ _ _ (by kernel_rfl)] at h
  refine ⟨?_, ?_⟩
  · exact tab_of_reads (g := 0) (by kernel_rfl) (by kernel_rfl) Tryd.underlying102 (by kernel_rfl) (by kernel_rfl) (by kernel_rfl) (Lib.laidMet.reads h (.tail _ (.tail _ (.head _))))
  · exact tab_of_reads (g := 1) (by kernel_rfl) (by kernel_rfl) Tryd.underlying110 (by kernel_rfl) (by kernel_rfl) (by kernel_rfl) (Lib.laidMet.reads h (.tail _ (.tail _ (.tail _ (.tail _ (.head _))))))
end Go.Proofs.YtbpefmidgfmcaaaDoor
end
section
set_option linter.unusedVariables false
set_option linter.unusedSimpArgs false
namespace Go.Proofs.YtbpefmidgfmcaaaDoor
open Go.ChangeShapes Go.WideShapes Go.ChangeAt Go.RowKit
theorem own : ownKnob Tryd.prog.godebug = none := by kernel_rfl
theorem laidOut : laidOutB Tryd.prog = true := by kernel_rfl
theorem door_met (os : Os) (args : Array Value) : laidMetH Tryd.prog Rows.treeApartRow.laid ((World.doorLaid Tryd.prog 400 os).forCall (fun _ _ => 0) ⟨#[], args, []⟩).memory :=
  laidMetH_of_parts3 (fuel := 8) (laidMet_of_run' 8 (by kernel_rfl) (by kernel_rfl)) (by kernel_rfl) (by kernel_rfl)
set_option maxRecDepth 100000 in
theorem lifted (os : Os) (started : os.Started) (H : Type) (enc : TypeId × Value → H) :
    ReturnsInHanded {} Tryd.checked os 3 .any (fun w args => (Rows.treeApartSpec.pre enc Tryd.prog Tryd.f3 [] false w args ∧ laidMetH Tryd.prog Rows.treeApartRow.laid w) ∧ sizedMet enc Tryd.prog Tryd.f3 (OpenSpec.ofChange Rows.treeApartSpec) false w args)
      (Rows.treeApartSpec.post enc Tryd.prog Tryd.f3 false true false false) := by
  refine returnsInHanded_of_change_and (C := Tryd.checked) (X := fun w _ => laidMetH Tryd.prog Rows.treeApartRow.laid w) (fun _ _ _ hh h => h.of_heap hh) own started (by kernel_rfl) Tryd.func3
    (ChangeSpec.witness_shaped (enc := enc) (C := Tryd.checked) (os := os) (X := fun w _ => laidMetH Tryd.prog Rows.treeApartRow.laid w) false (World.doorLaid Tryd.prog 400 os) #[.agg #[.slice none 0 0], .agg #[.slice none 0 0]] 8 rfl (World.shaped_of_RefB (by kernel_rfl) (by kernel_rfl)) (by kernel_rfl) (by kernel_rfl) (by kernel_rfl) (door_met os _)) ?_
  intro W base args ds gs before hval0 hW _ _ hL _
  have hval : ∀ (j : Nat) t v, Tryd.f3.params[j]? = some t → args[j]? = some v → Value.okWide Tryd.prog W .any base t v := hval0
  have hW' := hW
  obtain ⟨p, q, hA0, hV, rfl, hfz, hnd⟩ := hW
  have hA : DataW.TrodAll enc Tryd.prog W 0 (fun _ => true) true Tryd.f3.params.toList args.toList ds p := hA0
  rw [Tryd.params3] at hA hval
  obtain ⟨v0, v1, d0, d1, p0, p1, rfl, rfl, rfl, h0, h1⟩ := trodAll_two hA
  obtain ⟨rfl, rfl⟩ := trodVars_none hV
  obtain ⟨A, c, l, rfl, hc, hr⟩ := open_tree (hval 0 24 v0 rfl rfl) h0
  obtain ⟨A', c', l', rfl, hc', hr'⟩ := open_tree (hval 1 24 v1 rfl rfl) h1
  obtain ⟨ht1, ht2⟩ := tabs_of_laid hL
  have lt0 : ∀ x ∈ p0, x.block < W.heap.size := by obtain ⟨m, hm⟩ := h0; exact DataW.trod_lt m _ _ _ hm
  have lt1 : ∀ x ∈ p1, x.block < W.heap.size := by obtain ⟨m, hm⟩ := h1; exact DataW.trod_lt m _ _ _ hm
  clear hA0 hval0
  simp only [List.append_nil] at hW'
  refine (law_any A c l A' c' l' W hr hc hr' hc' ht1 ht2).mono fun e W' ⟨he, bel⟩ => ?_
  subst he
  have e1 : Rows.treeApartSpec.fn H ([d0, d1] ++ []) = { results := [.lit (.bool true)], args := [d0, d1] } := rfl
  refine ⟨_, rfl, _, _, _, [], p0 ++ p1, [], hW', ?_, ?_, ?_, bel.frame _, fun h => by cases h⟩
  · rw [e1]; exact trodAll_mk1 (shut_bool Tryd.underlying4 true)
  · rw [e1]; exact trodAll_mk2 (Below.trod laidOut (by kernel_rfl) (of_decide_eq_true (by kernel_rfl)) h0 bel lt0) (Below.trod laidOut (by kernel_rfl) (of_decide_eq_true (by kernel_rfl)) h1 bel lt1)
  · rw [e1]; rfl
theorem treeApart_holds : Rows.TreeApartSaid :=
  OpenClaim.holds_of_wide 3 Tryd.f3 rfl rfl rfl rfl rfl rfl rfl ⟨rfl, rfl, rfl, rfl, rfl⟩ rfl rfl rfl rfl rfl (by kernel_rfl) Tryd.func3 (by kernel_rfl)
    (of_decide_eq_true (by kernel_rfl)) (by unfold Func.isWrapper; first | (rw [if_pos (by decide +kernel)]; kernel_rfl) | (rw [if_neg (by decide +kernel)]; exact ⟨rfl, rfl⟩))
    (fun os started H enc _ => lifted os started H enc)
theorem treeApartCard_holds : Rows.TreeApartCardSaid :=
  Claim7.holds_tied_plain_at .later [] [.data, .data, .data, .listed, .data] true (true, "0508d3111d849c9568250a3f96c16de352583fbd7f4f3a5e4a699e680beab545") false
    treeApart_holds (fun _ h => by cases h) (by kernel_rfl) (fun _ h => by cases h) treeApart_row_tie rfl ⟨rfl, rfl⟩ (by kernel_rfl) rfl
    (fun f fn hf hfn => by
      obtain rfl : f = 3 := Option.some.inj ((show Tryd.prog.funcNamed "detent/detentlaw02.TreeApart" = some 3 by kernel_rfl).symm.trans hf) |>.symm
      obtain rfl : fn = Tryd.f3 := (Option.some.inj (Tryd.func3.symm.trans hfn)).symm
      exact ⟨by kernel_rfl, fun j t ht => by
        rw [Tryd.params3] at ht
        have hm : t ∈ [24, 24] := by simpa using Array.mem_of_getElem? ht
        have hall : ([24, 24].all fun u => !Tryd.prog.wantsStandIn u) = true := by kernel_rfl
        exact (show Tryd.prog.wantsStandIn t = false by simpa using List.all_eq_true.1 hall t hm)⟩)
    (by kernel_rfl)
#print axioms treeApartCard_holds
end Go.Proofs.YtbpefmidgfmcaaaDoor
end
