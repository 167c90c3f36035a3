import Derived.Test.YtbpefmidgfmcaaaDoorV2
section
namespace Go.Proofs.YtbpefmidgfmcaaaDoor.PTreeApart
open Go.RowKit Go.Proofs.YtbpefmidgfmcaaaDoorW.PrintWords Go.Proofs.YtbpefmidgfmcaaaDoorW.PrintLast Go.Proofs.YtbpefmidgfmcaaaDoorW.PrintMore
set_option linter.unusedVariables false
set_option linter.unusedSimpArgs false
def detentref02_Paren.f (k : Nat) (l0_0 : List (S33)) (a1_0 : Int) (a1_1 : ByteArray) (a1_2 : Int) (a1_3 : Int) (a1_4 : Int) (l1_5 : List Int) (a2 : Int) : Option (Bool) := if 0 ≤ a2 then (if a2 < (l1_5.length : Int) then (if 0 ≤ (rd l1_5 a2) then (if (rd l1_5 a2) < (l0_0.length : Int) then ((rbi.f k ((rT l0_0 (rd l1_5 a2)).f0) ((rT l0_0 (rd l1_5 a2)).f1) ((rT l0_0 (rd l1_5 a2)).f2) ((rT l0_0 (rd l1_5 a2)).f3) ((rT l0_0 (rd l1_5 a2)).f4) ((rT l0_0 (rd l1_5 a2)).f5)).bind fun t147 => (if t147 > 0 then ((rmu.f k a1_0 a1_1 a1_2 a1_3 a1_4 l1_5 a2).bind fun t148 => (some (decide (t147 < t148)))) else (some false))) else (none)) else (none)) else (none)) else (none)
def detentref02_Paren.T1 : Bool × List (List Nat × List Nat) := (true, [([], []), ([0], [0]), ([], []), ([2], [2]), ([], []), ([3, 4], [3, 4]), ([5], [5]), ([1, 6], [1, 6]), ([7], [7]), ([8], [8]), ([9, 9, 0, 1, 2, 3, 4, 5, 6, 7, 8, 9], [9])])
def detentref02_Paren.B1 : List Nat := [0, 1, 0, 4, 0, 28, 60, 127, 255, 511, 1023]
theorem detentref02_Paren.tab1 : rtab .any (opsOf Tryd.f15 1) = detentref02_Paren.T1 := by kernel_rfl
theorem detentref02_Paren.bits1 : waitsOk detentref02_Paren.T1.2 detentref02_Paren.B1 = true := by kernel_rfl
set_option maxHeartbeats 8000000 in
set_option maxRecDepth 100000 in
theorem detentref02_Paren.calls (k : Nat) (A0_0 : Option Addr) (c0_0 : Nat) (l0_0 : List (S33)) (a1_0 : Int) (a1_1 : ByteArray) (a1_2 : Int) (a1_3 : Int) (a1_4 : Int) (A1_5 : Option Addr) (c1_5 : Nat) (l1_5 : List Int) (a2 : Int) (r : Bool) (w : World) (hr0_0 : Kd.C k33 w A0_0 l0_0.length l0_0) (hc0_0 : l0_0.length ≤ c0_0) (hr1_5 : Kd.C (Kd.int .i64) w A1_5 l1_5.length l1_5) (hc1_5 : l1_5.length ≤ c1_5) (h : detentref02_Paren.f k l0_0 a1_0 a1_1 a1_2 a1_3 a1_4 l1_5 a2 = some r) :
  Calls Tryd.prog 15 #[.agg #[.slice A0_0 l0_0.length c0_0], .agg #[.int .i64 a1_0, .string a1_1, .int .i64 a1_2, .int .i64 a1_3, .int .i64 a1_4, .slice A1_5 l1_5.length c1_5], .int .i64 a2] w fun e w' => e = .returned (.bool r) ∧ Below w.heap.size w w' := by
 have hu24 := Tryd.underlying24; have hu33 := Tryd.underlying33; have HR0_0 := As.mk hr0_0; have HC0_0 := As.mk hc0_0; clear hr0_0 hc0_0; have HR1_5 := As.mk hr1_5; have HC1_5 := As.mk hc1_5; clear hr1_5 hc1_5; have HB := As.mk (Below.refl w.heap.size w); have H : (if 0 ≤ a2 then (if a2 < (l1_5.length : Int) then (if 0 ≤ (rd l1_5 a2) then (if (rd l1_5 a2) < (l0_0.length : Int) then ((rbi.f k ((rT l0_0 (rd l1_5 a2)).f0) ((rT l0_0 (rd l1_5 a2)).f1) ((rT l0_0 (rd l1_5 a2)).f2) ((rT l0_0 (rd l1_5 a2)).f3) ((rT l0_0 (rd l1_5 a2)).f4) ((rT l0_0 (rd l1_5 a2)).f5)).bind fun t147 => (if t147 > 0 then ((rmu.f k a1_0 a1_1 a1_2 a1_3 a1_4 l1_5 a2).bind fun t148 => (some (decide (t147 < t148)))) else (some false))) else (none)) else (none)) else (none)) else (none)) = some r := h; clear h
 by_cases c4 : 0 ≤ a2
 ·rw [if_pos c4] at H; have c4b0 : decide (0 ≤ a2) = true := decide_eq_true c4; clear c4
  by_cases c5 : a2 < (l1_5.length : Int)
  ·rw [if_pos c5] at H; have c5b0 : decide (a2 < (l1_5.length : Int)) = true := decide_eq_true c5; clear c5
   by_cases c6 : 0 ≤ (rd l1_5 a2)
   ·rw [if_pos c6] at H; have c6b0 : decide (0 ≤ (rd l1_5 a2)) = true := decide_eq_true c6; clear c6
    by_cases c7 : (rd l1_5 a2) < (l0_0.length : Int)
    ·rw [if_pos c7] at H; have c7b0 : decide ((rd l1_5 a2) < (l0_0.length : Int)) = true := decide_eq_true c7; clear c7; replace H := Option.bind_eq_some_iff.mp H; obtain ⟨t147, A80, H⟩ := H; replace H : (if t147 > 0 then ((rmu.f k a1_0 a1_1 a1_2 a1_3 a1_4 l1_5 a2).bind fun t148 => (some (decide (t147 < t148)))) else (some false)) = some r := H; have A8 := As.mk A80; clear A80
     by_cases c9 : t147 > 0
     ·rw [if_pos c9] at H; have c9b0 : decide (0 < t147) = true := decide_eq_true c9; clear c9; replace H := Option.bind_eq_some_iff.mp H; obtain ⟨t148, A100, H⟩ := H; replace H : (some (decide (t147 < t148))) = some r := H; have A10 := As.mk A100; clear A100; obtain rfl := Option.some.inj H
      go_enter Tryd.func15, Tryd.ntmps15
      try go_wp2_with (first | ((with_reducible refine gate_dst (N := 3) rfl ?_); refine box_event ?hg (N := 3) ?hd (cs := #[.slice A0_0 l0_0.length c0_0]) (t := 24) ?hr ?_; (case hd => rfl); (case hg => rfl); (case hr => first | (go_simp; done) | (go_simp; rfl)); intro gb143 hg w11 hbox hb; have n0_ := As.mk (bwp (by repeat (first | (with_reducible first | exact HB.out | apply bwa | apply bwn | apply bw1) | exact HB.out)) hb); have n1_ := As.mk (hbox); have n2_ := As.mk ((by rw [hg]; exact (bwz (by repeat (first | (with_reducible first | exact HB.out | apply bwa | apply bwn | apply bw1) | exact HB.out))) : w.heap.size ≤ gb143)); have n3_ := As.mk ((by rw [hg]; exact (bwz (by repeat (first | (with_reducible first | exact HB.out | apply bwa | apply bwn | apply bw1) | exact HB.out))) : w.heap.size ≤ gb143)); clear HB; have HB := n0_; have BK143 := n1_; have GW143 := n2_; have GE143 := n3_; clear n0_ n1_ n2_ n3_; clear hb hbox hg) | ((with_reducible refine gate_dst (N := 4) rfl ?_); refine box_event ?hg (N := 4) ?hd (cs := #[.int .i64 a1_0, .string a1_1, .int .i64 a1_2, .int .i64 a1_3, .int .i64 a1_4, .slice A1_5 l1_5.length c1_5]) (t := 33) ?hr ?_; (case hd => rfl); (case hg => rfl); (case hr => first | (go_simp; done) | (go_simp; rfl)); intro gb144 hg w12 hbox hb; have n0_ := As.mk (bkb (g := gb143) (o := .cells #[.slice A0_0 l0_0.length c0_0] 24 (0, 0)) (by (with_reducible repeat (first | refine bkn ?_ _ | refine bkd ?_ | refine bka ?_ _)); exact BK143.out) hb); have n1_ := As.mk (bwp (by repeat (first | (with_reducible first | exact HB.out | apply bwa | apply bwn | apply bw1 | refine bws ?_ GE143.out) | exact HB.out)) hb); have n2_ := As.mk (hbox); have n3_ := As.mk ((by rw [hg]; exact (bwz (by repeat (first | (with_reducible first | exact HB.out | apply bwa | apply bwn | apply bw1 | refine bws ?_ GE143.out) | exact HB.out))) : w.heap.size ≤ gb144)); have n4_ := As.mk ((by rw [hg]; exact (bwz (by repeat (first | (with_reducible first | exact HB.out | apply bwa | apply bwn | apply bw1 | refine bws ?_ GE143.out) | exact HB.out))) : w.heap.size ≤ gb144)); have n5_ := As.mk ((by rw [hg]; exact Nat.ne_of_lt (bkl (g := gb143) (o := .cells #[.slice A0_0 l0_0.length c0_0] 24 (0, 0)) (by (with_reducible repeat (first | refine bkn ?_ _ | refine bkd ?_ | refine bka ?_ _)); exact BK143.out)) : gb143 ≠ gb144)); have n6_ := As.mk ((by rw [hg]; exact Nat.ne_of_gt (bkl (g := gb143) (o := .cells #[.slice A0_0 l0_0.length c0_0] 24 (0, 0)) (by (with_reducible repeat (first | refine bkn ?_ _ | refine bkd ?_ | refine bka ?_ _)); exact BK143.out)) : gb144 ≠ gb143)); clear BK143; clear HB; have BK143 := n0_; have HB := n1_; have BK144 := n2_; have GW144 := n3_; have GE144 := n4_; have NB143_144 := n5_; have NB144_143 := n6_; clear n0_ n1_ n2_ n3_ n4_ n5_ n6_; clear hb hbox hg))
      have n0_ := As.mk (bkd BK143.out); have n1_ := As.mk (bkd BK144.out); have n2_ := As.mk (bw1 HB.out); clear BK143; clear BK144; clear HB; have BK143 := n0_; have BK144 := n1_; have HB := n2_; clear n0_ n1_ n2_; have p145 : 0 ≤ (a2 : Int) := of_decide_eq_true (by first | (with_reducible assumption) | assumption); have q145 : a2 < (l1_5.length : Int) := of_decide_eq_true (by first | (with_reducible assumption) | assumption); obtain ⟨ad145, e145, hx145_0⟩ := Kd.at_int HR1_5.out a2 p145 q145; have hw145_0 := hx145_0
      cases e145
      replace hx145_0 := (HB.out.cell (World.block_lt_of_cell? w _ hx145_0)).trans hx145_0; replace p145 := eq_true p145; replace q145 := eq_true q145; have p146 : 0 ≤ ((rd l1_5 a2) : Int) := of_decide_eq_true (by first | (with_reducible assumption) | assumption); have q146 : (rd l1_5 a2) < (l0_0.length : Int) := of_decide_eq_true (by first | (with_reducible assumption) | assumption); obtain ⟨ad146, A146_5, c146_5, e146, hx146_0, hx146_1, hx146_2, hx146_3, hx146_4, hx146_5, hl146_5, hi146_5⟩ := at_T33 HR0_0.out (rd l1_5 a2) p146 q146; have hw146_5 := hx146_5; have hw146_4 := hx146_4; have hw146_3 := hx146_3; have hw146_2 := hx146_2; have hw146_1 := hx146_1; have hw146_0 := hx146_0
      cases e146
      replace hx146_0 := (HB.out.cell (World.block_lt_of_cell? w _ hx146_0)).trans hx146_0; replace hx146_1 := (HB.out.cell (World.block_lt_of_cell? w _ hx146_1)).trans hx146_1; replace hx146_2 := (HB.out.cell (World.block_lt_of_cell? w _ hx146_2)).trans hx146_2; replace hx146_3 := (HB.out.cell (World.block_lt_of_cell? w _ hx146_3)).trans hx146_3; replace hx146_4 := (HB.out.cell (World.block_lt_of_cell? w _ hx146_4)).trans hx146_4; replace hx146_5 := (HB.out.cell (World.block_lt_of_cell? w _ hx146_5)).trans hx146_5; have HR146_5 := As.mk hi146_5; have HC146_5 := As.mk hl146_5; clear hi146_5 hl146_5; replace p146 := eq_true p146; replace q146 := eq_true q146
      refine start_ (n := 11) (S := fun w' => w'.cell? ⟨gb143, 0, none⟩ = some (.slice (some ad146) l0_0.length c0_0) ∧ w'.cell? ⟨gb144, 0, none⟩ = some (.int .i64 a1_0) ∧ w'.cell? ⟨gb144, 1, none⟩ = some (.string a1_1) ∧ w'.cell? ⟨gb144, 2, none⟩ = some (.int .i64 a1_2) ∧ w'.cell? ⟨gb144, 3, none⟩ = some (.int .i64 a1_3) ∧ w'.cell? ⟨gb144, 4, none⟩ = some (.int .i64 a1_4) ∧ w'.cell? ⟨gb144, 5, none⟩ = some (.slice (some ad145) l1_5.length c1_5) ∧ w'.cell? (ad145.add (a2).toNat) = some (.int .i64 (rd l1_5 a2)) ∧ w'.cell? (ad146.add (((rd l1_5 a2)).toNat * 6)) = some (.int .i64 ((rT l0_0 (rd l1_5 a2)).f0)) ∧ w'.cell? ⟨(ad146.add (((rd l1_5 a2)).toNat * 6)).block, (ad146.add (((rd l1_5 a2)).toNat * 6)).off + 1, none⟩ = some (.string ((rT l0_0 (rd l1_5 a2)).f1)) ∧ w'.cell? ⟨(ad146.add (((rd l1_5 a2)).toNat * 6)).block, (ad146.add (((rd l1_5 a2)).toNat * 6)).off + 2, none⟩ = some (.int .i64 ((rT l0_0 (rd l1_5 a2)).f2)) ∧ w'.cell? ⟨(ad146.add (((rd l1_5 a2)).toNat * 6)).block, (ad146.add (((rd l1_5 a2)).toNat * 6)).off + 3, none⟩ = some (.int .i64 ((rT l0_0 (rd l1_5 a2)).f3)) ∧ w'.cell? ⟨(ad146.add (((rd l1_5 a2)).toNat * 6)).block, (ad146.add (((rd l1_5 a2)).toNat * 6)).off + 4, none⟩ = some (.int .i64 ((rT l0_0 (rd l1_5 a2)).f4)) ∧ w'.cell? ⟨(ad146.add (((rd l1_5 a2)).toNat * 6)).block, (ad146.add (((rd l1_5 a2)).toNat * 6)).off + 5, none⟩ = some (.slice A146_5 ((rT l0_0 (rd l1_5 a2)).f5).length c146_5)) (ds := []) #[false, false, false, false, false, false, false, false, false, false, false] (by kernel_rfl) rfl rfl ⟨(bkc BK143.out 0).trans rfl, (bkc BK144.out 0).trans rfl, (bkc BK144.out 1).trans rfl, (bkc BK144.out 2).trans rfl, (bkc BK144.out 3).trans rfl, (bkc BK144.out 4).trans rfl, (bkc BK144.out 5).trans rfl, ((HB.out.cell (World.block_lt_of_cell? w _ hw145_0)).trans hw145_0), ((HB.out.cell (World.block_lt_of_cell? w _ hw146_0)).trans hw146_0), ((HB.out.cell (World.block_lt_of_cell? w _ hw146_1)).trans hw146_1), ((HB.out.cell (World.block_lt_of_cell? w _ hw146_2)).trans hw146_2), ((HB.out.cell (World.block_lt_of_cell? w _ hw146_3)).trans hw146_3), ((HB.out.cell (World.block_lt_of_cell? w _ hw146_4)).trans hw146_4), ((HB.out.cell (World.block_lt_of_cell? w _ hw146_5)).trans hw146_5)⟩ (fun hHeld => ?_); refine with_tabW detentref02_Paren.tab1 detentref02_Paren.bits1 (fun HT_ HW_ => ?_)
      generalize w12.drew = w13 at BK143 BK144 HB HR146_5 hx145_0 hx146_0 hx146_1 hx146_2 hx146_3 hx146_4 hx146_5 hHeld ⊢
      refine pure_ (i := 0) (N := some 8) (v := ?_) (a' := ?_) #[true, false, false, false, false, false, false, false, false, false, false] rfl rfl (any_of HT_.out (by kernel_rfl)) (fun _ _ _ h => h) (Or.inl ⟨by rfl, ?_⟩) ?_ ?_
      rotate_left
      ·intro w'; go_simp
       with_reducible rfl
      rotate_left
      ·simp only [Act.put, List.setIfInBounds_toArray, List.set_cons_zero, List.set_cons_succ, i64_w, i32_w]
       rfl
      refine pure_ (i := 2) (N := some 10) (v := ?_) (a' := ?_) #[true, false, true, false, false, false, false, false, false, false, false] rfl rfl (any_of HT_.out (by kernel_rfl)) (fun _ _ _ h => h) (Or.inl ⟨by rfl, ?_⟩) ?_ ?_
      rotate_left
      ·intro w'; go_simp
       with_reducible rfl
      rotate_left
      ·simp only [Act.put, List.setIfInBounds_toArray, List.set_cons_zero, List.set_cons_succ, i64_w, i32_w]
       rfl
      refine pure_ (i := 4) (N := some 12) (v := ?_) (a' := ?_) #[true, false, true, false, true, false, false, false, false, false, false] rfl rfl (any_of HT_.out (by kernel_rfl)) (fun _ _ _ h => h) (Or.inl ⟨by rfl, ?_⟩) ?_ ?_
      rotate_left
      ·intro w'; go_simp
       with_reducible rfl
      rotate_left
      ·simp only [Act.put, List.setIfInBounds_toArray, List.set_cons_zero, List.set_cons_succ, i64_w, i32_w]
       rfl
      refine take_ (i := 1) (N := some 9) (v := ?_) (a' := ?_) #[true, true, true, false, true, false, false, false, false, false, false] rfl rfl (take_ofW HT_.out HW_.out (by kernel_rfl)) (fun _ _ _ h => h) (Or.inl ⟨by rfl, ?_⟩) hHeld ?_ ?_
      rotate_left
      ·rintro w' ⟨s0, s1, s2, s3, s4, s5, s6, s7, s8, s9, s10, s11, s12, s13⟩; go_simp
       with_reducible rfl
      rotate_left
      ·simp only [Act.put, List.setIfInBounds_toArray, List.set_cons_zero, List.set_cons_succ, i64_w, i32_w]
       rfl
      refine take_ (i := 3) (N := some 11) (v := ?_) (a' := ?_) #[true, true, true, true, true, false, false, false, false, false, false] rfl rfl (take_ofW HT_.out HW_.out (by kernel_rfl)) (fun _ _ _ h => h) (Or.inl ⟨by rfl, ?_⟩) hHeld ?_ ?_
      rotate_left
      ·rintro w' ⟨s0, s1, s2, s3, s4, s5, s6, s7, s8, s9, s10, s11, s12, s13⟩; go_simp
       with_reducible rfl
      rotate_left
      ·simp only [Act.put, List.setIfInBounds_toArray, List.set_cons_zero, List.set_cons_succ, i64_w, i32_w]
       rfl
      refine pure_ (i := 5) (N := some 13) (v := ?_) (a' := ?_) #[true, true, true, true, true, true, false, false, false, false, false] rfl rfl (any_of HT_.out (by kernel_rfl)) (fun _ _ _ h => h) (Or.inl ⟨by rfl, ?_⟩) ?_ ?_
      rotate_left
      ·intro w'; go_simp
       with_reducible rfl
      rotate_left
      ·simp only [Act.put, List.setIfInBounds_toArray, List.set_cons_zero, List.set_cons_succ, i64_w, i32_w]
       rfl
      refine take_ (i := 6) (N := some 14) (v := ?_) (a' := ?_) #[true, true, true, true, true, true, true, false, false, false, false] rfl rfl (take_ofW HT_.out HW_.out (by kernel_rfl)) (fun _ _ _ h => h) (Or.inl ⟨by rfl, ?_⟩) hHeld ?_ ?_
      rotate_left
      ·rintro w' ⟨s0, s1, s2, s3, s4, s5, s6, s7, s8, s9, s10, s11, s12, s13⟩; go_simp
       with_reducible rfl
      rotate_left
      ·simp only [Act.put, List.setIfInBounds_toArray, List.set_cons_zero, List.set_cons_succ, i64_w, i32_w]
       rfl
      refine pure_ (i := 7) (N := some 15) (v := ?_) (a' := ?_) #[true, true, true, true, true, true, true, true, false, false, false] rfl rfl (any_of HT_.out (by kernel_rfl)) (fun _ _ _ h => h) (Or.inl ⟨by rfl, ?_⟩) ?_ ?_
      rotate_left
      ·intro w'; go_simp
       with_reducible rfl
      rotate_left
      ·simp only [Act.put, List.setIfInBounds_toArray, List.set_cons_zero, List.set_cons_succ, i64_w, i32_w]
       rfl
      refine take_ (i := 8) (N := some 16) (v := ?_) (a' := ?_) #[true, true, true, true, true, true, true, true, true, false, false] rfl rfl (take_ofW HT_.out HW_.out (by kernel_rfl)) (fun _ _ _ h => h) (Or.inl ⟨by rfl, ?_⟩) hHeld ?_ ?_
      rotate_left
      ·rintro w' ⟨s0, s1, s2, s3, s4, s5, s6, s7, s8, s9, s10, s11, s12, s13⟩; go_simp
       with_reducible rfl
      rotate_left
      ·simp only [Act.put, List.setIfInBounds_toArray, List.set_cons_zero, List.set_cons_succ, i64_w, i32_w]
       rfl
      refine one_ (i := 9) (N := some 17) #[true, true, true, true, true, true, true, true, true, true, false] rfl rfl (one_of HT_.out (by kernel_rfl)) (by decide) (fun K hK => ?_)
      refine goes_ Tryd.func29 (by kernel_rfl) rfl #[.agg #[.int .i64 ((rT l0_0 (rd l1_5 a2)).f0), .string ((rT l0_0 (rd l1_5 a2)).f1), .int .i64 ((rT l0_0 (rd l1_5 a2)).f2), .int .i64 ((rT l0_0 (rd l1_5 a2)).f3), .int .i64 ((rT l0_0 (rd l1_5 a2)).f4), .slice A146_5 ((rT l0_0 (rd l1_5 a2)).f5).length c146_5]] (by rfl) rfl rfl (by (try simp only [List.map_toArray, List.map_cons, List.map_nil]); first | done | rfl | (simp only [List.length_drop, List.length_take]; rfl)) ?_
      with_reducible refine (rbi.calls k ((rT l0_0 (rd l1_5 a2)).f0) ((rT l0_0 (rd l1_5 a2)).f1) ((rT l0_0 (rd l1_5 a2)).f2) ((rT l0_0 (rd l1_5 a2)).f3) ((rT l0_0 (rd l1_5 a2)).f4) _ _ ((rT l0_0 (rd l1_5 a2)).f5) t147 _ ?side1 ?side2 A8.out).mono ?_
      (case side1 => repeat (first | exact (Kd.C_below HR146_5.out HB.out) | (with_reducible refine Kd.C_alloc ?_ _) | (with_reducible refine Kd.C_drewN ?_ _) | (with_reducible refine Kd.C_drew ?_))); (case side2 => exact HC146_5.out); rintro e w14 ⟨rfl, hb⟩
      refine ⟨_, rfl, ?_⟩
      have n0_ := As.mk (bkb (g := gb143) (o := .cells #[.slice (some ad146) l0_0.length c0_0] 24 (0, 0)) (by (with_reducible repeat (first | refine bkn ?_ _ | refine bkd ?_ | refine bka ?_ _)); exact BK143.out) hb); have n1_ := As.mk (bkb (g := gb144) (o := .cells #[.int .i64 a1_0, .string a1_1, .int .i64 a1_2, .int .i64 a1_3, .int .i64 a1_4, .slice (some ad145) l1_5.length c1_5] 33 (0, 0)) (by (with_reducible repeat (first | refine bkn ?_ _ | refine bkd ?_ | refine bka ?_ _)); exact BK144.out) hb); have n2_ := As.mk (bwp (by repeat (first | (with_reducible first | exact HB.out | apply bwa | apply bwn | apply bw1 | refine bws ?_ GE143.out | refine bws ?_ GE144.out) | exact HB.out)) hb); clear BK143; clear BK144; clear HB; have BK143 := n0_; have BK144 := n1_; have HB := n2_; clear n0_ n1_ n2_; (try clear hb); (try clear hb2); (try clear hk); (try clear hi)
      refine hK.out _ _ ⟨(bkc BK143.out 0).trans rfl, (bkc BK144.out 0).trans rfl, (bkc BK144.out 1).trans rfl, (bkc BK144.out 2).trans rfl, (bkc BK144.out 3).trans rfl, (bkc BK144.out 4).trans rfl, (bkc BK144.out 5).trans rfl, ((HB.out.cell (World.block_lt_of_cell? w _ hw145_0)).trans hw145_0), ((HB.out.cell (World.block_lt_of_cell? w _ hw146_0)).trans hw146_0), ((HB.out.cell (World.block_lt_of_cell? w _ hw146_1)).trans hw146_1), ((HB.out.cell (World.block_lt_of_cell? w _ hw146_2)).trans hw146_2), ((HB.out.cell (World.block_lt_of_cell? w _ hw146_3)).trans hw146_3), ((HB.out.cell (World.block_lt_of_cell? w _ hw146_4)).trans hw146_4), ((HB.out.cell (World.block_lt_of_cell? w _ hw146_5)).trans hw146_5)⟩ (fun hHeld => ?_)
      clear hK K
      refine norm_ (a' := ?_) ?_ ?_
      rotate_left
      ·show Act.put _ (some 17) _ = _; simp only [Act.put, List.setIfInBounds_toArray, List.set_cons_zero, List.set_cons_succ, i64_w, i32_w]
       rfl
      refine pure_ (i := 10) (N := some 7) (v := ?_) (a' := ?_) #[true, true, true, true, true, true, true, true, true, true, true] rfl rfl (any_of HT_.out (by kernel_rfl)) (fun _ _ _ h => h) (Or.inl ⟨by rfl, ?_⟩) ?_ ?_
      rotate_left
      ·intro w'; go_simp
       with_reducible rfl
      rotate_left
      ·simp only [Act.put, List.setIfInBounds_toArray, List.set_cons_zero, List.set_cons_succ, i64_w, i32_w]
       rfl
      refine done_ (done_of HT_.out (by kernel_rfl)) ?_
      have hnb15 := NB144_143.out; have hnc15 := NB143_144.out; have hcz16_0 : w14.cell? ⟨gb144, 0, none⟩ = some (.int .i64 a1_0) := (bkc BK144.out 0).trans rfl; have hcz16_1 : w14.cell? ⟨gb144, 1, none⟩ = some (.string a1_1) := (bkc BK144.out 1).trans rfl; have hcz16_2 : w14.cell? ⟨gb144, 2, none⟩ = some (.int .i64 a1_2) := (bkc BK144.out 2).trans rfl; have hcz16_3 : w14.cell? ⟨gb144, 3, none⟩ = some (.int .i64 a1_3) := (bkc BK144.out 3).trans rfl; have hcz16_4 : w14.cell? ⟨gb144, 4, none⟩ = some (.int .i64 a1_4) := (bkc BK144.out 4).trans rfl; have hcz16_5 : w14.cell? ⟨gb144, 5, none⟩ = some (.slice (some ad145) l1_5.length c1_5) := (bkc BK144.out 5).trans rfl; have hfz16_0 := bkf BK144.out 0; have hfz16_1 := bkf BK144.out 1; have hfz16_2 := bkf BK144.out 2; have hfz16_3 := bkf BK144.out 3; have hfz16_4 := bkf BK144.out 4; have hfz16_5 := bkf BK144.out 5
      try go_wp2_with (first | (go_at_call 30; (with_reducible refine (rmu.calls k a1_0 a1_1 a1_2 a1_3 a1_4 _ _ l1_5 a2 t148 _ ?side1 ?side2 A10.out).mono ?_); (case side1 => repeat (first | exact (Kd.C_below HR1_5.out HB.out) | (with_reducible refine Kd.C_alloc ?_ _) | (with_reducible refine Kd.C_drewN ?_ _) | (with_reducible refine Kd.C_drew ?_))); (case side2 => exact HC1_5.out); rintro e w17 ⟨rfl, hb⟩; have n0_ := As.mk (bkb (g := gb143) (o := .cells #[.slice (some ad146) l0_0.length c0_0] 24 (0, 0)) (by (with_reducible repeat (first | refine bkn ?_ _ | refine bkd ?_ | refine bka ?_ _)); exact BK143.out) hb); have n1_ := As.mk (bkb (g := gb144) (o := .cells #[.int .i64 a1_0, .string a1_1, .int .i64 a1_2, .int .i64 a1_3, .int .i64 a1_4, .slice (some ad145) l1_5.length c1_5] 33 (0, 0)) (by (with_reducible repeat (first | refine bkn ?_ _ | refine bkd ?_ | refine bka ?_ _)); exact BK144.out) hb); have n2_ := As.mk (bwp (by repeat (first | (with_reducible first | exact HB.out | apply bwa | apply bwn | apply bw1 | refine bws ?_ GE143.out | refine bws ?_ GE144.out) | exact HB.out)) hb); clear BK143; clear BK144; clear HB; have BK143 := n0_; have BK144 := n1_; have HB := n2_; clear n0_ n1_ n2_; (try clear hb); (try clear hb2); (try clear hk); (try clear hi)))
      go_ret
      exact ⟨by first | rfl | (simp [*] <;> rfl), by repeat (first | (with_reducible first | exact HB.out | apply bwa | apply bwn | apply bw1 | refine bws ?_ GE143.out | refine bws ?_ GE144.out) | exact HB.out)⟩
     ·rw [if_neg c9] at H; have c9b0 : decide (0 < t147) = false := decide_eq_false c9; clear c9; obtain rfl := Option.some.inj H
      go_enter Tryd.func15, Tryd.ntmps15
      try go_wp2_with (first | ((with_reducible refine gate_dst (N := 3) rfl ?_); refine box_event ?hg (N := 3) ?hd (cs := #[.slice A0_0 l0_0.length c0_0]) (t := 24) ?hr ?_; (case hd => rfl); (case hg => rfl); (case hr => first | (go_simp; done) | (go_simp; rfl)); intro gb143 hg w18 hbox hb; have n0_ := As.mk (bwp (by repeat (first | (with_reducible first | exact HB.out | apply bwa | apply bwn | apply bw1) | exact HB.out)) hb); have n1_ := As.mk (hbox); have n2_ := As.mk ((by rw [hg]; exact (bwz (by repeat (first | (with_reducible first | exact HB.out | apply bwa | apply bwn | apply bw1) | exact HB.out))) : w.heap.size ≤ gb143)); have n3_ := As.mk ((by rw [hg]; exact (bwz (by repeat (first | (with_reducible first | exact HB.out | apply bwa | apply bwn | apply bw1) | exact HB.out))) : w.heap.size ≤ gb143)); clear HB; have HB := n0_; have BK143 := n1_; have GW143 := n2_; have GE143 := n3_; clear n0_ n1_ n2_ n3_; clear hb hbox hg) | ((with_reducible refine gate_dst (N := 4) rfl ?_); refine box_event ?hg (N := 4) ?hd (cs := #[.int .i64 a1_0, .string a1_1, .int .i64 a1_2, .int .i64 a1_3, .int .i64 a1_4, .slice A1_5 l1_5.length c1_5]) (t := 33) ?hr ?_; (case hd => rfl); (case hg => rfl); (case hr => first | (go_simp; done) | (go_simp; rfl)); intro gb144 hg w19 hbox hb; have n0_ := As.mk (bkb (g := gb143) (o := .cells #[.slice A0_0 l0_0.length c0_0] 24 (0, 0)) (by (with_reducible repeat (first | refine bkn ?_ _ | refine bkd ?_ | refine bka ?_ _)); exact BK143.out) hb); have n1_ := As.mk (bwp (by repeat (first | (with_reducible first | exact HB.out | apply bwa | apply bwn | apply bw1 | refine bws ?_ GE143.out) | exact HB.out)) hb); have n2_ := As.mk (hbox); have n3_ := As.mk ((by rw [hg]; exact (bwz (by repeat (first | (with_reducible first | exact HB.out | apply bwa | apply bwn | apply bw1 | refine bws ?_ GE143.out) | exact HB.out))) : w.heap.size ≤ gb144)); have n4_ := As.mk ((by rw [hg]; exact (bwz (by repeat (first | (with_reducible first | exact HB.out | apply bwa | apply bwn | apply bw1 | refine bws ?_ GE143.out) | exact HB.out))) : w.heap.size ≤ gb144)); have n5_ := As.mk ((by rw [hg]; exact Nat.ne_of_lt (bkl (g := gb143) (o := .cells #[.slice A0_0 l0_0.length c0_0] 24 (0, 0)) (by (with_reducible repeat (first | refine bkn ?_ _ | refine bkd ?_ | refine bka ?_ _)); exact BK143.out)) : gb143 ≠ gb144)); have n6_ := As.mk ((by rw [hg]; exact Nat.ne_of_gt (bkl (g := gb143) (o := .cells #[.slice A0_0 l0_0.length c0_0] 24 (0, 0)) (by (with_reducible repeat (first | refine bkn ?_ _ | refine bkd ?_ | refine bka ?_ _)); exact BK143.out)) : gb144 ≠ gb143)); clear BK143; clear HB; have BK143 := n0_; have HB := n1_; have BK144 := n2_; have GW144 := n3_; have GE144 := n4_; have NB143_144 := n5_; have NB144_143 := n6_; clear n0_ n1_ n2_ n3_ n4_ n5_ n6_; clear hb hbox hg))
      have n0_ := As.mk (bkd BK143.out); have n1_ := As.mk (bkd BK144.out); have n2_ := As.mk (bw1 HB.out); clear BK143; clear BK144; clear HB; have BK143 := n0_; have BK144 := n1_; have HB := n2_; clear n0_ n1_ n2_; have p145 : 0 ≤ (a2 : Int) := of_decide_eq_true (by first | (with_reducible assumption) | assumption); have q145 : a2 < (l1_5.length : Int) := of_decide_eq_true (by first | (with_reducible assumption) | assumption); obtain ⟨ad145, e145, hx145_0⟩ := Kd.at_int HR1_5.out a2 p145 q145; have hw145_0 := hx145_0
      cases e145
      replace hx145_0 := (HB.out.cell (World.block_lt_of_cell? w _ hx145_0)).trans hx145_0; replace p145 := eq_true p145; replace q145 := eq_true q145; have p146 : 0 ≤ ((rd l1_5 a2) : Int) := of_decide_eq_true (by first | (with_reducible assumption) | assumption); have q146 : (rd l1_5 a2) < (l0_0.length : Int) := of_decide_eq_true (by first | (with_reducible assumption) | assumption); obtain ⟨ad146, A146_5, c146_5, e146, hx146_0, hx146_1, hx146_2, hx146_3, hx146_4, hx146_5, hl146_5, hi146_5⟩ := at_T33 HR0_0.out (rd l1_5 a2) p146 q146; have hw146_5 := hx146_5; have hw146_4 := hx146_4; have hw146_3 := hx146_3; have hw146_2 := hx146_2; have hw146_1 := hx146_1; have hw146_0 := hx146_0
      cases e146
      replace hx146_0 := (HB.out.cell (World.block_lt_of_cell? w _ hx146_0)).trans hx146_0; replace hx146_1 := (HB.out.cell (World.block_lt_of_cell? w _ hx146_1)).trans hx146_1; replace hx146_2 := (HB.out.cell (World.block_lt_of_cell? w _ hx146_2)).trans hx146_2; replace hx146_3 := (HB.out.cell (World.block_lt_of_cell? w _ hx146_3)).trans hx146_3; replace hx146_4 := (HB.out.cell (World.block_lt_of_cell? w _ hx146_4)).trans hx146_4; replace hx146_5 := (HB.out.cell (World.block_lt_of_cell? w _ hx146_5)).trans hx146_5; have HR146_5 := As.mk hi146_5; have HC146_5 := As.mk hl146_5; clear hi146_5 hl146_5; replace p146 := eq_true p146; replace q146 := eq_true q146
      refine start_ (n := 11) (S := fun w' => w'.cell? ⟨gb143, 0, none⟩ = some (.slice (some ad146) l0_0.length c0_0) ∧ w'.cell? ⟨gb144, 0, none⟩ = some (.int .i64 a1_0) ∧ w'.cell? ⟨gb144, 1, none⟩ = some (.string a1_1) ∧ w'.cell? ⟨gb144, 2, none⟩ = some (.int .i64 a1_2) ∧ w'.cell? ⟨gb144, 3, none⟩ = some (.int .i64 a1_3) ∧ w'.cell? ⟨gb144, 4, none⟩ = some (.int .i64 a1_4) ∧ w'.cell? ⟨gb144, 5, none⟩ = some (.slice (some ad145) l1_5.length c1_5) ∧ w'.cell? (ad145.add (a2).toNat) = some (.int .i64 (rd l1_5 a2)) ∧ w'.cell? (ad146.add (((rd l1_5 a2)).toNat * 6)) = some (.int .i64 ((rT l0_0 (rd l1_5 a2)).f0)) ∧ w'.cell? ⟨(ad146.add (((rd l1_5 a2)).toNat * 6)).block, (ad146.add (((rd l1_5 a2)).toNat * 6)).off + 1, none⟩ = some (.string ((rT l0_0 (rd l1_5 a2)).f1)) ∧ w'.cell? ⟨(ad146.add (((rd l1_5 a2)).toNat * 6)).block, (ad146.add (((rd l1_5 a2)).toNat * 6)).off + 2, none⟩ = some (.int .i64 ((rT l0_0 (rd l1_5 a2)).f2)) ∧ w'.cell? ⟨(ad146.add (((rd l1_5 a2)).toNat * 6)).block, (ad146.add (((rd l1_5 a2)).toNat * 6)).off + 3, none⟩ = some (.int .i64 ((rT l0_0 (rd l1_5 a2)).f3)) ∧ w'.cell? ⟨(ad146.add (((rd l1_5 a2)).toNat * 6)).block, (ad146.add (((rd l1_5 a2)).toNat * 6)).off + 4, none⟩ = some (.int .i64 ((rT l0_0 (rd l1_5 a2)).f4)) ∧ w'.cell? ⟨(ad146.add (((rd l1_5 a2)).toNat * 6)).block, (ad146.add (((rd l1_5 a2)).toNat * 6)).off + 5, none⟩ = some (.slice A146_5 ((rT l0_0 (rd l1_5 a2)).f5).length c146_5)) (ds := []) #[false, false, false, false, false, false, false, false, false, false, false] (by kernel_rfl) rfl rfl ⟨(bkc BK143.out 0).trans rfl, (bkc BK144.out 0).trans rfl, (bkc BK144.out 1).trans rfl, (bkc BK144.out 2).trans rfl, (bkc BK144.out 3).trans rfl, (bkc BK144.out 4).trans rfl, (bkc BK144.out 5).trans rfl, ((HB.out.cell (World.block_lt_of_cell? w _ hw145_0)).trans hw145_0), ((HB.out.cell (World.block_lt_of_cell? w _ hw146_0)).trans hw146_0), ((HB.out.cell (World.block_lt_of_cell? w _ hw146_1)).trans hw146_1), ((HB.out.cell (World.block_lt_of_cell? w _ hw146_2)).trans hw146_2), ((HB.out.cell (World.block_lt_of_cell? w _ hw146_3)).trans hw146_3), ((HB.out.cell (World.block_lt_of_cell? w _ hw146_4)).trans hw146_4), ((HB.out.cell (World.block_lt_of_cell? w _ hw146_5)).trans hw146_5)⟩ (fun hHeld => ?_); refine with_tabW detentref02_Paren.tab1 detentref02_Paren.bits1 (fun HT_ HW_ => ?_)
      generalize w19.drew = w20 at BK143 BK144 HB HR146_5 hx145_0 hx146_0 hx146_1 hx146_2 hx146_3 hx146_4 hx146_5 hHeld ⊢
      refine pure_ (i := 0) (N := some 8) (v := ?_) (a' := ?_) #[true, false, false, false, false, false, false, false, false, false, false] rfl rfl (any_of HT_.out (by kernel_rfl)) (fun _ _ _ h => h) (Or.inl ⟨by rfl, ?_⟩) ?_ ?_
      rotate_left
      ·intro w'; go_simp
       with_reducible rfl
      rotate_left
      ·simp only [Act.put, List.setIfInBounds_toArray, List.set_cons_zero, List.set_cons_succ, i64_w, i32_w]
       rfl
      refine pure_ (i := 2) (N := some 10) (v := ?_) (a' := ?_) #[true, false, true, false, false, false, false, false, false, false, false] rfl rfl (any_of HT_.out (by kernel_rfl)) (fun _ _ _ h => h) (Or.inl ⟨by rfl, ?_⟩) ?_ ?_
      rotate_left
      ·intro w'; go_simp
       with_reducible rfl
      rotate_left
      ·simp only [Act.put, List.setIfInBounds_toArray, List.set_cons_zero, List.set_cons_succ, i64_w, i32_w]
       rfl
      refine pure_ (i := 4) (N := some 12) (v := ?_) (a' := ?_) #[true, false, true, false, true, false, false, false, false, false, false] rfl rfl (any_of HT_.out (by kernel_rfl)) (fun _ _ _ h => h) (Or.inl ⟨by rfl, ?_⟩) ?_ ?_
      rotate_left
      ·intro w'; go_simp
       with_reducible rfl
      rotate_left
      ·simp only [Act.put, List.setIfInBounds_toArray, List.set_cons_zero, List.set_cons_succ, i64_w, i32_w]
       rfl
      refine take_ (i := 1) (N := some 9) (v := ?_) (a' := ?_) #[true, true, true, false, true, false, false, false, false, false, false] rfl rfl (take_ofW HT_.out HW_.out (by kernel_rfl)) (fun _ _ _ h => h) (Or.inl ⟨by rfl, ?_⟩) hHeld ?_ ?_
      rotate_left
      ·rintro w' ⟨s0, s1, s2, s3, s4, s5, s6, s7, s8, s9, s10, s11, s12, s13⟩; go_simp
       with_reducible rfl
      rotate_left
      ·simp only [Act.put, List.setIfInBounds_toArray, List.set_cons_zero, List.set_cons_succ, i64_w, i32_w]
       rfl
      refine take_ (i := 3) (N := some 11) (v := ?_) (a' := ?_) #[true, true, true, true, true, false, false, false, false, false, false] rfl rfl (take_ofW HT_.out HW_.out (by kernel_rfl)) (fun _ _ _ h => h) (Or.inl ⟨by rfl, ?_⟩) hHeld ?_ ?_
      rotate_left
      ·rintro w' ⟨s0, s1, s2, s3, s4, s5, s6, s7, s8, s9, s10, s11, s12, s13⟩; go_simp
       with_reducible rfl
      rotate_left
      ·simp only [Act.put, List.setIfInBounds_toArray, List.set_cons_zero, List.set_cons_succ, i64_w, i32_w]
       rfl
      refine pure_ (i := 5) (N := some 13) (v := ?_) (a' := ?_) #[true, true, true, true, true, true, false, false, false, false, false] rfl rfl (any_of HT_.out (by kernel_rfl)) (fun _ _ _ h => h) (Or.inl ⟨by rfl, ?_⟩) ?_ ?_
      rotate_left
      ·intro w'; go_simp
       with_reducible rfl
      rotate_left
      ·simp only [Act.put, List.setIfInBounds_toArray, List.set_cons_zero, List.set_cons_succ, i64_w, i32_w]
       rfl
      refine take_ (i := 6) (N := some 14) (v := ?_) (a' := ?_) #[true, true, true, true, true, true, true, false, false, false, false] rfl rfl (take_ofW HT_.out HW_.out (by kernel_rfl)) (fun _ _ _ h => h) (Or.inl ⟨by rfl, ?_⟩) hHeld ?_ ?_
      rotate_left
      ·rintro w' ⟨s0, s1, s2, s3, s4, s5, s6, s7, s8, s9, s10, s11, s12, s13⟩; go_simp
       with_reducible rfl
      rotate_left
      ·simp only [Act.put, List.setIfInBounds_toArray, List.set_cons_zero, List.set_cons_succ, i64_w, i32_w]
       rfl
      refine pure_ (i := 7) (N := some 15) (v := ?_) (a' := ?_) #[true, true, true, true, true, true, true, true, false, false, false] rfl rfl (any_of HT_.out (by kernel_rfl)) (fun _ _ _ h => h) (Or.inl ⟨by rfl, ?_⟩) ?_ ?_
      rotate_left
      ·intro w'; go_simp
       with_reducible rfl
      rotate_left
      ·simp only [Act.put, List.setIfInBounds_toArray, List.set_cons_zero, List.set_cons_succ, i64_w, i32_w]
       rfl
      refine take_ (i := 8) (N := some 16) (v := ?_) (a' := ?_) #[true, true, true, true, true, true, true, true, true, false, false] rfl rfl (take_ofW HT_.out HW_.out (by kernel_rfl)) (fun _ _ _ h => h) (Or.inl ⟨by rfl, ?_⟩) hHeld ?_ ?_
      rotate_left
      ·rintro w' ⟨s0, s1, s2, s3, s4, s5, s6, s7, s8, s9, s10, s11, s12, s13⟩; go_simp
       with_reducible rfl
      rotate_left
      ·simp only [Act.put, List.setIfInBounds_toArray, List.set_cons_zero, List.set_cons_succ, i64_w, i32_w]
       rfl
      refine one_ (i := 9) (N := some 17) #[true, true, true, true, true, true, true, true, true, true, false] rfl rfl (one_of HT_.out (by kernel_rfl)) (by decide) (fun K hK => ?_)
      refine goes_ Tryd.func29 (by kernel_rfl) rfl #[.agg #[.int .i64 ((rT l0_0 (rd l1_5 a2)).f0), .string ((rT l0_0 (rd l1_5 a2)).f1), .int .i64 ((rT l0_0 (rd l1_5 a2)).f2), .int .i64 ((rT l0_0 (rd l1_5 a2)).f3), .int .i64 ((rT l0_0 (rd l1_5 a2)).f4), .slice A146_5 ((rT l0_0 (rd l1_5 a2)).f5).length c146_5]] (by rfl) rfl rfl (by (try simp only [List.map_toArray, List.map_cons, List.map_nil]); first | done | rfl | (simp only [List.length_drop, List.length_take]; rfl)) ?_
      with_reducible refine (rbi.calls k ((rT l0_0 (rd l1_5 a2)).f0) ((rT l0_0 (rd l1_5 a2)).f1) ((rT l0_0 (rd l1_5 a2)).f2) ((rT l0_0 (rd l1_5 a2)).f3) ((rT l0_0 (rd l1_5 a2)).f4) _ _ ((rT l0_0 (rd l1_5 a2)).f5) t147 _ ?side1 ?side2 A8.out).mono ?_
      (case side1 => repeat (first | exact (Kd.C_below HR146_5.out HB.out) | (with_reducible refine Kd.C_alloc ?_ _) | (with_reducible refine Kd.C_drewN ?_ _) | (with_reducible refine Kd.C_drew ?_))); (case side2 => exact HC146_5.out); rintro e w21 ⟨rfl, hb⟩
      refine ⟨_, rfl, ?_⟩
      have n0_ := As.mk (bkb (g := gb143) (o := .cells #[.slice (some ad146) l0_0.length c0_0] 24 (0, 0)) (by (with_reducible repeat (first | refine bkn ?_ _ | refine bkd ?_ | refine bka ?_ _)); exact BK143.out) hb); have n1_ := As.mk (bkb (g := gb144) (o := .cells #[.int .i64 a1_0, .string a1_1, .int .i64 a1_2, .int .i64 a1_3, .int .i64 a1_4, .slice (some ad145) l1_5.length c1_5] 33 (0, 0)) (by (with_reducible repeat (first | refine bkn ?_ _ | refine bkd ?_ | refine bka ?_ _)); exact BK144.out) hb); have n2_ := As.mk (bwp (by repeat (first | (with_reducible first | exact HB.out | apply bwa | apply bwn | apply bw1 | refine bws ?_ GE143.out | refine bws ?_ GE144.out) | exact HB.out)) hb); clear BK143; clear BK144; clear HB; have BK143 := n0_; have BK144 := n1_; have HB := n2_; clear n0_ n1_ n2_; (try clear hb); (try clear hb2); (try clear hk); (try clear hi)
      refine hK.out _ _ ⟨(bkc BK143.out 0).trans rfl, (bkc BK144.out 0).trans rfl, (bkc BK144.out 1).trans rfl, (bkc BK144.out 2).trans rfl, (bkc BK144.out 3).trans rfl, (bkc BK144.out 4).trans rfl, (bkc BK144.out 5).trans rfl, ((HB.out.cell (World.block_lt_of_cell? w _ hw145_0)).trans hw145_0), ((HB.out.cell (World.block_lt_of_cell? w _ hw146_0)).trans hw146_0), ((HB.out.cell (World.block_lt_of_cell? w _ hw146_1)).trans hw146_1), ((HB.out.cell (World.block_lt_of_cell? w _ hw146_2)).trans hw146_2), ((HB.out.cell (World.block_lt_of_cell? w _ hw146_3)).trans hw146_3), ((HB.out.cell (World.block_lt_of_cell? w _ hw146_4)).trans hw146_4), ((HB.out.cell (World.block_lt_of_cell? w _ hw146_5)).trans hw146_5)⟩ (fun hHeld => ?_)
      clear hK K
      refine norm_ (a' := ?_) ?_ ?_
      rotate_left
      ·show Act.put _ (some 17) _ = _; simp only [Act.put, List.setIfInBounds_toArray, List.set_cons_zero, List.set_cons_succ, i64_w, i32_w]
       rfl
      refine pure_ (i := 10) (N := some 7) (v := ?_) (a' := ?_) #[true, true, true, true, true, true, true, true, true, true, true] rfl rfl (any_of HT_.out (by kernel_rfl)) (fun _ _ _ h => h) (Or.inl ⟨by rfl, ?_⟩) ?_ ?_
      rotate_left
      ·intro w'; go_simp
       with_reducible rfl
      rotate_left
      ·simp only [Act.put, List.setIfInBounds_toArray, List.set_cons_zero, List.set_cons_succ, i64_w, i32_w]
       rfl
      refine done_ (done_of HT_.out (by kernel_rfl)) ?_
      try go_wp2
      go_ret
      exact ⟨by first | rfl | (simp [*] <;> rfl), by repeat (first | (with_reducible first | exact HB.out | apply bwa | apply bwn | apply bw1 | refine bws ?_ GE143.out | refine bws ?_ GE144.out) | exact HB.out)⟩
    ·rw [if_neg c7] at H
     exact absurd H (by simp)
   ·rw [if_neg c6] at H
    exact absurd H (by simp)
  ·rw [if_neg c5] at H
   exact absurd H (by simp)
 ·rw [if_neg c4] at H
  exact absurd H (by simp)
end Go.Proofs.YtbpefmidgfmcaaaDoor.PTreeApart
end
section
namespace Go.Proofs.YtbpefmidgfmcaaaDoor.PTreeApart
open Go.RowKit Go.Proofs.YtbpefmidgfmcaaaDoorW.PrintWords Go.Proofs.YtbpefmidgfmcaaaDoorW.PrintLast Go.Proofs.YtbpefmidgfmcaaaDoorW.PrintMore
set_option linter.unusedVariables false
set_option linter.unusedSimpArgs false
mutual
def rle.j0 : Nat → Int → Bool → Option (ByteArray)
 | 0, _, _ => none
 | k + 1, x3, x8 => if x8 = true then (some (⟨#[121]⟩ : ByteArray)) else (if x3 = 7 then (rle.j1 k x3 (x3 == 7)) else (if x3 = 9 then (rle.j1 k x3 (x3 == 9)) else (if x3 = 11 then (rle.j1 k x3 (x3 == 11)) else (rle.j1 k x3 (x3 == 36)))))
def rle.j1 : Nat → Int → Bool → Option (ByteArray)
 | 0, _, _ => none
 | k + 1, x3, x11 => if x11 = true then (some (⟨#[98]⟩ : ByteArray)) else (if x3 = 8 then (some (⟨#[117, 42, 108]⟩ : ByteArray)) else (if x3 = 10 then (some (⟨#[117, 98]⟩ : ByteArray)) else (if x3 = 12 then (some (⟨#[42, 115]⟩ : ByteArray)) else (if x3 = 13 then (some (⟨#[121, 101]⟩ : ByteArray)) else (if x3 = 14 then (some (⟨#[118, 101]⟩ : ByteArray)) else (if x3 = 15 then (rle.j2 k x3 (x3 == 15)) else (if x3 = 16 then (rle.j2 k x3 (x3 == 16)) else (if x3 = 17 then (rle.j2 k x3 (x3 == 17)) else (if x3 = 18 then (rle.j2 k x3 (x3 == 18)) else (if x3 = 30 then (rle.j2 k x3 (x3 == 30)) else (if x3 = 34 then (rle.j2 k x3 (x3 == 34)) else (rle.j2 k x3 (x3 == 35)))))))))))))
def rle.j2 : Nat → Int → Bool → Option (ByteArray)
 | 0, _, _ => none
 | k + 1, x3, x26 => if x26 = true then (some (⟨#[101]⟩ : ByteArray)) else (if x3 = 19 then (rle.j3 k x3 (x3 == 19)) else (rle.j3 k x3 (x3 == 20)))
def rle.j3 : Nat → Int → Bool → Option (ByteArray)
 | 0, _, _ => none
 | k + 1, x3, x34 => if x34 = true then (some (⟨#[101, 63, 118]⟩ : ByteArray)) else (if x3 = 23 then (some (⟨#[101, 98, 98]⟩ : ByteArray)) else (if x3 = 24 then (some (⟨#[101, 98]⟩ : ByteArray)) else (if x3 = 31 then (some (⟨#[101, 101]⟩ : ByteArray)) else (if x3 = 32 then (some (⟨#[101, 101]⟩ : ByteArray)) else (some (⟨#[]⟩ : ByteArray))))))
end
def rle.f (k : Nat) (a0 : Int) : Option (ByteArray) := if a0 = 1 then (some (⟨#[42, 100]⟩ : ByteArray)) else (if a0 = 3 then (some (⟨#[42, 109]⟩ : ByteArray)) else (if a0 = 4 then (rle.j0 k a0 (a0 == 4)) else (rle.j0 k a0 (a0 == 6))))
theorem rle.mono_l : ∀ k, (∀ y0 y1, LeO (rle.j0 k y0 y1) (rle.j0 (k + 1) y0 y1)) ∧ (∀ y0 y1, LeO (rle.j1 k y0 y1) (rle.j1 (k + 1) y0 y1)) ∧ (∀ y0 y1, LeO (rle.j2 k y0 y1) (rle.j2 (k + 1) y0 y1)) ∧ (∀ y0 y1, LeO (rle.j3 k y0 y1) (rle.j3 (k + 1) y0 y1))
 | 0 => ⟨fun _ _ r h => by simp [rle.j0] at h, fun _ _ r h => by simp [rle.j1] at h, fun _ _ r h => by simp [rle.j2] at h, fun _ _ r h => by simp [rle.j3] at h⟩
 | k + 1 => by
  obtain ⟨ih0, ih1, ih2, ih3⟩ := rle.mono_l k
  refine ⟨?_, ?_, ?_, ?_⟩
  ·intro y0 y1
   unfold rle.j0
   repeat' first
   | (with_reducible exact ih0 _ _)
   | (with_reducible exact ih1 _ _)
   | (with_reducible exact ih2 _ _)
   | (with_reducible exact ih3 _ _)
   | (with_reducible exact LeO.refl _)
   | (with_reducible exact LeO.none _)
   | (with_reducible refine LeO.ite ?_ ?_)
   | (with_reducible refine LeO.bind ?_ (fun _ => ?_))
   | exact ih0 _ _
   | exact ih1 _ _
   | exact ih2 _ _
   | exact ih3 _ _
   | exact LeO.none _
   | refine LeO.ite ?_ ?_
   | refine LeO.bind ?_ (fun _ => ?_)
  ·intro y0 y1
   unfold rle.j1
   repeat' first
   | (with_reducible exact ih0 _ _)
   | (with_reducible exact ih1 _ _)
   | (with_reducible exact ih2 _ _)
   | (with_reducible exact ih3 _ _)
   | (with_reducible exact LeO.refl _)
   | (with_reducible exact LeO.none _)
   | (with_reducible refine LeO.ite ?_ ?_)
   | (with_reducible refine LeO.bind ?_ (fun _ => ?_))
   | exact ih0 _ _
   | exact ih1 _ _
   | exact ih2 _ _
   | exact ih3 _ _
   | exact LeO.none _
   | refine LeO.ite ?_ ?_
   | refine LeO.bind ?_ (fun _ => ?_)
  ·intro y0 y1
   unfold rle.j2
   repeat' first
   | (with_reducible exact ih0 _ _)
   | (with_reducible exact ih1 _ _)
   | (with_reducible exact ih2 _ _)
   | (with_reducible exact ih3 _ _)
   | (with_reducible exact LeO.refl _)
   | (with_reducible exact LeO.none _)
   | (with_reducible refine LeO.ite ?_ ?_)
   | (with_reducible refine LeO.bind ?_ (fun _ => ?_))
   | exact ih0 _ _
   | exact ih1 _ _
   | exact ih2 _ _
   | exact ih3 _ _
   | exact LeO.none _
   | refine LeO.ite ?_ ?_
   | refine LeO.bind ?_ (fun _ => ?_)
  ·intro y0 y1
   unfold rle.j3
   repeat' first
   | (with_reducible exact ih0 _ _)
   | (with_reducible exact ih1 _ _)
   | (with_reducible exact ih2 _ _)
   | (with_reducible exact ih3 _ _)
   | (with_reducible exact LeO.refl _)
   | (with_reducible exact LeO.none _)
   | (with_reducible refine LeO.ite ?_ ?_)
   | (with_reducible refine LeO.bind ?_ (fun _ => ?_))
   | exact ih0 _ _
   | exact ih1 _ _
   | exact ih2 _ _
   | exact ih3 _ _
   | exact LeO.none _
   | refine LeO.ite ?_ ?_
   | refine LeO.bind ?_ (fun _ => ?_)
theorem rle.mono : ∀ a0 k, LeO (rle.f k a0) (rle.f (k + 1) a0) := by
 intro a0 k; obtain ⟨ih0, ih1, ih2, ih3⟩ := rle.mono_l k
 unfold rle.f
 repeat' first
   | (with_reducible exact ih0 _ _)
   | (with_reducible exact ih1 _ _)
   | (with_reducible exact ih2 _ _)
   | (with_reducible exact ih3 _ _)
   | (with_reducible exact LeO.refl _)
   | (with_reducible exact LeO.none _)
   | (with_reducible refine LeO.ite ?_ ?_)
   | (with_reducible refine LeO.bind ?_ (fun _ => ?_))
   | exact ih0 _ _
   | exact ih1 _ _
   | exact ih2 _ _
   | exact ih3 _ _
   | exact LeO.none _
   | refine LeO.ite ?_ ?_
   | refine LeO.bind ?_ (fun _ => ?_)
set_option maxHeartbeats 8000000 in
set_option maxRecDepth 100000 in
theorem rle.calls (k : Nat) (a0 : Int) (r : ByteArray) (w : World) (h : rle.f k a0 = some r) :
  Calls Tryd.prog 31 #[.int .i64 a0] w fun e w' => e = .returned (.string r) ∧ D0w w w' := by
 have H : (if a0 = 1 then (some (⟨#[42, 100]⟩ : ByteArray)) else (if a0 = 3 then (some (⟨#[42, 109]⟩ : ByteArray)) else (if a0 = 4 then (rle.j0 k a0 (a0 == 4)) else (rle.j0 k a0 (a0 == 6))))) = some r := h; clear h
 by_cases c2 : a0 = 1
 ·rw [if_pos c2] at H; have c2b0 : (a0 == 1) = true := beq_iff_eq.mpr c2; have c2b1 : (a0 != 1) = false := bne_eq_false_iff_eq.mpr c2; clear c2; obtain rfl := Option.some.inj H
  go_enter Tryd.func31, Tryd.ntmps31
  go_wp2
  go_ret
  exact ⟨by first | rfl | (simp; done) | (simp [*]; done), by repeat (first | exact D0w.refl _ | apply D0w.step)⟩
 ·rw [if_neg c2] at H; have c2b0 : (a0 == 1) = false := beq_eq_false_iff_ne.mpr c2; have c2b1 : (a0 != 1) = true := bne_iff_ne.mpr c2
  by_cases c3 : a0 = 3
  ·rw [if_pos c3] at H; have c3b0 : (a0 == 3) = true := beq_iff_eq.mpr c3; have c3b1 : (a0 != 3) = false := bne_eq_false_iff_eq.mpr c3; clear c3; obtain rfl := Option.some.inj H
   go_enter Tryd.func31, Tryd.ntmps31
   go_wp2
   go_ret
   exact ⟨by first | rfl | (simp; done) | (simp [*]; done), by repeat (first | exact D0w.refl _ | apply D0w.step)⟩
  ·rw [if_neg c3] at H; have c3b0 : (a0 == 3) = false := beq_eq_false_iff_ne.mpr c3; have c3b1 : (a0 != 3) = true := bne_iff_ne.mpr c3; have HC4 := As.mk H; clear H
   go_enter Tryd.func31, Tryd.ntmps31
   go_upto_if 8 with (fail)
   go_cut [8] (fun v8 wc => ∃ (kq : Nat) (x8_3 : Bool), v8 = .bool x8_3 ∧ As (rle.j0 kq a0 x8_3 = some r) ∧ As (kq ≤ k) ∧ D0w w wc)
   case first =>
    have H := HC4.out; clear HC4
    by_cases c5 : a0 = 4
    ·rw [if_pos c5] at H; have c5b0 : (a0 == 4) = true := beq_iff_eq.mpr c5; have c5b1 : (a0 != 4) = false := bne_eq_false_iff_eq.mpr c5; clear c5; (first | rw [c5b0] | (simp only [i64_w, i32_w]; rw [c5b0]) | skip); have H' := As.mk H; clear H; go_wp2
     go_meet
     case rel => exact ⟨_, ((a0 == 4)), (by first | rfl | (simp; done) | (simp [*]; done)), H', ⟨by first | omega | exact Nat.le_refl _⟩, by repeat (first | exact D0w.refl _ | apply D0w.step)⟩
    ·rw [if_neg c5] at H; have c5b0 : (a0 == 4) = false := beq_eq_false_iff_ne.mpr c5; have c5b1 : (a0 != 4) = true := bne_iff_ne.mpr c5; (first | rw [c5b0] | (simp only [i64_w, i32_w]; rw [c5b0]) | skip); have H' := As.mk H; clear H; go_wp2
     go_meet
     case rel => exact ⟨_, ((a0 == 6)), (by first | rfl | (simp; done) | (simp [*]; done)), H', ⟨by first | omega | exact Nat.le_refl _⟩, by repeat (first | exact D0w.refl _ | apply D0w.step)⟩
   case rest =>
    clear HC4; (try clear c2); (try clear c2b0); (try clear c2b1); (try clear p2); (try clear c3); (try clear c3b0); (try clear c3b1); (try clear c5); (try clear c5b0); (try clear c5b1); obtain ⟨kq, x8_3, rfl, HA, HJ3, ⟨mc3, rfl⟩⟩ := hcut
    cases kq with
    | zero => exact absurd HA.out (by simp [rle.j0])
    | succ kj3 =>
     have H := HA.out; clear HA; simp only [rle.j0] at H
     by_cases c6 : x8_3 = true
     ·subst c6
      have H1 : (some (⟨#[121]⟩ : ByteArray)) = some r := by rw [if_pos rfl] at H; exact H
      clear H; have H := H1; clear H1; obtain rfl := Option.some.inj H; go_wp2
      go_ret
      exact ⟨by first | rfl | (simp; done) | (simp [*]; done), by repeat (first | exact D0w.refl _ | apply D0w.step)⟩
     ·replace c6 := Bool.eq_false_iff.mpr c6; subst c6
      have H1 : (if a0 = 7 then (rle.j1 kj3 a0 (a0 == 7)) else (if a0 = 9 then (rle.j1 kj3 a0 (a0 == 9)) else (if a0 = 11 then (rle.j1 kj3 a0 (a0 == 11)) else (rle.j1 kj3 a0 (a0 == 36))))) = some r := by rw [if_neg (show ¬ (false = true) by decide)] at H; exact H
      clear H; have H := H1; clear H1; have HC7 := As.mk H; clear H
      go_upto_if 11 with (fail)
      go_cut [11] (fun v11 wc => ∃ (kq : Nat) (x11_6 : Bool), v11 = .bool x11_6 ∧ As (rle.j1 kq a0 x11_6 = some r) ∧ As (kq ≤ kj3) ∧ D0w w wc)
      case first =>
       have H := HC7.out; clear HC7
       by_cases c8 : a0 = 7
       ·rw [if_pos c8] at H; have c8b0 : (a0 == 7) = true := beq_iff_eq.mpr c8; have c8b1 : (a0 != 7) = false := bne_eq_false_iff_eq.mpr c8; clear c8; (first | rw [c8b0] | (simp only [i64_w, i32_w]; rw [c8b0]) | skip); have H' := As.mk H; clear H; go_wp2
        go_meet
        case rel => exact ⟨_, ((a0 == 7)), (by first | rfl | (simp; done) | (simp [*]; done)), H', ⟨by have := HJ3.out; first | omega | exact Nat.le_refl _⟩, by repeat (first | exact D0w.refl _ | apply D0w.step)⟩
       ·rw [if_neg c8] at H; have c8b0 : (a0 == 7) = false := beq_eq_false_iff_ne.mpr c8; have c8b1 : (a0 != 7) = true := bne_iff_ne.mpr c8; (first | rw [c8b0] | (simp only [i64_w, i32_w]; rw [c8b0]) | skip)
        by_cases c9 : a0 = 9
        ·rw [if_pos c9] at H; have c9b0 : (a0 == 9) = true := beq_iff_eq.mpr c9; have c9b1 : (a0 != 9) = false := bne_eq_false_iff_eq.mpr c9; clear c9; have H' := As.mk H; clear H; go_wp2
         go_meet
         case rel => exact ⟨_, ((a0 == 9)), (by first | rfl | (simp; done) | (simp [*]; done)), H', ⟨by have := HJ3.out; first | omega | exact Nat.le_refl _⟩, by repeat (first | exact D0w.refl _ | apply D0w.step)⟩
        ·rw [if_neg c9] at H; have c9b0 : (a0 == 9) = false := beq_eq_false_iff_ne.mpr c9; have c9b1 : (a0 != 9) = true := bne_iff_ne.mpr c9
         by_cases c10 : a0 = 11
         ·rw [if_pos c10] at H; have c10b0 : (a0 == 11) = true := beq_iff_eq.mpr c10; have c10b1 : (a0 != 11) = false := bne_eq_false_iff_eq.mpr c10; clear c10; have H' := As.mk H; clear H; go_wp2
          go_meet
          case rel => exact ⟨_, ((a0 == 11)), (by first | rfl | (simp; done) | (simp [*]; done)), H', ⟨by have := HJ3.out; first | omega | exact Nat.le_refl _⟩, by repeat (first | exact D0w.refl _ | apply D0w.step)⟩
         ·rw [if_neg c10] at H; have c10b0 : (a0 == 11) = false := beq_eq_false_iff_ne.mpr c10; have c10b1 : (a0 != 11) = true := bne_iff_ne.mpr c10; have H' := As.mk H; clear H; go_wp2
          go_meet
          case rel => exact ⟨_, ((a0 == 36)), (by first | rfl | (simp; done) | (simp [*]; done)), H', ⟨by have := HJ3.out; first | omega | exact Nat.le_refl _⟩, by repeat (first | exact D0w.refl _ | apply D0w.step)⟩
      case rest =>
       clear HC7; (try clear c1); (try clear c2); (try clear c2b0); (try clear c2b1); (try clear p2); (try clear c3); (try clear c3b0); (try clear c3b1); (try clear c5); (try clear c5b0); (try clear c5b1); (try clear c6); (try clear c8); (try clear c8b0); (try clear c8b1); (try clear c9); (try clear c9b0); (try clear c9b1); (try clear c10); (try clear c10b0); (try clear c10b1); (try clear p2); obtain ⟨kq, x11_6, rfl, HA, HJ6, ⟨mc6, rfl⟩⟩ := hcut
       cases kq with
       | zero => exact absurd HA.out (by simp [rle.j1])
       | succ kj6 =>
        have H := HA.out; clear HA; simp only [rle.j1] at H
        by_cases c11 : x11_6 = true
        ·subst c11
         have H1 : (some (⟨#[98]⟩ : ByteArray)) = some r := by rw [if_pos rfl] at H; exact H
         clear H; have H := H1; clear H1; obtain rfl := Option.some.inj H; go_wp2
         go_ret
         exact ⟨by first | rfl | (simp; done) | (simp [*]; done), by repeat (first | exact D0w.refl _ | apply D0w.step)⟩
        ·replace c11 := Bool.eq_false_iff.mpr c11; subst c11
         have H1 : (if a0 = 8 then (some (⟨#[117, 42, 108]⟩ : ByteArray)) else (if a0 = 10 then (some (⟨#[117, 98]⟩ : ByteArray)) else (if a0 = 12 then (some (⟨#[42, 115]⟩ : ByteArray)) else (if a0 = 13 then (some (⟨#[121, 101]⟩ : ByteArray)) else (if a0 = 14 then (some (⟨#[118, 101]⟩ : ByteArray)) else (if a0 = 15 then (rle.j2 kj6 a0 (a0 == 15)) else (if a0 = 16 then (rle.j2 kj6 a0 (a0 == 16)) else (if a0 = 17 then (rle.j2 kj6 a0 (a0 == 17)) else (if a0 = 18 then (rle.j2 kj6 a0 (a0 == 18)) else (if a0 = 30 then (rle.j2 kj6 a0 (a0 == 30)) else (if a0 = 34 then (rle.j2 kj6 a0 (a0 == 34)) else (rle.j2 kj6 a0 (a0 == 35))))))))))))) = some r := by rw [if_neg (show ¬ (false = true) by decide)] at H; exact H
         clear H; have H := H1; clear H1
         by_cases c12 : a0 = 8
         ·rw [if_pos c12] at H; have c12b0 : (a0 == 8) = true := beq_iff_eq.mpr c12; have c12b1 : (a0 != 8) = false := bne_eq_false_iff_eq.mpr c12; clear c12; obtain rfl := Option.some.inj H; go_wp2
          go_ret
          exact ⟨by first | rfl | (simp; done) | (simp [*]; done), by repeat (first | exact D0w.refl _ | apply D0w.step)⟩
         ·rw [if_neg c12] at H; have c12b0 : (a0 == 8) = false := beq_eq_false_iff_ne.mpr c12; have c12b1 : (a0 != 8) = true := bne_iff_ne.mpr c12
          by_cases c13 : a0 = 10
          ·rw [if_pos c13] at H; have c13b0 : (a0 == 10) = true := beq_iff_eq.mpr c13; have c13b1 : (a0 != 10) = false := bne_eq_false_iff_eq.mpr c13; clear c13; obtain rfl := Option.some.inj H; go_wp2
           go_ret
           exact ⟨by first | rfl | (simp; done) | (simp [*]; done), by repeat (first | exact D0w.refl _ | apply D0w.step)⟩
          ·rw [if_neg c13] at H; have c13b0 : (a0 == 10) = false := beq_eq_false_iff_ne.mpr c13; have c13b1 : (a0 != 10) = true := bne_iff_ne.mpr c13
           by_cases c14 : a0 = 12
           ·rw [if_pos c14] at H; have c14b0 : (a0 == 12) = true := beq_iff_eq.mpr c14; have c14b1 : (a0 != 12) = false := bne_eq_false_iff_eq.mpr c14; clear c14; obtain rfl := Option.some.inj H; go_wp2
            go_ret
            exact ⟨by first | rfl | (simp; done) | (simp [*]; done), by repeat (first | exact D0w.refl _ | apply D0w.step)⟩
           ·rw [if_neg c14] at H; have c14b0 : (a0 == 12) = false := beq_eq_false_iff_ne.mpr c14; have c14b1 : (a0 != 12) = true := bne_iff_ne.mpr c14
            by_cases c15 : a0 = 13
            ·rw [if_pos c15] at H; have c15b0 : (a0 == 13) = true := beq_iff_eq.mpr c15; have c15b1 : (a0 != 13) = false := bne_eq_false_iff_eq.mpr c15; clear c15; obtain rfl := Option.some.inj H; go_wp2
             go_ret
             exact ⟨by first | rfl | (simp; done) | (simp [*]; done), by repeat (first | exact D0w.refl _ | apply D0w.step)⟩
            ·rw [if_neg c15] at H; have c15b0 : (a0 == 13) = false := beq_eq_false_iff_ne.mpr c15; have c15b1 : (a0 != 13) = true := bne_iff_ne.mpr c15
             by_cases c16 : a0 = 14
             ·rw [if_pos c16] at H; have c16b0 : (a0 == 14) = true := beq_iff_eq.mpr c16; have c16b1 : (a0 != 14) = false := bne_eq_false_iff_eq.mpr c16; clear c16; obtain rfl := Option.some.inj H; go_wp2
              go_ret
              exact ⟨by first | rfl | (simp; done) | (simp [*]; done), by repeat (first | exact D0w.refl _ | apply D0w.step)⟩
             ·rw [if_neg c16] at H; have c16b0 : (a0 == 14) = false := beq_eq_false_iff_ne.mpr c16; have c16b1 : (a0 != 14) = true := bne_iff_ne.mpr c16; have HC17 := As.mk H; clear H
              go_upto_if 26 with (fail)
              go_cut [26] (fun v26 wc => ∃ (kq : Nat) (x26_16 : Bool), v26 = .bool x26_16 ∧ As (rle.j2 kq a0 x26_16 = some r) ∧ As (kq ≤ kj6) ∧ D0w w wc)
              case first =>
               have H := HC17.out; clear HC17
               by_cases c18 : a0 = 15
               ·rw [if_pos c18] at H; have c18b0 : (a0 == 15) = true := beq_iff_eq.mpr c18; have c18b1 : (a0 != 15) = false := bne_eq_false_iff_eq.mpr c18; clear c18; (first | rw [c18b0] | (simp only [i64_w, i32_w]; rw [c18b0]) | skip); have H' := As.mk H; clear H; go_wp2
                go_meet
                case rel => exact ⟨_, ((a0 == 15)), (by first | rfl | (simp; done) | (simp [*]; done)), H', ⟨by have := HJ3.out; have := HJ6.out; first | omega | exact Nat.le_refl _⟩, by repeat (first | exact D0w.refl _ | apply D0w.step)⟩
               ·rw [if_neg c18] at H; have c18b0 : (a0 == 15) = false := beq_eq_false_iff_ne.mpr c18; have c18b1 : (a0 != 15) = true := bne_iff_ne.mpr c18; (first | rw [c18b0] | (simp only [i64_w, i32_w]; rw [c18b0]) | skip)
                by_cases c19 : a0 = 16
                ·rw [if_pos c19] at H; have c19b0 : (a0 == 16) = true := beq_iff_eq.mpr c19; have c19b1 : (a0 != 16) = false := bne_eq_false_iff_eq.mpr c19; clear c19; have H' := As.mk H; clear H; go_wp2
                 go_meet
                 case rel => exact ⟨_, ((a0 == 16)), (by first | rfl | (simp; done) | (simp [*]; done)), H', ⟨by have := HJ3.out; have := HJ6.out; first | omega | exact Nat.le_refl _⟩, by repeat (first | exact D0w.refl _ | apply D0w.step)⟩
                ·rw [if_neg c19] at H; have c19b0 : (a0 == 16) = false := beq_eq_false_iff_ne.mpr c19; have c19b1 : (a0 != 16) = true := bne_iff_ne.mpr c19
                 by_cases c20 : a0 = 17
                 ·rw [if_pos c20] at H; have c20b0 : (a0 == 17) = true := beq_iff_eq.mpr c20; have c20b1 : (a0 != 17) = false := bne_eq_false_iff_eq.mpr c20; clear c20; have H' := As.mk H; clear H; go_wp2
                  go_meet
                  case rel => exact ⟨_, ((a0 == 17)), (by first | rfl | (simp; done) | (simp [*]; done)), H', ⟨by have := HJ3.out; have := HJ6.out; first | omega | exact Nat.le_refl _⟩, by repeat (first | exact D0w.refl _ | apply D0w.step)⟩
                 ·rw [if_neg c20] at H; have c20b0 : (a0 == 17) = false := beq_eq_false_iff_ne.mpr c20; have c20b1 : (a0 != 17) = true := bne_iff_ne.mpr c20
                  by_cases c21 : a0 = 18
                  ·rw [if_pos c21] at H; have c21b0 : (a0 == 18) = true := beq_iff_eq.mpr c21; have c21b1 : (a0 != 18) = false := bne_eq_false_iff_eq.mpr c21; clear c21; have H' := As.mk H; clear H; go_wp2
                   go_meet
                   case rel => exact ⟨_, ((a0 == 18)), (by first | rfl | (simp; done) | (simp [*]; done)), H', ⟨by have := HJ3.out; have := HJ6.out; first | omega | exact Nat.le_refl _⟩, by repeat (first | exact D0w.refl _ | apply D0w.step)⟩
                  ·rw [if_neg c21] at H; have c21b0 : (a0 == 18) = false := beq_eq_false_iff_ne.mpr c21; have c21b1 : (a0 != 18) = true := bne_iff_ne.mpr c21
                   by_cases c22 : a0 = 30
                   ·rw [if_pos c22] at H; have c22b0 : (a0 == 30) = true := beq_iff_eq.mpr c22; have c22b1 : (a0 != 30) = false := bne_eq_false_iff_eq.mpr c22; clear c22; have H' := As.mk H; clear H; go_wp2
                    go_meet
                    case rel => exact ⟨_, ((a0 == 30)), (by first | rfl | (simp; done) | (simp [*]; done)), H', ⟨by have := HJ3.out; have := HJ6.out; first | omega | exact Nat.le_refl _⟩, by repeat (first | exact D0w.refl _ | apply D0w.step)⟩
                   ·rw [if_neg c22] at H; have c22b0 : (a0 == 30) = false := beq_eq_false_iff_ne.mpr c22; have c22b1 : (a0 != 30) = true := bne_iff_ne.mpr c22
                    by_cases c23 : a0 = 34
                    ·rw [if_pos c23] at H; have c23b0 : (a0 == 34) = true := beq_iff_eq.mpr c23; have c23b1 : (a0 != 34) = false := bne_eq_false_iff_eq.mpr c23; clear c23; have H' := As.mk H; clear H; go_wp2
                     go_meet
                     case rel => exact ⟨_, ((a0 == 34)), (by first | rfl | (simp; done) | (simp [*]; done)), H', ⟨by have := HJ3.out; have := HJ6.out; first | omega | exact Nat.le_refl _⟩, by repeat (first | exact D0w.refl _ | apply D0w.step)⟩
                    ·rw [if_neg c23] at H; have c23b0 : (a0 == 34) = false := beq_eq_false_iff_ne.mpr c23; have c23b1 : (a0 != 34) = true := bne_iff_ne.mpr c23; have H' := As.mk H; clear H; go_wp2
                     go_meet
                     case rel => exact ⟨_, ((a0 == 35)), (by first | rfl | (simp; done) | (simp [*]; done)), H', ⟨by have := HJ3.out; have := HJ6.out; first | omega | exact Nat.le_refl _⟩, by repeat (first | exact D0w.refl _ | apply D0w.step)⟩
              case rest =>
               clear HC17; (try clear c1); (try clear c2); (try clear c2b0); (try clear c2b1); (try clear p2); (try clear c3); (try clear c3b0); (try clear c3b1); (try clear c5); (try clear c5b0); (try clear c5b1); (try clear c6); (try clear c8); (try clear c8b0); (try clear c8b1); (try clear c9); (try clear c9b0); (try clear c9b1); (try clear c10); (try clear c10b0); (try clear c10b1); (try clear c11); (try clear c12); (try clear c12b0); (try clear c12b1); (try clear c13); (try clear c13b0); (try clear c13b1); (try clear c14); (try clear c14b0); (try clear c14b1); (try clear c15); (try clear c15b0); (try clear c15b1); (try clear c16); (try clear c16b0); (try clear c16b1); (try clear c18); (try clear c18b0); (try clear c18b1); (try clear c19); (try clear c19b0); (try clear c19b1); (try clear c20); (try clear c20b0); (try clear c20b1); (try clear c21); (try clear c21b0); (try clear c21b1); (try clear c22); (try clear c22b0); (try clear c22b1); (try clear c23); (try clear c23b0); (try clear c23b1); (try clear p2); obtain ⟨kq, x26_16, rfl, HA, HJ16, ⟨mc16, rfl⟩⟩ := hcut
               cases kq with
               | zero => exact absurd HA.out (by simp [rle.j2])
               | succ kj16 =>
                have H := HA.out; clear HA; simp only [rle.j2] at H
                by_cases c24 : x26_16 = true
                ·subst c24
                 have H1 : (some (⟨#[101]⟩ : ByteArray)) = some r := by rw [if_pos rfl] at H; exact H
                 clear H; have H := H1; clear H1; obtain rfl := Option.some.inj H; go_wp2
                 go_ret
                 exact ⟨by first | rfl | (simp; done) | (simp [*]; done), by repeat (first | exact D0w.refl _ | apply D0w.step)⟩
                ·replace c24 := Bool.eq_false_iff.mpr c24; subst c24
                 have H1 : (if a0 = 19 then (rle.j3 kj16 a0 (a0 == 19)) else (rle.j3 kj16 a0 (a0 == 20))) = some r := by rw [if_neg (show ¬ (false = true) by decide)] at H; exact H
                 clear H; have H := H1; clear H1; have HC25 := As.mk H; clear H
                 go_upto_if 34 with (fail)
                 go_cut [34] (fun v34 wc => ∃ (kq : Nat) (x34_24 : Bool), v34 = .bool x34_24 ∧ As (rle.j3 kq a0 x34_24 = some r) ∧ As (kq ≤ kj16) ∧ D0w w wc)
                 case first =>
                  have H := HC25.out; clear HC25
                  by_cases c26 : a0 = 19
                  ·rw [if_pos c26] at H; have c26b0 : (a0 == 19) = true := beq_iff_eq.mpr c26; have c26b1 : (a0 != 19) = false := bne_eq_false_iff_eq.mpr c26; clear c26; (first | rw [c26b0] | (simp only [i64_w, i32_w]; rw [c26b0]) | skip); have H' := As.mk H; clear H; go_wp2
                   go_meet
                   case rel => exact ⟨_, ((a0 == 19)), (by first | rfl | (simp; done) | (simp [*]; done)), H', ⟨by have := HJ3.out; have := HJ6.out; have := HJ16.out; first | omega | exact Nat.le_refl _⟩, by repeat (first | exact D0w.refl _ | apply D0w.step)⟩
                  ·rw [if_neg c26] at H; have c26b0 : (a0 == 19) = false := beq_eq_false_iff_ne.mpr c26; have c26b1 : (a0 != 19) = true := bne_iff_ne.mpr c26; (first | rw [c26b0] | (simp only [i64_w, i32_w]; rw [c26b0]) | skip); have H' := As.mk H; clear H; go_wp2
                   go_meet
                   case rel => exact ⟨_, ((a0 == 20)), (by first | rfl | (simp; done) | (simp [*]; done)), H', ⟨by have := HJ3.out; have := HJ6.out; have := HJ16.out; first | omega | exact Nat.le_refl _⟩, by repeat (first | exact D0w.refl _ | apply D0w.step)⟩
                 case rest =>
                  clear HC25; (try clear c1); (try clear c2); (try clear c2b0); (try clear c2b1); (try clear p2); (try clear c3); (try clear c3b0); (try clear c3b1); (try clear c5); (try clear c5b0); (try clear c5b1); (try clear c6); (try clear c8); (try clear c8b0); (try clear c8b1); (try clear c9); (try clear c9b0); (try clear c9b1); (try clear c10); (try clear c10b0); (try clear c10b1); (try clear c11); (try clear c12); (try clear c12b0); (try clear c12b1); (try clear c13); (try clear c13b0); (try clear c13b1); (try clear c14); (try clear c14b0); (try clear c14b1); (try clear c15); (try clear c15b0); (try clear c15b1); (try clear c16); (try clear c16b0); (try clear c16b1); (try clear c18); (try clear c18b0); (try clear c18b1); (try clear c19); (try clear c19b0); (try clear c19b1); (try clear c20); (try clear c20b0); (try clear c20b1); (try clear c21); (try clear c21b0); (try clear c21b1); (try clear c22); (try clear c22b0); (try clear c22b1); (try clear c23); (try clear c23b0); (try clear c23b1); (try clear c24); (try clear c26); (try clear c26b0); (try clear c26b1); (try clear p2); obtain ⟨kq, x34_24, rfl, HA, HJ24, ⟨mc24, rfl⟩⟩ := hcut
                  cases kq with
                  | zero => exact absurd HA.out (by simp [rle.j3])
                  | succ kj24 =>
                   have H := HA.out; clear HA; simp only [rle.j3] at H
                   by_cases c27 : x34_24 = true
                   ·subst c27
                    have H1 : (some (⟨#[101, 63, 118]⟩ : ByteArray)) = some r := by rw [if_pos rfl] at H; exact H
                    clear H; have H := H1; clear H1; obtain rfl := Option.some.inj H; go_wp2
                    go_ret
                    exact ⟨by first | rfl | (simp; done) | (simp [*]; done), by repeat (first | exact D0w.refl _ | apply D0w.step)⟩
                   ·replace c27 := Bool.eq_false_iff.mpr c27; subst c27
                    have H1 : (if a0 = 23 then (some (⟨#[101, 98, 98]⟩ : ByteArray)) else (if a0 = 24 then (some (⟨#[101, 98]⟩ : ByteArray)) else (if a0 = 31 then (some (⟨#[101, 101]⟩ : ByteArray)) else (if a0 = 32 then (some (⟨#[101, 101]⟩ : ByteArray)) else (some (⟨#[]⟩ : ByteArray)))))) = some r := by rw [if_neg (show ¬ (false = true) by decide)] at H; exact H
                    clear H; have H := H1; clear H1
                    by_cases c28 : a0 = 23
                    ·rw [if_pos c28] at H; have c28b0 : (a0 == 23) = true := beq_iff_eq.mpr c28; have c28b1 : (a0 != 23) = false := bne_eq_false_iff_eq.mpr c28; clear c28; obtain rfl := Option.some.inj H; go_wp2
                     go_ret
                     exact ⟨by first | rfl | (simp; done) | (simp [*]; done), by repeat (first | exact D0w.refl _ | apply D0w.step)⟩
                    ·rw [if_neg c28] at H; have c28b0 : (a0 == 23) = false := beq_eq_false_iff_ne.mpr c28; have c28b1 : (a0 != 23) = true := bne_iff_ne.mpr c28
                     by_cases c29 : a0 = 24
                     ·rw [if_pos c29] at H; have c29b0 : (a0 == 24) = true := beq_iff_eq.mpr c29; have c29b1 : (a0 != 24) = false := bne_eq_false_iff_eq.mpr c29; clear c29; obtain rfl := Option.some.inj H; go_wp2
                      go_ret
                      exact ⟨by first | rfl | (simp; done) | (simp [*]; done), by repeat (first | exact D0w.refl _ | apply D0w.step)⟩
                     ·rw [if_neg c29] at H; have c29b0 : (a0 == 24) = false := beq_eq_false_iff_ne.mpr c29; have c29b1 : (a0 != 24) = true := bne_iff_ne.mpr c29
                      by_cases c30 : a0 = 31
                      ·rw [if_pos c30] at H; have c30b0 : (a0 == 31) = true := beq_iff_eq.mpr c30; have c30b1 : (a0 != 31) = false := bne_eq_false_iff_eq.mpr c30; clear c30; obtain rfl := Option.some.inj H; go_wp2
                       go_ret
                       exact ⟨by first | rfl | (simp; done) | (simp [*]; done), by repeat (first | exact D0w.refl _ | apply D0w.step)⟩
                      ·rw [if_neg c30] at H; have c30b0 : (a0 == 31) = false := beq_eq_false_iff_ne.mpr c30; have c30b1 : (a0 != 31) = true := bne_iff_ne.mpr c30
                       by_cases c31 : a0 = 32
                       ·rw [if_pos c31] at H; have c31b0 : (a0 == 32) = true := beq_iff_eq.mpr c31; have c31b1 : (a0 != 32) = false := bne_eq_false_iff_eq.mpr c31; clear c31; obtain rfl := Option.some.inj H; go_wp2
                        go_ret
                        exact ⟨by first | rfl | (simp; done) | (simp [*]; done), by repeat (first | exact D0w.refl _ | apply D0w.step)⟩
                       ·rw [if_neg c31] at H; have c31b0 : (a0 == 32) = false := beq_eq_false_iff_ne.mpr c31; have c31b1 : (a0 != 32) = true := bne_iff_ne.mpr c31; obtain rfl := Option.some.inj H; go_wp2
                        go_ret
                        exact ⟨by first | rfl | (simp; done) | (simp [*]; done), by repeat (first | exact D0w.refl _ | apply D0w.step)⟩
def detentref02_Variable.f (a0 : Int) : Option (Bool) := if a0 = 29 then (some true) else (if a0 = 30 then (some true) else (some (a0 == 31)))
set_option maxHeartbeats 8000000 in
set_option maxRecDepth 100000 in
theorem detentref02_Variable.calls (a0 : Int) (r : Bool) (w : World) (h : detentref02_Variable.f a0 = some r) :
  Calls Tryd.prog 52 #[.int .i64 a0] w fun e w' => e = .returned (.bool r) ∧ D0w w w' := by
 have H : (if a0 = 29 then (some true) else (if a0 = 30 then (some true) else (some (a0 == 31)))) = some r := h; clear h
 by_cases c2 : a0 = 29
 ·rw [if_pos c2] at H; have c2b0 : (a0 == 29) = true := beq_iff_eq.mpr c2; have c2b1 : (a0 != 29) = false := bne_eq_false_iff_eq.mpr c2; clear c2; obtain rfl := Option.some.inj H
  go_enter Tryd.func52, Tryd.ntmps52
  go_wp2
  go_ret
  exact ⟨by first | rfl | (simp; done) | (simp [*]; done), by repeat (first | exact D0w.refl _ | apply D0w.step)⟩
 ·rw [if_neg c2] at H; have c2b0 : (a0 == 29) = false := beq_eq_false_iff_ne.mpr c2; have c2b1 : (a0 != 29) = true := bne_iff_ne.mpr c2
  by_cases c3 : a0 = 30
  ·rw [if_pos c3] at H; have c3b0 : (a0 == 30) = true := beq_iff_eq.mpr c3; have c3b1 : (a0 != 30) = false := bne_eq_false_iff_eq.mpr c3; clear c3; obtain rfl := Option.some.inj H
   go_enter Tryd.func52, Tryd.ntmps52
   go_wp2
   go_ret
   exact ⟨by first | rfl | (simp; done) | (simp [*]; done), by repeat (first | exact D0w.refl _ | apply D0w.step)⟩
  ·rw [if_neg c3] at H; have c3b0 : (a0 == 30) = false := beq_eq_false_iff_ne.mpr c3; have c3b1 : (a0 != 30) = true := bne_iff_ne.mpr c3; obtain rfl := Option.some.inj H
   go_enter Tryd.func52, Tryd.ntmps52
   go_wp2
   go_ret
   exact ⟨by first | rfl | (simp; done) | (simp [*]; done), by repeat (first | exact D0w.refl _ | apply D0w.step)⟩
def detentref02_Statement.f (a0 : Int) : Option (Bool) := if a0 ≥ 13 then (some (decide (a0 ≤ 25))) else (some false)
set_option maxHeartbeats 8000000 in
set_option maxRecDepth 100000 in
theorem detentref02_Statement.calls (a0 : Int) (r : Bool) (w : World) (h : detentref02_Statement.f a0 = some r) :
  Calls Tryd.prog 53 #[.int .i64 a0] w fun e w' => e = .returned (.bool r) ∧ D0w w w' := by
 have H : (if a0 ≥ 13 then (some (decide (a0 ≤ 25))) else (some false)) = some r := h; clear h
 by_cases c2 : a0 ≥ 13
 ·rw [if_pos c2] at H; have c2b0 : decide (13 ≤ a0) = true := decide_eq_true c2; clear c2; obtain rfl := Option.some.inj H
  go_enter Tryd.func53, Tryd.ntmps53
  go_wp2
  go_ret
  exact ⟨by first | rfl | (simp; done) | (simp [*]; done), by repeat (first | exact D0w.refl _ | apply D0w.step)⟩
 ·rw [if_neg c2] at H; have c2b0 : decide (13 ≤ a0) = false := decide_eq_false c2; clear c2; obtain rfl := Option.some.inj H
  go_enter Tryd.func53, Tryd.ntmps53
  go_wp2
  go_ret
  exact ⟨by first | rfl | (simp; done) | (simp [*]; done), by repeat (first | exact D0w.refl _ | apply D0w.step)⟩
def detentref02_Declaration.f (a0 : Int) : Option (Bool) := if a0 = 2 then (some true) else (if a0 = 3 then (some true) else (if a0 = 6 then (some true) else (if a0 = 7 then (some true) else (if a0 = 8 then (some true) else (if a0 = 10 then (some true) else (if a0 = 11 then (some true) else (some false)))))))
set_option maxHeartbeats 8000000 in
set_option maxRecDepth 100000 in
theorem detentref02_Declaration.calls (a0 : Int) (r : Bool) (w : World) (h : detentref02_Declaration.f a0 = some r) :
  Calls Tryd.prog 54 #[.int .i64 a0] w fun e w' => e = .returned (.bool r) ∧ D0w w w' := by
 have H : (if a0 = 2 then (some true) else (if a0 = 3 then (some true) else (if a0 = 6 then (some true) else (if a0 = 7 then (some true) else (if a0 = 8 then (some true) else (if a0 = 10 then (some true) else (if a0 = 11 then (some true) else (some false)))))))) = some r := h; clear h
 by_cases c2 : a0 = 2
 ·rw [if_pos c2] at H; have c2b0 : (a0 == 2) = true := beq_iff_eq.mpr c2; have c2b1 : (a0 != 2) = false := bne_eq_false_iff_eq.mpr c2; clear c2; obtain rfl := Option.some.inj H
  go_enter Tryd.func54, Tryd.ntmps54
  go_wp2
  go_ret
  exact ⟨by first | rfl | (simp; done) | (simp [*]; done), by repeat (first | exact D0w.refl _ | apply D0w.step)⟩
 ·rw [if_neg c2] at H; have c2b0 : (a0 == 2) = false := beq_eq_false_iff_ne.mpr c2; have c2b1 : (a0 != 2) = true := bne_iff_ne.mpr c2
  by_cases c3 : a0 = 3
  ·rw [if_pos c3] at H; have c3b0 : (a0 == 3) = true := beq_iff_eq.mpr c3; have c3b1 : (a0 != 3) = false := bne_eq_false_iff_eq.mpr c3; clear c3; obtain rfl := Option.some.inj H
   go_enter Tryd.func54, Tryd.ntmps54
   go_wp2
   go_ret
   exact ⟨by first | rfl | (simp; done) | (simp [*]; done), by repeat (first | exact D0w.refl _ | apply D0w.step)⟩
  ·rw [if_neg c3] at H; have c3b0 : (a0 == 3) = false := beq_eq_false_iff_ne.mpr c3; have c3b1 : (a0 != 3) = true := bne_iff_ne.mpr c3
   by_cases c4 : a0 = 6
   ·rw [if_pos c4] at H; have c4b0 : (a0 == 6) = true := beq_iff_eq.mpr c4; have c4b1 : (a0 != 6) = false := bne_eq_false_iff_eq.mpr c4; clear c4; obtain rfl := Option.some.inj H
    go_enter Tryd.func54, Tryd.ntmps54
    go_wp2
    go_ret
    exact ⟨by first | rfl | (simp; done) | (simp [*]; done), by repeat (first | exact D0w.refl _ | apply D0w.step)⟩
   ·rw [if_neg c4] at H; have c4b0 : (a0 == 6) = false := beq_eq_false_iff_ne.mpr c4; have c4b1 : (a0 != 6) = true := bne_iff_ne.mpr c4
    by_cases c5 : a0 = 7
    ·rw [if_pos c5] at H; have c5b0 : (a0 == 7) = true := beq_iff_eq.mpr c5; have c5b1 : (a0 != 7) = false := bne_eq_false_iff_eq.mpr c5; clear c5; obtain rfl := Option.some.inj H
     go_enter Tryd.func54, Tryd.ntmps54
     go_wp2
     go_ret
     exact ⟨by first | rfl | (simp; done) | (simp [*]; done), by repeat (first | exact D0w.refl _ | apply D0w.step)⟩
    ·rw [if_neg c5] at H; have c5b0 : (a0 == 7) = false := beq_eq_false_iff_ne.mpr c5; have c5b1 : (a0 != 7) = true := bne_iff_ne.mpr c5
     by_cases c6 : a0 = 8
     ·rw [if_pos c6] at H; have c6b0 : (a0 == 8) = true := beq_iff_eq.mpr c6; have c6b1 : (a0 != 8) = false := bne_eq_false_iff_eq.mpr c6; clear c6; obtain rfl := Option.some.inj H
      go_enter Tryd.func54, Tryd.ntmps54
      go_wp2
      go_ret
      exact ⟨by first | rfl | (simp; done) | (simp [*]; done), by repeat (first | exact D0w.refl _ | apply D0w.step)⟩
     ·rw [if_neg c6] at H; have c6b0 : (a0 == 8) = false := beq_eq_false_iff_ne.mpr c6; have c6b1 : (a0 != 8) = true := bne_iff_ne.mpr c6
      by_cases c7 : a0 = 10
      ·rw [if_pos c7] at H; have c7b0 : (a0 == 10) = true := beq_iff_eq.mpr c7; have c7b1 : (a0 != 10) = false := bne_eq_false_iff_eq.mpr c7; clear c7; obtain rfl := Option.some.inj H
       go_enter Tryd.func54, Tryd.ntmps54
       go_wp2
       go_ret
       exact ⟨by first | rfl | (simp; done) | (simp [*]; done), by repeat (first | exact D0w.refl _ | apply D0w.step)⟩
      ·rw [if_neg c7] at H; have c7b0 : (a0 == 10) = false := beq_eq_false_iff_ne.mpr c7; have c7b1 : (a0 != 10) = true := bne_iff_ne.mpr c7
       by_cases c8 : a0 = 11
       ·rw [if_pos c8] at H; have c8b0 : (a0 == 11) = true := beq_iff_eq.mpr c8; have c8b1 : (a0 != 11) = false := bne_eq_false_iff_eq.mpr c8; clear c8; obtain rfl := Option.some.inj H
        go_enter Tryd.func54, Tryd.ntmps54
        go_wp2
        go_ret
        exact ⟨by first | rfl | (simp; done) | (simp [*]; done), by repeat (first | exact D0w.refl _ | apply D0w.step)⟩
       ·rw [if_neg c8] at H; have c8b0 : (a0 == 11) = false := beq_eq_false_iff_ne.mpr c8; have c8b1 : (a0 != 11) = true := bne_iff_ne.mpr c8; obtain rfl := Option.some.inj H
        go_enter Tryd.func54, Tryd.ntmps54
        go_wp2
        go_ret
        exact ⟨by first | rfl | (simp; done) | (simp [*]; done), by repeat (first | exact D0w.refl _ | apply D0w.step)⟩
end Go.Proofs.YtbpefmidgfmcaaaDoor.PTreeApart
end
section
namespace Go.Proofs.YtbpefmidgfmcaaaDoor.PTreeApart
open Go.RowKit Go.Proofs.YtbpefmidgfmcaaaDoorW.PrintWords Go.Proofs.YtbpefmidgfmcaaaDoorW.PrintLast Go.Proofs.YtbpefmidgfmcaaaDoorW.PrintMore
set_option linter.unusedVariables false
set_option linter.unusedSimpArgs false
def detentref02_is.f (a0 : Int) (a1 : Int) : Option (Bool) := if a1 = 121 then (some (a0 == 5)) else (if a1 = 98 then (some (a0 == 12)) else (if a1 = 117 then (some (a0 == 29)) else (if a1 = 101 then ((detentref02_Term.f a0).bind fun t149 => (some t149)) else (if a1 = 118 then ((detentref02_Variable.f a0).bind fun t150 => (some t150)) else (if a1 = 115 then ((detentref02_Statement.f a0).bind fun t151 => (some t151)) else (if a1 = 100 then ((detentref02_Declaration.f a0).bind fun t152 => (some t152)) else (if a1 = 109 then (some (a0 == 4)) else (some (a0 == 9)))))))))
set_option maxHeartbeats 8000000 in
set_option maxRecDepth 100000 in
theorem detentref02_is.calls (a0 : Int) (a1 : Int) (r : Bool) (w : World) (h : detentref02_is.f a0 a1 = some r) :
  Calls Tryd.prog 32 #[.int .i64 a0, .int .u8 a1] w fun e w' => e = .returned (.bool r) ∧ D0w w w' := by
 have H : (if a1 = 121 then (some (a0 == 5)) else (if a1 = 98 then (some (a0 == 12)) else (if a1 = 117 then (some (a0 == 29)) else (if a1 = 101 then ((detentref02_Term.f a0).bind fun t149 => (some t149)) else (if a1 = 118 then ((detentref02_Variable.f a0).bind fun t150 => (some t150)) else (if a1 = 115 then ((detentref02_Statement.f a0).bind fun t151 => (some t151)) else (if a1 = 100 then ((detentref02_Declaration.f a0).bind fun t152 => (some t152)) else (if a1 = 109 then (some (a0 == 4)) else (some (a0 == 9)))))))))) = some r := h; clear h
 by_cases c3 : a1 = 121
 ·rw [if_pos c3] at H; have c3b0 : (a1 == 121) = true := beq_iff_eq.mpr c3; have c3b1 : (a1 != 121) = false := bne_eq_false_iff_eq.mpr c3; clear c3; obtain rfl := Option.some.inj H
  go_enter Tryd.func32, Tryd.ntmps32
  go_wp2
  go_ret
  exact ⟨by first | rfl | (simp; done) | (simp [*]; done), by repeat (first | exact D0w.refl _ | apply D0w.step)⟩
 ·rw [if_neg c3] at H; have c3b0 : (a1 == 121) = false := beq_eq_false_iff_ne.mpr c3; have c3b1 : (a1 != 121) = true := bne_iff_ne.mpr c3
  by_cases c4 : a1 = 98
  ·rw [if_pos c4] at H; have c4b0 : (a1 == 98) = true := beq_iff_eq.mpr c4; have c4b1 : (a1 != 98) = false := bne_eq_false_iff_eq.mpr c4; clear c4; obtain rfl := Option.some.inj H
   go_enter Tryd.func32, Tryd.ntmps32
   go_wp2
   go_ret
   exact ⟨by first | rfl | (simp; done) | (simp [*]; done), by repeat (first | exact D0w.refl _ | apply D0w.step)⟩
  ·rw [if_neg c4] at H; have c4b0 : (a1 == 98) = false := beq_eq_false_iff_ne.mpr c4; have c4b1 : (a1 != 98) = true := bne_iff_ne.mpr c4
   by_cases c5 : a1 = 117
   ·rw [if_pos c5] at H; have c5b0 : (a1 == 117) = true := beq_iff_eq.mpr c5; have c5b1 : (a1 != 117) = false := bne_eq_false_iff_eq.mpr c5; clear c5; obtain rfl := Option.some.inj H
    go_enter Tryd.func32, Tryd.ntmps32
    go_wp2
    go_ret
    exact ⟨by first | rfl | (simp; done) | (simp [*]; done), by repeat (first | exact D0w.refl _ | apply D0w.step)⟩
   ·rw [if_neg c5] at H; have c5b0 : (a1 == 117) = false := beq_eq_false_iff_ne.mpr c5; have c5b1 : (a1 != 117) = true := bne_iff_ne.mpr c5
    by_cases c6 : a1 = 101
    ·rw [if_pos c6] at H; have c6b0 : (a1 == 101) = true := beq_iff_eq.mpr c6; have c6b1 : (a1 != 101) = false := bne_eq_false_iff_eq.mpr c6; clear c6; replace H := Option.bind_eq_some_iff.mp H; obtain ⟨t149, A70, H⟩ := H; replace H : (some t149) = some r := H; have A7 := As.mk A70; clear A70; obtain rfl := Option.some.inj H
     go_enter Tryd.func32, Tryd.ntmps32
     go_wp2_with (first | ((with_reducible refine gate_callee (f := 51) rfl ?_); refine goesL_ (some 21) rfl rfl Tryd.func51 (by kernel_rfl) rfl #[.int .i64 a0] rfl (by (try simp only [List.map_toArray, List.map_cons, List.map_nil]); first | done | rfl | (simp only [List.length_drop, List.length_take]; rfl)) ?_; (with_reducible refine (detentref02_Term.calls a0 t149 _ A7.out).mono ?_); rintro e w' ⟨rfl, ⟨nd, rfl⟩⟩; refine ⟨_, rfl, ?_⟩))
     go_ret
     exact ⟨by first | rfl | (simp; done) | (simp [*]; done), by repeat (first | exact D0w.refl _ | apply D0w.step)⟩
    ·rw [if_neg c6] at H; have c6b0 : (a1 == 101) = false := beq_eq_false_iff_ne.mpr c6; have c6b1 : (a1 != 101) = true := bne_iff_ne.mpr c6
     by_cases c8 : a1 = 118
     ·rw [if_pos c8] at H; have c8b0 : (a1 == 118) = true := beq_iff_eq.mpr c8; have c8b1 : (a1 != 118) = false := bne_eq_false_iff_eq.mpr c8; clear c8; replace H := Option.bind_eq_some_iff.mp H; obtain ⟨t150, A90, H⟩ := H; replace H : (some t150) = some r := H; have A9 := As.mk A90; clear A90; obtain rfl := Option.some.inj H
      go_enter Tryd.func32, Tryd.ntmps32
      go_wp2_with (first | ((with_reducible refine gate_callee (f := 52) rfl ?_); refine goesL_ (some 25) rfl rfl Tryd.func52 (by kernel_rfl) rfl #[.int .i64 a0] rfl (by (try simp only [List.map_toArray, List.map_cons, List.map_nil]); first | done | rfl | (simp only [List.length_drop, List.length_take]; rfl)) ?_; (with_reducible refine (detentref02_Variable.calls a0 t150 _ A9.out).mono ?_); rintro e w' ⟨rfl, ⟨nd, rfl⟩⟩; refine ⟨_, rfl, ?_⟩))
      go_ret
      exact ⟨by first | rfl | (simp; done) | (simp [*]; done), by repeat (first | exact D0w.refl _ | apply D0w.step)⟩
     ·rw [if_neg c8] at H; have c8b0 : (a1 == 118) = false := beq_eq_false_iff_ne.mpr c8; have c8b1 : (a1 != 118) = true := bne_iff_ne.mpr c8
      by_cases c10 : a1 = 115
      ·rw [if_pos c10] at H; have c10b0 : (a1 == 115) = true := beq_iff_eq.mpr c10; have c10b1 : (a1 != 115) = false := bne_eq_false_iff_eq.mpr c10; clear c10; replace H := Option.bind_eq_some_iff.mp H; obtain ⟨t151, A110, H⟩ := H; replace H : (some t151) = some r := H; have A11 := As.mk A110; clear A110; obtain rfl := Option.some.inj H
       go_enter Tryd.func32, Tryd.ntmps32
       go_wp2_with (first | ((with_reducible refine gate_callee (f := 53) rfl ?_); refine goesL_ (some 29) rfl rfl Tryd.func53 (by kernel_rfl) rfl #[.int .i64 a0] rfl (by (try simp only [List.map_toArray, List.map_cons, List.map_nil]); first | done | rfl | (simp only [List.length_drop, List.length_take]; rfl)) ?_; (with_reducible refine (detentref02_Statement.calls a0 t151 _ A11.out).mono ?_); rintro e w' ⟨rfl, ⟨nd, rfl⟩⟩; refine ⟨_, rfl, ?_⟩))
       go_ret
       exact ⟨by first | rfl | (simp; done) | (simp [*]; done), by repeat (first | exact D0w.refl _ | apply D0w.step)⟩
      ·rw [if_neg c10] at H; have c10b0 : (a1 == 115) = false := beq_eq_false_iff_ne.mpr c10; have c10b1 : (a1 != 115) = true := bne_iff_ne.mpr c10
       by_cases c12 : a1 = 100
       ·rw [if_pos c12] at H; have c12b0 : (a1 == 100) = true := beq_iff_eq.mpr c12; have c12b1 : (a1 != 100) = false := bne_eq_false_iff_eq.mpr c12; clear c12; replace H := Option.bind_eq_some_iff.mp H; obtain ⟨t152, A130, H⟩ := H; replace H : (some t152) = some r := H; have A13 := As.mk A130; clear A130; obtain rfl := Option.some.inj H
        go_enter Tryd.func32, Tryd.ntmps32
        go_wp2_with (first | ((with_reducible refine gate_callee (f := 54) rfl ?_); refine goesL_ (some 33) rfl rfl Tryd.func54 (by kernel_rfl) rfl #[.int .i64 a0] rfl (by (try simp only [List.map_toArray, List.map_cons, List.map_nil]); first | done | rfl | (simp only [List.length_drop, List.length_take]; rfl)) ?_; (with_reducible refine (detentref02_Declaration.calls a0 t152 _ A13.out).mono ?_); rintro e w' ⟨rfl, ⟨nd, rfl⟩⟩; refine ⟨_, rfl, ?_⟩))
        go_ret
        exact ⟨by first | rfl | (simp; done) | (simp [*]; done), by repeat (first | exact D0w.refl _ | apply D0w.step)⟩
       ·rw [if_neg c12] at H; have c12b0 : (a1 == 100) = false := beq_eq_false_iff_ne.mpr c12; have c12b1 : (a1 != 100) = true := bne_iff_ne.mpr c12
        by_cases c14 : a1 = 109
        ·rw [if_pos c14] at H; have c14b0 : (a1 == 109) = true := beq_iff_eq.mpr c14; have c14b1 : (a1 != 109) = false := bne_eq_false_iff_eq.mpr c14; clear c14; obtain rfl := Option.some.inj H
         go_enter Tryd.func32, Tryd.ntmps32
         go_wp2
         go_ret
         exact ⟨by first | rfl | (simp; done) | (simp [*]; done), by repeat (first | exact D0w.refl _ | apply D0w.step)⟩
        ·rw [if_neg c14] at H; have c14b0 : (a1 == 109) = false := beq_eq_false_iff_ne.mpr c14; have c14b1 : (a1 != 109) = true := bne_iff_ne.mpr c14; obtain rfl := Option.some.inj H
         go_enter Tryd.func32, Tryd.ntmps32
         go_wp2
         go_ret
         exact ⟨by first | rfl | (simp; done) | (simp [*]; done), by repeat (first | exact D0w.refl _ | apply D0w.step)⟩
mutual
def rki.l0 : Nat → List Int → ByteArray → Int → Int → Option (Bool)
 | 0, _, _, _, _ => none
 | k + 1, x1, x5, x6, x7 => if x7 < (x5.size : Int) then (if 0 ≤ x7 then (if (bt x5 x7) = 42 then (rki.l1 k x1 x5 x6 (wrap64 (x7 + 1))) else (if (bt x5 x7) = 63 then (if x6 < (x1.length : Int) then (if 0 ≤ x6 then (if 0 ≤ (wrap64 (x7 + 1)) then (if (wrap64 (x7 + 1)) < (x5.size : Int) then ((detentref02_is.f (rd x1 x6) (bt x5 (wrap64 (x7 + 1)))).bind fun t157 => (if t157 = true then (rki.l0 k x1 x5 (wrap64 (x6 + 1)) (wrap64 ((wrap64 (x7 + 1)) + 1))) else (rki.l0 k x1 x5 x6 (wrap64 ((wrap64 (x7 + 1)) + 1))))) else (none)) else (none)) else (none)) else (rki.l0 k x1 x5 x6 (wrap64 ((wrap64 (x7 + 1)) + 1)))) else (if x6 = (x1.length : Int) then (some false) else (if 0 ≤ x6 then (if x6 < (x1.length : Int) then ((detentref02_is.f (rd x1 x6) (bt x5 x7)).bind fun t159 => (if t159 = true then (rki.l0 k x1 x5 (wrap64 (x6 + 1)) (wrap64 (x7 + 1))) else (some false))) else (none)) else (none))))) else (none)) else (some (x6 == (x1.length : Int)))
def rki.l1 : Nat → List Int → ByteArray → Int → Int → Option (Bool)
 | 0, _, _, _, _ => none
 | k + 1, x1, x5, x6, x7 => if x6 < (x1.length : Int) then (if 0 ≤ x6 then (if 0 ≤ x7 then (if x7 < (x5.size : Int) then ((detentref02_is.f (rd x1 x6) (bt x5 x7)).bind fun t155 => (if t155 = true then (rki.l1 k x1 x5 (wrap64 (x6 + 1)) x7) else (rki.l0 k x1 x5 x6 (wrap64 (x7 + 1))))) else (none)) else (none)) else (none)) else (rki.l0 k x1 x5 x6 (wrap64 (x7 + 1)))
end
def rki.f (k : Nat) (a0 : Int) (l1 : List Int) : Option (Bool) := (rle.f k a0).bind fun t153 => (rki.l0 k l1 t153 0 0)
set_option maxHeartbeats 8000000 in
set_option maxRecDepth 100000 in
theorem rki.calls (k : Nat) (a0 : Int) (A1 : Option Addr) (c1 : Nat) (l1 : List Int) (r : Bool) (w : World) (hr1 : Kd.C (Kd.int .i64) w A1 l1.length l1) (hc1 : l1.length ≤ c1) (h : rki.f k a0 l1 = some r) :
  Calls Tryd.prog 16 #[.int .i64 a0, .slice A1 l1.length c1] w fun e w' => e = .returned (.bool r) ∧ D0w w w' := by
 have HR1 := As.mk hr1; have HC1 := As.mk hc1; clear hr1 hc1; have H : ((rle.f k a0).bind fun t153 => (rki.l0 k l1 t153 0 0)) = some r := h; clear h; replace H := Option.bind_eq_some_iff.mp H; obtain ⟨t153, A30, H⟩ := H; replace H : (rki.l0 k l1 t153 0 0) = some r := H; have A3 := As.mk A30; clear A30; have H' := As.mk H; clear H
 go_enter Tryd.func16, Tryd.ntmps16
 go_wp2_with (first | (go_at_call 31; (with_reducible refine (rle.calls k a0 t153 _ A3.out).mono ?_); rintro e w' ⟨rfl, ⟨nd, rfl⟩⟩; (try first | exact ⟨rfl, _, World.drewN_drewN _ _ _⟩ | exact ⟨rfl, _, Eq.trans (World.drewN_drewN _ _ _) (congrArg (World.drewN _) (Nat.add_assoc _ _ _))⟩)))
 repeat (go_quiet (first | (go_at_call 31; (with_reducible refine (rle.calls k a0 t153 _ A3.out).mono ?_); rintro e w' ⟨rfl, ⟨nd, rfl⟩⟩; (try first | exact ⟨rfl, _, World.drewN_drewN _ _ _⟩ | exact ⟨rfl, _, Eq.trans (World.drewN_drewN _ _ _) (congrArg (World.drewN _) (Nat.add_assoc _ _ _))⟩))); try go_wp2_with (first | (go_at_call 31; (with_reducible refine (rle.calls k a0 t153 _ A3.out).mono ?_); rintro e w' ⟨rfl, ⟨nd, rfl⟩⟩; (try first | exact ⟨rfl, _, World.drewN_drewN _ _ _⟩ | exact ⟨rfl, _, Eq.trans (World.drewN_drewN _ _ _) (congrArg (World.drewN _) (Nat.add_assoc _ _ _))⟩))))
 go_loopg [6, 7] k (fun kq v6 v7 w' => ∃ (x6_1 : Int) (x7_1 : Int), v6 = .int .i64 x6_1 ∧ v7 = .int .i64 x7_1 ∧ As (rki.l0 kq l1 t153 x6_1 x7_1 = some r) ∧ As (kq ≤ k) ∧ D0w w w')
 case atStart => exact ⟨(0), (0), (by first | rfl | (simp; done) | (simp [*]; done)), (by first | rfl | (simp; done) | (simp [*]; done)), H', ⟨Nat.le_refl _⟩, by repeat (first | exact D0w.refl _ | apply D0w.step)⟩
 case round =>
  clear H'; (try clear c1); (try clear p2); obtain ⟨x6_1, x7_1, rfl, rfl, HA, HK1, ⟨m1, rfl⟩⟩ := hrel
  cases gk with
  | zero => exact absurd HA.out (by simp [rki.l0])
  | succ k1 =>
   have H := HA.out; clear HA; simp only [rki.l0] at H
   by_cases c4 : x7_1 < (t153.size : Int)
   ·rw [if_pos c4] at H; have c4b0 : decide (x7_1 < (t153.size : Int)) = true := decide_eq_true c4; clear c4
    by_cases c5 : 0 ≤ x7_1
    ·rw [if_pos c5] at H; have c5b0 : decide (0 ≤ x7_1) = true := decide_eq_true c5; clear c5
     by_cases c7 : (bt t153 x7_1) = 42
     ·rw [if_pos c7] at H; have c7b0 : ((bt t153 x7_1) == 42) = true := beq_iff_eq.mpr c7; have c7b1 : ((bt t153 x7_1) != 42) = false := bne_eq_false_iff_eq.mpr c7; clear c7; have H' := As.mk H; clear H; have p6 : 0 ≤ (x7_1 : Int) := of_decide_eq_true (by first | (with_reducible assumption) | assumption); have q6 : x7_1 < (t153.size : Int) := of_decide_eq_true (by first | (with_reducible assumption) | assumption); have hx6 := bt_at t153 x7_1; replace p6 := eq_true p6; replace q6 := eq_true q6; go_wp2
      repeat (go_quiet (fail); try go_wp2)
      go_loopg [6] k1 (fun kq v6 w' => ∃ (x6_2 : Int), v6 = .int .i64 x6_2 ∧ As (rki.l1 kq l1 t153 x6_2 (wrap64 (x7_1 + 1)) = some r) ∧ As (kq ≤ k1) ∧ D0w w w')
      case atStart => exact ⟨(x6_1), (by first | rfl | (simp; done) | (simp [*]; done)), H', ⟨Nat.le_refl _⟩, by repeat (first | exact D0w.refl _ | apply D0w.step)⟩
      case round =>
       clear H'; (try clear c1); (try clear p2); (try clear c4); (try clear c4b0); (try clear c5); (try clear c5b0); (try clear p6); (try clear q6); (try clear hx6); (try clear c7); (try clear c7b0); (try clear c7b1); (try clear p2); (try clear p6); (try clear q6); obtain ⟨x6_2, rfl, HA, HK2, ⟨m2, rfl⟩⟩ := hrel
       cases gk with
       | zero => exact absurd HA.out (by simp [rki.l1])
       | succ k2 =>
        have H := HA.out; clear HA; simp only [rki.l1] at H
        by_cases c8 : x6_2 < (l1.length : Int)
        ·rw [if_pos c8] at H; have c8b0 : decide (x6_2 < (l1.length : Int)) = true := decide_eq_true c8; clear c8
         by_cases c9 : 0 ≤ x6_2
         ·rw [if_pos c9] at H; have c9b0 : decide (0 ≤ x6_2) = true := decide_eq_true c9; clear c9; obtain ⟨ji10, hji10⟩ : ∃ j_ : Int, (wrap64 (x7_1 + 1)) = j_ := ⟨_, rfl⟩
          replace H : (if 0 ≤ (ji10) then (if (ji10) < (t153.size : Int) then ((detentref02_is.f (rd l1 x6_2) (bt t153 (ji10))).bind fun t155 => (if t155 = true then (rki.l1 k2 l1 t153 (wrap64 (x6_2 + 1)) (ji10)) else (rki.l0 k2 l1 t153 x6_2 (wrap64 ((ji10) + 1))))) else (none)) else (none)) = some r := by first | (rw [hji10] at H; exact H) | (simp only [hji10] at H ⊢; exact H)
          have hji10w : (IntKind.i64.wrap (x7_1 + 1)) = ji10 := (i64_w _).trans hji10
          by_cases c11 : 0 ≤ (ji10)
          ·rw [if_pos c11] at H; have c11b0 : decide (0 ≤ (ji10)) = true := decide_eq_true c11; clear c11
           by_cases c12 : (ji10) < (t153.size : Int)
           ·rw [if_pos c12] at H; have c12b0 : decide ((ji10) < (t153.size : Int)) = true := decide_eq_true c12; clear c12; replace H := Option.bind_eq_some_iff.mp H; obtain ⟨t155, A140, H⟩ := H; replace H : (if t155 = true then (rki.l1 k2 l1 t153 (wrap64 (x6_2 + 1)) (ji10)) else (rki.l0 k2 l1 t153 x6_2 (wrap64 ((ji10) + 1)))) = some r := H; have A14 := As.mk A140; clear A140
            by_cases c15 : t155 = true
            ·subst c15
             have H1 : (rki.l1 k2 l1 t153 (wrap64 (x6_2 + 1)) (ji10)) = some r := by rw [if_pos rfl] at H; exact H
             clear H; have H := H1; clear H1; have H' := As.mk H; clear H; have p154 : 0 ≤ (x6_2 : Int) := of_decide_eq_true (by first | (with_reducible assumption) | assumption); have q154 : x6_2 < (l1.length : Int) := of_decide_eq_true (by first | (with_reducible assumption) | assumption); obtain ⟨ad154, e154, hx154_0⟩ := Kd.at_int HR1.out x6_2 p154 q154
             cases e154
             replace p154 := eq_true p154; replace q154 := eq_true q154; have p13 : 0 ≤ ((ji10) : Int) := of_decide_eq_true (by first | (with_reducible assumption) | assumption); have q13 : (ji10) < (t153.size : Int) := of_decide_eq_true (by first | (with_reducible assumption) | assumption); have hx13 := bt_at t153 (ji10); replace p13 := eq_true p13; replace q13 := eq_true q13; go_wp2_with (first | (go_at_call 32; (with_reducible refine (detentref02_is.calls (rd l1 x6_2) (bt t153 (ji10)) true _ A14.out).mono ?_); rintro e w' ⟨rfl, ⟨nd, rfl⟩⟩; (try first | exact ⟨rfl, _, World.drewN_drewN _ _ _⟩ | exact ⟨rfl, _, Eq.trans (World.drewN_drewN _ _ _) (congrArg (World.drewN _) (Nat.add_assoc _ _ _))⟩)))
             repeat (go_quiet (first | (go_at_call 32; (with_reducible refine (detentref02_is.calls (rd l1 x6_2) (bt t153 (ji10)) true _ A14.out).mono ?_); rintro e w' ⟨rfl, ⟨nd, rfl⟩⟩; (try first | exact ⟨rfl, _, World.drewN_drewN _ _ _⟩ | exact ⟨rfl, _, Eq.trans (World.drewN_drewN _ _ _) (congrArg (World.drewN _) (Nat.add_assoc _ _ _))⟩))); try go_wp2_with (first | (go_at_call 32; (with_reducible refine (detentref02_is.calls (rd l1 x6_2) (bt t153 (ji10)) true _ A14.out).mono ?_); rintro e w' ⟨rfl, ⟨nd, rfl⟩⟩; (try first | exact ⟨rfl, _, World.drewN_drewN _ _ _⟩ | exact ⟨rfl, _, Eq.trans (World.drewN_drewN _ _ _) (congrArg (World.drewN _) (Nat.add_assoc _ _ _))⟩))))
             go_roundg k2
             case measure => have := HK1.out; have := HK2.out; omega
             case rel => exact ⟨(wrap64 (x6_2 + 1)), (by first | rfl | (simp; done) | (simp [*]; done)), (by first | exact H' | exact hji10 ▸ H' | (rw [hji10]; exact H') | (subst hji10; exact H')), ⟨by have := HK1.out; have := HK2.out; omega⟩, by repeat (first | exact D0w.refl _ | apply D0w.step)⟩
            ·replace c15 := Bool.eq_false_iff.mpr c15; subst c15
             have H1 : (rki.l0 k2 l1 t153 x6_2 (wrap64 ((ji10) + 1))) = some r := by rw [if_neg (show ¬ (false = true) by decide)] at H; exact H
             clear H; have H := H1; clear H1; have H' := As.mk H; clear H; have p154 : 0 ≤ (x6_2 : Int) := of_decide_eq_true (by first | (with_reducible assumption) | assumption); have q154 : x6_2 < (l1.length : Int) := of_decide_eq_true (by first | (with_reducible assumption) | assumption); obtain ⟨ad154, e154, hx154_0⟩ := Kd.at_int HR1.out x6_2 p154 q154
             cases e154
             replace p154 := eq_true p154; replace q154 := eq_true q154; have p13 : 0 ≤ ((ji10) : Int) := of_decide_eq_true (by first | (with_reducible assumption) | assumption); have q13 : (ji10) < (t153.size : Int) := of_decide_eq_true (by first | (with_reducible assumption) | assumption); have hx13 := bt_at t153 (ji10); replace p13 := eq_true p13; replace q13 := eq_true q13; go_wp2_with (first | (go_at_call 32; (with_reducible refine (detentref02_is.calls (rd l1 x6_2) (bt t153 (ji10)) false _ A14.out).mono ?_); rintro e w' ⟨rfl, ⟨nd, rfl⟩⟩; (try first | exact ⟨rfl, _, World.drewN_drewN _ _ _⟩ | exact ⟨rfl, _, Eq.trans (World.drewN_drewN _ _ _) (congrArg (World.drewN _) (Nat.add_assoc _ _ _))⟩)))
             repeat (go_quiet (first | (go_at_call 32; (with_reducible refine (detentref02_is.calls (rd l1 x6_2) (bt t153 (ji10)) false _ A14.out).mono ?_); rintro e w' ⟨rfl, ⟨nd, rfl⟩⟩; (try first | exact ⟨rfl, _, World.drewN_drewN _ _ _⟩ | exact ⟨rfl, _, Eq.trans (World.drewN_drewN _ _ _) (congrArg (World.drewN _) (Nat.add_assoc _ _ _))⟩))); try go_wp2_with (first | (go_at_call 32; (with_reducible refine (detentref02_is.calls (rd l1 x6_2) (bt t153 (ji10)) false _ A14.out).mono ?_); rintro e w' ⟨rfl, ⟨nd, rfl⟩⟩; (try first | exact ⟨rfl, _, World.drewN_drewN _ _ _⟩ | exact ⟨rfl, _, Eq.trans (World.drewN_drewN _ _ _) (congrArg (World.drewN _) (Nat.add_assoc _ _ _))⟩))))
             go_roundg k2
             case measure => have := HK1.out; have := HK2.out; omega
             case rel => exact ⟨(x6_2), (wrap64 ((ji10) + 1)), (by first | rfl | (simp; done) | (simp [*]; done)), (by first | rfl | (simp; done) | (simp only [← hji10] <;> (first | rfl | simp)) | (simp [*]; done)), H', ⟨by have := HK1.out; have := HK2.out; omega⟩, by repeat (first | exact D0w.refl _ | apply D0w.step)⟩
           ·rw [if_neg c12] at H
            exact absurd H (by simp)
          ·rw [if_neg c11] at H
           exact absurd H (by simp)
         ·rw [if_neg c9] at H
          exact absurd H (by simp)
        ·rw [if_neg c8] at H; have c8b0 : decide (x6_2 < (l1.length : Int)) = false := decide_eq_false c8; clear c8; have H' := As.mk H; clear H; go_wp2
         repeat (go_quiet (fail); try go_wp2)
         go_roundg k2
         case measure => have := HK1.out; have := HK2.out; omega
         case rel => exact ⟨(x6_2), (wrap64 ((wrap64 (x7_1 + 1)) + 1)), (by first | rfl | (simp; done) | (simp [*]; done)), (by first | rfl | (simp; done) | (simp [*]; done)), (by first | exact H' | exact hji10 ▸ H' | (rw [hji10]; exact H') | (subst hji10; exact H')), ⟨by have := HK1.out; have := HK2.out; omega⟩, by repeat (first | exact D0w.refl _ | apply D0w.step)⟩
     ·rw [if_neg c7] at H; have c7b0 : ((bt t153 x7_1) == 42) = false := beq_eq_false_iff_ne.mpr c7; have c7b1 : ((bt t153 x7_1) != 42) = true := bne_iff_ne.mpr c7
      by_cases c16 : (bt t153 x7_1) = 63
      ·rw [if_pos c16] at H; have c16b0 : ((bt t153 x7_1) == 63) = true := beq_iff_eq.mpr c16; have c16b1 : ((bt t153 x7_1) != 63) = false := bne_eq_false_iff_eq.mpr c16; clear c16
       by_cases c17 : x6_1 < (l1.length : Int)
       ·rw [if_pos c17] at H; have c17b0 : decide (x6_1 < (l1.length : Int)) = true := decide_eq_true c17; clear c17
        by_cases c18 : 0 ≤ x6_1
        ·rw [if_pos c18] at H; have c18b0 : decide (0 ≤ x6_1) = true := decide_eq_true c18; clear c18; obtain ⟨ji19, hji19⟩ : ∃ j_ : Int, (wrap64 (x7_1 + 1)) = j_ := ⟨_, rfl⟩
         replace H : (if 0 ≤ (ji19) then (if (ji19) < (t153.size : Int) then ((detentref02_is.f (rd l1 x6_1) (bt t153 (ji19))).bind fun t157 => (if t157 = true then (rki.l0 k1 l1 t153 (wrap64 (x6_1 + 1)) (wrap64 ((ji19) + 1))) else (rki.l0 k1 l1 t153 x6_1 (wrap64 ((ji19) + 1))))) else (none)) else (none)) = some r := by first | (rw [hji19] at H; exact H) | (simp only [hji19] at H ⊢; exact H)
         have hji19w : (IntKind.i64.wrap (x7_1 + 1)) = ji19 := (i64_w _).trans hji19
         by_cases c20 : 0 ≤ (ji19)
         ·rw [if_pos c20] at H; have c20b0 : decide (0 ≤ (ji19)) = true := decide_eq_true c20; clear c20
          by_cases c21 : (ji19) < (t153.size : Int)
          ·rw [if_pos c21] at H; have c21b0 : decide ((ji19) < (t153.size : Int)) = true := decide_eq_true c21; clear c21; replace H := Option.bind_eq_some_iff.mp H; obtain ⟨t157, A230, H⟩ := H; replace H : (if t157 = true then (rki.l0 k1 l1 t153 (wrap64 (x6_1 + 1)) (wrap64 ((ji19) + 1))) else (rki.l0 k1 l1 t153 x6_1 (wrap64 ((ji19) + 1)))) = some r := H; have A23 := As.mk A230; clear A230
           by_cases c24 : t157 = true
           ·subst c24
            have H1 : (rki.l0 k1 l1 t153 (wrap64 (x6_1 + 1)) (wrap64 ((ji19) + 1))) = some r := by rw [if_pos rfl] at H; exact H
            clear H; have H := H1; clear H1; have H' := As.mk H; clear H; have p6 : 0 ≤ (x7_1 : Int) := of_decide_eq_true (by first | (with_reducible assumption) | assumption); have q6 : x7_1 < (t153.size : Int) := of_decide_eq_true (by first | (with_reducible assumption) | assumption); have hx6 := bt_at t153 x7_1; replace p6 := eq_true p6; replace q6 := eq_true q6; have p156 : 0 ≤ (x6_1 : Int) := of_decide_eq_true (by first | (with_reducible assumption) | assumption); have q156 : x6_1 < (l1.length : Int) := of_decide_eq_true (by first | (with_reducible assumption) | assumption); obtain ⟨ad156, e156, hx156_0⟩ := Kd.at_int HR1.out x6_1 p156 q156
            cases e156
            replace p156 := eq_true p156; replace q156 := eq_true q156; have p22 : 0 ≤ ((ji19) : Int) := of_decide_eq_true (by first | (with_reducible assumption) | assumption); have q22 : (ji19) < (t153.size : Int) := of_decide_eq_true (by first | (with_reducible assumption) | assumption); have hx22 := bt_at t153 (ji19); replace p22 := eq_true p22; replace q22 := eq_true q22; go_wp2_with (first | (go_at_call 32; (with_reducible refine (detentref02_is.calls (rd l1 x6_1) (bt t153 (ji19)) true _ A23.out).mono ?_); rintro e w' ⟨rfl, ⟨nd, rfl⟩⟩; (try first | exact ⟨rfl, _, World.drewN_drewN _ _ _⟩ | exact ⟨rfl, _, Eq.trans (World.drewN_drewN _ _ _) (congrArg (World.drewN _) (Nat.add_assoc _ _ _))⟩)))
            repeat (go_quiet (first | (go_at_call 32; (with_reducible refine (detentref02_is.calls (rd l1 x6_1) (bt t153 (ji19)) true _ A23.out).mono ?_); rintro e w' ⟨rfl, ⟨nd, rfl⟩⟩; (try first | exact ⟨rfl, _, World.drewN_drewN _ _ _⟩ | exact ⟨rfl, _, Eq.trans (World.drewN_drewN _ _ _) (congrArg (World.drewN _) (Nat.add_assoc _ _ _))⟩))); try go_wp2_with (first | (go_at_call 32; (with_reducible refine (detentref02_is.calls (rd l1 x6_1) (bt t153 (ji19)) true _ A23.out).mono ?_); rintro e w' ⟨rfl, ⟨nd, rfl⟩⟩; (try first | exact ⟨rfl, _, World.drewN_drewN _ _ _⟩ | exact ⟨rfl, _, Eq.trans (World.drewN_drewN _ _ _) (congrArg (World.drewN _) (Nat.add_assoc _ _ _))⟩))))
            go_roundg k1
            case measure => have := HK1.out; omega
            case rel => exact ⟨(wrap64 (x6_1 + 1)), (wrap64 ((ji19) + 1)), (by first | rfl | (simp; done) | (simp [*]; done)), (by first | rfl | (simp; done) | (simp only [← hji19] <;> (first | rfl | simp)) | (simp [*]; done)), H', ⟨by have := HK1.out; omega⟩, by repeat (first | exact D0w.refl _ | apply D0w.step)⟩
           ·replace c24 := Bool.eq_false_iff.mpr c24; subst c24
            have H1 : (rki.l0 k1 l1 t153 x6_1 (wrap64 ((ji19) + 1))) = some r := by rw [if_neg (show ¬ (false = true) by decide)] at H; exact H
            clear H; have H := H1; clear H1; have H' := As.mk H; clear H; have p6 : 0 ≤ (x7_1 : Int) := of_decide_eq_true (by first | (with_reducible assumption) | assumption); have q6 : x7_1 < (t153.size : Int) := of_decide_eq_true (by first | (with_reducible assumption) | assumption); have hx6 := bt_at t153 x7_1; replace p6 := eq_true p6; replace q6 := eq_true q6; have p156 : 0 ≤ (x6_1 : Int) := of_decide_eq_true (by first | (with_reducible assumption) | assumption); have q156 : x6_1 < (l1.length : Int) := of_decide_eq_true (by first | (with_reducible assumption) | assumption); obtain ⟨ad156, e156, hx156_0⟩ := Kd.at_int HR1.out x6_1 p156 q156
            cases e156
            replace p156 := eq_true p156; replace q156 := eq_true q156; have p22 : 0 ≤ ((ji19) : Int) := of_decide_eq_true (by first | (with_reducible assumption) | assumption); have q22 : (ji19) < (t153.size : Int) := of_decide_eq_true (by first | (with_reducible assumption) | assumption); have hx22 := bt_at t153 (ji19); replace p22 := eq_true p22; replace q22 := eq_true q22; go_wp2_with (first | (go_at_call 32; (with_reducible refine (detentref02_is.calls (rd l1 x6_1) (bt t153 (ji19)) false _ A23.out).mono ?_); rintro e w' ⟨rfl, ⟨nd, rfl⟩⟩; (try first | exact ⟨rfl, _, World.drewN_drewN _ _ _⟩ | exact ⟨rfl, _, Eq.trans (World.drewN_drewN _ _ _) (congrArg (World.drewN _) (Nat.add_assoc _ _ _))⟩)))
            repeat (go_quiet (first | (go_at_call 32; (with_reducible refine (detentref02_is.calls (rd l1 x6_1) (bt t153 (ji19)) false _ A23.out).mono ?_); rintro e w' ⟨rfl, ⟨nd, rfl⟩⟩; (try first | exact ⟨rfl, _, World.drewN_drewN _ _ _⟩ | exact ⟨rfl, _, Eq.trans (World.drewN_drewN _ _ _) (congrArg (World.drewN _) (Nat.add_assoc _ _ _))⟩))); try go_wp2_with (first | (go_at_call 32; (with_reducible refine (detentref02_is.calls (rd l1 x6_1) (bt t153 (ji19)) false _ A23.out).mono ?_); rintro e w' ⟨rfl, ⟨nd, rfl⟩⟩; (try first | exact ⟨rfl, _, World.drewN_drewN _ _ _⟩ | exact ⟨rfl, _, Eq.trans (World.drewN_drewN _ _ _) (congrArg (World.drewN _) (Nat.add_assoc _ _ _))⟩))))
            go_roundg k1
            case measure => have := HK1.out; omega
            case rel => exact ⟨(x6_1), (wrap64 ((ji19) + 1)), (by first | rfl | (simp; done) | (simp [*]; done)), (by first | rfl | (simp; done) | (simp only [← hji19] <;> (first | rfl | simp)) | (simp [*]; done)), H', ⟨by have := HK1.out; omega⟩, by repeat (first | exact D0w.refl _ | apply D0w.step)⟩
          ·rw [if_neg c21] at H
           exact absurd H (by simp)
         ·rw [if_neg c20] at H
          exact absurd H (by simp)
        ·rw [if_neg c18] at H
         exact absurd H (by simp)
       ·rw [if_neg c17] at H; have c17b0 : decide (x6_1 < (l1.length : Int)) = false := decide_eq_false c17; clear c17; have H' := As.mk H; clear H; have p6 : 0 ≤ (x7_1 : Int) := of_decide_eq_true (by first | (with_reducible assumption) | assumption); have q6 : x7_1 < (t153.size : Int) := of_decide_eq_true (by first | (with_reducible assumption) | assumption); have hx6 := bt_at t153 x7_1; replace p6 := eq_true p6; replace q6 := eq_true q6; go_wp2
        repeat (go_quiet (fail); try go_wp2)
        go_roundg k1
        case measure => have := HK1.out; omega
        case rel => exact ⟨(x6_1), (wrap64 ((wrap64 (x7_1 + 1)) + 1)), (by first | rfl | (simp; done) | (simp [*]; done)), (by first | rfl | (simp; done) | (simp [*]; done)), (by first | exact H' | exact hji10 ▸ H' | (rw [hji10]; exact H') | (subst hji10; exact H')), ⟨by have := HK1.out; omega⟩, by repeat (first | exact D0w.refl _ | apply D0w.step)⟩
      ·rw [if_neg c16] at H; have c16b0 : ((bt t153 x7_1) == 63) = false := beq_eq_false_iff_ne.mpr c16; have c16b1 : ((bt t153 x7_1) != 63) = true := bne_iff_ne.mpr c16
       by_cases c25 : x6_1 = (l1.length : Int)
       ·rw [if_pos c25] at H; have c25b0 : (x6_1 == (l1.length : Int)) = true := beq_iff_eq.mpr c25; have c25b1 : (x6_1 != (l1.length : Int)) = false := bne_eq_false_iff_eq.mpr c25; clear c25; obtain rfl := Option.some.inj H; have p6 : 0 ≤ (x7_1 : Int) := of_decide_eq_true (by first | (with_reducible assumption) | assumption); have q6 : x7_1 < (t153.size : Int) := of_decide_eq_true (by first | (with_reducible assumption) | assumption); have hx6 := bt_at t153 x7_1; replace p6 := eq_true p6; replace q6 := eq_true q6; go_wp2
        repeat (go_quiet (fail); try go_wp2)
        go_ret
        exact ⟨by first | rfl | (simp; done) | (simp [*]; done), by repeat (first | exact D0w.refl _ | apply D0w.step)⟩
       ·rw [if_neg c25] at H; have c25b0 : (x6_1 == (l1.length : Int)) = false := beq_eq_false_iff_ne.mpr c25; have c25b1 : (x6_1 != (l1.length : Int)) = true := bne_iff_ne.mpr c25
        by_cases c26 : 0 ≤ x6_1
        ·rw [if_pos c26] at H; have c26b0 : decide (0 ≤ x6_1) = true := decide_eq_true c26; clear c26
         by_cases c27 : x6_1 < (l1.length : Int)
         ·rw [if_pos c27] at H; have c27b0 : decide (x6_1 < (l1.length : Int)) = true := decide_eq_true c27; clear c27; replace H := Option.bind_eq_some_iff.mp H; obtain ⟨t159, A290, H⟩ := H; replace H : (if t159 = true then (rki.l0 k1 l1 t153 (wrap64 (x6_1 + 1)) (wrap64 (x7_1 + 1))) else (some false)) = some r := H; have A29 := As.mk A290; clear A290
          by_cases c30 : t159 = true
          ·subst c30
           have H1 : (rki.l0 k1 l1 t153 (wrap64 (x6_1 + 1)) (wrap64 (x7_1 + 1))) = some r := by rw [if_pos rfl] at H; exact H
           clear H; have H := H1; clear H1; have H' := As.mk H; clear H; have p6 : 0 ≤ (x7_1 : Int) := of_decide_eq_true (by first | (with_reducible assumption) | assumption); have q6 : x7_1 < (t153.size : Int) := of_decide_eq_true (by first | (with_reducible assumption) | assumption); have hx6 := bt_at t153 x7_1; replace p6 := eq_true p6; replace q6 := eq_true q6; have p158 : 0 ≤ (x6_1 : Int) := of_decide_eq_true (by first | (with_reducible assumption) | assumption); have q158 : x6_1 < (l1.length : Int) := of_decide_eq_true (by first | (with_reducible assumption) | assumption); obtain ⟨ad158, e158, hx158_0⟩ := Kd.at_int HR1.out x6_1 p158 q158
           cases e158
           replace p158 := eq_true p158; replace q158 := eq_true q158; have p28 : 0 ≤ (x7_1 : Int) := of_decide_eq_true (by first | (with_reducible assumption) | assumption); have q28 : x7_1 < (t153.size : Int) := of_decide_eq_true (by first | (with_reducible assumption) | assumption); have hx28 := bt_at t153 x7_1; replace p28 := eq_true p28; replace q28 := eq_true q28; go_wp2_with (first | (go_at_call 32; (with_reducible refine (detentref02_is.calls (rd l1 x6_1) (bt t153 x7_1) true _ A29.out).mono ?_); rintro e w' ⟨rfl, ⟨nd, rfl⟩⟩; (try first | exact ⟨rfl, _, World.drewN_drewN _ _ _⟩ | exact ⟨rfl, _, Eq.trans (World.drewN_drewN _ _ _) (congrArg (World.drewN _) (Nat.add_assoc _ _ _))⟩)))
           repeat (go_quiet (first | (go_at_call 32; (with_reducible refine (detentref02_is.calls (rd l1 x6_1) (bt t153 x7_1) true _ A29.out).mono ?_); rintro e w' ⟨rfl, ⟨nd, rfl⟩⟩; (try first | exact ⟨rfl, _, World.drewN_drewN _ _ _⟩ | exact ⟨rfl, _, Eq.trans (World.drewN_drewN _ _ _) (congrArg (World.drewN _) (Nat.add_assoc _ _ _))⟩))); try go_wp2_with (first | (go_at_call 32; (with_reducible refine (detentref02_is.calls (rd l1 x6_1) (bt t153 x7_1) true _ A29.out).mono ?_); rintro e w' ⟨rfl, ⟨nd, rfl⟩⟩; (try first | exact ⟨rfl, _, World.drewN_drewN _ _ _⟩ | exact ⟨rfl, _, Eq.trans (World.drewN_drewN _ _ _) (congrArg (World.drewN _) (Nat.add_assoc _ _ _))⟩))))
           go_roundg k1
           case measure => have := HK1.out; omega
           case rel => exact ⟨(wrap64 (x6_1 + 1)), (wrap64 (x7_1 + 1)), (by first | rfl | (simp; done) | (simp [*]; done)), (by first | rfl | (simp; done) | (simp [*]; done)), (by first | exact H' | exact hji10 ▸ H' | (rw [hji10]; exact H') | (subst hji10; exact H')), ⟨by have := HK1.out; omega⟩, by repeat (first | exact D0w.refl _ | apply D0w.step)⟩
          ·replace c30 := Bool.eq_false_iff.mpr c30; subst c30
           have H1 : (some false) = some r := by rw [if_neg (show ¬ (false = true) by decide)] at H; exact H
           clear H; have H := H1; clear H1; obtain rfl := Option.some.inj H; have p6 : 0 ≤ (x7_1 : Int) := of_decide_eq_true (by first | (with_reducible assumption) | assumption); have q6 : x7_1 < (t153.size : Int) := of_decide_eq_true (by first | (with_reducible assumption) | assumption); have hx6 := bt_at t153 x7_1; replace p6 := eq_true p6; replace q6 := eq_true q6; have p158 : 0 ≤ (x6_1 : Int) := of_decide_eq_true (by first | (with_reducible assumption) | assumption); have q158 : x6_1 < (l1.length : Int) := of_decide_eq_true (by first | (with_reducible assumption) | assumption); obtain ⟨ad158, e158, hx158_0⟩ := Kd.at_int HR1.out x6_1 p158 q158
           cases e158
           replace p158 := eq_true p158; replace q158 := eq_true q158; have p28 : 0 ≤ (x7_1 : Int) := of_decide_eq_true (by first | (with_reducible assumption) | assumption); have q28 : x7_1 < (t153.size : Int) := of_decide_eq_true (by first | (with_reducible assumption) | assumption); have hx28 := bt_at t153 x7_1; replace p28 := eq_true p28; replace q28 := eq_true q28; go_wp2_with (first | (go_at_call 32; (with_reducible refine (detentref02_is.calls (rd l1 x6_1) (bt t153 x7_1) false _ A29.out).mono ?_); rintro e w' ⟨rfl, ⟨nd, rfl⟩⟩; (try first | exact ⟨rfl, _, World.drewN_drewN _ _ _⟩ | exact ⟨rfl, _, Eq.trans (World.drewN_drewN _ _ _) (congrArg (World.drewN _) (Nat.add_assoc _ _ _))⟩)))
           repeat (go_quiet (first | (go_at_call 32; (with_reducible refine (detentref02_is.calls (rd l1 x6_1) (bt t153 x7_1) false _ A29.out).mono ?_); rintro e w' ⟨rfl, ⟨nd, rfl⟩⟩; (try first | exact ⟨rfl, _, World.drewN_drewN _ _ _⟩ | exact ⟨rfl, _, Eq.trans (World.drewN_drewN _ _ _) (congrArg (World.drewN _) (Nat.add_assoc _ _ _))⟩))); try go_wp2_with (first | (go_at_call 32; (with_reducible refine (detentref02_is.calls (rd l1 x6_1) (bt t153 x7_1) false _ A29.out).mono ?_); rintro e w' ⟨rfl, ⟨nd, rfl⟩⟩; (try first | exact ⟨rfl, _, World.drewN_drewN _ _ _⟩ | exact ⟨rfl, _, Eq.trans (World.drewN_drewN _ _ _) (congrArg (World.drewN _) (Nat.add_assoc _ _ _))⟩))))
           go_ret
           exact ⟨by first | rfl | (simp; done) | (simp [*]; done), by repeat (first | exact D0w.refl _ | apply D0w.step)⟩
         ·rw [if_neg c27] at H
          exact absurd H (by simp)
        ·rw [if_neg c26] at H
         exact absurd H (by simp)
    ·rw [if_neg c5] at H
     exact absurd H (by simp)
   ·rw [if_neg c4] at H; have c4b0 : decide (x7_1 < (t153.size : Int)) = false := decide_eq_false c4; clear c4; obtain rfl := Option.some.inj H; go_wp2
    repeat (go_quiet (fail); try go_wp2)
    go_ret
    exact ⟨by first | rfl | (simp; done) | (simp [*]; done), by repeat (first | exact D0w.refl _ | apply D0w.step)⟩
end Go.Proofs.YtbpefmidgfmcaaaDoor.PTreeApart
end
