import Derived.Test.YtbpefmidgfmcaaaDoorProg
import Derived.Test.YtbpefmidgfmcaaaDoorV1
import Derived.Below
import Derived.Deep.Draws
import Derived.Deep.AppendLies
import Derived.Maps.AppendAt
import Derived.OwnWalk
import Derived.Laws.BytesArg
import Derived.Laws.MakeOwn
import Derived.Laws.OwnMore
import Derived.Deep.OwnRows
import Derived.Tactics
import Derived.Lib.ConvBytes
import Derived.Laws.Slices
import Derived.WalkKit
import Derived.KernelRfl
import Derived.RowKit3
import Derived.Deep.LoopGhost
import Derived.Deep.QuietTactic
import Derived.BigQuiet
import Derived.WideLaws
import Derived.Deep.DeepCutAuto
import Derived.Deep.CutBlock
import Derived.Deep.RegionHeld3
import Derived.Laws.Rows
import Derived.Lib.AppendStr
import Derived.ArgAppend
import Derived.Laws.IdiomCopy
import Derived.OrdersHeld
import Derived.Laws.BitsLemmas
import Derived.RowKit
section
namespace Go.Proofs.YtbpefmidgfmcaaaDoor.PTreeApart
open Go.RowKit Go.Proofs.YtbpefmidgfmcaaaDoorW.PrintWords Go.Proofs.YtbpefmidgfmcaaaDoorW.PrintLast Go.Proofs.YtbpefmidgfmcaaaDoorW.PrintMore
set_option linter.unusedVariables false
set_option linter.unusedSimpArgs false
theorem info30 : (Tryd.prog.info? 30).map (fun i => (i.zero, i.size, i.bytes)) = some (some (.int .i64 0), 1, 8) := by kernel_rfl
structure S33 where
 f0 : Int
 f1 : ByteArray
 f2 : Int
 f3 : Int
 f4 : Int
 f5 : (List Int)
def z33 : S33 := ⟨(0 : Int), (⟨#[]⟩ : ByteArray), (0 : Int), (0 : Int), (0 : Int), ([] : List Int)⟩
def k33 : Kd S33 := Kd.iso (Kd.pair (Kd.int .i64) (Kd.pair Kd.string (Kd.pair (Kd.int .i64) (Kd.pair (Kd.int .i64) (Kd.pair (Kd.int .i64) (Kd.slice 3 (Kd.int .i64))))))) (fun x : S33 => (x.f0, x.f1, x.f2, x.f3, x.f4, x.f5))
theorem k33_open {w : World} {x : S33} {cs : List Value} (h : k33.K w x cs) : ∃ A5 c5, cs = [.int .i64 x.f0, .string x.f1, .int .i64 x.f2, .int .i64 x.f3, .int .i64 x.f4, .slice A5 x.f5.length c5] ∧ x.f5.length ≤ c5 ∧ (Kd.int .i64).C w A5 x.f5.length x.f5 := by
 obtain ⟨_, _, rfl, rfl, ⟨_, _, rfl, rfl, ⟨_, _, rfl, rfl, ⟨_, _, rfl, rfl, ⟨_, _, rfl, rfl, ⟨A5, c5, rfl, l5, g5⟩⟩⟩⟩⟩⟩ := h
 exact ⟨A5, c5, rfl, l5, g5⟩
theorem k33_mk (w : World) (x : S33) {A5 : Option Addr} {c5 : Nat} (l5 : x.f5.length ≤ c5) (g5 : (Kd.int .i64).C w A5 x.f5.length x.f5) : k33.K w x [.int .i64 x.f0, .string x.f1, .int .i64 x.f2, .int .i64 x.f3, .int .i64 x.f4, .slice A5 x.f5.length c5] := ⟨[.int .i64 x.f0], [.string x.f1, .int .i64 x.f2, .int .i64 x.f3, .int .i64 x.f4, .slice A5 x.f5.length c5], rfl, rfl, ⟨[.string x.f1], [.int .i64 x.f2, .int .i64 x.f3, .int .i64 x.f4, .slice A5 x.f5.length c5], rfl, rfl, ⟨[.int .i64 x.f2], [.int .i64 x.f3, .int .i64 x.f4, .slice A5 x.f5.length c5], rfl, rfl, ⟨[.int .i64 x.f3], [.int .i64 x.f4, .slice A5 x.f5.length c5], rfl, rfl, ⟨[.int .i64 x.f4], [.slice A5 x.f5.length c5], rfl, rfl, ⟨A5, c5, rfl, l5, g5⟩⟩⟩⟩⟩⟩
def rT (xs : List S33) (i : Int) : S33 := xs.getD i.toNat z33
theorem at_T33 {w : World} {A : Option Addr} {n : Nat} {xs : List S33} (h : Kd.C k33 w A n xs) (i : Int) (h0 : 0 ≤ i) (h1 : i < n) : ∃ ad A5 c5, A = some ad ∧ w.cell? (ad.add (i.toNat * 6)) = some (.int .i64 (rT xs i).f0) ∧ w.cell? ⟨(ad.add (i.toNat * 6)).block, (ad.add (i.toNat * 6)).off + 1, none⟩ = some (.string (rT xs i).f1) ∧ w.cell? ⟨(ad.add (i.toNat * 6)).block, (ad.add (i.toNat * 6)).off + 2, none⟩ = some (.int .i64 (rT xs i).f2) ∧ w.cell? ⟨(ad.add (i.toNat * 6)).block, (ad.add (i.toNat * 6)).off + 3, none⟩ = some (.int .i64 (rT xs i).f3) ∧ w.cell? ⟨(ad.add (i.toNat * 6)).block, (ad.add (i.toNat * 6)).off + 4, none⟩ = some (.int .i64 (rT xs i).f4) ∧ w.cell? ⟨(ad.add (i.toNat * 6)).block, (ad.add (i.toNat * 6)).off + 5, none⟩ = some (.slice A5 (rT xs i).f5.length c5) ∧ (rT xs i).f5.length ≤ c5 ∧ (Kd.int .i64).C w A5 (rT xs i).f5.length (rT xs i).f5 := by
 obtain ⟨ad, c, e, _, hK, hc0⟩ := Kd.C_get h z33 i h0 h1; have hc : ∀ j u, c[j]? = some u → w.cell? (ad.add (i.toNat * 6 + j)) = some u := hc0; obtain ⟨A5, c5, rfl, l5, g5⟩ := k33_open hK
 exact ⟨ad, A5, c5, e, hc 0 _ rfl, by rw [← add_field _ _ 1 (by omega)]; exact hc 1 _ rfl, by rw [← add_field _ _ 2 (by omega)]; exact hc 2 _ rfl, by rw [← add_field _ _ 3 (by omega)]; exact hc 3 _ rfl, by rw [← add_field _ _ 4 (by omega)]; exact hc 4 _ rfl, by rw [← add_field _ _ 5 (by omega)]; exact hc 5 _ rfl, l5, g5⟩
end Go.Proofs.YtbpefmidgfmcaaaDoor.PTreeApart
end
section
namespace Go.Proofs.YtbpefmidgfmcaaaDoor.PTreeApart
open Go.RowKit Go.Proofs.YtbpefmidgfmcaaaDoorW.PrintWords Go.Proofs.YtbpefmidgfmcaaaDoorW.PrintLast Go.Proofs.YtbpefmidgfmcaaaDoorW.PrintMore
set_option linter.unusedVariables false
set_option linter.unusedSimpArgs false
mutual
def rmh.l0 : Nat → Int → Int → List (S33) → Option (Bool)
 | 0, _, _, _ => none
 | k + 1, x1, x5, x102000 => if x5 < (x102000.length : Int) then (rmh.j1 k x1 x5 (decide (x5 < x1)) x102000) else (rmh.j1 k x1 x5 false x102000)
def rmh.j1 : Nat → Int → Int → Bool → List (S33) → Option (Bool)
 | 0, _, _, _, _ => none
 | k + 1, x1, x5, x15, x102000 => if x15 = true then (if 0 ≤ x5 then (if x5 < (x102000.length : Int) then (if (((rT x102000 x5).f1).size : Int) > 100 then (some true) else (rmh.l0 k x1 (wrap64 (x5 + 1)) x102000)) else (none)) else (none)) else (some (decide ((x102000.length : Int) > x1)))
end
def rmh.f (k : Nat) (l0_0 : List (S33)) (a1 : Int) : Option (Bool) := rmh.l0 k a1 0 l0_0
set_option maxHeartbeats 8000000 in
set_option maxRecDepth 100000 in
theorem rmh.calls (k : Nat) (A0_0 : Option Addr) (c0_0 : Nat) (l0_0 : List (S33)) (a1 : Int) (r : Bool) (w : World) (hr0_0 : Kd.C k33 w A0_0 l0_0.length l0_0) (hc0_0 : l0_0.length ≤ c0_0) (h : rmh.f k l0_0 a1 = some r) :
  Calls Tryd.prog 4 #[.agg #[.slice A0_0 l0_0.length c0_0], .int .i64 a1] w fun e w' => e = .returned (.bool r) ∧ Below w.heap.size w w' := by
 have hu24 := Tryd.underlying24; have HR0_0 := As.mk hr0_0; have HC0_0 := As.mk hc0_0; clear hr0_0 hc0_0; have HB := As.mk (Below.refl w.heap.size w); have H : (rmh.l0 k a1 0 l0_0) = some r := h; clear h; have H' := As.mk H; clear H
 go_enter Tryd.func4, Tryd.ntmps4
 go_wp2_with (first | ((with_reducible refine gate_dst (N := 2) rfl ?_); refine box_event ?hg (N := 2) ?hd (cs := #[.slice A0_0 l0_0.length c0_0]) (t := 24) ?hr ?_; (case hd => rfl); (case hg => rfl); (case hr => first | (go_simp; done) | (go_simp; rfl)); intro gb101 hg w3 hbox hb; have n0_ := As.mk (bwp (by repeat (first | (with_reducible first | exact HB.out | apply bwa | apply bwn | apply bw1) | exact HB.out)) hb); have n1_ := As.mk (hbox); have n2_ := As.mk ((by rw [hg]; exact (bwz (by repeat (first | (with_reducible first | exact HB.out | apply bwa | apply bwn | apply bw1) | exact HB.out))) : w.heap.size ≤ gb101)); have n3_ := As.mk ((by rw [hg]; exact (bwz (by repeat (first | (with_reducible first | exact HB.out | apply bwa | apply bwn | apply bw1) | exact HB.out))) : w.heap.size ≤ gb101)); clear HB; have HB := n0_; have BK101 := n1_; have GW101 := n2_; have GE101 := n3_; clear n0_ n1_ n2_ n3_; clear hb hbox hg))
 go_loopg [5] k (fun kq v5 w' => ∃ (x5_1 : Int), v5 = .int .i64 x5_1 ∧ As (rmh.l0 kq a1 x5_1 l0_0 = some r) ∧ As (kq ≤ k) ∧ As (w'.heap[gb101]? = some (.cells #[(.slice A0_0 l0_0.length c0_0)] 24 (0, 0))) ∧ As (Below w.heap.size w w'))
 case atStart => exact ⟨(0), (by first | rfl | (simp; done) | (simp [*]; done)), H', ⟨Nat.le_refl _⟩, ⟨by (with_reducible repeat (first | refine bkn ?_ _ | refine bkd ?_ | refine bka ?_ _)); exact BK101.out⟩, ⟨by repeat (first | (with_reducible first | exact HB.out | apply bwa | apply bwn | apply bw1 | refine bws ?_ GE101.out) | exact HB.out)⟩⟩
 case round =>
  clear H'; (try clear p2); obtain ⟨x5_1, rfl, HA, HK1, BK101, HB⟩ := hrel
  cases gk with
  | zero => exact absurd HA.out (by simp [rmh.l0])
  | succ k1 =>
   have H := HA.out; clear HA; simp only [rmh.l0] at H; have HC4 := As.mk H; clear H
   go_upto_region 2 with (fail)
   go_cut [15] (fun v15 wc => ∃ (kq : Nat) (x15_3 : Bool), v15 = .bool x15_3 ∧ As (rmh.j1 kq a1 x5_1 x15_3 l0_0 = some r) ∧ As (kq ≤ k1) ∧ As (wc.heap[gb101]? = some (.cells #[(.slice A0_0 l0_0.length c0_0)] 24 (0, 0))) ∧ As (Below w.heap.size w wc))
   case first =>
    have H := HC4.out; clear HC4
    by_cases c5 : x5_1 < (l0_0.length : Int)
    ·rw [if_pos c5] at H; have c5b0 : decide (x5_1 < (l0_0.length : Int)) = true := decide_eq_true c5; clear c5; (first | rw [c5b0] | (simp only [i64_w, i32_w]; rw [c5b0]) | skip); have H' := As.mk H; clear H; have hcz6_0 : wr.cell? ⟨gb101, 0, none⟩ = some (.slice A0_0 l0_0.length c0_0) := (bkc BK101.out 0).trans rfl; have hfz6_0 := bkf BK101.out 0; go_wp2
     go_meet
     case rel => exact ⟨_, (decide (x5_1 < a1)), (by first | rfl | (simp; done) | (simp [*]; done)), H', ⟨by have := HK1.out; first | omega | exact Nat.le_refl _⟩, ⟨by (with_reducible repeat (first | refine bkn ?_ _ | refine bkd ?_ | refine bka ?_ _)); exact BK101.out⟩, ⟨by repeat (first | (with_reducible first | exact HB.out | apply bwa | apply bwn | apply bw1 | refine bws ?_ GE101.out) | exact HB.out)⟩⟩
    ·rw [if_neg c5] at H; have c5b0 : decide (x5_1 < (l0_0.length : Int)) = false := decide_eq_false c5; clear c5; (first | rw [c5b0] | (simp only [i64_w, i32_w]; rw [c5b0]) | skip); have H' := As.mk H; clear H; have hcz7_0 : wr.cell? ⟨gb101, 0, none⟩ = some (.slice A0_0 l0_0.length c0_0) := (bkc BK101.out 0).trans rfl; have hfz7_0 := bkf BK101.out 0; go_wp2
     go_meet
     case rel => exact ⟨_, (false), (by first | rfl | (simp; done) | (simp [*]; done)), H', ⟨by have := HK1.out; first | omega | exact Nat.le_refl _⟩, ⟨by (with_reducible repeat (first | refine bkn ?_ _ | refine bkd ?_ | refine bka ?_ _)); exact BK101.out⟩, ⟨by repeat (first | (with_reducible first | exact HB.out | apply bwa | apply bwn | apply bw1 | refine bws ?_ GE101.out) | exact HB.out)⟩⟩
   case rest =>
    clear HC4; (try clear p2); (try clear c4); (try clear c5); (try clear c5b0); (try clear hcz6_0); (try clear hcz7_0); (try clear hfz6_0); (try clear hfz7_0); (try clear p2); obtain ⟨kq, x15_3, rfl, HA, HJ3, BK101, HB⟩ := hcut
    cases kq with
    | zero => exact absurd HA.out (by simp [rmh.j1])
    | succ kj3 =>
     have H := HA.out; clear HA; simp only [rmh.j1] at H
     by_cases c8 : x15_3 = true
     ·subst c8
      have H1 : (if 0 ≤ x5_1 then (if x5_1 < (l0_0.length : Int) then (if (((rT l0_0 x5_1).f1).size : Int) > 100 then (some true) else (rmh.l0 kj3 a1 (wrap64 (x5_1 + 1)) l0_0)) else (none)) else (none)) = some r := by rw [if_pos rfl] at H; exact H
      clear H; have H := H1; clear H1
      by_cases c9 : 0 ≤ x5_1
      ·rw [if_pos c9] at H; have c9b0 : decide (0 ≤ x5_1) = true := decide_eq_true c9; clear c9
       by_cases c10 : x5_1 < (l0_0.length : Int)
       ·rw [if_pos c10] at H; have c10b0 : decide (x5_1 < (l0_0.length : Int)) = true := decide_eq_true c10; clear c10
        by_cases c11 : (((rT l0_0 x5_1).f1).size : Int) > 100
        ·rw [if_pos c11] at H; have c11b0 : decide (100 < (((rT l0_0 x5_1).f1).size : Int)) = true := decide_eq_true c11; have c11b1 : decide (100 < ((rT l0_0 x5_1).f1).size) = true := decide_eq_true (by omega); clear c11; obtain rfl := Option.some.inj H; have hcz12_0 : wc.cell? ⟨gb101, 0, none⟩ = some (.slice A0_0 l0_0.length c0_0) := (bkc BK101.out 0).trans rfl; have hfz12_0 := bkf BK101.out 0; have p102 : 0 ≤ (x5_1 : Int) := of_decide_eq_true (by first | (with_reducible assumption) | assumption); have q102 : x5_1 < (l0_0.length : Int) := of_decide_eq_true (by first | (with_reducible assumption) | assumption); obtain ⟨ad102, A102_5, c102_5, e102, hx102_0, hx102_1, hx102_2, hx102_3, hx102_4, hx102_5, hl102_5, hi102_5⟩ := at_T33 HR0_0.out x5_1 p102 q102
         cases e102
         replace hx102_0 := (HB.out.cell (World.block_lt_of_cell? w _ hx102_0)).trans hx102_0; replace hx102_1 := (HB.out.cell (World.block_lt_of_cell? w _ hx102_1)).trans hx102_1; replace hx102_2 := (HB.out.cell (World.block_lt_of_cell? w _ hx102_2)).trans hx102_2; replace hx102_3 := (HB.out.cell (World.block_lt_of_cell? w _ hx102_3)).trans hx102_3; replace hx102_4 := (HB.out.cell (World.block_lt_of_cell? w _ hx102_4)).trans hx102_4; replace hx102_5 := (HB.out.cell (World.block_lt_of_cell? w _ hx102_5)).trans hx102_5; have HR102_5 := As.mk hi102_5; have HC102_5 := As.mk hl102_5; clear hi102_5 hl102_5; replace p102 := eq_true p102; replace q102 := eq_true q102; go_wp2
         go_ret
         exact ⟨by first | rfl | (simp [*] <;> rfl), by repeat (first | (with_reducible first | exact HB.out | apply bwa | apply bwn | apply bw1 | refine bws ?_ GE101.out) | exact HB.out)⟩
        ·rw [if_neg c11] at H; have c11b0 : decide (100 < (((rT l0_0 x5_1).f1).size : Int)) = false := decide_eq_false c11; have c11b1 : decide (100 < ((rT l0_0 x5_1).f1).size) = false := decide_eq_false (by omega); clear c11; have H' := As.mk H; clear H; have hcz13_0 : wc.cell? ⟨gb101, 0, none⟩ = some (.slice A0_0 l0_0.length c0_0) := (bkc BK101.out 0).trans rfl; have hfz13_0 := bkf BK101.out 0; have p102 : 0 ≤ (x5_1 : Int) := of_decide_eq_true (by first | (with_reducible assumption) | assumption); have q102 : x5_1 < (l0_0.length : Int) := of_decide_eq_true (by first | (with_reducible assumption) | assumption); obtain ⟨ad102, A102_5, c102_5, e102, hx102_0, hx102_1, hx102_2, hx102_3, hx102_4, hx102_5, hl102_5, hi102_5⟩ := at_T33 HR0_0.out x5_1 p102 q102
         cases e102
         replace hx102_0 := (HB.out.cell (World.block_lt_of_cell? w _ hx102_0)).trans hx102_0; replace hx102_1 := (HB.out.cell (World.block_lt_of_cell? w _ hx102_1)).trans hx102_1; replace hx102_2 := (HB.out.cell (World.block_lt_of_cell? w _ hx102_2)).trans hx102_2; replace hx102_3 := (HB.out.cell (World.block_lt_of_cell? w _ hx102_3)).trans hx102_3; replace hx102_4 := (HB.out.cell (World.block_lt_of_cell? w _ hx102_4)).trans hx102_4; replace hx102_5 := (HB.out.cell (World.block_lt_of_cell? w _ hx102_5)).trans hx102_5; have HR102_5 := As.mk hi102_5; have HC102_5 := As.mk hl102_5; clear hi102_5 hl102_5; replace p102 := eq_true p102; replace q102 := eq_true q102; go_wp2
         go_roundg kj3
         case measure => have := HK1.out; have := HJ3.out; omega
         case rel => exact ⟨(wrap64 (x5_1 + 1)), (by first | rfl | (simp; done) | (simp [*]; done)), H', ⟨by have := HK1.out; have := HJ3.out; omega⟩, ⟨by (with_reducible repeat (first | refine bkn ?_ _ | refine bkd ?_ | refine bka ?_ _)); exact BK101.out⟩, ⟨by repeat (first | (with_reducible first | exact HB.out | apply bwa | apply bwn | apply bw1 | refine bws ?_ GE101.out) | exact HB.out)⟩⟩
       ·rw [if_neg c10] at H
        exact absurd H (by simp)
      ·rw [if_neg c9] at H
       exact absurd H (by simp)
     ·replace c8 := Bool.eq_false_iff.mpr c8; subst c8
      have H1 : (some (decide ((l0_0.length : Int) > a1))) = some r := by rw [if_neg (show ¬ (false = true) by decide)] at H; exact H
      clear H; have H := H1; clear H1; obtain rfl := Option.some.inj H; have hcz14_0 : wc.cell? ⟨gb101, 0, none⟩ = some (.slice A0_0 l0_0.length c0_0) := (bkc BK101.out 0).trans rfl; have hfz14_0 := bkf BK101.out 0; go_wp2
      go_ret
      exact ⟨by first | rfl | (simp [*] <;> rfl), by repeat (first | (with_reducible first | exact HB.out | apply bwa | apply bwn | apply bw1 | refine bws ?_ GE101.out) | exact HB.out)⟩
def detentref01_Letter.f (a0 : Int) : Option (Bool) := if a0 ≥ 97 then (if a0 ≤ 122 then (some true) else (if a0 ≥ 65 then (if a0 ≤ 90 then (some true) else (some (a0 == 95))) else (some (a0 == 95)))) else (if a0 ≥ 65 then (if a0 ≤ 90 then (some true) else (some (a0 == 95))) else (some (a0 == 95)))
set_option maxHeartbeats 8000000 in
set_option maxRecDepth 100000 in
theorem detentref01_Letter.calls (a0 : Int) (r : Bool) (w : World) (h : detentref01_Letter.f a0 = some r) :
  Calls Tryd.prog 48 #[.int .u8 a0] w fun e w' => e = .returned (.bool r) ∧ D0w w w' := by
 have H : (if a0 ≥ 97 then (if a0 ≤ 122 then (some true) else (if a0 ≥ 65 then (if a0 ≤ 90 then (some true) else (some (a0 == 95))) else (some (a0 == 95)))) else (if a0 ≥ 65 then (if a0 ≤ 90 then (some true) else (some (a0 == 95))) else (some (a0 == 95)))) = some r := h; clear h
 by_cases c2 : a0 ≥ 97
 ·rw [if_pos c2] at H; have c2b0 : decide (97 ≤ a0) = true := decide_eq_true c2; clear c2
  by_cases c3 : a0 ≤ 122
  ·rw [if_pos c3] at H; have c3b0 : decide (a0 ≤ 122) = true := decide_eq_true c3; clear c3; obtain rfl := Option.some.inj H
   go_enter Tryd.func48, Tryd.ntmps48
   go_wp2
   go_ret
   exact ⟨by first | rfl | (simp; done) | (simp [*]; done), by repeat (first | exact D0w.refl _ | apply D0w.step)⟩
  ·rw [if_neg c3] at H; have c3b0 : decide (a0 ≤ 122) = false := decide_eq_false c3; clear c3
   by_cases c4 : a0 ≥ 65
   ·rw [if_pos c4] at H; have c4b0 : decide (65 ≤ a0) = true := decide_eq_true c4; clear c4
    by_cases c5 : a0 ≤ 90
    ·rw [if_pos c5] at H; have c5b0 : decide (a0 ≤ 90) = true := decide_eq_true c5; clear c5; obtain rfl := Option.some.inj H
     go_enter Tryd.func48, Tryd.ntmps48
     go_wp2
     go_ret
     exact ⟨by first | rfl | (simp; done) | (simp [*]; done), by repeat (first | exact D0w.refl _ | apply D0w.step)⟩
    ·rw [if_neg c5] at H; have c5b0 : decide (a0 ≤ 90) = false := decide_eq_false c5; clear c5; obtain rfl := Option.some.inj H
     go_enter Tryd.func48, Tryd.ntmps48
     go_wp2
     go_ret
     exact ⟨by first | rfl | (simp; done) | (simp [*]; done), by repeat (first | exact D0w.refl _ | apply D0w.step)⟩
   ·rw [if_neg c4] at H; have c4b0 : decide (65 ≤ a0) = false := decide_eq_false c4; clear c4; obtain rfl := Option.some.inj H
    go_enter Tryd.func48, Tryd.ntmps48
    go_wp2
    go_ret
    exact ⟨by first | rfl | (simp; done) | (simp [*]; done), by repeat (first | exact D0w.refl _ | apply D0w.step)⟩
 ·rw [if_neg c2] at H; have c2b0 : decide (97 ≤ a0) = false := decide_eq_false c2; clear c2
  by_cases c6 : a0 ≥ 65
  ·rw [if_pos c6] at H; have c6b0 : decide (65 ≤ a0) = true := decide_eq_true c6; clear c6
   by_cases c7 : a0 ≤ 90
   ·rw [if_pos c7] at H; have c7b0 : decide (a0 ≤ 90) = true := decide_eq_true c7; clear c7; obtain rfl := Option.some.inj H
    go_enter Tryd.func48, Tryd.ntmps48
    go_wp2
    go_ret
    exact ⟨by first | rfl | (simp; done) | (simp [*]; done), by repeat (first | exact D0w.refl _ | apply D0w.step)⟩
   ·rw [if_neg c7] at H; have c7b0 : decide (a0 ≤ 90) = false := decide_eq_false c7; clear c7; obtain rfl := Option.some.inj H
    go_enter Tryd.func48, Tryd.ntmps48
    go_wp2
    go_ret
    exact ⟨by first | rfl | (simp; done) | (simp [*]; done), by repeat (first | exact D0w.refl _ | apply D0w.step)⟩
  ·rw [if_neg c6] at H; have c6b0 : decide (65 ≤ a0) = false := decide_eq_false c6; clear c6; obtain rfl := Option.some.inj H
   go_enter Tryd.func48, Tryd.ntmps48
   go_wp2
   go_ret
   exact ⟨by first | rfl | (simp; done) | (simp [*]; done), by repeat (first | exact D0w.refl _ | apply D0w.step)⟩
def detentref01_Digit.f (a0 : Int) : Option (Bool) := if a0 ≥ 48 then (some (decide (a0 ≤ 57))) else (some false)
set_option maxHeartbeats 8000000 in
set_option maxRecDepth 100000 in
theorem detentref01_Digit.calls (a0 : Int) (r : Bool) (w : World) (h : detentref01_Digit.f a0 = some r) :
  Calls Tryd.prog 49 #[.int .u8 a0] w fun e w' => e = .returned (.bool r) ∧ D0w w w' := by
 have H : (if a0 ≥ 48 then (some (decide (a0 ≤ 57))) else (some false)) = some r := h; clear h
 by_cases c2 : a0 ≥ 48
 ·rw [if_pos c2] at H; have c2b0 : decide (48 ≤ a0) = true := decide_eq_true c2; clear c2; obtain rfl := Option.some.inj H
  go_enter Tryd.func49, Tryd.ntmps49
  go_wp2
  go_ret
  exact ⟨by first | rfl | (simp; done) | (simp [*]; done), by repeat (first | exact D0w.refl _ | apply D0w.step)⟩
 ·rw [if_neg c2] at H; have c2b0 : decide (48 ≤ a0) = false := decide_eq_false c2; clear c2; obtain rfl := Option.some.inj H
  go_enter Tryd.func49, Tryd.ntmps49
  go_wp2
  go_ret
  exact ⟨by first | rfl | (simp; done) | (simp [*]; done), by repeat (first | exact D0w.refl _ | apply D0w.step)⟩
def detentref01_Words.f  : Option (List ByteArray) := some (([(⟨#[97, 102, 116, 101, 114]⟩ : ByteArray), (⟨#[97, 114, 114]⟩ : ByteArray), (⟨#[99, 97, 108, 108]⟩ : ByteArray), (⟨#[99, 97, 110, 99, 101, 108]⟩ : ByteArray), (⟨#[99, 108, 97, 115, 115]⟩ : ByteArray), (⟨#[99, 111, 109, 112]⟩ : ByteArray), (⟨#[99, 114, 101, 97, 116, 101]⟩ : ByteArray), (⟨#[100, 101, 115, 116, 114, 111, 121]⟩ : ByteArray), (⟨#[100, 105, 115, 97, 98, 108, 101]⟩ : ByteArray), (⟨#[101, 108, 115, 101]⟩ : ByteArray), (⟨#[101, 110, 97, 98, 108, 101]⟩ : ByteArray), (⟨#[101, 118, 101, 110, 116]⟩ : ByteArray), (⟨#[102, 110]⟩ : ByteArray), (⟨#[102, 114, 111, 110, 116]⟩ : ByteArray), (⟨#[104, 97, 110, 100]⟩ : ByteArray), (⟨#[105, 102]⟩ : ByteArray), (⟨#[105, 110, 116]⟩ : ByteArray), (⟨#[105, 116]⟩ : ByteArray), (⟨#[106, 111, 105, 110]⟩ : ByteArray), (⟨#[108, 101, 110]⟩ : ByteArray), (⟨#[108, 111, 103]⟩ : ByteArray), (⟨#[108, 111, 111, 112, 101, 114]⟩ : ByteArray), (⟨#[109, 97, 105, 110]⟩ : ByteArray), (⟨#[110, 101, 119]⟩ : ByteArray), (⟨#[110, 117, 108, 108]⟩ : ByteArray), (⟨#[111, 102, 102]⟩ : ByteArray), (⟨#[111, 110]⟩ : ByteArray), (⟨#[112, 111, 115, 116]⟩ : ByteArray), (⟨#[114, 101, 116, 117, 114, 110]⟩ : ByteArray), (⟨#[115, 112, 97, 119, 110]⟩ : ByteArray), (⟨#[115, 116, 97, 114, 116]⟩ : ByteArray), (⟨#[115, 116, 111, 112]⟩ : ByteArray), (⟨#[116, 111]⟩ : ByteArray), (⟨#[116, 111, 107]⟩ : ByteArray), (⟨#[118, 97, 114]⟩ : ByteArray), (⟨#[119, 104, 105, 108, 101]⟩ : ByteArray)] : List ByteArray))
set_option maxHeartbeats 8000000 in
set_option maxRecDepth 100000 in
theorem detentref01_Words.calls  (r : List ByteArray) (w : World) (h : detentref01_Words.f  = some r) :
  Calls Tryd.prog 65 #[] w fun e w' => ∃ v0_ : Value, e = .returned (v0_) ∧ Kd.R Kd.string 9 w' w.heap.size (fun _ => True) v0_ r ∧ Below w.heap.size w w' := by
 have HB := As.mk (Below.refl w.heap.size w); have H : (some (([(⟨#[97, 102, 116, 101, 114]⟩ : ByteArray), (⟨#[97, 114, 114]⟩ : ByteArray), (⟨#[99, 97, 108, 108]⟩ : ByteArray), (⟨#[99, 97, 110, 99, 101, 108]⟩ : ByteArray), (⟨#[99, 108, 97, 115, 115]⟩ : ByteArray), (⟨#[99, 111, 109, 112]⟩ : ByteArray), (⟨#[99, 114, 101, 97, 116, 101]⟩ : ByteArray), (⟨#[100, 101, 115, 116, 114, 111, 121]⟩ : ByteArray), (⟨#[100, 105, 115, 97, 98, 108, 101]⟩ : ByteArray), (⟨#[101, 108, 115, 101]⟩ : ByteArray), (⟨#[101, 110, 97, 98, 108, 101]⟩ : ByteArray), (⟨#[101, 118, 101, 110, 116]⟩ : ByteArray), (⟨#[102, 110]⟩ : ByteArray), (⟨#[102, 114, 111, 110, 116]⟩ : ByteArray), (⟨#[104, 97, 110, 100]⟩ : ByteArray), (⟨#[105, 102]⟩ : ByteArray), (⟨#[105, 110, 116]⟩ : ByteArray), (⟨#[105, 116]⟩ : ByteArray), (⟨#[106, 111, 105, 110]⟩ : ByteArray), (⟨#[108, 101, 110]⟩ : ByteArray), (⟨#[108, 111, 103]⟩ : ByteArray), (⟨#[108, 111, 111, 112, 101, 114]⟩ : ByteArray), (⟨#[109, 97, 105, 110]⟩ : ByteArray), (⟨#[110, 101, 119]⟩ : ByteArray), (⟨#[110, 117, 108, 108]⟩ : ByteArray), (⟨#[111, 102, 102]⟩ : ByteArray), (⟨#[111, 110]⟩ : ByteArray), (⟨#[112, 111, 115, 116]⟩ : ByteArray), (⟨#[114, 101, 116, 117, 114, 110]⟩ : ByteArray), (⟨#[115, 112, 97, 119, 110]⟩ : ByteArray), (⟨#[115, 116, 97, 114, 116]⟩ : ByteArray), (⟨#[115, 116, 111, 112]⟩ : ByteArray), (⟨#[116, 111]⟩ : ByteArray), (⟨#[116, 111, 107]⟩ : ByteArray), (⟨#[118, 97, 114]⟩ : ByteArray), (⟨#[119, 104, 105, 108, 101]⟩ : ByteArray)] : List ByteArray))) = some r := h; clear h; obtain ⟨y103, hy103⟩ : ∃ y_ : List ByteArray, y_ = (([(⟨#[97, 102, 116, 101, 114]⟩ : ByteArray), (⟨#[97, 114, 114]⟩ : ByteArray), (⟨#[99, 97, 108, 108]⟩ : ByteArray), (⟨#[99, 97, 110, 99, 101, 108]⟩ : ByteArray), (⟨#[99, 108, 97, 115, 115]⟩ : ByteArray), (⟨#[99, 111, 109, 112]⟩ : ByteArray), (⟨#[99, 114, 101, 97, 116, 101]⟩ : ByteArray), (⟨#[100, 101, 115, 116, 114, 111, 121]⟩ : ByteArray), (⟨#[100, 105, 115, 97, 98, 108, 101]⟩ : ByteArray), (⟨#[101, 108, 115, 101]⟩ : ByteArray), (⟨#[101, 110, 97, 98, 108, 101]⟩ : ByteArray), (⟨#[101, 118, 101, 110, 116]⟩ : ByteArray), (⟨#[102, 110]⟩ : ByteArray), (⟨#[102, 114, 111, 110, 116]⟩ : ByteArray), (⟨#[104, 97, 110, 100]⟩ : ByteArray), (⟨#[105, 102]⟩ : ByteArray), (⟨#[105, 110, 116]⟩ : ByteArray), (⟨#[105, 116]⟩ : ByteArray), (⟨#[106, 111, 105, 110]⟩ : ByteArray), (⟨#[108, 101, 110]⟩ : ByteArray), (⟨#[108, 111, 103]⟩ : ByteArray), (⟨#[108, 111, 111, 112, 101, 114]⟩ : ByteArray), (⟨#[109, 97, 105, 110]⟩ : ByteArray), (⟨#[110, 101, 119]⟩ : ByteArray), (⟨#[110, 117, 108, 108]⟩ : ByteArray), (⟨#[111, 102, 102]⟩ : ByteArray), (⟨#[111, 110]⟩ : ByteArray), (⟨#[112, 111, 115, 116]⟩ : ByteArray), (⟨#[114, 101, 116, 117, 114, 110]⟩ : ByteArray), (⟨#[115, 112, 97, 119, 110]⟩ : ByteArray), (⟨#[115, 116, 97, 114, 116]⟩ : ByteArray), (⟨#[115, 116, 111, 112]⟩ : ByteArray), (⟨#[116, 111]⟩ : ByteArray), (⟨#[116, 111, 107]⟩ : ByteArray), (⟨#[118, 97, 114]⟩ : ByteArray), (⟨#[119, 104, 105, 108, 101]⟩ : ByteArray)] : List ByteArray)) := ⟨_, rfl⟩
 replace H : (some y103) = some r := by first | (rw [hy103]; with_reducible exact H) | (have H2_ := (Option.bind_some _ _).symm.trans H; rw [hy103]; with_reducible exact H2_) | (have H2_ := (Option.bind_some _ _).symm.trans H; with_reducible exact H2_) | with_reducible exact H | (rw [hy103]; exact H) | exact H
 have Ny103 := As.mk hy103; clear hy103; obtain rfl := Option.some.inj H
 go_enter Tryd.func65, Tryd.ntmps65
 go_wp2_with (first | ((with_reducible refine gate_dst (N := 1) rfl ?_); refine Kd.R_lit Kd.string _ 9 ?hg (N := 1) ?hd (xs := ([(⟨#[97, 102, 116, 101, 114]⟩ : ByteArray), (⟨#[97, 114, 114]⟩ : ByteArray), (⟨#[99, 97, 108, 108]⟩ : ByteArray), (⟨#[99, 97, 110, 99, 101, 108]⟩ : ByteArray), (⟨#[99, 108, 97, 115, 115]⟩ : ByteArray), (⟨#[99, 111, 109, 112]⟩ : ByteArray), (⟨#[99, 114, 101, 97, 116, 101]⟩ : ByteArray), (⟨#[100, 101, 115, 116, 114, 111, 121]⟩ : ByteArray), (⟨#[100, 105, 115, 97, 98, 108, 101]⟩ : ByteArray), (⟨#[101, 108, 115, 101]⟩ : ByteArray), (⟨#[101, 110, 97, 98, 108, 101]⟩ : ByteArray), (⟨#[101, 118, 101, 110, 116]⟩ : ByteArray), (⟨#[102, 110]⟩ : ByteArray), (⟨#[102, 114, 111, 110, 116]⟩ : ByteArray), (⟨#[104, 97, 110, 100]⟩ : ByteArray), (⟨#[105, 102]⟩ : ByteArray), (⟨#[105, 110, 116]⟩ : ByteArray), (⟨#[105, 116]⟩ : ByteArray), (⟨#[106, 111, 105, 110]⟩ : ByteArray), (⟨#[108, 101, 110]⟩ : ByteArray), (⟨#[108, 111, 103]⟩ : ByteArray), (⟨#[108, 111, 111, 112, 101, 114]⟩ : ByteArray), (⟨#[109, 97, 105, 110]⟩ : ByteArray), (⟨#[110, 101, 119]⟩ : ByteArray), (⟨#[110, 117, 108, 108]⟩ : ByteArray), (⟨#[111, 102, 102]⟩ : ByteArray), (⟨#[111, 110]⟩ : ByteArray), (⟨#[112, 111, 115, 116]⟩ : ByteArray), (⟨#[114, 101, 116, 117, 114, 110]⟩ : ByteArray), (⟨#[115, 112, 97, 119, 110]⟩ : ByteArray), (⟨#[115, 116, 97, 114, 116]⟩ : ByteArray), (⟨#[115, 116, 111, 112]⟩ : ByteArray), (⟨#[116, 111]⟩ : ByteArray), (⟨#[116, 111, 107]⟩ : ByteArray), (⟨#[118, 97, 114]⟩ : ByteArray), (⟨#[119, 104, 105, 108, 101]⟩ : ByteArray)] : List ByteArray)) (inner := [.string (⟨#[97, 102, 116, 101, 114]⟩ : ByteArray), .string (⟨#[97, 114, 114]⟩ : ByteArray), .string (⟨#[99, 97, 108, 108]⟩ : ByteArray), .string (⟨#[99, 97, 110, 99, 101, 108]⟩ : ByteArray), .string (⟨#[99, 108, 97, 115, 115]⟩ : ByteArray), .string (⟨#[99, 111, 109, 112]⟩ : ByteArray), .string (⟨#[99, 114, 101, 97, 116, 101]⟩ : ByteArray), .string (⟨#[100, 101, 115, 116, 114, 111, 121]⟩ : ByteArray), .string (⟨#[100, 105, 115, 97, 98, 108, 101]⟩ : ByteArray), .string (⟨#[101, 108, 115, 101]⟩ : ByteArray), .string (⟨#[101, 110, 97, 98, 108, 101]⟩ : ByteArray), .string (⟨#[101, 118, 101, 110, 116]⟩ : ByteArray), .string (⟨#[102, 110]⟩ : ByteArray), .string (⟨#[102, 114, 111, 110, 116]⟩ : ByteArray), .string (⟨#[104, 97, 110, 100]⟩ : ByteArray), .string (⟨#[105, 102]⟩ : ByteArray), .string (⟨#[105, 110, 116]⟩ : ByteArray), .string (⟨#[105, 116]⟩ : ByteArray), .string (⟨#[106, 111, 105, 110]⟩ : ByteArray), .string (⟨#[108, 101, 110]⟩ : ByteArray), .string (⟨#[108, 111, 103]⟩ : ByteArray), .string (⟨#[108, 111, 111, 112, 101, 114]⟩ : ByteArray), .string (⟨#[109, 97, 105, 110]⟩ : ByteArray), .string (⟨#[110, 101, 119]⟩ : ByteArray), .string (⟨#[110, 117, 108, 108]⟩ : ByteArray), .string (⟨#[111, 102, 102]⟩ : ByteArray), .string (⟨#[111, 110]⟩ : ByteArray), .string (⟨#[112, 111, 115, 116]⟩ : ByteArray), .string (⟨#[114, 101, 116, 117, 114, 110]⟩ : ByteArray), .string (⟨#[115, 112, 97, 119, 110]⟩ : ByteArray), .string (⟨#[115, 116, 97, 114, 116]⟩ : ByteArray), .string (⟨#[115, 116, 111, 112]⟩ : ByteArray), .string (⟨#[116, 111]⟩ : ByteArray), .string (⟨#[116, 111, 107]⟩ : ByteArray), .string (⟨#[118, 97, 114]⟩ : ByteArray), .string (⟨#[119, 104, 105, 108, 101]⟩ : ByteArray)]) (ok := fun _ => True) (okp := fun _ => True) ?hr ?hp (fun _ hk => hk) trivial (Below.refl _ _) (Nat.le_refl _) (by simp) ?_; (case hd => rfl); (case hg => rfl); (case hr => first | (go_simp; done) | (go_simp; rfl)); (case hp => exact (Reps.one (show Kd.M Kd.string _ _ _ (⟨#[97, 102, 116, 101, 114]⟩ : ByteArray) [.string (⟨#[97, 102, 116, 101, 114]⟩ : ByteArray)] from rfl) (Reps.one (show Kd.M Kd.string _ _ _ (⟨#[97, 114, 114]⟩ : ByteArray) [.string (⟨#[97, 114, 114]⟩ : ByteArray)] from rfl) (Reps.one (show Kd.M Kd.string _ _ _ (⟨#[99, 97, 108, 108]⟩ : ByteArray) [.string (⟨#[99, 97, 108, 108]⟩ : ByteArray)] from rfl) (Reps.one (show Kd.M Kd.string _ _ _ (⟨#[99, 97, 110, 99, 101, 108]⟩ : ByteArray) [.string (⟨#[99, 97, 110, 99, 101, 108]⟩ : ByteArray)] from rfl) (Reps.one (show Kd.M Kd.string _ _ _ (⟨#[99, 108, 97, 115, 115]⟩ : ByteArray) [.string (⟨#[99, 108, 97, 115, 115]⟩ : ByteArray)] from rfl) (Reps.one (show Kd.M Kd.string _ _ _ (⟨#[99, 111, 109, 112]⟩ : ByteArray) [.string (⟨#[99, 111, 109, 112]⟩ : ByteArray)] from rfl) (Reps.one (show Kd.M Kd.string _ _ _ (⟨#[99, 114, 101, 97, 116, 101]⟩ : ByteArray) [.string (⟨#[99, 114, 101, 97, 116, 101]⟩ : ByteArray)] from rfl) (Reps.one (show Kd.M Kd.string _ _ _ (⟨#[100, 101, 115, 116, 114, 111, 121]⟩ : ByteArray) [.string (⟨#[100, 101, 115, 116, 114, 111, 121]⟩ : ByteArray)] from rfl) (Reps.one (show Kd.M Kd.string _ _ _ (⟨#[100, 105, 115, 97, 98, 108, 101]⟩ : ByteArray) [.string (⟨#[100, 105, 115, 97, 98, 108, 101]⟩ : ByteArray)] from rfl) (Reps.one (show Kd.M Kd.string _ _ _ (⟨#[101, 108, 115, 101]⟩ : ByteArray) [.string (⟨#[101, 108, 115, 101]⟩ : ByteArray)] from rfl) (Reps.one (show Kd.M Kd.string _ _ _ (⟨#[101, 110, 97, 98, 108, 101]⟩ : ByteArray) [.string (⟨#[101, 110, 97, 98, 108, 101]⟩ : ByteArray)] from rfl) (Reps.one (show Kd.M Kd.string _ _ _ (⟨#[101, 118, 101, 110, 116]⟩ : ByteArray) [.string (⟨#[101, 118, 101, 110, 116]⟩ : ByteArray)] from rfl) (Reps.one (show Kd.M Kd.string _ _ _ (⟨#[102, 110]⟩ : ByteArray) [.string (⟨#[102, 110]⟩ : ByteArray)] from rfl) (Reps.one (show Kd.M Kd.string _ _ _ (⟨#[102, 114, 111, 110, 116]⟩ : ByteArray) [.string (⟨#[102, 114, 111, 110, 116]⟩ : ByteArray)] from rfl) (Reps.one (show Kd.M Kd.string _ _ _ (⟨#[104, 97, 110, 100]⟩ : ByteArray) [.string (⟨#[104, 97, 110, 100]⟩ : ByteArray)] from rfl) (Reps.one (show Kd.M Kd.string _ _ _ (⟨#[105, 102]⟩ : ByteArray) [.string (⟨#[105, 102]⟩ : ByteArray)] from rfl) (Reps.one (show Kd.M Kd.string _ _ _ (⟨#[105, 110, 116]⟩ : ByteArray) [.string (⟨#[105, 110, 116]⟩ : ByteArray)] from rfl) (Reps.one (show Kd.M Kd.string _ _ _ (⟨#[105, 116]⟩ : ByteArray) [.string (⟨#[105, 116]⟩ : ByteArray)] from rfl) (Reps.one (show Kd.M Kd.string _ _ _ (⟨#[106, 111, 105, 110]⟩ : ByteArray) [.string (⟨#[106, 111, 105, 110]⟩ : ByteArray)] from rfl) (Reps.one (show Kd.M Kd.string _ _ _ (⟨#[108, 101, 110]⟩ : ByteArray) [.string (⟨#[108, 101, 110]⟩ : ByteArray)] from rfl) (Reps.one (show Kd.M Kd.string _ _ _ (⟨#[108, 111, 103]⟩ : ByteArray) [.string (⟨#[108, 111, 103]⟩ : ByteArray)] from rfl) (Reps.one (show Kd.M Kd.string _ _ _ (⟨#[108, 111, 111, 112, 101, 114]⟩ : ByteArray) [.string (⟨#[108, 111, 111, 112, 101, 114]⟩ : ByteArray)] from rfl) (Reps.one (show Kd.M Kd.string _ _ _ (⟨#[109, 97, 105, 110]⟩ : ByteArray) [.string (⟨#[109, 97, 105, 110]⟩ : ByteArray)] from rfl) (Reps.one (show Kd.M Kd.string _ _ _ (⟨#[110, 101, 119]⟩ : ByteArray) [.string (⟨#[110, 101, 119]⟩ : ByteArray)] from rfl) (Reps.one (show Kd.M Kd.string _ _ _ (⟨#[110, 117, 108, 108]⟩ : ByteArray) [.string (⟨#[110, 117, 108, 108]⟩ : ByteArray)] from rfl) (Reps.one (show Kd.M Kd.string _ _ _ (⟨#[111, 102, 102]⟩ : ByteArray) [.string (⟨#[111, 102, 102]⟩ : ByteArray)] from rfl) (Reps.one (show Kd.M Kd.string _ _ _ (⟨#[111, 110]⟩ : ByteArray) [.string (⟨#[111, 110]⟩ : ByteArray)] from rfl) (Reps.one (show Kd.M Kd.string _ _ _ (⟨#[112, 111, 115, 116]⟩ : ByteArray) [.string (⟨#[112, 111, 115, 116]⟩ : ByteArray)] from rfl) (Reps.one (show Kd.M Kd.string _ _ _ (⟨#[114, 101, 116, 117, 114, 110]⟩ : ByteArray) [.string (⟨#[114, 101, 116, 117, 114, 110]⟩ : ByteArray)] from rfl) (Reps.one (show Kd.M Kd.string _ _ _ (⟨#[115, 112, 97, 119, 110]⟩ : ByteArray) [.string (⟨#[115, 112, 97, 119, 110]⟩ : ByteArray)] from rfl) (Reps.one (show Kd.M Kd.string _ _ _ (⟨#[115, 116, 97, 114, 116]⟩ : ByteArray) [.string (⟨#[115, 116, 97, 114, 116]⟩ : ByteArray)] from rfl) (Reps.one (show Kd.M Kd.string _ _ _ (⟨#[115, 116, 111, 112]⟩ : ByteArray) [.string (⟨#[115, 116, 111, 112]⟩ : ByteArray)] from rfl) (Reps.one (show Kd.M Kd.string _ _ _ (⟨#[116, 111]⟩ : ByteArray) [.string (⟨#[116, 111]⟩ : ByteArray)] from rfl) (Reps.one (show Kd.M Kd.string _ _ _ (⟨#[116, 111, 107]⟩ : ByteArray) [.string (⟨#[116, 111, 107]⟩ : ByteArray)] from rfl) (Reps.one (show Kd.M Kd.string _ _ _ (⟨#[118, 97, 114]⟩ : ByteArray) [.string (⟨#[118, 97, 114]⟩ : ByteArray)] from rfl) (Reps.one (show Kd.M Kd.string _ _ _ (⟨#[119, 104, 105, 108, 101]⟩ : ByteArray) [.string (⟨#[119, 104, 105, 108, 101]⟩ : ByteArray)] from rfl) (Reps.none _ _)))))))))))))))))))))))))))))))))))))); intro v104 w1 ho2 hb hg_ hnew_; clear hg_ hnew_; (first | rw [← Ny103.out] at ho2 | (simp only [Int.reduceToNat] at ho2; rw [← Ny103.out] at ho2)); have n0_ := As.mk (Kd.R_lower ho2 (bwz (by repeat (first | (with_reducible first | exact HB.out | apply bwa | apply bwn | apply bw1) | exact HB.out)))); have n1_ := As.mk (bwp (by repeat (first | (with_reducible first | exact HB.out | apply bwa | apply bwn | apply bw1) | exact HB.out)) hb); clear HB; have HO105 := n0_; have HB := n1_; clear n0_ n1_; clear hb ho2))
 go_ret
 exact ⟨_, by first | rfl | (simp [*] <;> rfl), by (with_reducible repeat (first | apply Kd.R_alloc | apply Kd.R_drewN | apply Kd.R_drew)); exact HO105.out, by repeat (first | (with_reducible first | exact HB.out | apply bwa | apply bwn | apply bw1) | exact HB.out)⟩
def riw.l0 : Nat → ByteArray → List ByteArray → Int → Option (Bool)
 | 0, _, _, _ => none
 | k + 1, x0, x3, x4 => if x4 < (x3.length : Int) then (if 0 ≤ x4 then (if (rdOf ByteArray.empty x3 x4).toList = x0.toList then (some true) else (riw.l0 k x0 x3 (wrap64 (x4 + 1)))) else (none)) else (some false)
def riw.f (k : Nat) (a0 : ByteArray) : Option (Bool) := (detentref01_Words.f).bind fun t106 => (riw.l0 k a0 t106 0)
set_option maxHeartbeats 8000000 in
set_option maxRecDepth 100000 in
theorem riw.calls (k : Nat) (a0 : ByteArray) (r : Bool) (w : World) (h : riw.f k a0 = some r) :
  Calls Tryd.prog 50 #[.string a0] w fun e w' => e = .returned (.bool r) ∧ Below w.heap.size w w' := by
 have HB := As.mk (Below.refl w.heap.size w); have H : ((detentref01_Words.f).bind fun t106 => (riw.l0 k a0 t106 0)) = some r := h; clear h; replace H := Option.bind_eq_some_iff.mp H; obtain ⟨t106, A20, H⟩ := H; replace H : (riw.l0 k a0 t106 0) = some r := H; have A2 := As.mk A20; clear A20; have H' := As.mk H; clear H
 go_enter Tryd.func50, Tryd.ntmps50
 go_wp2_with (first | ((with_reducible refine gate_callee (f := 65) rfl ?_); refine goesL_ (some 5) rfl rfl Tryd.func65 (by kernel_rfl) rfl #[] rfl (by (try simp only [List.map_toArray, List.map_cons, List.map_nil]); first | done | rfl | (simp only [List.length_drop, List.length_take]; rfl)) ?_; (with_reducible refine (detentref01_Words.calls  t106 _ A2.out).mono ?_); rintro e w3 ⟨v107, rfl, ho0, hb⟩; refine ⟨_, rfl, ?_⟩; have n0_ := As.mk (Kd.R_lower ho0 (bwz (by repeat (first | (with_reducible first | exact HB.out | apply bwa | apply bwn | apply bw1) | exact HB.out)))); have n1_ := As.mk (bwp (by repeat (first | (with_reducible first | exact HB.out | apply bwa | apply bwn | apply bw1) | exact HB.out)) hb); clear HB; have HO108 := n0_; have HB := n1_; clear n0_ n1_; (try clear hb); (try clear hb2); (try clear hk); (try clear hi); (try clear ho0)))
 go_loopg [4] k (fun kq v4 w' => ∃ (x4_1 : Int), v4 = .int .i64 x4_1 ∧ As (riw.l0 kq a0 t106 x4_1 = some r) ∧ As (kq ≤ k) ∧ As (Kd.R Kd.string 9 w' w.heap.size (fun _ => True) v107 t106) ∧ As (Below w.heap.size w w'))
 case atStart => exact ⟨(0), (by first | rfl | (simp; done) | (simp [*]; done)), H', ⟨Nat.le_refl _⟩, ⟨by (with_reducible repeat (first | apply Kd.R_alloc | apply Kd.R_drewN | apply Kd.R_drew)); exact HO108.out⟩, ⟨by repeat (first | (with_reducible first | exact HB.out | apply bwa | apply bwn | apply bw1) | exact HB.out)⟩⟩
 case round =>
  clear H'; (try clear p2); obtain ⟨x4_1, rfl, HA, HK1, HO_3, HB⟩ := hrel
  cases gk with
  | zero => exact absurd HA.out (by simp [riw.l0])
  | succ k1 =>
   have H := HA.out; clear HA; simp only [riw.l0] at H
   by_cases c4 : x4_1 < (t106.length : Int)
   ·rw [if_pos c4] at H; have c4b0 : decide (x4_1 < (t106.length : Int)) = true := decide_eq_true c4; clear c4
    by_cases c5 : 0 ≤ x4_1
    ·rw [if_pos c5] at H; have c5b0 : decide (0 ≤ x4_1) = true := decide_eq_true c5; clear c5
     by_cases c6 : (rdOf ByteArray.empty t106 x4_1).toList = a0.toList
     ·rw [if_pos c6] at H; have c6b0 : ((rdOf ByteArray.empty t106 x4_1).toList == a0.toList) = true := beq_iff_eq.mpr c6; have c6b1 : ((rdOf ByteArray.empty t106 x4_1).toList != a0.toList) = false := bne_eq_false_iff_eq.mpr c6; clear c6; obtain rfl := Option.some.inj H; obtain ⟨Ao7, co7, eo7⟩ := Kd.R_slice HO_3.out; subst eo7; have p109 : 0 ≤ (x4_1 : Int) := of_decide_eq_true (by first | (with_reducible assumption) | assumption); have q109 : x4_1 < (t106.length : Int) := of_decide_eq_true (by first | (with_reducible assumption) | assumption); obtain ⟨ad109, e109, hx109_0⟩ := Kd.at_string (Kd.R_reads' HO_3.out).2.2 x4_1 p109 q109
      cases e109
      replace p109 := eq_true p109; replace q109 := eq_true q109; go_wp2
      go_ret
      exact ⟨by first | rfl | (simp [*] <;> rfl), by repeat (first | (with_reducible first | exact HB.out | apply bwa | apply bwn | apply bw1) | exact HB.out)⟩
     ·rw [if_neg c6] at H; have c6b0 : ((rdOf ByteArray.empty t106 x4_1).toList == a0.toList) = false := beq_eq_false_iff_ne.mpr c6; have c6b1 : ((rdOf ByteArray.empty t106 x4_1).toList != a0.toList) = true := bne_iff_ne.mpr c6; have H' := As.mk H; clear H; obtain ⟨Ao8, co8, eo8⟩ := Kd.R_slice HO_3.out; subst eo8; have p109 : 0 ≤ (x4_1 : Int) := of_decide_eq_true (by first | (with_reducible assumption) | assumption); have q109 : x4_1 < (t106.length : Int) := of_decide_eq_true (by first | (with_reducible assumption) | assumption); obtain ⟨ad109, e109, hx109_0⟩ := Kd.at_string (Kd.R_reads' HO_3.out).2.2 x4_1 p109 q109
      cases e109
      replace p109 := eq_true p109; replace q109 := eq_true q109; go_wp2
      go_roundg k1
      case measure => have := HK1.out; omega
      case rel => exact ⟨(wrap64 (x4_1 + 1)), (by first | rfl | (simp; done) | (simp [*]; done)), H', ⟨by have := HK1.out; omega⟩, ⟨by (with_reducible repeat (first | apply Kd.R_alloc | apply Kd.R_drewN | apply Kd.R_drew)); exact HO_3.out⟩, ⟨by repeat (first | (with_reducible first | exact HB.out | apply bwa | apply bwn | apply bw1) | exact HB.out)⟩⟩
    ·rw [if_neg c5] at H
     exact absurd H (by simp)
   ·rw [if_neg c4] at H; have c4b0 : decide (x4_1 < (t106.length : Int)) = false := decide_eq_false c4; clear c4; obtain rfl := Option.some.inj H; obtain ⟨Ao9, co9, eo9⟩ := Kd.R_slice HO_3.out; subst eo9; go_wp2
    go_ret
    exact ⟨by first | rfl | (simp [*] <;> rfl), by repeat (first | (with_reducible first | exact HB.out | apply bwa | apply bwn | apply bw1) | exact HB.out)⟩
def rin.l0 : Nat → ByteArray → Int → Option (Bool)
 | 0, _, _ => none
 | k + 1, x0, x3 => if x3 < (x0.size : Int) then (if 0 ≤ x3 then ((detentref01_Letter.f (bt x0 x3)).bind fun t111 => (if t111 = true then (rin.l0 k x0 (wrap64 (x3 + 1))) else (if x3 = 0 then (some false) else ((detentref01_Digit.f (bt x0 x3)).bind fun t112 => (if t112 = true then (rin.l0 k x0 (wrap64 (x3 + 1))) else (some false)))))) else (none)) else (if x0.toList = ([] : List UInt8) then (some false) else (if (x0.size : Int) ≤ 32 then ((riw.f k x0).bind fun t110 => (some (!t110))) else (some false)))
def rin.f (k : Nat) (a0 : ByteArray) : Option (Bool) := rin.l0 k a0 0
set_option maxHeartbeats 8000000 in
set_option maxRecDepth 100000 in
theorem rin.calls (k : Nat) (a0 : ByteArray) (r : Bool) (w : World) (h : rin.f k a0 = some r) :
  Calls Tryd.prog 28 #[.string a0] w fun e w' => e = .returned (.bool r) ∧ Below w.heap.size w w' := by
 have HB := As.mk (Below.refl w.heap.size w); have H : (rin.l0 k a0 0) = some r := h; clear h; have H' := As.mk H; clear H
 go_enter Tryd.func28, Tryd.ntmps28
 go_wp2
 go_loopg [3] k (fun kq v3 w' => ∃ (x3_1 : Int), v3 = .int .i64 x3_1 ∧ As (rin.l0 kq a0 x3_1 = some r) ∧ As (kq ≤ k) ∧ As (Below w.heap.size w w'))
 case atStart => exact ⟨(0), (by first | rfl | (simp; done) | (simp [*]; done)), H', ⟨Nat.le_refl _⟩, ⟨by repeat (first | (with_reducible first | exact HB.out | apply bwa | apply bwn | apply bw1) | exact HB.out)⟩⟩
 case round =>
  clear H'; obtain ⟨x3_1, rfl, HA, HK1, HB⟩ := hrel
  cases gk with
  | zero => exact absurd HA.out (by simp [rin.l0])
  | succ k1 =>
   have H := HA.out; clear HA; simp only [rin.l0] at H
   by_cases c2 : x3_1 < (a0.size : Int)
   ·rw [if_pos c2] at H; have c2b0 : decide (x3_1 < (a0.size : Int)) = true := decide_eq_true c2; clear c2
    by_cases c3 : 0 ≤ x3_1
    ·rw [if_pos c3] at H; have c3b0 : decide (0 ≤ x3_1) = true := decide_eq_true c3; clear c3; replace H := Option.bind_eq_some_iff.mp H; obtain ⟨t111, A50, H⟩ := H; replace H : (if t111 = true then (rin.l0 k1 a0 (wrap64 (x3_1 + 1))) else (if x3_1 = 0 then (some false) else ((detentref01_Digit.f (bt a0 x3_1)).bind fun t112 => (if t112 = true then (rin.l0 k1 a0 (wrap64 (x3_1 + 1))) else (some false))))) = some r := H; have A5 := As.mk A50; clear A50
     by_cases c6 : t111 = true
     ·subst c6
      have H1 : (rin.l0 k1 a0 (wrap64 (x3_1 + 1))) = some r := by rw [if_pos rfl] at H; exact H
      clear H; have H := H1; clear H1; have H' := As.mk H; clear H; have p4 : 0 ≤ (x3_1 : Int) := of_decide_eq_true (by first | (with_reducible assumption) | assumption); have q4 : x3_1 < (a0.size : Int) := of_decide_eq_true (by first | (with_reducible assumption) | assumption); have hx4 := bt_at a0 x3_1; replace p4 := eq_true p4; replace q4 := eq_true q4; go_wp2_with (first | ((with_reducible refine gate_callee (f := 48) rfl ?_); refine goesL_ (some 13) rfl rfl Tryd.func48 (by kernel_rfl) rfl #[.int .u8 (bt a0 x3_1)] rfl (by (try simp only [List.map_toArray, List.map_cons, List.map_nil]); first | done | rfl | (simp only [List.length_drop, List.length_take]; rfl)) ?_; (with_reducible refine (detentref01_Letter.calls (bt a0 x3_1) true _ A5.out).mono ?_); rintro e w' ⟨rfl, ⟨nd, rfl⟩⟩; refine ⟨_, rfl, ?_⟩))
      go_roundg k1
      case measure => have := HK1.out; omega
      case rel => exact ⟨(wrap64 (x3_1 + 1)), (by first | rfl | (simp; done) | (simp [*]; done)), H', ⟨by have := HK1.out; omega⟩, ⟨by repeat (first | (with_reducible first | exact HB.out | apply bwa | apply bwn | apply bw1) | exact HB.out)⟩⟩
     ·replace c6 := Bool.eq_false_iff.mpr c6; subst c6
      have H1 : (if x3_1 = 0 then (some false) else ((detentref01_Digit.f (bt a0 x3_1)).bind fun t112 => (if t112 = true then (rin.l0 k1 a0 (wrap64 (x3_1 + 1))) else (some false)))) = some r := by rw [if_neg (show ¬ (false = true) by decide)] at H; exact H
      clear H; have H := H1; clear H1
      by_cases c7 : x3_1 = 0
      ·rw [if_pos c7] at H; have c7b0 : (x3_1 == 0) = true := beq_iff_eq.mpr c7; have c7b1 : (x3_1 != 0) = false := bne_eq_false_iff_eq.mpr c7; clear c7; obtain rfl := Option.some.inj H; have p4 : 0 ≤ (x3_1 : Int) := of_decide_eq_true (by first | (with_reducible assumption) | assumption); have q4 : x3_1 < (a0.size : Int) := of_decide_eq_true (by first | (with_reducible assumption) | assumption); have hx4 := bt_at a0 x3_1; replace p4 := eq_true p4; replace q4 := eq_true q4; go_wp2_with (first | ((with_reducible refine gate_callee (f := 48) rfl ?_); refine goesL_ (some 13) rfl rfl Tryd.func48 (by kernel_rfl) rfl #[.int .u8 (bt a0 x3_1)] rfl (by (try simp only [List.map_toArray, List.map_cons, List.map_nil]); first | done | rfl | (simp only [List.length_drop, List.length_take]; rfl)) ?_; (with_reducible refine (detentref01_Letter.calls (bt a0 x3_1) false _ A5.out).mono ?_); rintro e w' ⟨rfl, ⟨nd, rfl⟩⟩; refine ⟨_, rfl, ?_⟩))
       go_ret
       exact ⟨by first | rfl | (simp [*] <;> rfl), by repeat (first | (with_reducible first | exact HB.out | apply bwa | apply bwn | apply bw1) | exact HB.out)⟩
      ·rw [if_neg c7] at H; have c7b0 : (x3_1 == 0) = false := beq_eq_false_iff_ne.mpr c7; have c7b1 : (x3_1 != 0) = true := bne_iff_ne.mpr c7; replace H := Option.bind_eq_some_iff.mp H; obtain ⟨t112, A90, H⟩ := H; replace H : (if t112 = true then (rin.l0 k1 a0 (wrap64 (x3_1 + 1))) else (some false)) = some r := H; have A9 := As.mk A90; clear A90
       by_cases c10 : t112 = true
       ·subst c10
        have H1 : (rin.l0 k1 a0 (wrap64 (x3_1 + 1))) = some r := by rw [if_pos rfl] at H; exact H
        clear H; have H := H1; clear H1; have H' := As.mk H; clear H; have p4 : 0 ≤ (x3_1 : Int) := of_decide_eq_true (by first | (with_reducible assumption) | assumption); have q4 : x3_1 < (a0.size : Int) := of_decide_eq_true (by first | (with_reducible assumption) | assumption); have hx4 := bt_at a0 x3_1; replace p4 := eq_true p4; replace q4 := eq_true q4; go_wp2_with (first | ((with_reducible refine gate_callee (f := 48) rfl ?_); refine goesL_ (some 13) rfl rfl Tryd.func48 (by kernel_rfl) rfl #[.int .u8 (bt a0 x3_1)] rfl (by (try simp only [List.map_toArray, List.map_cons, List.map_nil]); first | done | rfl | (simp only [List.length_drop, List.length_take]; rfl)) ?_; (with_reducible refine (detentref01_Letter.calls (bt a0 x3_1) false _ A5.out).mono ?_); rintro e w' ⟨rfl, ⟨nd, rfl⟩⟩; refine ⟨_, rfl, ?_⟩; have p8 : 0 ≤ (x3_1 : Int) := of_decide_eq_true (by first | (with_reducible assumption) | assumption); have q8 : x3_1 < (a0.size : Int) := of_decide_eq_true (by first | (with_reducible assumption) | assumption); have hx8 := bt_at a0 x3_1; replace p8 := eq_true p8; replace q8 := eq_true q8) | (go_at_call 49; (with_reducible refine (detentref01_Digit.calls (bt a0 x3_1) true _ A9.out).mono ?_); rintro e w' ⟨rfl, ⟨nd, rfl⟩⟩))
        go_roundg k1
        case measure => have := HK1.out; omega
        case rel => exact ⟨(wrap64 (x3_1 + 1)), (by first | rfl | (simp; done) | (simp [*]; done)), H', ⟨by have := HK1.out; omega⟩, ⟨by repeat (first | (with_reducible first | exact HB.out | apply bwa | apply bwn | apply bw1) | exact HB.out)⟩⟩
       ·replace c10 := Bool.eq_false_iff.mpr c10; subst c10
        have H1 : (some false) = some r := by rw [if_neg (show ¬ (false = true) by decide)] at H; exact H
        clear H; have H := H1; clear H1; obtain rfl := Option.some.inj H; have p4 : 0 ≤ (x3_1 : Int) := of_decide_eq_true (by first | (with_reducible assumption) | assumption); have q4 : x3_1 < (a0.size : Int) := of_decide_eq_true (by first | (with_reducible assumption) | assumption); have hx4 := bt_at a0 x3_1; replace p4 := eq_true p4; replace q4 := eq_true q4; go_wp2_with (first | ((with_reducible refine gate_callee (f := 48) rfl ?_); refine goesL_ (some 13) rfl rfl Tryd.func48 (by kernel_rfl) rfl #[.int .u8 (bt a0 x3_1)] rfl (by (try simp only [List.map_toArray, List.map_cons, List.map_nil]); first | done | rfl | (simp only [List.length_drop, List.length_take]; rfl)) ?_; (with_reducible refine (detentref01_Letter.calls (bt a0 x3_1) false _ A5.out).mono ?_); rintro e w' ⟨rfl, ⟨nd, rfl⟩⟩; refine ⟨_, rfl, ?_⟩; have p8 : 0 ≤ (x3_1 : Int) := of_decide_eq_true (by first | (with_reducible assumption) | assumption); have q8 : x3_1 < (a0.size : Int) := of_decide_eq_true (by first | (with_reducible assumption) | assumption); have hx8 := bt_at a0 x3_1; replace p8 := eq_true p8; replace q8 := eq_true q8) | (go_at_call 49; (with_reducible refine (detentref01_Digit.calls (bt a0 x3_1) false _ A9.out).mono ?_); rintro e w' ⟨rfl, ⟨nd, rfl⟩⟩))
        go_ret
        exact ⟨by first | rfl | (simp [*] <;> rfl), by repeat (first | (with_reducible first | exact HB.out | apply bwa | apply bwn | apply bw1) | exact HB.out)⟩
    ·rw [if_neg c3] at H
     exact absurd H (by simp)
   ·rw [if_neg c2] at H; have c2b0 : decide (x3_1 < (a0.size : Int)) = false := decide_eq_false c2; clear c2
    by_cases c11 : a0.toList = ([] : List UInt8)
    ·rw [if_pos c11] at H; have c11b0 : (a0.toList == ([] : List UInt8)) = true := beq_iff_eq.mpr c11; have c11b1 : (a0.toList != ([] : List UInt8)) = false := bne_eq_false_iff_eq.mpr c11; clear c11; obtain rfl := Option.some.inj H; go_wp2
     go_ret
     exact ⟨by first | rfl | (simp [*] <;> rfl), by repeat (first | (with_reducible first | exact HB.out | apply bwa | apply bwn | apply bw1) | exact HB.out)⟩
    ·rw [if_neg c11] at H; have c11b0 : (a0.toList == ([] : List UInt8)) = false := beq_eq_false_iff_ne.mpr c11; have c11b1 : (a0.toList != ([] : List UInt8)) = true := bne_iff_ne.mpr c11
     by_cases c12 : (a0.size : Int) ≤ 32
     ·rw [if_pos c12] at H; have c12b0 : decide ((a0.size : Int) ≤ 32) = true := decide_eq_true c12; have c12b1 : decide (a0.size ≤ 32) = true := decide_eq_true (by omega); clear c12; replace H := Option.bind_eq_some_iff.mp H; obtain ⟨t110, A130, H⟩ := H; replace H : (some (!t110)) = some r := H; have A13 := As.mk A130; clear A130; obtain rfl := Option.some.inj H; go_wp2_with (first | (go_at_call 50; (with_reducible refine (riw.calls k1 a0 t110 _ A13.out).mono ?_); rintro e w14 ⟨rfl, hb⟩; have n0_ := As.mk (bwp (by repeat (first | (with_reducible first | exact HB.out | apply bwa | apply bwn | apply bw1) | exact HB.out)) hb); clear HB; have HB := n0_; clear n0_; (try clear hb); (try clear hb2); (try clear hk); (try clear hi)))
      go_ret
      exact ⟨by first | rfl | (simp [*] <;> rfl), by repeat (first | (with_reducible first | exact HB.out | apply bwa | apply bwn | apply bw1) | exact HB.out)⟩
     ·rw [if_neg c12] at H; have c12b0 : decide ((a0.size : Int) ≤ 32) = false := decide_eq_false c12; have c12b1 : decide (a0.size ≤ 32) = false := decide_eq_false (by omega); clear c12; obtain rfl := Option.some.inj H; go_wp2
      go_ret
      exact ⟨by first | rfl | (simp [*] <;> rfl), by repeat (first | (with_reducible first | exact HB.out | apply bwa | apply bwn | apply bw1) | exact HB.out)⟩
def detentref02_Type.f (k : Nat) (a0 : ByteArray) : Option (Bool) := if a0.toList = ([105, 110, 116] : List UInt8) then (some true) else (if a0.toList = ([102, 110] : List UInt8) then (some true) else (if a0.toList = ([116, 111, 107] : List UInt8) then (some true) else (if a0.toList = ([104, 97, 110, 100] : List UInt8) then (some true) else (if a0.toList = ([97, 114, 114] : List UInt8) then (some true) else ((rin.f k a0).bind fun t113 => (some t113))))))
set_option maxHeartbeats 8000000 in
set_option maxRecDepth 100000 in
theorem detentref02_Type.calls (k : Nat) (a0 : ByteArray) (r : Bool) (w : World) (h : detentref02_Type.f k a0 = some r) :
  Calls Tryd.prog 26 #[.string a0] w fun e w' => e = .returned (.bool r) ∧ Below w.heap.size w w' := by
 have HB := As.mk (Below.refl w.heap.size w); have H : (if a0.toList = ([105, 110, 116] : List UInt8) then (some true) else (if a0.toList = ([102, 110] : List UInt8) then (some true) else (if a0.toList = ([116, 111, 107] : List UInt8) then (some true) else (if a0.toList = ([104, 97, 110, 100] : List UInt8) then (some true) else (if a0.toList = ([97, 114, 114] : List UInt8) then (some true) else ((rin.f k a0).bind fun t113 => (some t113))))))) = some r := h; clear h
 by_cases c2 : a0.toList = ([105, 110, 116] : List UInt8)
 ·rw [if_pos c2] at H; have c2b0 : (a0.toList == ([105, 110, 116] : List UInt8)) = true := beq_iff_eq.mpr c2; have c2b1 : (a0.toList != ([105, 110, 116] : List UInt8)) = false := bne_eq_false_iff_eq.mpr c2; clear c2; obtain rfl := Option.some.inj H
  go_enter Tryd.func26, Tryd.ntmps26
  go_wp2
  go_ret
  exact ⟨by first | rfl | (simp [*] <;> rfl), by repeat (first | (with_reducible first | exact HB.out | apply bwa | apply bwn | apply bw1) | exact HB.out)⟩
 ·rw [if_neg c2] at H; have c2b0 : (a0.toList == ([105, 110, 116] : List UInt8)) = false := beq_eq_false_iff_ne.mpr c2; have c2b1 : (a0.toList != ([105, 110, 116] : List UInt8)) = true := bne_iff_ne.mpr c2
  by_cases c3 : a0.toList = ([102, 110] : List UInt8)
  ·rw [if_pos c3] at H; have c3b0 : (a0.toList == ([102, 110] : List UInt8)) = true := beq_iff_eq.mpr c3; have c3b1 : (a0.toList != ([102, 110] : List UInt8)) = false := bne_eq_false_iff_eq.mpr c3; clear c3; obtain rfl := Option.some.inj H
   go_enter Tryd.func26, Tryd.ntmps26
   go_wp2
   go_ret
   exact ⟨by first | rfl | (simp [*] <;> rfl), by repeat (first | (with_reducible first | exact HB.out | apply bwa | apply bwn | apply bw1) | exact HB.out)⟩
  ·rw [if_neg c3] at H; have c3b0 : (a0.toList == ([102, 110] : List UInt8)) = false := beq_eq_false_iff_ne.mpr c3; have c3b1 : (a0.toList != ([102, 110] : List UInt8)) = true := bne_iff_ne.mpr c3
   by_cases c4 : a0.toList = ([116, 111, 107] : List UInt8)
   ·rw [if_pos c4] at H; have c4b0 : (a0.toList == ([116, 111, 107] : List UInt8)) = true := beq_iff_eq.mpr c4; have c4b1 : (a0.toList != ([116, 111, 107] : List UInt8)) = false := bne_eq_false_iff_eq.mpr c4; clear c4; obtain rfl := Option.some.inj H
    go_enter Tryd.func26, Tryd.ntmps26
    go_wp2
    go_ret
    exact ⟨by first | rfl | (simp [*] <;> rfl), by repeat (first | (with_reducible first | exact HB.out | apply bwa | apply bwn | apply bw1) | exact HB.out)⟩
   ·rw [if_neg c4] at H; have c4b0 : (a0.toList == ([116, 111, 107] : List UInt8)) = false := beq_eq_false_iff_ne.mpr c4; have c4b1 : (a0.toList != ([116, 111, 107] : List UInt8)) = true := bne_iff_ne.mpr c4
    by_cases c5 : a0.toList = ([104, 97, 110, 100] : List UInt8)
    ·rw [if_pos c5] at H; have c5b0 : (a0.toList == ([104, 97, 110, 100] : List UInt8)) = true := beq_iff_eq.mpr c5; have c5b1 : (a0.toList != ([104, 97, 110, 100] : List UInt8)) = false := bne_eq_false_iff_eq.mpr c5; clear c5; obtain rfl := Option.some.inj H
     go_enter Tryd.func26, Tryd.ntmps26
     go_wp2
     go_ret
     exact ⟨by first | rfl | (simp [*] <;> rfl), by repeat (first | (with_reducible first | exact HB.out | apply bwa | apply bwn | apply bw1) | exact HB.out)⟩
    ·rw [if_neg c5] at H; have c5b0 : (a0.toList == ([104, 97, 110, 100] : List UInt8)) = false := beq_eq_false_iff_ne.mpr c5; have c5b1 : (a0.toList != ([104, 97, 110, 100] : List UInt8)) = true := bne_iff_ne.mpr c5
     by_cases c6 : a0.toList = ([97, 114, 114] : List UInt8)
     ·rw [if_pos c6] at H; have c6b0 : (a0.toList == ([97, 114, 114] : List UInt8)) = true := beq_iff_eq.mpr c6; have c6b1 : (a0.toList != ([97, 114, 114] : List UInt8)) = false := bne_eq_false_iff_eq.mpr c6; clear c6; obtain rfl := Option.some.inj H
      go_enter Tryd.func26, Tryd.ntmps26
      go_wp2
      go_ret
      exact ⟨by first | rfl | (simp [*] <;> rfl), by repeat (first | (with_reducible first | exact HB.out | apply bwa | apply bwn | apply bw1) | exact HB.out)⟩
     ·rw [if_neg c6] at H; have c6b0 : (a0.toList == ([97, 114, 114] : List UInt8)) = false := beq_eq_false_iff_ne.mpr c6; have c6b1 : (a0.toList != ([97, 114, 114] : List UInt8)) = true := bne_iff_ne.mpr c6; replace H := Option.bind_eq_some_iff.mp H; obtain ⟨t113, A70, H⟩ := H; replace H : (some t113) = some r := H; have A7 := As.mk A70; clear A70; obtain rfl := Option.some.inj H
      go_enter Tryd.func26, Tryd.ntmps26
      go_wp2_with (first | (go_at_call 28; (with_reducible refine (rin.calls k a0 t113 _ A7.out).mono ?_); rintro e w8 ⟨rfl, hb⟩; have n0_ := As.mk (bwp (by repeat (first | (with_reducible first | exact HB.out | apply bwa | apply bwn | apply bw1) | exact HB.out)) hb); clear HB; have HB := n0_; clear n0_; (try clear hb); (try clear hb2); (try clear hk); (try clear hi)))
      go_ret
      exact ⟨by first | rfl | (simp [*] <;> rfl), by repeat (first | (with_reducible first | exact HB.out | apply bwa | apply bwn | apply bw1) | exact HB.out)⟩
def detentref02_Op.f (a0 : ByteArray) : Option (Bool) := if a0.toList = ([43] : List UInt8) then (some true) else (if a0.toList = ([45] : List UInt8) then (some true) else (if a0.toList = ([42] : List UInt8) then (some true) else (if a0.toList = ([60] : List UInt8) then (some true) else (some (a0.toList == ([61, 61] : List UInt8))))))
set_option maxHeartbeats 8000000 in
set_option maxRecDepth 100000 in
theorem detentref02_Op.calls (a0 : ByteArray) (r : Bool) (w : World) (h : detentref02_Op.f a0 = some r) :
  Calls Tryd.prog 27 #[.string a0] w fun e w' => e = .returned (.bool r) ∧ D0w w w' := by
 have H : (if a0.toList = ([43] : List UInt8) then (some true) else (if a0.toList = ([45] : List UInt8) then (some true) else (if a0.toList = ([42] : List UInt8) then (some true) else (if a0.toList = ([60] : List UInt8) then (some true) else (some (a0.toList == ([61, 61] : List UInt8))))))) = some r := h; clear h
 by_cases c2 : a0.toList = ([43] : List UInt8)
 ·rw [if_pos c2] at H; have c2b0 : (a0.toList == ([43] : List UInt8)) = true := beq_iff_eq.mpr c2; have c2b1 : (a0.toList != ([43] : List UInt8)) = false := bne_eq_false_iff_eq.mpr c2; clear c2; obtain rfl := Option.some.inj H
  go_enter Tryd.func27, Tryd.ntmps27
  go_wp2
  go_ret
  exact ⟨by first | rfl | (simp; done) | (simp [*]; done), by repeat (first | exact D0w.refl _ | apply D0w.step)⟩
 ·rw [if_neg c2] at H; have c2b0 : (a0.toList == ([43] : List UInt8)) = false := beq_eq_false_iff_ne.mpr c2; have c2b1 : (a0.toList != ([43] : List UInt8)) = true := bne_iff_ne.mpr c2
  by_cases c3 : a0.toList = ([45] : List UInt8)
  ·rw [if_pos c3] at H; have c3b0 : (a0.toList == ([45] : List UInt8)) = true := beq_iff_eq.mpr c3; have c3b1 : (a0.toList != ([45] : List UInt8)) = false := bne_eq_false_iff_eq.mpr c3; clear c3; obtain rfl := Option.some.inj H
   go_enter Tryd.func27, Tryd.ntmps27
   go_wp2
   go_ret
   exact ⟨by first | rfl | (simp; done) | (simp [*]; done), by repeat (first | exact D0w.refl _ | apply D0w.step)⟩
  ·rw [if_neg c3] at H; have c3b0 : (a0.toList == ([45] : List UInt8)) = false := beq_eq_false_iff_ne.mpr c3; have c3b1 : (a0.toList != ([45] : List UInt8)) = true := bne_iff_ne.mpr c3
   by_cases c4 : a0.toList = ([42] : List UInt8)
   ·rw [if_pos c4] at H; have c4b0 : (a0.toList == ([42] : List UInt8)) = true := beq_iff_eq.mpr c4; have c4b1 : (a0.toList != ([42] : List UInt8)) = false := bne_eq_false_iff_eq.mpr c4; clear c4; obtain rfl := Option.some.inj H
    go_enter Tryd.func27, Tryd.ntmps27
    go_wp2
    go_ret
    exact ⟨by first | rfl | (simp; done) | (simp [*]; done), by repeat (first | exact D0w.refl _ | apply D0w.step)⟩
   ·rw [if_neg c4] at H; have c4b0 : (a0.toList == ([42] : List UInt8)) = false := beq_eq_false_iff_ne.mpr c4; have c4b1 : (a0.toList != ([42] : List UInt8)) = true := bne_iff_ne.mpr c4
    by_cases c5 : a0.toList = ([60] : List UInt8)
    ·rw [if_pos c5] at H; have c5b0 : (a0.toList == ([60] : List UInt8)) = true := beq_iff_eq.mpr c5; have c5b1 : (a0.toList != ([60] : List UInt8)) = false := bne_eq_false_iff_eq.mpr c5; clear c5; obtain rfl := Option.some.inj H
     go_enter Tryd.func27, Tryd.ntmps27
     go_wp2
     go_ret
     exact ⟨by first | rfl | (simp; done) | (simp [*]; done), by repeat (first | exact D0w.refl _ | apply D0w.step)⟩
    ·rw [if_neg c5] at H; have c5b0 : (a0.toList == ([60] : List UInt8)) = false := beq_eq_false_iff_ne.mpr c5; have c5b1 : (a0.toList != ([60] : List UInt8)) = true := bne_iff_ne.mpr c5; obtain rfl := Option.some.inj H
     go_enter Tryd.func27, Tryd.ntmps27
     go_wp2
     go_ret
     exact ⟨by first | rfl | (simp; done) | (simp [*]; done), by repeat (first | exact D0w.refl _ | apply D0w.step)⟩
end Go.Proofs.YtbpefmidgfmcaaaDoor.PTreeApart
end
section
namespace Go.Proofs.YtbpefmidgfmcaaaDoor.PTreeApart
open Go.RowKit Go.Proofs.YtbpefmidgfmcaaaDoorW.PrintWords Go.Proofs.YtbpefmidgfmcaaaDoorW.PrintLast Go.Proofs.YtbpefmidgfmcaaaDoorW.PrintMore
set_option linter.unusedVariables false
set_option linter.unusedSimpArgs false
def detentref02_text.f (k : Nat) (a0 : Int) (a1 : ByteArray) : Option (Bool) := if a0 = 5 then ((detentref02_Type.f k a1).bind fun t114 => (some t114)) else (if a0 = 32 then ((detentref02_Op.f a1).bind fun t115 => (some t115)) else (if a0 = 2 then ((rin.f k a1).bind fun t116 => (some t116)) else (if a0 = 3 then ((rin.f k a1).bind fun t117 => (some t117)) else (if a0 = 4 then ((rin.f k a1).bind fun t118 => (some t118)) else (if a0 = 6 then ((rin.f k a1).bind fun t119 => (some t119)) else (if a0 = 7 then ((rin.f k a1).bind fun t120 => (some t120)) else (if a0 = 8 then ((rin.f k a1).bind fun t121 => (some t121)) else (if a0 = 10 then ((rin.f k a1).bind fun t122 => (some t122)) else (if a0 = 13 then ((rin.f k a1).bind fun t123 => (some t123)) else (if a0 = 19 then ((rin.f k a1).bind fun t124 => (some t124)) else (if a0 = 21 then ((rin.f k a1).bind fun t125 => (some t125)) else (if a0 = 22 then ((rin.f k a1).bind fun t126 => (some t126)) else (if a0 = 29 then ((rin.f k a1).bind fun t127 => (some t127)) else (if a0 = 30 then ((rin.f k a1).bind fun t128 => (some t128)) else (if a0 = 33 then ((rin.f k a1).bind fun t129 => (some t129)) else (some (a1.toList == ([] : List UInt8))))))))))))))))))
set_option maxHeartbeats 8000000 in
set_option maxRecDepth 100000 in
theorem detentref02_text.calls (k : Nat) (a0 : Int) (a1 : ByteArray) (r : Bool) (w : World) (h : detentref02_text.f k a0 a1 = some r) :
  Calls Tryd.prog 13 #[.int .i64 a0, .string a1] w fun e w' => e = .returned (.bool r) ∧ Below w.heap.size w w' := by
 have HB := As.mk (Below.refl w.heap.size w); have H : (if a0 = 5 then ((detentref02_Type.f k a1).bind fun t114 => (some t114)) else (if a0 = 32 then ((detentref02_Op.f a1).bind fun t115 => (some t115)) else (if a0 = 2 then ((rin.f k a1).bind fun t116 => (some t116)) else (if a0 = 3 then ((rin.f k a1).bind fun t117 => (some t117)) else (if a0 = 4 then ((rin.f k a1).bind fun t118 => (some t118)) else (if a0 = 6 then ((rin.f k a1).bind fun t119 => (some t119)) else (if a0 = 7 then ((rin.f k a1).bind fun t120 => (some t120)) else (if a0 = 8 then ((rin.f k a1).bind fun t121 => (some t121)) else (if a0 = 10 then ((rin.f k a1).bind fun t122 => (some t122)) else (if a0 = 13 then ((rin.f k a1).bind fun t123 => (some t123)) else (if a0 = 19 then ((rin.f k a1).bind fun t124 => (some t124)) else (if a0 = 21 then ((rin.f k a1).bind fun t125 => (some t125)) else (if a0 = 22 then ((rin.f k a1).bind fun t126 => (some t126)) else (if a0 = 29 then ((rin.f k a1).bind fun t127 => (some t127)) else (if a0 = 30 then ((rin.f k a1).bind fun t128 => (some t128)) else (if a0 = 33 then ((rin.f k a1).bind fun t129 => (some t129)) else (some (a1.toList == ([] : List UInt8))))))))))))))))))) = some r := h; clear h
 by_cases c3 : a0 = 5
 ·rw [if_pos c3] at H; have c3b0 : (a0 == 5) = true := beq_iff_eq.mpr c3; have c3b1 : (a0 != 5) = false := bne_eq_false_iff_eq.mpr c3; clear c3; replace H := Option.bind_eq_some_iff.mp H; obtain ⟨t114, A40, H⟩ := H; replace H : (some t114) = some r := H; have A4 := As.mk A40; clear A40; obtain rfl := Option.some.inj H
  go_enter Tryd.func13, Tryd.ntmps13
  go_wp2_with (first | ((with_reducible refine gate_callee (f := 26) rfl ?_); refine goesL_ (some 9) rfl rfl Tryd.func26 (by kernel_rfl) rfl #[.string a1] rfl (by (try simp only [List.map_toArray, List.map_cons, List.map_nil]); first | done | rfl | (simp only [List.length_drop, List.length_take]; rfl)) ?_; (with_reducible refine (detentref02_Type.calls k a1 t114 _ A4.out).mono ?_); rintro e w5 ⟨rfl, hb⟩; refine ⟨_, rfl, ?_⟩; have n0_ := As.mk (bwp (by repeat (first | (with_reducible first | exact HB.out | apply bwa | apply bwn | apply bw1) | exact HB.out)) hb); clear HB; have HB := n0_; clear n0_; (try clear hb); (try clear hb2); (try clear hk); (try clear hi)))
  go_ret
  exact ⟨by first | rfl | (simp [*] <;> rfl), by repeat (first | (with_reducible first | exact HB.out | apply bwa | apply bwn | apply bw1) | exact HB.out)⟩
 ·rw [if_neg c3] at H; have c3b0 : (a0 == 5) = false := beq_eq_false_iff_ne.mpr c3; have c3b1 : (a0 != 5) = true := bne_iff_ne.mpr c3
  by_cases c6 : a0 = 32
  ·rw [if_pos c6] at H; have c6b0 : (a0 == 32) = true := beq_iff_eq.mpr c6; have c6b1 : (a0 != 32) = false := bne_eq_false_iff_eq.mpr c6; clear c6; replace H := Option.bind_eq_some_iff.mp H; obtain ⟨t115, A70, H⟩ := H; replace H : (some t115) = some r := H; have A7 := As.mk A70; clear A70; obtain rfl := Option.some.inj H
   go_enter Tryd.func13, Tryd.ntmps13
   go_wp2_with (first | ((with_reducible refine gate_callee (f := 27) rfl ?_); refine goesL_ (some 13) rfl rfl Tryd.func27 (by kernel_rfl) rfl #[.string a1] rfl (by (try simp only [List.map_toArray, List.map_cons, List.map_nil]); first | done | rfl | (simp only [List.length_drop, List.length_take]; rfl)) ?_; (with_reducible refine (detentref02_Op.calls a1 t115 _ A7.out).mono ?_); rintro e w' ⟨rfl, ⟨nd, rfl⟩⟩; refine ⟨_, rfl, ?_⟩))
   go_ret
   exact ⟨by first | rfl | (simp [*] <;> rfl), by repeat (first | (with_reducible first | exact HB.out | apply bwa | apply bwn | apply bw1) | exact HB.out)⟩
  ·rw [if_neg c6] at H; have c6b0 : (a0 == 32) = false := beq_eq_false_iff_ne.mpr c6; have c6b1 : (a0 != 32) = true := bne_iff_ne.mpr c6
   by_cases c8 : a0 = 2
   ·rw [if_pos c8] at H; have c8b0 : (a0 == 2) = true := beq_iff_eq.mpr c8; have c8b1 : (a0 != 2) = false := bne_eq_false_iff_eq.mpr c8; clear c8; replace H := Option.bind_eq_some_iff.mp H; obtain ⟨t116, A90, H⟩ := H; replace H : (some t116) = some r := H; have A9 := As.mk A90; clear A90; obtain rfl := Option.some.inj H
    go_enter Tryd.func13, Tryd.ntmps13
    go_wp2_with (first | ((with_reducible refine gate_callee (f := 28) rfl ?_); refine goesL_ (some 30) rfl rfl Tryd.func28 (by kernel_rfl) rfl #[.string a1] rfl (by (try simp only [List.map_toArray, List.map_cons, List.map_nil]); first | done | rfl | (simp only [List.length_drop, List.length_take]; rfl)) ?_; (with_reducible refine (rin.calls k a1 t116 _ A9.out).mono ?_); rintro e w10 ⟨rfl, hb⟩; refine ⟨_, rfl, ?_⟩; have n0_ := As.mk (bwp (by repeat (first | (with_reducible first | exact HB.out | apply bwa | apply bwn | apply bw1) | exact HB.out)) hb); clear HB; have HB := n0_; clear n0_; (try clear hb); (try clear hb2); (try clear hk); (try clear hi)))
    go_ret
    exact ⟨by first | rfl | (simp [*] <;> rfl), by repeat (first | (with_reducible first | exact HB.out | apply bwa | apply bwn | apply bw1) | exact HB.out)⟩
   ·rw [if_neg c8] at H; have c8b0 : (a0 == 2) = false := beq_eq_false_iff_ne.mpr c8; have c8b1 : (a0 != 2) = true := bne_iff_ne.mpr c8
    by_cases c11 : a0 = 3
    ·rw [if_pos c11] at H; have c11b0 : (a0 == 3) = true := beq_iff_eq.mpr c11; have c11b1 : (a0 != 3) = false := bne_eq_false_iff_eq.mpr c11; clear c11; replace H := Option.bind_eq_some_iff.mp H; obtain ⟨t117, A120, H⟩ := H; replace H : (some t117) = some r := H; have A12 := As.mk A120; clear A120; obtain rfl := Option.some.inj H
     go_enter Tryd.func13, Tryd.ntmps13
     go_wp2_with (first | ((with_reducible refine gate_callee (f := 28) rfl ?_); refine goesL_ (some 30) rfl rfl Tryd.func28 (by kernel_rfl) rfl #[.string a1] rfl (by (try simp only [List.map_toArray, List.map_cons, List.map_nil]); first | done | rfl | (simp only [List.length_drop, List.length_take]; rfl)) ?_; (with_reducible refine (rin.calls k a1 t117 _ A12.out).mono ?_); rintro e w13 ⟨rfl, hb⟩; refine ⟨_, rfl, ?_⟩; have n0_ := As.mk (bwp (by repeat (first | (with_reducible first | exact HB.out | apply bwa | apply bwn | apply bw1) | exact HB.out)) hb); clear HB; have HB := n0_; clear n0_; (try clear hb); (try clear hb2); (try clear hk); (try clear hi)))
     go_ret
     exact ⟨by first | rfl | (simp [*] <;> rfl), by repeat (first | (with_reducible first | exact HB.out | apply bwa | apply bwn | apply bw1) | exact HB.out)⟩
    ·rw [if_neg c11] at H; have c11b0 : (a0 == 3) = false := beq_eq_false_iff_ne.mpr c11; have c11b1 : (a0 != 3) = true := bne_iff_ne.mpr c11
     by_cases c14 : a0 = 4
     ·rw [if_pos c14] at H; have c14b0 : (a0 == 4) = true := beq_iff_eq.mpr c14; have c14b1 : (a0 != 4) = false := bne_eq_false_iff_eq.mpr c14; clear c14; replace H := Option.bind_eq_some_iff.mp H; obtain ⟨t118, A150, H⟩ := H; replace H : (some t118) = some r := H; have A15 := As.mk A150; clear A150; obtain rfl := Option.some.inj H
      go_enter Tryd.func13, Tryd.ntmps13
      go_wp2_with (first | ((with_reducible refine gate_callee (f := 28) rfl ?_); refine goesL_ (some 30) rfl rfl Tryd.func28 (by kernel_rfl) rfl #[.string a1] rfl (by (try simp only [List.map_toArray, List.map_cons, List.map_nil]); first | done | rfl | (simp only [List.length_drop, List.length_take]; rfl)) ?_; (with_reducible refine (rin.calls k a1 t118 _ A15.out).mono ?_); rintro e w16 ⟨rfl, hb⟩; refine ⟨_, rfl, ?_⟩; have n0_ := As.mk (bwp (by repeat (first | (with_reducible first | exact HB.out | apply bwa | apply bwn | apply bw1) | exact HB.out)) hb); clear HB; have HB := n0_; clear n0_; (try clear hb); (try clear hb2); (try clear hk); (try clear hi)))
      go_ret
      exact ⟨by first | rfl | (simp [*] <;> rfl), by repeat (first | (with_reducible first | exact HB.out | apply bwa | apply bwn | apply bw1) | exact HB.out)⟩
     ·rw [if_neg c14] at H; have c14b0 : (a0 == 4) = false := beq_eq_false_iff_ne.mpr c14; have c14b1 : (a0 != 4) = true := bne_iff_ne.mpr c14
      by_cases c17 : a0 = 6
      ·rw [if_pos c17] at H; have c17b0 : (a0 == 6) = true := beq_iff_eq.mpr c17; have c17b1 : (a0 != 6) = false := bne_eq_false_iff_eq.mpr c17; clear c17; replace H := Option.bind_eq_some_iff.mp H; obtain ⟨t119, A180, H⟩ := H; replace H : (some t119) = some r := H; have A18 := As.mk A180; clear A180; obtain rfl := Option.some.inj H
       go_enter Tryd.func13, Tryd.ntmps13
       go_wp2_with (first | ((with_reducible refine gate_callee (f := 28) rfl ?_); refine goesL_ (some 30) rfl rfl Tryd.func28 (by kernel_rfl) rfl #[.string a1] rfl (by (try simp only [List.map_toArray, List.map_cons, List.map_nil]); first | done | rfl | (simp only [List.length_drop, List.length_take]; rfl)) ?_; (with_reducible refine (rin.calls k a1 t119 _ A18.out).mono ?_); rintro e w19 ⟨rfl, hb⟩; refine ⟨_, rfl, ?_⟩; have n0_ := As.mk (bwp (by repeat (first | (with_reducible first | exact HB.out | apply bwa | apply bwn | apply bw1) | exact HB.out)) hb); clear HB; have HB := n0_; clear n0_; (try clear hb); (try clear hb2); (try clear hk); (try clear hi)))
       go_ret
       exact ⟨by first | rfl | (simp [*] <;> rfl), by repeat (first | (with_reducible first | exact HB.out | apply bwa | apply bwn | apply bw1) | exact HB.out)⟩
      ·rw [if_neg c17] at H; have c17b0 : (a0 == 6) = false := beq_eq_false_iff_ne.mpr c17; have c17b1 : (a0 != 6) = true := bne_iff_ne.mpr c17
       by_cases c20 : a0 = 7
       ·rw [if_pos c20] at H; have c20b0 : (a0 == 7) = true := beq_iff_eq.mpr c20; have c20b1 : (a0 != 7) = false := bne_eq_false_iff_eq.mpr c20; clear c20; replace H := Option.bind_eq_some_iff.mp H; obtain ⟨t120, A210, H⟩ := H; replace H : (some t120) = some r := H; have A21 := As.mk A210; clear A210; obtain rfl := Option.some.inj H
        go_enter Tryd.func13, Tryd.ntmps13
        go_wp2_with (first | ((with_reducible refine gate_callee (f := 28) rfl ?_); refine goesL_ (some 30) rfl rfl Tryd.func28 (by kernel_rfl) rfl #[.string a1] rfl (by (try simp only [List.map_toArray, List.map_cons, List.map_nil]); first | done | rfl | (simp only [List.length_drop, List.length_take]; rfl)) ?_; (with_reducible refine (rin.calls k a1 t120 _ A21.out).mono ?_); rintro e w22 ⟨rfl, hb⟩; refine ⟨_, rfl, ?_⟩; have n0_ := As.mk (bwp (by repeat (first | (with_reducible first | exact HB.out | apply bwa | apply bwn | apply bw1) | exact HB.out)) hb); clear HB; have HB := n0_; clear n0_; (try clear hb); (try clear hb2); (try clear hk); (try clear hi)))
        go_ret
        exact ⟨by first | rfl | (simp [*] <;> rfl), by repeat (first | (with_reducible first | exact HB.out | apply bwa | apply bwn | apply bw1) | exact HB.out)⟩
       ·rw [if_neg c20] at H; have c20b0 : (a0 == 7) = false := beq_eq_false_iff_ne.mpr c20; have c20b1 : (a0 != 7) = true := bne_iff_ne.mpr c20
        by_cases c23 : a0 = 8
        ·rw [if_pos c23] at H; have c23b0 : (a0 == 8) = true := beq_iff_eq.mpr c23; have c23b1 : (a0 != 8) = false := bne_eq_false_iff_eq.mpr c23; clear c23; replace H := Option.bind_eq_some_iff.mp H; obtain ⟨t121, A240, H⟩ := H; replace H : (some t121) = some r := H; have A24 := As.mk A240; clear A240; obtain rfl := Option.some.inj H
         go_enter Tryd.func13, Tryd.ntmps13
         go_wp2_with (first | ((with_reducible refine gate_callee (f := 28) rfl ?_); refine goesL_ (some 30) rfl rfl Tryd.func28 (by kernel_rfl) rfl #[.string a1] rfl (by (try simp only [List.map_toArray, List.map_cons, List.map_nil]); first | done | rfl | (simp only [List.length_drop, List.length_take]; rfl)) ?_; (with_reducible refine (rin.calls k a1 t121 _ A24.out).mono ?_); rintro e w25 ⟨rfl, hb⟩; refine ⟨_, rfl, ?_⟩; have n0_ := As.mk (bwp (by repeat (first | (with_reducible first | exact HB.out | apply bwa | apply bwn | apply bw1) | exact HB.out)) hb); clear HB; have HB := n0_; clear n0_; (try clear hb); (try clear hb2); (try clear hk); (try clear hi)))
         go_ret
         exact ⟨by first | rfl | (simp [*] <;> rfl), by repeat (first | (with_reducible first | exact HB.out | apply bwa | apply bwn | apply bw1) | exact HB.out)⟩
        ·rw [if_neg c23] at H; have c23b0 : (a0 == 8) = false := beq_eq_false_iff_ne.mpr c23; have c23b1 : (a0 != 8) = true := bne_iff_ne.mpr c23
         by_cases c26 : a0 = 10
         ·rw [if_pos c26] at H; have c26b0 : (a0 == 10) = true := beq_iff_eq.mpr c26; have c26b1 : (a0 != 10) = false := bne_eq_false_iff_eq.mpr c26; clear c26; replace H := Option.bind_eq_some_iff.mp H; obtain ⟨t122, A270, H⟩ := H; replace H : (some t122) = some r := H; have A27 := As.mk A270; clear A270; obtain rfl := Option.some.inj H
          go_enter Tryd.func13, Tryd.ntmps13
          go_wp2_with (first | ((with_reducible refine gate_callee (f := 28) rfl ?_); refine goesL_ (some 30) rfl rfl Tryd.func28 (by kernel_rfl) rfl #[.string a1] rfl (by (try simp only [List.map_toArray, List.map_cons, List.map_nil]); first | done | rfl | (simp only [List.length_drop, List.length_take]; rfl)) ?_; (with_reducible refine (rin.calls k a1 t122 _ A27.out).mono ?_); rintro e w28 ⟨rfl, hb⟩; refine ⟨_, rfl, ?_⟩; have n0_ := As.mk (bwp (by repeat (first | (with_reducible first | exact HB.out | apply bwa | apply bwn | apply bw1) | exact HB.out)) hb); clear HB; have HB := n0_; clear n0_; (try clear hb); (try clear hb2); (try clear hk); (try clear hi)))
          go_ret
          exact ⟨by first | rfl | (simp [*] <;> rfl), by repeat (first | (with_reducible first | exact HB.out | apply bwa | apply bwn | apply bw1) | exact HB.out)⟩
         ·rw [if_neg c26] at H; have c26b0 : (a0 == 10) = false := beq_eq_false_iff_ne.mpr c26; have c26b1 : (a0 != 10) = true := bne_iff_ne.mpr c26
          by_cases c29 : a0 = 13
          ·rw [if_pos c29] at H; have c29b0 : (a0 == 13) = true := beq_iff_eq.mpr c29; have c29b1 : (a0 != 13) = false := bne_eq_false_iff_eq.mpr c29; clear c29; replace H := Option.bind_eq_some_iff.mp H; obtain ⟨t123, A300, H⟩ := H; replace H : (some t123) = some r := H; have A30 := As.mk A300; clear A300; obtain rfl := Option.some.inj H
           go_enter Tryd.func13, Tryd.ntmps13
           go_wp2_with (first | ((with_reducible refine gate_callee (f := 28) rfl ?_); refine goesL_ (some 30) rfl rfl Tryd.func28 (by kernel_rfl) rfl #[.string a1] rfl (by (try simp only [List.map_toArray, List.map_cons, List.map_nil]); first | done | rfl | (simp only [List.length_drop, List.length_take]; rfl)) ?_; (with_reducible refine (rin.calls k a1 t123 _ A30.out).mono ?_); rintro e w31 ⟨rfl, hb⟩; refine ⟨_, rfl, ?_⟩; have n0_ := As.mk (bwp (by repeat (first | (with_reducible first | exact HB.out | apply bwa | apply bwn | apply bw1) | exact HB.out)) hb); clear HB; have HB := n0_; clear n0_; (try clear hb); (try clear hb2); (try clear hk); (try clear hi)))
           go_ret
           exact ⟨by first | rfl | (simp [*] <;> rfl), by repeat (first | (with_reducible first | exact HB.out | apply bwa | apply bwn | apply bw1) | exact HB.out)⟩
          ·rw [if_neg c29] at H; have c29b0 : (a0 == 13) = false := beq_eq_false_iff_ne.mpr c29; have c29b1 : (a0 != 13) = true := bne_iff_ne.mpr c29
           by_cases c32 : a0 = 19
           ·rw [if_pos c32] at H; have c32b0 : (a0 == 19) = true := beq_iff_eq.mpr c32; have c32b1 : (a0 != 19) = false := bne_eq_false_iff_eq.mpr c32; clear c32; replace H := Option.bind_eq_some_iff.mp H; obtain ⟨t124, A330, H⟩ := H; replace H : (some t124) = some r := H; have A33 := As.mk A330; clear A330; obtain rfl := Option.some.inj H
            go_enter Tryd.func13, Tryd.ntmps13
            go_wp2_with (first | ((with_reducible refine gate_callee (f := 28) rfl ?_); refine goesL_ (some 30) rfl rfl Tryd.func28 (by kernel_rfl) rfl #[.string a1] rfl (by (try simp only [List.map_toArray, List.map_cons, List.map_nil]); first | done | rfl | (simp only [List.length_drop, List.length_take]; rfl)) ?_; (with_reducible refine (rin.calls k a1 t124 _ A33.out).mono ?_); rintro e w34 ⟨rfl, hb⟩; refine ⟨_, rfl, ?_⟩; have n0_ := As.mk (bwp (by repeat (first | (with_reducible first | exact HB.out | apply bwa | apply bwn | apply bw1) | exact HB.out)) hb); clear HB; have HB := n0_; clear n0_; (try clear hb); (try clear hb2); (try clear hk); (try clear hi)))
            go_ret
            exact ⟨by first | rfl | (simp [*] <;> rfl), by repeat (first | (with_reducible first | exact HB.out | apply bwa | apply bwn | apply bw1) | exact HB.out)⟩
           ·rw [if_neg c32] at H; have c32b0 : (a0 == 19) = false := beq_eq_false_iff_ne.mpr c32; have c32b1 : (a0 != 19) = true := bne_iff_ne.mpr c32
            by_cases c35 : a0 = 21
            ·rw [if_pos c35] at H; have c35b0 : (a0 == 21) = true := beq_iff_eq.mpr c35; have c35b1 : (a0 != 21) = false := bne_eq_false_iff_eq.mpr c35; clear c35; replace H := Option.bind_eq_some_iff.mp H; obtain ⟨t125, A360, H⟩ := H; replace H : (some t125) = some r := H; have A36 := As.mk A360; clear A360; obtain rfl := Option.some.inj H
             go_enter Tryd.func13, Tryd.ntmps13
             go_wp2_with (first | ((with_reducible refine gate_callee (f := 28) rfl ?_); refine goesL_ (some 30) rfl rfl Tryd.func28 (by kernel_rfl) rfl #[.string a1] rfl (by (try simp only [List.map_toArray, List.map_cons, List.map_nil]); first | done | rfl | (simp only [List.length_drop, List.length_take]; rfl)) ?_; (with_reducible refine (rin.calls k a1 t125 _ A36.out).mono ?_); rintro e w37 ⟨rfl, hb⟩; refine ⟨_, rfl, ?_⟩; have n0_ := As.mk (bwp (by repeat (first | (with_reducible first | exact HB.out | apply bwa | apply bwn | apply bw1) | exact HB.out)) hb); clear HB; have HB := n0_; clear n0_; (try clear hb); (try clear hb2); (try clear hk); (try clear hi)))
             go_ret
             exact ⟨by first | rfl | (simp [*] <;> rfl), by repeat (first | (with_reducible first | exact HB.out | apply bwa | apply bwn | apply bw1) | exact HB.out)⟩
            ·rw [if_neg c35] at H; have c35b0 : (a0 == 21) = false := beq_eq_false_iff_ne.mpr c35; have c35b1 : (a0 != 21) = true := bne_iff_ne.mpr c35
             by_cases c38 : a0 = 22
             ·rw [if_pos c38] at H; have c38b0 : (a0 == 22) = true := beq_iff_eq.mpr c38; have c38b1 : (a0 != 22) = false := bne_eq_false_iff_eq.mpr c38; clear c38; replace H := Option.bind_eq_some_iff.mp H; obtain ⟨t126, A390, H⟩ := H; replace H : (some t126) = some r := H; have A39 := As.mk A390; clear A390; obtain rfl := Option.some.inj H
              go_enter Tryd.func13, Tryd.ntmps13
              go_wp2_with (first | ((with_reducible refine gate_callee (f := 28) rfl ?_); refine goesL_ (some 30) rfl rfl Tryd.func28 (by kernel_rfl) rfl #[.string a1] rfl (by (try simp only [List.map_toArray, List.map_cons, List.map_nil]); first | done | rfl | (simp only [List.length_drop, List.length_take]; rfl)) ?_; (with_reducible refine (rin.calls k a1 t126 _ A39.out).mono ?_); rintro e w40 ⟨rfl, hb⟩; refine ⟨_, rfl, ?_⟩; have n0_ := As.mk (bwp (by repeat (first | (with_reducible first | exact HB.out | apply bwa | apply bwn | apply bw1) | exact HB.out)) hb); clear HB; have HB := n0_; clear n0_; (try clear hb); (try clear hb2); (try clear hk); (try clear hi)))
              go_ret
              exact ⟨by first | rfl | (simp [*] <;> rfl), by repeat (first | (with_reducible first | exact HB.out | apply bwa | apply bwn | apply bw1) | exact HB.out)⟩
             ·rw [if_neg c38] at H; have c38b0 : (a0 == 22) = false := beq_eq_false_iff_ne.mpr c38; have c38b1 : (a0 != 22) = true := bne_iff_ne.mpr c38
              by_cases c41 : a0 = 29
              ·rw [if_pos c41] at H; have c41b0 : (a0 == 29) = true := beq_iff_eq.mpr c41; have c41b1 : (a0 != 29) = false := bne_eq_false_iff_eq.mpr c41; clear c41; replace H := Option.bind_eq_some_iff.mp H; obtain ⟨t127, A420, H⟩ := H; replace H : (some t127) = some r := H; have A42 := As.mk A420; clear A420; obtain rfl := Option.some.inj H
               go_enter Tryd.func13, Tryd.ntmps13
               go_wp2_with (first | ((with_reducible refine gate_callee (f := 28) rfl ?_); refine goesL_ (some 30) rfl rfl Tryd.func28 (by kernel_rfl) rfl #[.string a1] rfl (by (try simp only [List.map_toArray, List.map_cons, List.map_nil]); first | done | rfl | (simp only [List.length_drop, List.length_take]; rfl)) ?_; (with_reducible refine (rin.calls k a1 t127 _ A42.out).mono ?_); rintro e w43 ⟨rfl, hb⟩; refine ⟨_, rfl, ?_⟩; have n0_ := As.mk (bwp (by repeat (first | (with_reducible first | exact HB.out | apply bwa | apply bwn | apply bw1) | exact HB.out)) hb); clear HB; have HB := n0_; clear n0_; (try clear hb); (try clear hb2); (try clear hk); (try clear hi)))
               go_ret
               exact ⟨by first | rfl | (simp [*] <;> rfl), by repeat (first | (with_reducible first | exact HB.out | apply bwa | apply bwn | apply bw1) | exact HB.out)⟩
              ·rw [if_neg c41] at H; have c41b0 : (a0 == 29) = false := beq_eq_false_iff_ne.mpr c41; have c41b1 : (a0 != 29) = true := bne_iff_ne.mpr c41
               by_cases c44 : a0 = 30
               ·rw [if_pos c44] at H; have c44b0 : (a0 == 30) = true := beq_iff_eq.mpr c44; have c44b1 : (a0 != 30) = false := bne_eq_false_iff_eq.mpr c44; clear c44; replace H := Option.bind_eq_some_iff.mp H; obtain ⟨t128, A450, H⟩ := H; replace H : (some t128) = some r := H; have A45 := As.mk A450; clear A450; obtain rfl := Option.some.inj H
                go_enter Tryd.func13, Tryd.ntmps13
                go_wp2_with (first | ((with_reducible refine gate_callee (f := 28) rfl ?_); refine goesL_ (some 30) rfl rfl Tryd.func28 (by kernel_rfl) rfl #[.string a1] rfl (by (try simp only [List.map_toArray, List.map_cons, List.map_nil]); first | done | rfl | (simp only [List.length_drop, List.length_take]; rfl)) ?_; (with_reducible refine (rin.calls k a1 t128 _ A45.out).mono ?_); rintro e w46 ⟨rfl, hb⟩; refine ⟨_, rfl, ?_⟩; have n0_ := As.mk (bwp (by repeat (first | (with_reducible first | exact HB.out | apply bwa | apply bwn | apply bw1) | exact HB.out)) hb); clear HB; have HB := n0_; clear n0_; (try clear hb); (try clear hb2); (try clear hk); (try clear hi)))
                go_ret
                exact ⟨by first | rfl | (simp [*] <;> rfl), by repeat (first | (with_reducible first | exact HB.out | apply bwa | apply bwn | apply bw1) | exact HB.out)⟩
               ·rw [if_neg c44] at H; have c44b0 : (a0 == 30) = false := beq_eq_false_iff_ne.mpr c44; have c44b1 : (a0 != 30) = true := bne_iff_ne.mpr c44
                by_cases c47 : a0 = 33
                ·rw [if_pos c47] at H; have c47b0 : (a0 == 33) = true := beq_iff_eq.mpr c47; have c47b1 : (a0 != 33) = false := bne_eq_false_iff_eq.mpr c47; clear c47; replace H := Option.bind_eq_some_iff.mp H; obtain ⟨t129, A480, H⟩ := H; replace H : (some t129) = some r := H; have A48 := As.mk A480; clear A480; obtain rfl := Option.some.inj H
                 go_enter Tryd.func13, Tryd.ntmps13
                 go_wp2_with (first | ((with_reducible refine gate_callee (f := 28) rfl ?_); refine goesL_ (some 30) rfl rfl Tryd.func28 (by kernel_rfl) rfl #[.string a1] rfl (by (try simp only [List.map_toArray, List.map_cons, List.map_nil]); first | done | rfl | (simp only [List.length_drop, List.length_take]; rfl)) ?_; (with_reducible refine (rin.calls k a1 t129 _ A48.out).mono ?_); rintro e w49 ⟨rfl, hb⟩; refine ⟨_, rfl, ?_⟩; have n0_ := As.mk (bwp (by repeat (first | (with_reducible first | exact HB.out | apply bwa | apply bwn | apply bw1) | exact HB.out)) hb); clear HB; have HB := n0_; clear n0_; (try clear hb); (try clear hb2); (try clear hk); (try clear hi)))
                 go_ret
                 exact ⟨by first | rfl | (simp [*] <;> rfl), by repeat (first | (with_reducible first | exact HB.out | apply bwa | apply bwn | apply bw1) | exact HB.out)⟩
                ·rw [if_neg c47] at H; have c47b0 : (a0 == 33) = false := beq_eq_false_iff_ne.mpr c47; have c47b1 : (a0 != 33) = true := bne_iff_ne.mpr c47; obtain rfl := Option.some.inj H
                 go_enter Tryd.func13, Tryd.ntmps13
                 go_wp2
                 go_ret
                 exact ⟨by first | rfl | (simp [*] <;> rfl), by repeat (first | (with_reducible first | exact HB.out | apply bwa | apply bwn | apply bw1) | exact HB.out)⟩
def detentref02_number.f (a0 : Int) (a1 : Int) : Option (Bool) := if a0 = 9 then (if a1 ≥ 0 then (some (decide (a1 ≤ 3))) else (some false)) else (if a0 = 10 then (if a1 = 0 then (some true) else (some (a1 == 1))) else (if a0 = 19 then (if a1 ≥ (-1) then (some (decide (a1 ≤ 2147483647))) else (some false)) else (if a0 = 26 then (if a1 ≥ 0 then (some (decide (a1 ≤ 2147483647))) else (some false)) else (some (a1 == 0)))))
set_option maxHeartbeats 8000000 in
set_option maxRecDepth 100000 in
theorem detentref02_number.calls (a0 : Int) (a1 : Int) (r : Bool) (w : World) (h : detentref02_number.f a0 a1 = some r) :
  Calls Tryd.prog 14 #[.int .i64 a0, .int .i64 a1] w fun e w' => e = .returned (.bool r) ∧ D0w w w' := by
 have H : (if a0 = 9 then (if a1 ≥ 0 then (some (decide (a1 ≤ 3))) else (some false)) else (if a0 = 10 then (if a1 = 0 then (some true) else (some (a1 == 1))) else (if a0 = 19 then (if a1 ≥ (-1) then (some (decide (a1 ≤ 2147483647))) else (some false)) else (if a0 = 26 then (if a1 ≥ 0 then (some (decide (a1 ≤ 2147483647))) else (some false)) else (some (a1 == 0)))))) = some r := h; clear h
 by_cases c3 : a0 = 9
 ·rw [if_pos c3] at H; have c3b0 : (a0 == 9) = true := beq_iff_eq.mpr c3; have c3b1 : (a0 != 9) = false := bne_eq_false_iff_eq.mpr c3; clear c3
  by_cases c4 : a1 ≥ 0
  ·rw [if_pos c4] at H; have c4b0 : decide (0 ≤ a1) = true := decide_eq_true c4; clear c4; obtain rfl := Option.some.inj H
   go_enter Tryd.func14, Tryd.ntmps14
   go_wp2
   go_ret
   exact ⟨by first | rfl | (simp; done) | (simp [*]; done), by repeat (first | exact D0w.refl _ | apply D0w.step)⟩
  ·rw [if_neg c4] at H; have c4b0 : decide (0 ≤ a1) = false := decide_eq_false c4; clear c4; obtain rfl := Option.some.inj H
   go_enter Tryd.func14, Tryd.ntmps14
   go_wp2
   go_ret
   exact ⟨by first | rfl | (simp; done) | (simp [*]; done), by repeat (first | exact D0w.refl _ | apply D0w.step)⟩
 ·rw [if_neg c3] at H; have c3b0 : (a0 == 9) = false := beq_eq_false_iff_ne.mpr c3; have c3b1 : (a0 != 9) = true := bne_iff_ne.mpr c3
  by_cases c5 : a0 = 10
  ·rw [if_pos c5] at H; have c5b0 : (a0 == 10) = true := beq_iff_eq.mpr c5; have c5b1 : (a0 != 10) = false := bne_eq_false_iff_eq.mpr c5; clear c5
   by_cases c6 : a1 = 0
   ·rw [if_pos c6] at H; have c6b0 : (a1 == 0) = true := beq_iff_eq.mpr c6; have c6b1 : (a1 != 0) = false := bne_eq_false_iff_eq.mpr c6; clear c6; obtain rfl := Option.some.inj H
    go_enter Tryd.func14, Tryd.ntmps14
    go_wp2
    go_ret
    exact ⟨by first | rfl | (simp; done) | (simp [*]; done), by repeat (first | exact D0w.refl _ | apply D0w.step)⟩
   ·rw [if_neg c6] at H; have c6b0 : (a1 == 0) = false := beq_eq_false_iff_ne.mpr c6; have c6b1 : (a1 != 0) = true := bne_iff_ne.mpr c6; obtain rfl := Option.some.inj H
    go_enter Tryd.func14, Tryd.ntmps14
    go_wp2
    go_ret
    exact ⟨by first | rfl | (simp; done) | (simp [*]; done), by repeat (first | exact D0w.refl _ | apply D0w.step)⟩
  ·rw [if_neg c5] at H; have c5b0 : (a0 == 10) = false := beq_eq_false_iff_ne.mpr c5; have c5b1 : (a0 != 10) = true := bne_iff_ne.mpr c5
   by_cases c7 : a0 = 19
   ·rw [if_pos c7] at H; have c7b0 : (a0 == 19) = true := beq_iff_eq.mpr c7; have c7b1 : (a0 != 19) = false := bne_eq_false_iff_eq.mpr c7; clear c7
    by_cases c8 : a1 ≥ (-1)
    ·rw [if_pos c8] at H; have c8b0 : decide ((-1) ≤ a1) = true := decide_eq_true c8; clear c8; obtain rfl := Option.some.inj H
     go_enter Tryd.func14, Tryd.ntmps14
     go_wp2
     go_ret
     exact ⟨by first | rfl | (simp; done) | (simp [*]; done), by repeat (first | exact D0w.refl _ | apply D0w.step)⟩
    ·rw [if_neg c8] at H; have c8b0 : decide ((-1) ≤ a1) = false := decide_eq_false c8; clear c8; obtain rfl := Option.some.inj H
     go_enter Tryd.func14, Tryd.ntmps14
     go_wp2
     go_ret
     exact ⟨by first | rfl | (simp; done) | (simp [*]; done), by repeat (first | exact D0w.refl _ | apply D0w.step)⟩
   ·rw [if_neg c7] at H; have c7b0 : (a0 == 19) = false := beq_eq_false_iff_ne.mpr c7; have c7b1 : (a0 != 19) = true := bne_iff_ne.mpr c7
    by_cases c9 : a0 = 26
    ·rw [if_pos c9] at H; have c9b0 : (a0 == 26) = true := beq_iff_eq.mpr c9; have c9b1 : (a0 != 26) = false := bne_eq_false_iff_eq.mpr c9; clear c9
     by_cases c10 : a1 ≥ 0
     ·rw [if_pos c10] at H; have c10b0 : decide (0 ≤ a1) = true := decide_eq_true c10; clear c10; obtain rfl := Option.some.inj H
      go_enter Tryd.func14, Tryd.ntmps14
      go_wp2
      go_ret
      exact ⟨by first | rfl | (simp; done) | (simp [*]; done), by repeat (first | exact D0w.refl _ | apply D0w.step)⟩
     ·rw [if_neg c10] at H; have c10b0 : decide (0 ≤ a1) = false := decide_eq_false c10; clear c10; obtain rfl := Option.some.inj H
      go_enter Tryd.func14, Tryd.ntmps14
      go_wp2
      go_ret
      exact ⟨by first | rfl | (simp; done) | (simp [*]; done), by repeat (first | exact D0w.refl _ | apply D0w.step)⟩
    ·rw [if_neg c9] at H; have c9b0 : (a0 == 26) = false := beq_eq_false_iff_ne.mpr c9; have c9b1 : (a0 != 26) = true := bne_iff_ne.mpr c9; obtain rfl := Option.some.inj H
     go_enter Tryd.func14, Tryd.ntmps14
     go_wp2
     go_ret
     exact ⟨by first | rfl | (simp; done) | (simp [*]; done), by repeat (first | exact D0w.refl _ | apply D0w.step)⟩
def detentref02_Term.f (a0 : Int) : Option (Bool) := if a0 ≥ 26 then (some (decide (a0 ≤ 36))) else (some false)
set_option maxHeartbeats 8000000 in
set_option maxRecDepth 100000 in
theorem detentref02_Term.calls (a0 : Int) (r : Bool) (w : World) (h : detentref02_Term.f a0 = some r) :
  Calls Tryd.prog 51 #[.int .i64 a0] w fun e w' => e = .returned (.bool r) ∧ D0w w w' := by
 have H : (if a0 ≥ 26 then (some (decide (a0 ≤ 36))) else (some false)) = some r := h; clear h
 by_cases c2 : a0 ≥ 26
 ·rw [if_pos c2] at H; have c2b0 : decide (26 ≤ a0) = true := decide_eq_true c2; clear c2; obtain rfl := Option.some.inj H
  go_enter Tryd.func51, Tryd.ntmps51
  go_wp2
  go_ret
  exact ⟨by first | rfl | (simp; done) | (simp [*]; done), by repeat (first | exact D0w.refl _ | apply D0w.step)⟩
 ·rw [if_neg c2] at H; have c2b0 : decide (26 ≤ a0) = false := decide_eq_false c2; clear c2; obtain rfl := Option.some.inj H
  go_enter Tryd.func51, Tryd.ntmps51
  go_wp2
  go_ret
  exact ⟨by first | rfl | (simp; done) | (simp [*]; done), by repeat (first | exact D0w.refl _ | apply D0w.step)⟩
def rbi.j0 : Nat → ByteArray → Bool → Option (Int)
 | 0, _, _ => none
 | k + 1, x12, x13 => if x13 = true then (some 1) else (if x12.toList = ([43] : List UInt8) then (some 2) else (if x12.toList = ([45] : List UInt8) then (some 2) else (some 3)))
def rbi.f (k : Nat) (a0_0 : Int) (a0_1 : ByteArray) (a0_2 : Int) (a0_3 : Int) (a0_4 : Int) (l0_5 : List Int) : Option (Int) := (detentref02_Term.f a0_0).bind fun t131 => (if t131 = true then (if a0_0 = 32 then (if a0_1.toList = ([60] : List UInt8) then (rbi.j0 k a0_1 (a0_1.toList == ([60] : List UInt8))) else (rbi.j0 k a0_1 (a0_1.toList == ([61, 61] : List UInt8)))) else (if a0_0 = 34 then (some 4) else (if a0_0 = 35 then (some 4) else (some 5)))) else (some 0))
set_option maxHeartbeats 8000000 in
set_option maxRecDepth 100000 in
theorem rbi.calls (k : Nat) (a0_0 : Int) (a0_1 : ByteArray) (a0_2 : Int) (a0_3 : Int) (a0_4 : Int) (A0_5 : Option Addr) (c0_5 : Nat) (l0_5 : List Int) (r : Int) (w : World) (hr0_5 : Kd.C (Kd.int .i64) w A0_5 l0_5.length l0_5) (hc0_5 : l0_5.length ≤ c0_5) (h : rbi.f k a0_0 a0_1 a0_2 a0_3 a0_4 l0_5 = some r) :
  Calls Tryd.prog 29 #[.agg #[.int .i64 a0_0, .string a0_1, .int .i64 a0_2, .int .i64 a0_3, .int .i64 a0_4, .slice A0_5 l0_5.length c0_5]] w fun e w' => e = .returned (.int .i64 r) ∧ Below w.heap.size w w' := by
 have hu33 := Tryd.underlying33; have HR0_5 := As.mk hr0_5; have HC0_5 := As.mk hc0_5; clear hr0_5 hc0_5; have HB := As.mk (Below.refl w.heap.size w); have H : ((detentref02_Term.f a0_0).bind fun t131 => (if t131 = true then (if a0_0 = 32 then (if a0_1.toList = ([60] : List UInt8) then (rbi.j0 k a0_1 (a0_1.toList == ([60] : List UInt8))) else (rbi.j0 k a0_1 (a0_1.toList == ([61, 61] : List UInt8)))) else (if a0_0 = 34 then (some 4) else (if a0_0 = 35 then (some 4) else (some 5)))) else (some 0))) = some r := h; clear h; replace H := Option.bind_eq_some_iff.mp H; obtain ⟨t131, A20, H⟩ := H; replace H : (if t131 = true then (if a0_0 = 32 then (if a0_1.toList = ([60] : List UInt8) then (rbi.j0 k a0_1 (a0_1.toList == ([60] : List UInt8))) else (rbi.j0 k a0_1 (a0_1.toList == ([61, 61] : List UInt8)))) else (if a0_0 = 34 then (some 4) else (if a0_0 = 35 then (some 4) else (some 5)))) else (some 0)) = some r := H; have A2 := As.mk A20; clear A20
 by_cases c3 : t131 = true
 ·subst c3
  have H1 : (if a0_0 = 32 then (if a0_1.toList = ([60] : List UInt8) then (rbi.j0 k a0_1 (a0_1.toList == ([60] : List UInt8))) else (rbi.j0 k a0_1 (a0_1.toList == ([61, 61] : List UInt8)))) else (if a0_0 = 34 then (some 4) else (if a0_0 = 35 then (some 4) else (some 5)))) = some r := by rw [if_pos rfl] at H; exact H
  clear H; have H := H1; clear H1
  by_cases c4 : a0_0 = 32
  ·rw [if_pos c4] at H; have c4b0 : (a0_0 == 32) = true := beq_iff_eq.mpr c4; have c4b1 : (a0_0 != 32) = false := bne_eq_false_iff_eq.mpr c4; clear c4; have HC5 := As.mk H; clear H
   go_enter Tryd.func29, Tryd.ntmps29
   go_upto_if 13 with (first | ((with_reducible refine gate_dst (N := 1) rfl ?_); refine box_event ?hg (N := 1) ?hd (cs := #[.int .i64 a0_0, .string a0_1, .int .i64 a0_2, .int .i64 a0_3, .int .i64 a0_4, .slice A0_5 l0_5.length c0_5]) (t := 33) ?hr ?_; (case hd => rfl); (case hg => rfl); (case hr => first | (go_simp; done) | (go_simp; rfl)); intro gb130 hg w6 hbox hb; have n0_ := As.mk (bwp (by repeat (first | (with_reducible first | exact HB.out | apply bwa | apply bwn | apply bw1) | exact HB.out)) hb); have n1_ := As.mk (hbox); have n2_ := As.mk ((by rw [hg]; exact (bwz (by repeat (first | (with_reducible first | exact HB.out | apply bwa | apply bwn | apply bw1) | exact HB.out))) : w.heap.size ≤ gb130)); have n3_ := As.mk ((by rw [hg]; exact (bwz (by repeat (first | (with_reducible first | exact HB.out | apply bwa | apply bwn | apply bw1) | exact HB.out))) : w.heap.size ≤ gb130)); clear HB; have HB := n0_; have BK130 := n1_; have GW130 := n2_; have GE130 := n3_; clear n0_ n1_ n2_ n3_; clear hb hbox hg; have hcz7_0 : w6.cell? ⟨gb130, 0, none⟩ = some (.int .i64 a0_0) := (bkc BK130.out 0).trans rfl; have hcz7_1 : w6.cell? ⟨gb130, 1, none⟩ = some (.string a0_1) := (bkc BK130.out 1).trans rfl; have hcz7_2 : w6.cell? ⟨gb130, 2, none⟩ = some (.int .i64 a0_2) := (bkc BK130.out 2).trans rfl; have hcz7_3 : w6.cell? ⟨gb130, 3, none⟩ = some (.int .i64 a0_3) := (bkc BK130.out 3).trans rfl; have hcz7_4 : w6.cell? ⟨gb130, 4, none⟩ = some (.int .i64 a0_4) := (bkc BK130.out 4).trans rfl; have hcz7_5 : w6.cell? ⟨gb130, 5, none⟩ = some (.slice A0_5 l0_5.length c0_5) := (bkc BK130.out 5).trans rfl; have hfz7_0 := bkf BK130.out 0; have hfz7_1 := bkf BK130.out 1; have hfz7_2 := bkf BK130.out 2; have hfz7_3 := bkf BK130.out 3; have hfz7_4 := bkf BK130.out 4; have hfz7_5 := bkf BK130.out 5) | ((with_reducible refine gate_callee (f := 51) rfl ?_); refine goesL_ (some 5) rfl rfl Tryd.func51 (by kernel_rfl) rfl #[.int .i64 a0_0] rfl (by (try simp only [List.map_toArray, List.map_cons, List.map_nil]); first | done | rfl | (simp only [List.length_drop, List.length_take]; rfl)) ?_; (with_reducible refine (detentref02_Term.calls a0_0 true _ A2.out).mono ?_); rintro e w' ⟨rfl, ⟨nd, rfl⟩⟩; refine ⟨_, rfl, ?_⟩))
   (try simp only [Act.put, List.setIfInBounds_toArray, List.set_cons_zero, List.set_cons_succ])
   go_cut [13] (fun v13 wc => ∃ (kq : Nat) (x13_4 : Bool), v13 = .bool x13_4 ∧ As (rbi.j0 kq a0_1 x13_4 = some r) ∧ As (kq ≤ k) ∧ As (wc.heap[gb130]? = some (.cells #[.int .i64 a0_0, .string a0_1, .int .i64 a0_2, .int .i64 a0_3, .int .i64 a0_4, (.slice A0_5 l0_5.length c0_5)] 33 (0, 0))) ∧ As (Below w.heap.size w wc))
   case first =>
    have H := HC5.out; clear HC5
    by_cases c8 : a0_1.toList = ([60] : List UInt8)
    ·rw [if_pos c8] at H; have c8b0 : (a0_1.toList == ([60] : List UInt8)) = true := beq_iff_eq.mpr c8; have c8b1 : (a0_1.toList != ([60] : List UInt8)) = false := bne_eq_false_iff_eq.mpr c8; clear c8; (first | rw [c8b0] | (simp only [i64_w, i32_w]; rw [c8b0]) | skip); have H' := As.mk H; clear H; go_wp2
     go_meet
     case rel => exact ⟨_, ((a0_1.toList == ([60] : List UInt8))), (by first | rfl | (simp; done) | (simp [*]; done)), H', ⟨by first | omega | exact Nat.le_refl _⟩, ⟨by (with_reducible repeat (first | refine bkn ?_ _ | refine bkd ?_ | refine bka ?_ _)); exact BK130.out⟩, ⟨by repeat (first | (with_reducible first | exact HB.out | apply bwa | apply bwn | apply bw1 | refine bws ?_ GE130.out) | exact HB.out)⟩⟩
    ·rw [if_neg c8] at H; have c8b0 : (a0_1.toList == ([60] : List UInt8)) = false := beq_eq_false_iff_ne.mpr c8; have c8b1 : (a0_1.toList != ([60] : List UInt8)) = true := bne_iff_ne.mpr c8; (first | rw [c8b0] | (simp only [i64_w, i32_w]; rw [c8b0]) | skip); have H' := As.mk H; clear H; go_wp2
     go_meet
     case rel => exact ⟨_, ((a0_1.toList == ([61, 61] : List UInt8))), (by first | rfl | (simp; done) | (simp [*]; done)), H', ⟨by first | omega | exact Nat.le_refl _⟩, ⟨by (with_reducible repeat (first | refine bkn ?_ _ | refine bkd ?_ | refine bka ?_ _)); exact BK130.out⟩, ⟨by repeat (first | (with_reducible first | exact HB.out | apply bwa | apply bwn | apply bw1 | refine bws ?_ GE130.out) | exact HB.out)⟩⟩
   case rest =>
    clear HC5; (try clear c2); (try clear p2); (try clear c3); (try clear c4); (try clear c4b0); (try clear c4b1); (try clear c5); (try clear c8); (try clear c8b0); (try clear c8b1); (try clear hcz7_0); (try clear hcz7_1); (try clear hcz7_2); (try clear hcz7_3); (try clear hcz7_4); (try clear hcz7_5); (try clear hfz7_0); (try clear hfz7_1); (try clear hfz7_2); (try clear hfz7_3); (try clear hfz7_4); (try clear hfz7_5); obtain ⟨kq, x13_4, rfl, HA, HJ4, BK130, HB⟩ := hcut
    cases kq with
    | zero => exact absurd HA.out (by simp [rbi.j0])
    | succ kj4 =>
     have H := HA.out; clear HA; simp only [rbi.j0] at H
     by_cases c9 : x13_4 = true
     ·subst c9
      have H1 : (some 1) = some r := by rw [if_pos rfl] at H; exact H
      clear H; have H := H1; clear H1; obtain rfl := Option.some.inj H; go_wp2
      go_ret
      exact ⟨by first | rfl | (simp [*] <;> rfl), by repeat (first | (with_reducible first | exact HB.out | apply bwa | apply bwn | apply bw1 | refine bws ?_ GE130.out) | exact HB.out)⟩
     ·replace c9 := Bool.eq_false_iff.mpr c9; subst c9
      have H1 : (if a0_1.toList = ([43] : List UInt8) then (some 2) else (if a0_1.toList = ([45] : List UInt8) then (some 2) else (some 3))) = some r := by rw [if_neg (show ¬ (false = true) by decide)] at H; exact H
      clear H; have H := H1; clear H1
      by_cases c10 : a0_1.toList = ([43] : List UInt8)
      ·rw [if_pos c10] at H; have c10b0 : (a0_1.toList == ([43] : List UInt8)) = true := beq_iff_eq.mpr c10; have c10b1 : (a0_1.toList != ([43] : List UInt8)) = false := bne_eq_false_iff_eq.mpr c10; clear c10; obtain rfl := Option.some.inj H; go_wp2
       go_ret
       exact ⟨by first | rfl | (simp [*] <;> rfl), by repeat (first | (with_reducible first | exact HB.out | apply bwa | apply bwn | apply bw1 | refine bws ?_ GE130.out) | exact HB.out)⟩
      ·rw [if_neg c10] at H; have c10b0 : (a0_1.toList == ([43] : List UInt8)) = false := beq_eq_false_iff_ne.mpr c10; have c10b1 : (a0_1.toList != ([43] : List UInt8)) = true := bne_iff_ne.mpr c10
       by_cases c11 : a0_1.toList = ([45] : List UInt8)
       ·rw [if_pos c11] at H; have c11b0 : (a0_1.toList == ([45] : List UInt8)) = true := beq_iff_eq.mpr c11; have c11b1 : (a0_1.toList != ([45] : List UInt8)) = false := bne_eq_false_iff_eq.mpr c11; clear c11; obtain rfl := Option.some.inj H; go_wp2
        go_ret
        exact ⟨by first | rfl | (simp [*] <;> rfl), by repeat (first | (with_reducible first | exact HB.out | apply bwa | apply bwn | apply bw1 | refine bws ?_ GE130.out) | exact HB.out)⟩
       ·rw [if_neg c11] at H; have c11b0 : (a0_1.toList == ([45] : List UInt8)) = false := beq_eq_false_iff_ne.mpr c11; have c11b1 : (a0_1.toList != ([45] : List UInt8)) = true := bne_iff_ne.mpr c11; obtain rfl := Option.some.inj H; go_wp2
        go_ret
        exact ⟨by first | rfl | (simp [*] <;> rfl), by repeat (first | (with_reducible first | exact HB.out | apply bwa | apply bwn | apply bw1 | refine bws ?_ GE130.out) | exact HB.out)⟩
  ·rw [if_neg c4] at H; have c4b0 : (a0_0 == 32) = false := beq_eq_false_iff_ne.mpr c4; have c4b1 : (a0_0 != 32) = true := bne_iff_ne.mpr c4
   by_cases c12 : a0_0 = 34
   ·rw [if_pos c12] at H; have c12b0 : (a0_0 == 34) = true := beq_iff_eq.mpr c12; have c12b1 : (a0_0 != 34) = false := bne_eq_false_iff_eq.mpr c12; clear c12; obtain rfl := Option.some.inj H
    go_enter Tryd.func29, Tryd.ntmps29
    go_wp2_with (first | ((with_reducible refine gate_dst (N := 1) rfl ?_); refine box_event ?hg (N := 1) ?hd (cs := #[.int .i64 a0_0, .string a0_1, .int .i64 a0_2, .int .i64 a0_3, .int .i64 a0_4, .slice A0_5 l0_5.length c0_5]) (t := 33) ?hr ?_; (case hd => rfl); (case hg => rfl); (case hr => first | (go_simp; done) | (go_simp; rfl)); intro gb130 hg w13 hbox hb; have n0_ := As.mk (bwp (by repeat (first | (with_reducible first | exact HB.out | apply bwa | apply bwn | apply bw1) | exact HB.out)) hb); have n1_ := As.mk (hbox); have n2_ := As.mk ((by rw [hg]; exact (bwz (by repeat (first | (with_reducible first | exact HB.out | apply bwa | apply bwn | apply bw1) | exact HB.out))) : w.heap.size ≤ gb130)); have n3_ := As.mk ((by rw [hg]; exact (bwz (by repeat (first | (with_reducible first | exact HB.out | apply bwa | apply bwn | apply bw1) | exact HB.out))) : w.heap.size ≤ gb130)); clear HB; have HB := n0_; have BK130 := n1_; have GW130 := n2_; have GE130 := n3_; clear n0_ n1_ n2_ n3_; clear hb hbox hg; have hcz14_0 : w13.cell? ⟨gb130, 0, none⟩ = some (.int .i64 a0_0) := (bkc BK130.out 0).trans rfl; have hcz14_1 : w13.cell? ⟨gb130, 1, none⟩ = some (.string a0_1) := (bkc BK130.out 1).trans rfl; have hcz14_2 : w13.cell? ⟨gb130, 2, none⟩ = some (.int .i64 a0_2) := (bkc BK130.out 2).trans rfl; have hcz14_3 : w13.cell? ⟨gb130, 3, none⟩ = some (.int .i64 a0_3) := (bkc BK130.out 3).trans rfl; have hcz14_4 : w13.cell? ⟨gb130, 4, none⟩ = some (.int .i64 a0_4) := (bkc BK130.out 4).trans rfl; have hcz14_5 : w13.cell? ⟨gb130, 5, none⟩ = some (.slice A0_5 l0_5.length c0_5) := (bkc BK130.out 5).trans rfl; have hfz14_0 := bkf BK130.out 0; have hfz14_1 := bkf BK130.out 1; have hfz14_2 := bkf BK130.out 2; have hfz14_3 := bkf BK130.out 3; have hfz14_4 := bkf BK130.out 4; have hfz14_5 := bkf BK130.out 5) | ((with_reducible refine gate_callee (f := 51) rfl ?_); refine goesL_ (some 5) rfl rfl Tryd.func51 (by kernel_rfl) rfl #[.int .i64 a0_0] rfl (by (try simp only [List.map_toArray, List.map_cons, List.map_nil]); first | done | rfl | (simp only [List.length_drop, List.length_take]; rfl)) ?_; (with_reducible refine (detentref02_Term.calls a0_0 true _ A2.out).mono ?_); rintro e w' ⟨rfl, ⟨nd, rfl⟩⟩; refine ⟨_, rfl, ?_⟩))
    go_ret
    exact ⟨by first | rfl | (simp [*] <;> rfl), by repeat (first | (with_reducible first | exact HB.out | apply bwa | apply bwn | apply bw1 | refine bws ?_ GE130.out) | exact HB.out)⟩
   ·rw [if_neg c12] at H; have c12b0 : (a0_0 == 34) = false := beq_eq_false_iff_ne.mpr c12; have c12b1 : (a0_0 != 34) = true := bne_iff_ne.mpr c12
    by_cases c15 : a0_0 = 35
    ·rw [if_pos c15] at H; have c15b0 : (a0_0 == 35) = true := beq_iff_eq.mpr c15; have c15b1 : (a0_0 != 35) = false := bne_eq_false_iff_eq.mpr c15; clear c15; obtain rfl := Option.some.inj H
     go_enter Tryd.func29, Tryd.ntmps29
     go_wp2_with (first | ((with_reducible refine gate_dst (N := 1) rfl ?_); refine box_event ?hg (N := 1) ?hd (cs := #[.int .i64 a0_0, .string a0_1, .int .i64 a0_2, .int .i64 a0_3, .int .i64 a0_4, .slice A0_5 l0_5.length c0_5]) (t := 33) ?hr ?_; (case hd => rfl); (case hg => rfl); (case hr => first | (go_simp; done) | (go_simp; rfl)); intro gb130 hg w16 hbox hb; have n0_ := As.mk (bwp (by repeat (first | (with_reducible first | exact HB.out | apply bwa | apply bwn | apply bw1) | exact HB.out)) hb); have n1_ := As.mk (hbox); have n2_ := As.mk ((by rw [hg]; exact (bwz (by repeat (first | (with_reducible first | exact HB.out | apply bwa | apply bwn | apply bw1) | exact HB.out))) : w.heap.size ≤ gb130)); have n3_ := As.mk ((by rw [hg]; exact (bwz (by repeat (first | (with_reducible first | exact HB.out | apply bwa | apply bwn | apply bw1) | exact HB.out))) : w.heap.size ≤ gb130)); clear HB; have HB := n0_; have BK130 := n1_; have GW130 := n2_; have GE130 := n3_; clear n0_ n1_ n2_ n3_; clear hb hbox hg; have hcz17_0 : w16.cell? ⟨gb130, 0, none⟩ = some (.int .i64 a0_0) := (bkc BK130.out 0).trans rfl; have hcz17_1 : w16.cell? ⟨gb130, 1, none⟩ = some (.string a0_1) := (bkc BK130.out 1).trans rfl; have hcz17_2 : w16.cell? ⟨gb130, 2, none⟩ = some (.int .i64 a0_2) := (bkc BK130.out 2).trans rfl; have hcz17_3 : w16.cell? ⟨gb130, 3, none⟩ = some (.int .i64 a0_3) := (bkc BK130.out 3).trans rfl; have hcz17_4 : w16.cell? ⟨gb130, 4, none⟩ = some (.int .i64 a0_4) := (bkc BK130.out 4).trans rfl; have hcz17_5 : w16.cell? ⟨gb130, 5, none⟩ = some (.slice A0_5 l0_5.length c0_5) := (bkc BK130.out 5).trans rfl; have hfz17_0 := bkf BK130.out 0; have hfz17_1 := bkf BK130.out 1; have hfz17_2 := bkf BK130.out 2; have hfz17_3 := bkf BK130.out 3; have hfz17_4 := bkf BK130.out 4; have hfz17_5 := bkf BK130.out 5) | ((with_reducible refine gate_callee (f := 51) rfl ?_); refine goesL_ (some 5) rfl rfl Tryd.func51 (by kernel_rfl) rfl #[.int .i64 a0_0] rfl (by (try simp only [List.map_toArray, List.map_cons, List.map_nil]); first | done | rfl | (simp only [List.length_drop, List.length_take]; rfl)) ?_; (with_reducible refine (detentref02_Term.calls a0_0 true _ A2.out).mono ?_); rintro e w' ⟨rfl, ⟨nd, rfl⟩⟩; refine ⟨_, rfl, ?_⟩))
     go_ret
     exact ⟨by first | rfl | (simp [*] <;> rfl), by repeat (first | (with_reducible first | exact HB.out | apply bwa | apply bwn | apply bw1 | refine bws ?_ GE130.out) | exact HB.out)⟩
    ·rw [if_neg c15] at H; have c15b0 : (a0_0 == 35) = false := beq_eq_false_iff_ne.mpr c15; have c15b1 : (a0_0 != 35) = true := bne_iff_ne.mpr c15; obtain rfl := Option.some.inj H
     go_enter Tryd.func29, Tryd.ntmps29
     go_wp2_with (first | ((with_reducible refine gate_dst (N := 1) rfl ?_); refine box_event ?hg (N := 1) ?hd (cs := #[.int .i64 a0_0, .string a0_1, .int .i64 a0_2, .int .i64 a0_3, .int .i64 a0_4, .slice A0_5 l0_5.length c0_5]) (t := 33) ?hr ?_; (case hd => rfl); (case hg => rfl); (case hr => first | (go_simp; done) | (go_simp; rfl)); intro gb130 hg w18 hbox hb; have n0_ := As.mk (bwp (by repeat (first | (with_reducible first | exact HB.out | apply bwa | apply bwn | apply bw1) | exact HB.out)) hb); have n1_ := As.mk (hbox); have n2_ := As.mk ((by rw [hg]; exact (bwz (by repeat (first | (with_reducible first | exact HB.out | apply bwa | apply bwn | apply bw1) | exact HB.out))) : w.heap.size ≤ gb130)); have n3_ := As.mk ((by rw [hg]; exact (bwz (by repeat (first | (with_reducible first | exact HB.out | apply bwa | apply bwn | apply bw1) | exact HB.out))) : w.heap.size ≤ gb130)); clear HB; have HB := n0_; have BK130 := n1_; have GW130 := n2_; have GE130 := n3_; clear n0_ n1_ n2_ n3_; clear hb hbox hg; have hcz19_0 : w18.cell? ⟨gb130, 0, none⟩ = some (.int .i64 a0_0) := (bkc BK130.out 0).trans rfl; have hcz19_1 : w18.cell? ⟨gb130, 1, none⟩ = some (.string a0_1) := (bkc BK130.out 1).trans rfl; have hcz19_2 : w18.cell? ⟨gb130, 2, none⟩ = some (.int .i64 a0_2) := (bkc BK130.out 2).trans rfl; have hcz19_3 : w18.cell? ⟨gb130, 3, none⟩ = some (.int .i64 a0_3) := (bkc BK130.out 3).trans rfl; have hcz19_4 : w18.cell? ⟨gb130, 4, none⟩ = some (.int .i64 a0_4) := (bkc BK130.out 4).trans rfl; have hcz19_5 : w18.cell? ⟨gb130, 5, none⟩ = some (.slice A0_5 l0_5.length c0_5) := (bkc BK130.out 5).trans rfl; have hfz19_0 := bkf BK130.out 0; have hfz19_1 := bkf BK130.out 1; have hfz19_2 := bkf BK130.out 2; have hfz19_3 := bkf BK130.out 3; have hfz19_4 := bkf BK130.out 4; have hfz19_5 := bkf BK130.out 5) | ((with_reducible refine gate_callee (f := 51) rfl ?_); refine goesL_ (some 5) rfl rfl Tryd.func51 (by kernel_rfl) rfl #[.int .i64 a0_0] rfl (by (try simp only [List.map_toArray, List.map_cons, List.map_nil]); first | done | rfl | (simp only [List.length_drop, List.length_take]; rfl)) ?_; (with_reducible refine (detentref02_Term.calls a0_0 true _ A2.out).mono ?_); rintro e w' ⟨rfl, ⟨nd, rfl⟩⟩; refine ⟨_, rfl, ?_⟩))
     go_ret
     exact ⟨by first | rfl | (simp [*] <;> rfl), by repeat (first | (with_reducible first | exact HB.out | apply bwa | apply bwn | apply bw1 | refine bws ?_ GE130.out) | exact HB.out)⟩
 ·replace c3 := Bool.eq_false_iff.mpr c3; subst c3
  have H1 : (some 0) = some r := by rw [if_neg (show ¬ (false = true) by decide)] at H; exact H
  clear H; have H := H1; clear H1; obtain rfl := Option.some.inj H
  go_enter Tryd.func29, Tryd.ntmps29
  go_wp2_with (first | ((with_reducible refine gate_dst (N := 1) rfl ?_); refine box_event ?hg (N := 1) ?hd (cs := #[.int .i64 a0_0, .string a0_1, .int .i64 a0_2, .int .i64 a0_3, .int .i64 a0_4, .slice A0_5 l0_5.length c0_5]) (t := 33) ?hr ?_; (case hd => rfl); (case hg => rfl); (case hr => first | (go_simp; done) | (go_simp; rfl)); intro gb130 hg w20 hbox hb; have n0_ := As.mk (bwp (by repeat (first | (with_reducible first | exact HB.out | apply bwa | apply bwn | apply bw1) | exact HB.out)) hb); have n1_ := As.mk (hbox); have n2_ := As.mk ((by rw [hg]; exact (bwz (by repeat (first | (with_reducible first | exact HB.out | apply bwa | apply bwn | apply bw1) | exact HB.out))) : w.heap.size ≤ gb130)); have n3_ := As.mk ((by rw [hg]; exact (bwz (by repeat (first | (with_reducible first | exact HB.out | apply bwa | apply bwn | apply bw1) | exact HB.out))) : w.heap.size ≤ gb130)); clear HB; have HB := n0_; have BK130 := n1_; have GW130 := n2_; have GE130 := n3_; clear n0_ n1_ n2_ n3_; clear hb hbox hg; have hcz21_0 : w20.cell? ⟨gb130, 0, none⟩ = some (.int .i64 a0_0) := (bkc BK130.out 0).trans rfl; have hcz21_1 : w20.cell? ⟨gb130, 1, none⟩ = some (.string a0_1) := (bkc BK130.out 1).trans rfl; have hcz21_2 : w20.cell? ⟨gb130, 2, none⟩ = some (.int .i64 a0_2) := (bkc BK130.out 2).trans rfl; have hcz21_3 : w20.cell? ⟨gb130, 3, none⟩ = some (.int .i64 a0_3) := (bkc BK130.out 3).trans rfl; have hcz21_4 : w20.cell? ⟨gb130, 4, none⟩ = some (.int .i64 a0_4) := (bkc BK130.out 4).trans rfl; have hcz21_5 : w20.cell? ⟨gb130, 5, none⟩ = some (.slice A0_5 l0_5.length c0_5) := (bkc BK130.out 5).trans rfl; have hfz21_0 := bkf BK130.out 0; have hfz21_1 := bkf BK130.out 1; have hfz21_2 := bkf BK130.out 2; have hfz21_3 := bkf BK130.out 3; have hfz21_4 := bkf BK130.out 4; have hfz21_5 := bkf BK130.out 5) | ((with_reducible refine gate_callee (f := 51) rfl ?_); refine goesL_ (some 5) rfl rfl Tryd.func51 (by kernel_rfl) rfl #[.int .i64 a0_0] rfl (by (try simp only [List.map_toArray, List.map_cons, List.map_nil]); first | done | rfl | (simp only [List.length_drop, List.length_take]; rfl)) ?_; (with_reducible refine (detentref02_Term.calls a0_0 false _ A2.out).mono ?_); rintro e w' ⟨rfl, ⟨nd, rfl⟩⟩; refine ⟨_, rfl, ?_⟩))
  go_ret
  exact ⟨by first | rfl | (simp [*] <;> rfl), by repeat (first | (with_reducible first | exact HB.out | apply bwa | apply bwn | apply bw1 | refine bws ?_ GE130.out) | exact HB.out)⟩
end Go.Proofs.YtbpefmidgfmcaaaDoor.PTreeApart
end
section
namespace Go.Proofs.YtbpefmidgfmcaaaDoor.PTreeApart
open Go.RowKit Go.Proofs.YtbpefmidgfmcaaaDoorW.PrintWords Go.Proofs.YtbpefmidgfmcaaaDoorW.PrintLast Go.Proofs.YtbpefmidgfmcaaaDoorW.PrintMore
set_option linter.unusedVariables false
set_option linter.unusedSimpArgs false
def rmu.j0 : Nat → Int → Int → Bool → Option (Int)
 | 0, _, _, _ => none
 | k + 1, x1, x6, x22 => if x22 = true then (some 4) else (if x6 = 30 then (some 5) else (if x6 = 31 then (some (wrap64 (5 - (wrap64 (5 * x1))))) else (some 0)))
def rmu.f (k : Nat) (a0_0 : Int) (a0_1 : ByteArray) (a0_2 : Int) (a0_3 : Int) (a0_4 : Int) (l0_5 : List Int) (a1 : Int) : Option (Int) := if a0_0 = 32 then ((some (([0, 2, 2, 3] : List Int) : List Int)).bind fun y133 => ((rbi.f k a0_0 a0_1 a0_2 a0_3 a0_4 l0_5).bind fun t136 => (if 0 ≤ t136 then (if t136 < (y133.length : Int) then ((some (([0, 0, a1, a1] : List Int) : List Int)).bind fun y138 => ((rbi.f k a0_0 a0_1 a0_2 a0_3 a0_4 l0_5).bind fun t141 => (if 0 ≤ t141 then (if t141 < (y138.length : Int) then (some (wrap64 ((rd y133 t136) + (rd y138 t141)))) else (none)) else (none)))) else (none)) else (none)))) else (if a0_0 = 34 then (rmu.j0 k a1 a0_0 (a0_0 == 34)) else (rmu.j0 k a1 a0_0 (a0_0 == 35)))
def rmu.T3 : Bool × List (List Nat × List Nat) := (true, [([], []), ([], []), ([1], [1]), ([0, 2], [0, 2]), ([3], [3]), ([], []), ([], []), ([5, 6], [5, 6]), ([], []), ([8, 2], [8]), ([7, 9], [7, 9]), ([10], [10]), ([4, 11], [4, 11]), ([12, 9, 0, 1, 2, 3, 4, 5, 6, 7, 8, 9, 10, 11, 12], [12])])
def rmu.B3 : List Nat := [0, 0, 2, 7, 15, 0, 0, 96, 0, 262, 998, 2022, 4095, 8191]
theorem rmu.tab3 : rtab .any (opsOf Tryd.f30 3) = rmu.T3 := by kernel_rfl
theorem rmu.bits3 : waitsOk rmu.T3.2 rmu.B3 = true := by kernel_rfl
set_option maxHeartbeats 8000000 in
set_option maxRecDepth 100000 in
theorem rmu.calls (k : Nat) (a0_0 : Int) (a0_1 : ByteArray) (a0_2 : Int) (a0_3 : Int) (a0_4 : Int) (A0_5 : Option Addr) (c0_5 : Nat) (l0_5 : List Int) (a1 : Int) (r : Int) (w : World) (hr0_5 : Kd.C (Kd.int .i64) w A0_5 l0_5.length l0_5) (hc0_5 : l0_5.length ≤ c0_5) (h : rmu.f k a0_0 a0_1 a0_2 a0_3 a0_4 l0_5 a1 = some r) :
  Calls Tryd.prog 30 #[.agg #[.int .i64 a0_0, .string a0_1, .int .i64 a0_2, .int .i64 a0_3, .int .i64 a0_4, .slice A0_5 l0_5.length c0_5], .int .i64 a1] w fun e w' => e = .returned (.int .i64 r) ∧ Below w.heap.size w w' := by
 have hu33 := Tryd.underlying33; have HR0_5 := As.mk hr0_5; have HC0_5 := As.mk hc0_5; clear hr0_5 hc0_5; have HB := As.mk (Below.refl w.heap.size w); have H : (if a0_0 = 32 then ((some (([0, 2, 2, 3] : List Int) : List Int)).bind fun y133 => ((rbi.f k a0_0 a0_1 a0_2 a0_3 a0_4 l0_5).bind fun t136 => (if 0 ≤ t136 then (if t136 < (y133.length : Int) then ((some (([0, 0, a1, a1] : List Int) : List Int)).bind fun y138 => ((rbi.f k a0_0 a0_1 a0_2 a0_3 a0_4 l0_5).bind fun t141 => (if 0 ≤ t141 then (if t141 < (y138.length : Int) then (some (wrap64 ((rd y133 t136) + (rd y138 t141)))) else (none)) else (none)))) else (none)) else (none)))) else (if a0_0 = 34 then (rmu.j0 k a1 a0_0 (a0_0 == 34)) else (rmu.j0 k a1 a0_0 (a0_0 == 35)))) = some r := h; clear h
 by_cases c3 : a0_0 = 32
 ·rw [if_pos c3] at H; have c3b0 : (a0_0 == 32) = true := beq_iff_eq.mpr c3; have c3b1 : (a0_0 != 32) = false := bne_eq_false_iff_eq.mpr c3; clear c3; obtain ⟨y133, hy133⟩ : ∃ y_ : List Int, y_ = (([0, 2, 2, 3] : List Int)) := ⟨_, rfl⟩
  replace H : ((rbi.f k a0_0 a0_1 a0_2 a0_3 a0_4 l0_5).bind fun t136 => (if 0 ≤ t136 then (if t136 < (y133.length : Int) then ((some (([0, 0, a1, a1] : List Int) : List Int)).bind fun y138 => ((rbi.f k a0_0 a0_1 a0_2 a0_3 a0_4 l0_5).bind fun t141 => (if 0 ≤ t141 then (if t141 < (y138.length : Int) then (some (wrap64 ((rd y133 t136) + (rd y138 t141)))) else (none)) else (none)))) else (none)) else (none))) = some r := by first | (rw [hy133]; with_reducible exact H) | (have H2_ := (Option.bind_some _ _).symm.trans H; rw [hy133]; with_reducible exact H2_) | (have H2_ := (Option.bind_some _ _).symm.trans H; with_reducible exact H2_) | with_reducible exact H | (rw [hy133]; exact H) | exact H
  have Ny133 := As.mk hy133; clear hy133; replace H := Option.bind_eq_some_iff.mp H; obtain ⟨t136, A40, H⟩ := H; replace H : (if 0 ≤ t136 then (if t136 < (y133.length : Int) then ((some (([0, 0, a1, a1] : List Int) : List Int)).bind fun y138 => ((rbi.f k a0_0 a0_1 a0_2 a0_3 a0_4 l0_5).bind fun t141 => (if 0 ≤ t141 then (if t141 < (y138.length : Int) then (some (wrap64 ((rd y133 t136) + (rd y138 t141)))) else (none)) else (none)))) else (none)) else (none)) = some r := H; have A4 := As.mk A40; clear A40
  by_cases c5 : 0 ≤ t136
  ·rw [if_pos c5] at H; have c5b0 : decide (0 ≤ t136) = true := decide_eq_true c5; clear c5
   by_cases c6 : t136 < (y133.length : Int)
   ·rw [if_pos c6] at H; have c6b0 : decide (t136 < (y133.length : Int)) = true := decide_eq_true c6; clear c6; obtain ⟨y138, hy138⟩ : ∃ y_ : List Int, y_ = (([0, 0, a1, a1] : List Int)) := ⟨_, rfl⟩
    replace H : ((rbi.f k a0_0 a0_1 a0_2 a0_3 a0_4 l0_5).bind fun t141 => (if 0 ≤ t141 then (if t141 < (y138.length : Int) then (some (wrap64 ((rd y133 t136) + (rd y138 t141)))) else (none)) else (none))) = some r := by first | (rw [hy138]; with_reducible exact H) | (have H2_ := (Option.bind_some _ _).symm.trans H; rw [hy138]; with_reducible exact H2_) | (have H2_ := (Option.bind_some _ _).symm.trans H; with_reducible exact H2_) | with_reducible exact H | (rw [hy138]; exact H) | exact H
    have Ny138 := As.mk hy138; clear hy138; replace H := Option.bind_eq_some_iff.mp H; obtain ⟨t141, A70, H⟩ := H; replace H : (if 0 ≤ t141 then (if t141 < (y138.length : Int) then (some (wrap64 ((rd y133 t136) + (rd y138 t141)))) else (none)) else (none)) = some r := H; have A7 := As.mk A70; clear A70
    by_cases c8 : 0 ≤ t141
    ·rw [if_pos c8] at H; have c8b0 : decide (0 ≤ t141) = true := decide_eq_true c8; clear c8
     by_cases c9 : t141 < (y138.length : Int)
     ·rw [if_pos c9] at H; have c9b0 : decide (t141 < (y138.length : Int)) = true := decide_eq_true c9; clear c9; obtain rfl := Option.some.inj H
      go_enter Tryd.func30, Tryd.ntmps30
      try go_wp2_with (first | ((with_reducible refine gate_dst (N := 2) rfl ?_); refine box_event ?hg (N := 2) ?hd (cs := #[.int .i64 a0_0, .string a0_1, .int .i64 a0_2, .int .i64 a0_3, .int .i64 a0_4, .slice A0_5 l0_5.length c0_5]) (t := 33) ?hr ?_; (case hd => rfl); (case hg => rfl); (case hr => first | (go_simp; done) | (go_simp; rfl)); intro gb132 hg w10 hbox hb; have n0_ := As.mk (bwp (by repeat (first | (with_reducible first | exact HB.out | apply bwa | apply bwn | apply bw1) | exact HB.out)) hb); have n1_ := As.mk (hbox); have n2_ := As.mk ((by rw [hg]; exact (bwz (by repeat (first | (with_reducible first | exact HB.out | apply bwa | apply bwn | apply bw1) | exact HB.out))) : w.heap.size ≤ gb132)); have n3_ := As.mk ((by rw [hg]; exact (bwz (by repeat (first | (with_reducible first | exact HB.out | apply bwa | apply bwn | apply bw1) | exact HB.out))) : w.heap.size ≤ gb132)); clear HB; have HB := n0_; have BK132 := n1_; have GW132 := n2_; have GE132 := n3_; clear n0_ n1_ n2_ n3_; clear hb hbox hg; have hcz11_0 : w10.cell? ⟨gb132, 0, none⟩ = some (.int .i64 a0_0) := (bkc BK132.out 0).trans rfl; have hcz11_1 : w10.cell? ⟨gb132, 1, none⟩ = some (.string a0_1) := (bkc BK132.out 1).trans rfl; have hcz11_2 : w10.cell? ⟨gb132, 2, none⟩ = some (.int .i64 a0_2) := (bkc BK132.out 2).trans rfl; have hcz11_3 : w10.cell? ⟨gb132, 3, none⟩ = some (.int .i64 a0_3) := (bkc BK132.out 3).trans rfl; have hcz11_4 : w10.cell? ⟨gb132, 4, none⟩ = some (.int .i64 a0_4) := (bkc BK132.out 4).trans rfl; have hcz11_5 : w10.cell? ⟨gb132, 5, none⟩ = some (.slice A0_5 l0_5.length c0_5) := (bkc BK132.out 5).trans rfl; have hfz11_0 := bkf BK132.out 0; have hfz11_1 := bkf BK132.out 1; have hfz11_2 := bkf BK132.out 2; have hfz11_3 := bkf BK132.out 3; have hfz11_4 := bkf BK132.out 4; have hfz11_5 := bkf BK132.out 5))
      have pi137 : (0 ≤ (t136 : Int)) = True := eq_true (of_decide_eq_true (by first | (with_reducible assumption) | assumption)); have qi137 : (t136 < (y133.length : Int)) = True := eq_true (of_decide_eq_true (by first | (with_reducible assumption) | assumption)); have pi142 : (0 ≤ (t141 : Int)) = True := eq_true (of_decide_eq_true (by first | (with_reducible assumption) | assumption)); have qi142 : (t141 < (y138.length : Int)) = True := eq_true (of_decide_eq_true (by first | (with_reducible assumption) | assumption)); have n0_ := As.mk (bkd BK132.out); have n1_ := As.mk (bw1 HB.out); clear BK132; clear HB; have BK132 := n0_; have HB := n1_; clear n0_ n1_
      refine start_ (n := 14) (S := fun w' => True) (ds := []) #[false, false, false, false, false, false, false, false, false, false, false, false, false, false] (by kernel_rfl) rfl rfl trivial (fun hHeld => ?_); refine with_tabW rmu.tab3 rmu.bits3 (fun HT_ HW_ => ?_)
      generalize w10.drew = w12 at BK132 HB hHeld ⊢
      refine pure_ (i := 5) (N := some 14) (v := ?_) (a' := ?_) #[false, false, false, false, false, true, false, false, false, false, false, false, false, false] rfl rfl (any_of HT_.out (by kernel_rfl)) (fun _ _ _ h => h) (Or.inl ⟨by rfl, ?_⟩) ?_ ?_
      rotate_left
      ·intro w'; go_simp
       with_reducible rfl
      rotate_left
      ·simp only [Act.put, List.setIfInBounds_toArray, List.set_cons_zero, List.set_cons_succ, i64_w, i32_w]
       rfl
      refine pure_ (i := 6) (N := some 15) (v := ?_) (a' := ?_) #[false, false, false, false, false, true, true, false, false, false, false, false, false, false] rfl rfl (any_of HT_.out (by kernel_rfl)) (fun _ _ _ h => h) (Or.inl ⟨by rfl, ?_⟩) ?_ ?_
      rotate_left
      ·intro w'; go_simp
       with_reducible rfl
      rotate_left
      ·simp only [Act.put, List.setIfInBounds_toArray, List.set_cons_zero, List.set_cons_succ, i64_w, i32_w]
       rfl
      refine inv_at [0, 1, 2, 3, 4, 7, 8, 9, 10, 11, 12, 13] (fun a0_ b a w' => ∃ (v134 : Value) (adz_v134 : Addr) (v139 : Value) (adz_v139 : Addr) (m3_ : Value) (m10_ : Value), a = putSel a0_ b [(0, 9, v134), (1, 10, .agg #[.int .i64 a0_0, .string a0_1, .int .i64 a0_2, .int .i64 a0_3, .int .i64 a0_4, .slice A0_5 l0_5.length c0_5]), (2, 11, .int .i64 t136), (3, 12, m3_), (4, 13, .int .i64 (rd y133 t136)), (7, 16, v139), (8, 17, .agg #[.int .i64 a0_0, .string a0_1, .int .i64 a0_2, .int .i64 a0_3, .int .i64 a0_4, .slice A0_5 l0_5.length c0_5]), (9, 18, .int .i64 t141), (10, 19, m10_), (11, 20, .int .i64 (rd y138 t141)), (12, 21, .int .i64 (wrap64 ((rd y133 t136) + (rd y138 t141)))), (13, 4, .int .i64 (wrap64 ((rd y133 t136) + (rd y138 t141))))] ∧ (w'.heap[gb132]? = some (.cells #[.int .i64 a0_0, .string a0_1, .int .i64 a0_2, .int .i64 a0_3, .int .i64 a0_4, .slice A0_5 l0_5.length c0_5] 33 (0, 0))) ∧ (Below w.heap.size w w') ∧ (b 0 = true → Kd.R (Kd.int .i64) 3 w' w.heap.size (fun _ => True) v134 y133) ∧ (b 0 = true → ∃ c_, (v134 : Value) = .slice (some adz_v134) y133.length c_) ∧ (b 7 = true → Kd.R (Kd.int .i64) 3 w' w.heap.size (fun _ => True) v139 y138) ∧ (b 7 = true → ∃ c_, (v139 : Value) = .slice (some adz_v139) y138.length c_) ∧ (b 3 = true → (m3_ : Value) = .pointer (some (adz_v134.add (t136).toNat))) ∧ (b 10 = true → (m10_ : Value) = .pointer (some (adz_v139.add (t141).toNat)))) HT_.out HW_.out (by kernel_rfl) (by kernel_rfl) ?_ ?_ ?_
      ·exact ⟨.bool false, ⟨0, 0, none⟩, .bool false, ⟨0, 0, none⟩, .bool false, .bool false, by simp only [putSel, Bool.false_eq_true, if_false], BK132.out, HB.out, fun h_ => absurd h_ (by decide), fun h_ => absurd h_ (by decide), fun h_ => absurd h_ (by decide), fun h_ => absurd h_ (by decide), fun h_ => absurd h_ (by decide), fun h_ => absurd h_ (by decide)⟩
      ·skip
       clear BK132 HB
       refine steps_cons ?_ ?_
       ·rintro b a w' ⟨v134, adz_v134, v139, adz_v139, m3_, m10_, ha, Q_BK132, Q_HB, Q_HO135, Q_HA_HO135, Q_HO140, Q_HA_HO140, Q_X3_, Q_X10_⟩ hb_ hon hoff
        refine ⟨_, rfl, fun K hK => ?_⟩
        replace ha := As.mk ha; have BK132 := As.mk Q_BK132; have HB := As.mk Q_HB
        refine Kd.R_lit_step (Kd.int .i64) _ 3 ?hg (N := 9) ?hd (xs := ([0, 2, 2, 3] : List Int)) (inner := [.int .i64 0, .int .i64 2, .int .i64 2, .int .i64 3]) (ok := fun _ => True) (okp := fun _ => True) ?hr ?hp (fun _ hk => hk) trivial (Below.refl _ _) (Nat.le_refl _) (by simp) ?_; (case hd => rfl); (case hg => rfl); (case hr => first | (go_simp; done) | (go_simp; rfl)); (case hp => exact (Reps.one (show Kd.M (Kd.int .i64) _ _ _ 0 [.int .i64 0] from rfl) (Reps.one (show Kd.M (Kd.int .i64) _ _ _ 2 [.int .i64 2] from rfl) (Reps.one (show Kd.M (Kd.int .i64) _ _ _ 2 [.int .i64 2] from rfl) (Reps.one (show Kd.M (Kd.int .i64) _ _ _ 3 [.int .i64 3] from rfl) (Reps.none _ _))))))
        intro v134 w13 ho14 hb hg_ hnew_; clear hg_ hnew_; (first | rw [← Ny133.out] at ho14 | (simp only [Int.reduceToNat] at ho14; rw [← Ny133.out] at ho14)); have n0_ := As.mk (Kd.R_lower ho14 (bwz (by repeat (first | (with_reducible first | exact HB.out | apply bwa | apply bwn | apply bw1 | refine bws ?_ GE132.out) | exact HB.out)))); have n1_ := As.mk (bkb (g := gb132) (o := .cells #[.int .i64 a0_0, .string a0_1, .int .i64 a0_2, .int .i64 a0_3, .int .i64 a0_4, .slice A0_5 l0_5.length c0_5] 33 (0, 0)) (by (with_reducible repeat (first | refine bkn ?_ _ | refine bkd ?_ | refine bka ?_ _)); exact BK132.out) hb); have n2_ := As.mk (bwp (by repeat (first | (with_reducible first | exact HB.out | apply bwa | apply bwn | apply bw1 | refine bws ?_ GE132.out) | exact HB.out)) hb); have z_HO140 := fun (h0_ : b 7 = true) => (show Kd.R (Kd.int .i64) 3 w13 w.heap.size (fun _ => True) v139 y138 from by first | exact (Kd.R_elder' (by (with_reducible repeat (first | apply Kd.R_alloc | apply Kd.R_drewN | apply Kd.R_drew)); exact (Q_HO140 h0_)) (Kd.R_base ho14) hb) | exact Kd.R_mono (Kd.R_elder' (by (with_reducible repeat (first | apply Kd.R_alloc | apply Kd.R_drewN | apply Kd.R_drew)); exact (Q_HO140 h0_)) (Kd.R_base ho14) hb) (fun _ h_ => by first | trivial | exact h_ | exact h_.1)); clear BK132; clear HB; have HO135 := n0_; have BK132 := n1_; have HB := n2_; clear n0_ n1_ n2_; clear hb ho14; obtain ⟨Ao15, co15, eo15⟩ := Kd.R_slice HO135.out; subst eo15; obtain ⟨ado15, fo15, _⟩ := Kd.at_int (Kd.R_reads' HO135.out).2.2 0 (by decide) (by rw [Ny133.out]; simp)
        cases fo15
        refine hK.out _ _ ⟨.slice (some ado15) y133.length co15, ado15, v139, adz_v139, m3_, m10_, (by rw [ha.out]; exact putSel_upk 0 hb_ rfl rfl rfl), (by (with_reducible repeat (first | refine bkn ?_ _ | refine bkd ?_ | refine bka ?_ _)); exact BK132.out), (by repeat (first | (with_reducible first | exact HB.out | apply bwa | apply bwn | apply bw1 | refine bws ?_ GE132.out) | exact HB.out)), fun _ => (by (with_reducible repeat (first | apply Kd.R_alloc | apply Kd.R_drewN | apply Kd.R_drew)); exact HO135.out), fun _ => ⟨_, rfl⟩, z_HO140, Q_HA_HO140, fun h0_ => absurd ((hoff 3 (by kernel_rfl)).symm.trans h0_) (by decide), Q_X10_⟩
       refine steps_cons ?_ ?_
       ·rintro b a w' ⟨v134, adz_v134, v139, adz_v139, m3_, m10_, ha, Q_BK132, Q_HB, Q_HO135, Q_HA_HO135, Q_HO140, Q_HA_HO140, Q_X3_, Q_X10_⟩ hb_ hon hoff
        refine ⟨_, rfl, fun K hK => ?_⟩
        have e2 : a.tmps[2]? = some (.pointer (some ⟨gb132, 0, none⟩)) := by rw [ha]; exact (putSel_off rfl).trans rfl
        replace ha := As.mk ha; have BK132 := As.mk Q_BK132; have HB := As.mk Q_HB; have hc0_ : w'.cell? ⟨gb132, 0, none⟩ = some (.int .i64 a0_0) := (bkc BK132.out 0).trans rfl; have hc1_ : w'.cell? ⟨gb132, 1, none⟩ = some (.string a0_1) := (bkc BK132.out 1).trans rfl; have hc2_ : w'.cell? ⟨gb132, 2, none⟩ = some (.int .i64 a0_2) := (bkc BK132.out 2).trans rfl; have hc3_ : w'.cell? ⟨gb132, 3, none⟩ = some (.int .i64 a0_3) := (bkc BK132.out 3).trans rfl; have hc4_ : w'.cell? ⟨gb132, 4, none⟩ = some (.int .i64 a0_4) := (bkc BK132.out 4).trans rfl; have hc5_ : w'.cell? ⟨gb132, 5, none⟩ = some (.slice A0_5 l0_5.length c0_5) := (bkc BK132.out 5).trans rfl
        refine value_ (w1 := w') (v := .agg #[.int .i64 a0_0, .string a0_1, .int .i64 a0_2, .int .i64 a0_3, .int .i64 a0_4, .slice A0_5 l0_5.length c0_5]) (by rfl) rfl ?_ ?_
        ·go_simp; (try simp only [i64_w])
         try rfl
        refine hK.out _ _ ⟨v134, adz_v134, v139, adz_v139, m3_, m10_, (by rw [ha.out]; exact putSel_upk 1 hb_ rfl rfl rfl), Q_BK132, Q_HB, Q_HO135, Q_HA_HO135, Q_HO140, Q_HA_HO140, fun h0_ => absurd ((hoff 3 (by kernel_rfl)).symm.trans h0_) (by decide), fun h0_ => absurd ((hoff 10 (by kernel_rfl)).symm.trans h0_) (by decide)⟩
       refine steps_cons ?_ ?_
       ·rintro b a w' ⟨v134, adz_v134, v139, adz_v139, m3_, m10_, ha, Q_BK132, Q_HB, Q_HO135, Q_HA_HO135, Q_HO140, Q_HA_HO140, Q_X3_, Q_X10_⟩ hb_ hon hoff
        refine ⟨_, rfl, fun K hK => ?_⟩
        have e10 : a.tmps[10]? = some (.agg #[.int .i64 a0_0, .string a0_1, .int .i64 a0_2, .int .i64 a0_3, .int .i64 a0_4, .slice A0_5 l0_5.length c0_5]) := by rw [ha]; exact putSel_on (e := (1, 10, .agg #[.int .i64 a0_0, .string a0_1, .int .i64 a0_2, .int .i64 a0_3, .int .i64 a0_4, .slice A0_5 l0_5.length c0_5])) 1 rfl rfl (hon 1 (by kernel_rfl)) rfl
        replace ha := As.mk ha; have BK132 := As.mk Q_BK132; have HB := As.mk Q_HB
        refine goes_ Tryd.func29 (by kernel_rfl) rfl #[.agg #[.int .i64 a0_0, .string a0_1, .int .i64 a0_2, .int .i64 a0_3, .int .i64 a0_4, .slice A0_5 l0_5.length c0_5]] (by rfl) rfl rfl (by first | (simp only [List.map_toArray, List.map_cons, List.map_nil, Act.eval, Array.getD_eq_getD_getElem?, Option.getD_some, e10]; done) | (simp only [List.map_toArray, List.map_cons, List.map_nil, Act.eval, Array.getD_eq_getD_getElem?, Option.getD_some, e10]; rfl)) ?_
        with_reducible refine (rbi.calls k a0_0 a0_1 a0_2 a0_3 a0_4 _ _ l0_5 t136 _ ?side1 ?side2 A4.out).mono ?_
        (case side1 => repeat (first | exact (Kd.C_below HR0_5.out HB.out) | (with_reducible refine Kd.C_alloc ?_ _) | (with_reducible refine Kd.C_drewN ?_ _) | (with_reducible refine Kd.C_drew ?_))); (case side2 => exact HC0_5.out); rintro e w13 ⟨rfl, hb⟩
        refine ⟨_, rfl, ?_⟩
        have n0_ := As.mk (bkb (g := gb132) (o := .cells #[.int .i64 a0_0, .string a0_1, .int .i64 a0_2, .int .i64 a0_3, .int .i64 a0_4, .slice A0_5 l0_5.length c0_5] 33 (0, 0)) (by (with_reducible repeat (first | refine bkn ?_ _ | refine bkd ?_ | refine bka ?_ _)); exact BK132.out) hb); have n1_ := As.mk (bwp (by repeat (first | (with_reducible first | exact HB.out | apply bwa | apply bwn | apply bw1 | refine bws ?_ GE132.out) | exact HB.out)) hb); have z_HO135 := fun (h0_ : b 0 = true) => (show Kd.R (Kd.int .i64) 3 w13 w.heap.size (fun _ => True) v134 y133 from by first | exact (Kd.R_below (by (with_reducible repeat (first | apply Kd.R_alloc | apply Kd.R_drewN | apply Kd.R_drew)); exact (Q_HO135 h0_)) hb) | exact Kd.R_mono (Kd.R_below (by (with_reducible repeat (first | apply Kd.R_alloc | apply Kd.R_drewN | apply Kd.R_drew)); exact (Q_HO135 h0_)) hb) (fun _ h_ => by first | trivial | exact h_ | exact h_.1)); have z_HO140 := fun (h0_ : b 7 = true) => (show Kd.R (Kd.int .i64) 3 w13 w.heap.size (fun _ => True) v139 y138 from by first | exact (Kd.R_below (by (with_reducible repeat (first | apply Kd.R_alloc | apply Kd.R_drewN | apply Kd.R_drew)); exact (Q_HO140 h0_)) hb) | exact Kd.R_mono (Kd.R_below (by (with_reducible repeat (first | apply Kd.R_alloc | apply Kd.R_drewN | apply Kd.R_drew)); exact (Q_HO140 h0_)) hb) (fun _ h_ => by first | trivial | exact h_ | exact h_.1)); clear BK132; clear HB; have BK132 := n0_; have HB := n1_; clear n0_ n1_; (try clear hb); (try clear hb2); (try clear hk); (try clear hi)
        refine hK.out _ _ ⟨v134, adz_v134, v139, adz_v139, m3_, m10_, (by rw [ha.out]; exact putSel_upk 2 hb_ rfl rfl rfl), (by (with_reducible repeat (first | refine bkn ?_ _ | refine bkd ?_ | refine bka ?_ _)); exact BK132.out), (by repeat (first | (with_reducible first | exact HB.out | apply bwa | apply bwn | apply bw1 | refine bws ?_ GE132.out) | exact HB.out)), z_HO135, Q_HA_HO135, z_HO140, Q_HA_HO140, fun h0_ => absurd ((hoff 3 (by kernel_rfl)).symm.trans h0_) (by decide), fun h0_ => absurd ((hoff 10 (by kernel_rfl)).symm.trans h0_) (by decide)⟩
       refine steps_cons ?_ ?_
       ·rintro b a w' ⟨v134, adz_v134, v139, adz_v139, m3_, m10_, ha, Q_BK132, Q_HB, Q_HO135, Q_HA_HO135, Q_HO140, Q_HA_HO140, Q_X3_, Q_X10_⟩ hb_ hon hoff
        refine ⟨_, rfl, fun K hK => ?_⟩
        have e9 : a.tmps[9]? = some (v134) := by rw [ha]; exact putSel_on (e := (0, 9, v134)) 0 rfl rfl (hon 0 (by kernel_rfl)) rfl
        have e11 : a.tmps[11]? = some (.int .i64 t136) := by rw [ha]; exact putSel_on (e := (2, 11, .int .i64 t136)) 2 rfl rfl (hon 2 (by kernel_rfl)) rfl
        replace ha := As.mk ha; have BK132 := As.mk Q_BK132; have HB := As.mk Q_HB; have HO135 := As.mk (Q_HO135 (hon 0 (by kernel_rfl))); have HA_HO135 := As.mk (Q_HA_HO135 (hon 0 (by kernel_rfl))); obtain ⟨c_, hv_⟩ := HA_HO135.out; rw [hv_] at e9
        refine value_ (w1 := w') (v := .pointer (some (adz_v134.add (t136).toNat))) (by rfl) rfl ?_ ?_
        ·go_simp; (try simp only [i64_w])
         try rfl
        refine hK.out _ _ ⟨v134, adz_v134, v139, adz_v139, (.pointer (some (adz_v134.add (t136).toNat))), m10_, (by rw [ha.out]; exact putSel_upk 3 hb_ rfl rfl rfl), Q_BK132, Q_HB, Q_HO135, Q_HA_HO135, Q_HO140, Q_HA_HO140, fun _ => rfl, Q_X10_⟩
       refine steps_cons ?_ ?_
       ·rintro b a w' ⟨v134, adz_v134, v139, adz_v139, m3_, m10_, ha, Q_BK132, Q_HB, Q_HO135, Q_HA_HO135, Q_HO140, Q_HA_HO140, Q_X3_, Q_X10_⟩ hb_ hon hoff
        refine ⟨_, rfl, fun K hK => ?_⟩
        have e12 : a.tmps[12]? = some (m3_) := by rw [ha]; exact putSel_on (e := (3, 12, m3_)) 3 rfl rfl (hon 3 (by kernel_rfl)) rfl
        rw [Q_X3_ (hon 3 (by kernel_rfl))] at e12; replace ha := As.mk ha; have BK132 := As.mk Q_BK132; have HB := As.mk Q_HB; have HO135 := As.mk (Q_HO135 (hon 0 (by kernel_rfl))); have HA_HO135 := As.mk (Q_HA_HO135 (hon 0 (by kernel_rfl))); obtain ⟨c_, hv_⟩ := HA_HO135.out; have hF_ := HO135.out; rw [hv_] at hF_; obtain ⟨ad_, ea_, hx_⟩ := Kd.at_int (Kd.R_reads' hF_).2.2 t136 (of_eq_true pi137) (of_eq_true qi137)
        cases ea_
        refine value_ (w1 := w') (v := .int .i64 (rd y133 t136)) (by rfl) rfl ?_ ?_
        ·go_simp; (try simp only [i64_w])
         try rfl
        refine hK.out _ _ ⟨v134, adz_v134, v139, adz_v139, m3_, m10_, (by rw [ha.out]; exact putSel_upk 4 hb_ rfl rfl rfl), Q_BK132, Q_HB, Q_HO135, Q_HA_HO135, Q_HO140, Q_HA_HO140, Q_X3_, Q_X10_⟩
       refine steps_cons ?_ ?_
       ·rintro b a w' ⟨v134, adz_v134, v139, adz_v139, m3_, m10_, ha, Q_BK132, Q_HB, Q_HO135, Q_HA_HO135, Q_HO140, Q_HA_HO140, Q_X3_, Q_X10_⟩ hb_ hon hoff
        refine ⟨_, rfl, fun K hK => ?_⟩
        have e14 : a.tmps[14]? = some (.int .i64 a1) := by rw [ha]; exact (putSel_off rfl).trans rfl
        have e15 : a.tmps[15]? = some (.int .i64 a1) := by rw [ha]; exact (putSel_off rfl).trans rfl
        replace ha := As.mk ha; have BK132 := As.mk Q_BK132; have HB := As.mk Q_HB
        refine Kd.R_lit_step (Kd.int .i64) _ 3 ?hg (N := 16) ?hd (xs := ([0, 0, a1, a1] : List Int)) (inner := [.int .i64 0, .int .i64 0, .int .i64 a1, .int .i64 a1]) (ok := fun _ => True) (okp := fun _ => True) ?hr ?hp (fun _ hk => hk) trivial (Below.refl _ _) (Nat.le_refl _) (by simp) ?_; (case hd => rfl); (case hg => rfl); (case hr => first | (go_simp; done) | (go_simp; rfl)); (case hp => exact (Reps.one (show Kd.M (Kd.int .i64) _ _ _ 0 [.int .i64 0] from rfl) (Reps.one (show Kd.M (Kd.int .i64) _ _ _ 0 [.int .i64 0] from rfl) (Reps.one (show Kd.M (Kd.int .i64) _ _ _ a1 [.int .i64 a1] from rfl) (Reps.one (show Kd.M (Kd.int .i64) _ _ _ a1 [.int .i64 a1] from rfl) (Reps.none _ _))))))
        intro v139 w13 ho14 hb hg_ hnew_; clear hg_ hnew_; (first | rw [← Ny138.out] at ho14 | (simp only [Int.reduceToNat] at ho14; rw [← Ny138.out] at ho14)); have n0_ := As.mk (Kd.R_lower ho14 (bwz (by repeat (first | (with_reducible first | exact HB.out | apply bwa | apply bwn | apply bw1 | refine bws ?_ GE132.out) | exact HB.out)))); have n1_ := As.mk (bkb (g := gb132) (o := .cells #[.int .i64 a0_0, .string a0_1, .int .i64 a0_2, .int .i64 a0_3, .int .i64 a0_4, .slice A0_5 l0_5.length c0_5] 33 (0, 0)) (by (with_reducible repeat (first | refine bkn ?_ _ | refine bkd ?_ | refine bka ?_ _)); exact BK132.out) hb); have n2_ := As.mk (bwp (by repeat (first | (with_reducible first | exact HB.out | apply bwa | apply bwn | apply bw1 | refine bws ?_ GE132.out) | exact HB.out)) hb); have z_HO135 := fun (h0_ : b 0 = true) => (show Kd.R (Kd.int .i64) 3 w13 w.heap.size (fun _ => True) v134 y133 from by first | exact (Kd.R_elder' (by (with_reducible repeat (first | apply Kd.R_alloc | apply Kd.R_drewN | apply Kd.R_drew)); exact (Q_HO135 h0_)) (Kd.R_base ho14) hb) | exact Kd.R_mono (Kd.R_elder' (by (with_reducible repeat (first | apply Kd.R_alloc | apply Kd.R_drewN | apply Kd.R_drew)); exact (Q_HO135 h0_)) (Kd.R_base ho14) hb) (fun _ h_ => by first | trivial | exact h_ | exact h_.1)); clear BK132; clear HB; have HO140 := n0_; have BK132 := n1_; have HB := n2_; clear n0_ n1_ n2_; clear hb ho14; obtain ⟨Ao15, co15, eo15⟩ := Kd.R_slice HO140.out; subst eo15; obtain ⟨ado15, fo15, _⟩ := Kd.at_int (Kd.R_reads' HO140.out).2.2 0 (by decide) (by rw [Ny138.out]; simp)
        cases fo15
        refine hK.out _ _ ⟨v134, adz_v134, .slice (some ado15) y138.length co15, ado15, m3_, m10_, (by rw [ha.out]; exact putSel_upk 5 hb_ rfl rfl rfl), (by (with_reducible repeat (first | refine bkn ?_ _ | refine bkd ?_ | refine bka ?_ _)); exact BK132.out), (by repeat (first | (with_reducible first | exact HB.out | apply bwa | apply bwn | apply bw1 | refine bws ?_ GE132.out) | exact HB.out)), z_HO135, Q_HA_HO135, fun _ => (by (with_reducible repeat (first | apply Kd.R_alloc | apply Kd.R_drewN | apply Kd.R_drew)); exact HO140.out), fun _ => ⟨_, rfl⟩, Q_X3_, fun h0_ => absurd ((hoff 10 (by kernel_rfl)).symm.trans h0_) (by decide)⟩
       refine steps_cons ?_ ?_
       ·rintro b a w' ⟨v134, adz_v134, v139, adz_v139, m3_, m10_, ha, Q_BK132, Q_HB, Q_HO135, Q_HA_HO135, Q_HO140, Q_HA_HO140, Q_X3_, Q_X10_⟩ hb_ hon hoff
        refine ⟨_, rfl, fun K hK => ?_⟩
        have e2 : a.tmps[2]? = some (.pointer (some ⟨gb132, 0, none⟩)) := by rw [ha]; exact (putSel_off rfl).trans rfl
        replace ha := As.mk ha; have BK132 := As.mk Q_BK132; have HB := As.mk Q_HB; have hc0_ : w'.cell? ⟨gb132, 0, none⟩ = some (.int .i64 a0_0) := (bkc BK132.out 0).trans rfl; have hc1_ : w'.cell? ⟨gb132, 1, none⟩ = some (.string a0_1) := (bkc BK132.out 1).trans rfl; have hc2_ : w'.cell? ⟨gb132, 2, none⟩ = some (.int .i64 a0_2) := (bkc BK132.out 2).trans rfl; have hc3_ : w'.cell? ⟨gb132, 3, none⟩ = some (.int .i64 a0_3) := (bkc BK132.out 3).trans rfl; have hc4_ : w'.cell? ⟨gb132, 4, none⟩ = some (.int .i64 a0_4) := (bkc BK132.out 4).trans rfl; have hc5_ : w'.cell? ⟨gb132, 5, none⟩ = some (.slice A0_5 l0_5.length c0_5) := (bkc BK132.out 5).trans rfl
        refine value_ (w1 := w') (v := .agg #[.int .i64 a0_0, .string a0_1, .int .i64 a0_2, .int .i64 a0_3, .int .i64 a0_4, .slice A0_5 l0_5.length c0_5]) (by rfl) rfl ?_ ?_
        ·go_simp; (try simp only [i64_w])
         try rfl
        refine hK.out _ _ ⟨v134, adz_v134, v139, adz_v139, m3_, m10_, (by rw [ha.out]; exact putSel_upk 6 hb_ rfl rfl rfl), Q_BK132, Q_HB, Q_HO135, Q_HA_HO135, Q_HO140, Q_HA_HO140, Q_X3_, fun h0_ => absurd ((hoff 10 (by kernel_rfl)).symm.trans h0_) (by decide)⟩
       refine steps_cons ?_ ?_
       ·rintro b a w' ⟨v134, adz_v134, v139, adz_v139, m3_, m10_, ha, Q_BK132, Q_HB, Q_HO135, Q_HA_HO135, Q_HO140, Q_HA_HO140, Q_X3_, Q_X10_⟩ hb_ hon hoff
        refine ⟨_, rfl, fun K hK => ?_⟩
        have e17 : a.tmps[17]? = some (.agg #[.int .i64 a0_0, .string a0_1, .int .i64 a0_2, .int .i64 a0_3, .int .i64 a0_4, .slice A0_5 l0_5.length c0_5]) := by rw [ha]; exact putSel_on (e := (8, 17, .agg #[.int .i64 a0_0, .string a0_1, .int .i64 a0_2, .int .i64 a0_3, .int .i64 a0_4, .slice A0_5 l0_5.length c0_5])) 6 rfl rfl (hon 8 (by kernel_rfl)) rfl
        replace ha := As.mk ha; have BK132 := As.mk Q_BK132; have HB := As.mk Q_HB
        refine goes_ Tryd.func29 (by kernel_rfl) rfl #[.agg #[.int .i64 a0_0, .string a0_1, .int .i64 a0_2, .int .i64 a0_3, .int .i64 a0_4, .slice A0_5 l0_5.length c0_5]] (by rfl) rfl rfl (by first | (simp only [List.map_toArray, List.map_cons, List.map_nil, Act.eval, Array.getD_eq_getD_getElem?, Option.getD_some, e17]; done) | (simp only [List.map_toArray, List.map_cons, List.map_nil, Act.eval, Array.getD_eq_getD_getElem?, Option.getD_some, e17]; rfl)) ?_
        with_reducible refine (rbi.calls k a0_0 a0_1 a0_2 a0_3 a0_4 _ _ l0_5 t141 _ ?side1 ?side2 A7.out).mono ?_
        (case side1 => repeat (first | exact (Kd.C_below HR0_5.out HB.out) | (with_reducible refine Kd.C_alloc ?_ _) | (with_reducible refine Kd.C_drewN ?_ _) | (with_reducible refine Kd.C_drew ?_))); (case side2 => exact HC0_5.out); rintro e w15 ⟨rfl, hb⟩
        refine ⟨_, rfl, ?_⟩
        have n0_ := As.mk (bkb (g := gb132) (o := .cells #[.int .i64 a0_0, .string a0_1, .int .i64 a0_2, .int .i64 a0_3, .int .i64 a0_4, .slice A0_5 l0_5.length c0_5] 33 (0, 0)) (by (with_reducible repeat (first | refine bkn ?_ _ | refine bkd ?_ | refine bka ?_ _)); exact BK132.out) hb); have n1_ := As.mk (bwp (by repeat (first | (with_reducible first | exact HB.out | apply bwa | apply bwn | apply bw1 | refine bws ?_ GE132.out) | exact HB.out)) hb); have z_HO135 := fun (h0_ : b 0 = true) => (show Kd.R (Kd.int .i64) 3 w15 w.heap.size (fun _ => True) v134 y133 from by first | exact (Kd.R_below (by (with_reducible repeat (first | apply Kd.R_alloc | apply Kd.R_drewN | apply Kd.R_drew)); exact (Q_HO135 h0_)) hb) | exact Kd.R_mono (Kd.R_below (by (with_reducible repeat (first | apply Kd.R_alloc | apply Kd.R_drewN | apply Kd.R_drew)); exact (Q_HO135 h0_)) hb) (fun _ h_ => by first | trivial | exact h_ | exact h_.1)); have z_HO140 := fun (h0_ : b 7 = true) => (show Kd.R (Kd.int .i64) 3 w15 w.heap.size (fun _ => True) v139 y138 from by first | exact (Kd.R_below (by (with_reducible repeat (first | apply Kd.R_alloc | apply Kd.R_drewN | apply Kd.R_drew)); exact (Q_HO140 h0_)) hb) | exact Kd.R_mono (Kd.R_below (by (with_reducible repeat (first | apply Kd.R_alloc | apply Kd.R_drewN | apply Kd.R_drew)); exact (Q_HO140 h0_)) hb) (fun _ h_ => by first | trivial | exact h_ | exact h_.1)); clear BK132; clear HB; have BK132 := n0_; have HB := n1_; clear n0_ n1_; (try clear hb); (try clear hb2); (try clear hk); (try clear hi)
        refine hK.out _ _ ⟨v134, adz_v134, v139, adz_v139, m3_, m10_, (by rw [ha.out]; exact putSel_upk 7 hb_ rfl rfl rfl), (by (with_reducible repeat (first | refine bkn ?_ _ | refine bkd ?_ | refine bka ?_ _)); exact BK132.out), (by repeat (first | (with_reducible first | exact HB.out | apply bwa | apply bwn | apply bw1 | refine bws ?_ GE132.out) | exact HB.out)), z_HO135, Q_HA_HO135, z_HO140, Q_HA_HO140, Q_X3_, fun h0_ => absurd ((hoff 10 (by kernel_rfl)).symm.trans h0_) (by decide)⟩
       refine steps_cons ?_ ?_
       ·rintro b a w' ⟨v134, adz_v134, v139, adz_v139, m3_, m10_, ha, Q_BK132, Q_HB, Q_HO135, Q_HA_HO135, Q_HO140, Q_HA_HO140, Q_X3_, Q_X10_⟩ hb_ hon hoff
        refine ⟨_, rfl, fun K hK => ?_⟩
        have e16 : a.tmps[16]? = some (v139) := by rw [ha]; exact putSel_on (e := (7, 16, v139)) 5 rfl rfl (hon 7 (by kernel_rfl)) rfl
        have e18 : a.tmps[18]? = some (.int .i64 t141) := by rw [ha]; exact putSel_on (e := (9, 18, .int .i64 t141)) 7 rfl rfl (hon 9 (by kernel_rfl)) rfl
        replace ha := As.mk ha; have BK132 := As.mk Q_BK132; have HB := As.mk Q_HB; have HO140 := As.mk (Q_HO140 (hon 7 (by kernel_rfl))); have HA_HO140 := As.mk (Q_HA_HO140 (hon 7 (by kernel_rfl))); obtain ⟨c_, hv_⟩ := HA_HO140.out; rw [hv_] at e16
        refine value_ (w1 := w') (v := .pointer (some (adz_v139.add (t141).toNat))) (by rfl) rfl ?_ ?_
        ·go_simp; (try simp only [i64_w])
         try rfl
        refine hK.out _ _ ⟨v134, adz_v134, v139, adz_v139, m3_, (.pointer (some (adz_v139.add (t141).toNat))), (by rw [ha.out]; exact putSel_upk 8 hb_ rfl rfl rfl), Q_BK132, Q_HB, Q_HO135, Q_HA_HO135, Q_HO140, Q_HA_HO140, Q_X3_, fun _ => rfl⟩
       refine steps_cons ?_ ?_
       ·rintro b a w' ⟨v134, adz_v134, v139, adz_v139, m3_, m10_, ha, Q_BK132, Q_HB, Q_HO135, Q_HA_HO135, Q_HO140, Q_HA_HO140, Q_X3_, Q_X10_⟩ hb_ hon hoff
        refine ⟨_, rfl, fun K hK => ?_⟩
        have e19 : a.tmps[19]? = some (m10_) := by rw [ha]; exact putSel_on (e := (10, 19, m10_)) 8 rfl rfl (hon 10 (by kernel_rfl)) rfl
        rw [Q_X10_ (hon 10 (by kernel_rfl))] at e19; replace ha := As.mk ha; have BK132 := As.mk Q_BK132; have HB := As.mk Q_HB; have HO140 := As.mk (Q_HO140 (hon 7 (by kernel_rfl))); have HA_HO140 := As.mk (Q_HA_HO140 (hon 7 (by kernel_rfl))); obtain ⟨c_, hv_⟩ := HA_HO140.out; have hF_ := HO140.out; rw [hv_] at hF_; obtain ⟨ad_, ea_, hx_⟩ := Kd.at_int (Kd.R_reads' hF_).2.2 t141 (of_eq_true pi142) (of_eq_true qi142)
        cases ea_
        refine value_ (w1 := w') (v := .int .i64 (rd y138 t141)) (by rfl) rfl ?_ ?_
        ·go_simp; (try simp only [i64_w])
         try rfl
        refine hK.out _ _ ⟨v134, adz_v134, v139, adz_v139, m3_, m10_, (by rw [ha.out]; exact putSel_upk 9 hb_ rfl rfl rfl), Q_BK132, Q_HB, Q_HO135, Q_HA_HO135, Q_HO140, Q_HA_HO140, Q_X3_, Q_X10_⟩
       refine steps_cons ?_ ?_
       ·rintro b a w' ⟨v134, adz_v134, v139, adz_v139, m3_, m10_, ha, Q_BK132, Q_HB, Q_HO135, Q_HA_HO135, Q_HO140, Q_HA_HO140, Q_X3_, Q_X10_⟩ hb_ hon hoff
        refine ⟨_, rfl, fun K hK => ?_⟩
        have e13 : a.tmps[13]? = some (.int .i64 (rd y133 t136)) := by rw [ha]; exact putSel_on (e := (4, 13, .int .i64 (rd y133 t136))) 4 rfl rfl (hon 4 (by kernel_rfl)) rfl
        have e20 : a.tmps[20]? = some (.int .i64 (rd y138 t141)) := by rw [ha]; exact putSel_on (e := (11, 20, .int .i64 (rd y138 t141))) 9 rfl rfl (hon 11 (by kernel_rfl)) rfl
        replace ha := As.mk ha; have BK132 := As.mk Q_BK132; have HB := As.mk Q_HB; have HO135 := As.mk (Q_HO135 (hon 0 (by kernel_rfl))); have HA_HO135 := As.mk (Q_HA_HO135 (hon 0 (by kernel_rfl))); have HO140 := As.mk (Q_HO140 (hon 7 (by kernel_rfl))); have HA_HO140 := As.mk (Q_HA_HO140 (hon 7 (by kernel_rfl)))
        refine value_ (w1 := w') (v := .int .i64 (wrap64 ((rd y133 t136) + (rd y138 t141)))) (by rfl) rfl ?_ ?_
        ·go_simp; (try simp only [i64_w])
         try rfl
        refine hK.out _ _ ⟨v134, adz_v134, v139, adz_v139, m3_, m10_, (by rw [ha.out]; exact putSel_upk 10 hb_ rfl rfl rfl), Q_BK132, Q_HB, Q_HO135, Q_HA_HO135, Q_HO140, Q_HA_HO140, Q_X3_, Q_X10_⟩
       refine steps_cons ?_ ?_
       ·rintro b a w' ⟨v134, adz_v134, v139, adz_v139, m3_, m10_, ha, Q_BK132, Q_HB, Q_HO135, Q_HA_HO135, Q_HO140, Q_HA_HO140, Q_X3_, Q_X10_⟩ hb_ hon hoff
        refine ⟨_, rfl, fun K hK => ?_⟩
        have e21 : a.tmps[21]? = some (.int .i64 (wrap64 ((rd y133 t136) + (rd y138 t141)))) := by rw [ha]; exact putSel_on (e := (12, 21, .int .i64 (wrap64 ((rd y133 t136) + (rd y138 t141))))) 10 rfl rfl (hon 12 (by kernel_rfl)) rfl
        replace ha := As.mk ha; have BK132 := As.mk Q_BK132; have HB := As.mk Q_HB; have HO135 := As.mk (Q_HO135 (hon 0 (by kernel_rfl))); have HA_HO135 := As.mk (Q_HA_HO135 (hon 0 (by kernel_rfl))); have HO140 := As.mk (Q_HO140 (hon 7 (by kernel_rfl))); have HA_HO140 := As.mk (Q_HA_HO140 (hon 7 (by kernel_rfl)))
        refine value_ (w1 := w') (v := .int .i64 (wrap64 ((rd y133 t136) + (rd y138 t141)))) (by rfl) rfl ?_ ?_
        ·go_simp; (try simp only [i64_w])
         try rfl
        refine hK.out _ _ ⟨v134, adz_v134, v139, adz_v139, m3_, m10_, (by rw [ha.out]; exact putSel_upk 11 hb_ rfl rfl rfl), Q_BK132, Q_HB, Q_HO135, Q_HA_HO135, Q_HO140, Q_HA_HO140, Q_X3_, Q_X10_⟩
       exact steps_nil
      rintro b a w21 hall ⟨v134, adz_v134, v139, adz_v139, m3_, m10_, ha, Q_BK132, Q_HB, Q_HO135, Q_HA_HO135, Q_HO140, Q_HA_HO140, Q_X3_, Q_X10_⟩; clear BK132 HB; have hb0_ := hall 0 (by kernel_rfl); have hb1_ := hall 1 (by kernel_rfl); have hb2_ := hall 2 (by kernel_rfl); have hb3_ := hall 3 (by kernel_rfl); have hb4_ := hall 4 (by kernel_rfl); have hb7_ := hall 7 (by kernel_rfl); have hb8_ := hall 8 (by kernel_rfl); have hb9_ := hall 9 (by kernel_rfl); have hb10_ := hall 10 (by kernel_rfl); have hb11_ := hall 11 (by kernel_rfl); have hb12_ := hall 12 (by kernel_rfl); have hb13_ := hall 13 (by kernel_rfl); subst ha; obtain rfl := Q_X3_ hb3_; obtain rfl := Q_X10_ hb10_; simp only [putSel, hb0_, hb1_, hb2_, hb3_, hb4_, hb7_, hb8_, hb9_, hb10_, hb11_, hb12_, hb13_, if_true, Act.put, List.setIfInBounds_toArray, List.set_cons_zero, List.set_cons_succ]; have BK132 := As.mk Q_BK132; clear Q_BK132; have HB := As.mk Q_HB; clear Q_HB; have HO135 := As.mk (Q_HO135 hb0_); clear Q_HO135; have HA_HO135 := As.mk (Q_HA_HO135 hb0_); clear Q_HA_HO135; have HO140 := As.mk (Q_HO140 hb7_); clear Q_HO140; have HA_HO140 := As.mk (Q_HA_HO140 hb7_); clear Q_HA_HO140; clear hall hb0_ hb1_ hb2_ hb3_ hb4_ hb7_ hb8_ hb9_ hb10_ hb11_ hb12_ hb13_; obtain ⟨co22, eo22⟩ := HA_HO135.out; clear HA_HO135; subst eo22; obtain ⟨co23, eo23⟩ := HA_HO140.out; clear HA_HO140; subst eo23
      try go_wp2
      go_ret
      exact ⟨by first | rfl | (simp [*] <;> rfl), by repeat (first | (with_reducible first | exact HB.out | apply bwa | apply bwn | apply bw1 | refine bws ?_ GE132.out) | exact HB.out)⟩
     ·rw [if_neg c9] at H
      exact absurd H (by simp)
    ·rw [if_neg c8] at H
     exact absurd H (by simp)
   ·rw [if_neg c6] at H
    exact absurd H (by simp)
  ·rw [if_neg c5] at H
   exact absurd H (by simp)
 ·rw [if_neg c3] at H; have c3b0 : (a0_0 == 32) = false := beq_eq_false_iff_ne.mpr c3; have c3b1 : (a0_0 != 32) = true := bne_iff_ne.mpr c3; have HC24 := As.mk H; clear H
  go_enter Tryd.func30, Tryd.ntmps30
  go_upto_if 22 with (first | ((with_reducible refine gate_dst (N := 2) rfl ?_); refine box_event ?hg (N := 2) ?hd (cs := #[.int .i64 a0_0, .string a0_1, .int .i64 a0_2, .int .i64 a0_3, .int .i64 a0_4, .slice A0_5 l0_5.length c0_5]) (t := 33) ?hr ?_; (case hd => rfl); (case hg => rfl); (case hr => first | (go_simp; done) | (go_simp; rfl)); intro gb132 hg w25 hbox hb; have n0_ := As.mk (bwp (by repeat (first | (with_reducible first | exact HB.out | apply bwa | apply bwn | apply bw1) | exact HB.out)) hb); have n1_ := As.mk (hbox); have n2_ := As.mk ((by rw [hg]; exact (bwz (by repeat (first | (with_reducible first | exact HB.out | apply bwa | apply bwn | apply bw1) | exact HB.out))) : w.heap.size ≤ gb132)); have n3_ := As.mk ((by rw [hg]; exact (bwz (by repeat (first | (with_reducible first | exact HB.out | apply bwa | apply bwn | apply bw1) | exact HB.out))) : w.heap.size ≤ gb132)); clear HB; have HB := n0_; have BK132 := n1_; have GW132 := n2_; have GE132 := n3_; clear n0_ n1_ n2_ n3_; clear hb hbox hg; have hcz26_0 : w25.cell? ⟨gb132, 0, none⟩ = some (.int .i64 a0_0) := (bkc BK132.out 0).trans rfl; have hcz26_1 : w25.cell? ⟨gb132, 1, none⟩ = some (.string a0_1) := (bkc BK132.out 1).trans rfl; have hcz26_2 : w25.cell? ⟨gb132, 2, none⟩ = some (.int .i64 a0_2) := (bkc BK132.out 2).trans rfl; have hcz26_3 : w25.cell? ⟨gb132, 3, none⟩ = some (.int .i64 a0_3) := (bkc BK132.out 3).trans rfl; have hcz26_4 : w25.cell? ⟨gb132, 4, none⟩ = some (.int .i64 a0_4) := (bkc BK132.out 4).trans rfl; have hcz26_5 : w25.cell? ⟨gb132, 5, none⟩ = some (.slice A0_5 l0_5.length c0_5) := (bkc BK132.out 5).trans rfl; have hfz26_0 := bkf BK132.out 0; have hfz26_1 := bkf BK132.out 1; have hfz26_2 := bkf BK132.out 2; have hfz26_3 := bkf BK132.out 3; have hfz26_4 := bkf BK132.out 4; have hfz26_5 := bkf BK132.out 5))
  (try simp only [Act.put, List.setIfInBounds_toArray, List.set_cons_zero, List.set_cons_succ])
  go_cut [22] (fun v22 wc => ∃ (kq : Nat) (x22_23 : Bool), v22 = .bool x22_23 ∧ As (rmu.j0 kq a1 a0_0 x22_23 = some r) ∧ As (kq ≤ k) ∧ As (wc.heap[gb132]? = some (.cells #[.int .i64 a0_0, .string a0_1, .int .i64 a0_2, .int .i64 a0_3, .int .i64 a0_4, (.slice A0_5 l0_5.length c0_5)] 33 (0, 0))) ∧ As (Below w.heap.size w wc))
  case first =>
   have H := HC24.out; clear HC24
   by_cases c27 : a0_0 = 34
   ·rw [if_pos c27] at H; have c27b0 : (a0_0 == 34) = true := beq_iff_eq.mpr c27; have c27b1 : (a0_0 != 34) = false := bne_eq_false_iff_eq.mpr c27; clear c27; (first | rw [c27b0] | (simp only [i64_w, i32_w]; rw [c27b0]) | skip); have H' := As.mk H; clear H; go_wp2
    go_meet
    case rel => exact ⟨_, ((a0_0 == 34)), (by first | rfl | (simp; done) | (simp [*]; done)), H', ⟨by first | omega | exact Nat.le_refl _⟩, ⟨by (with_reducible repeat (first | refine bkn ?_ _ | refine bkd ?_ | refine bka ?_ _)); exact BK132.out⟩, ⟨by repeat (first | (with_reducible first | exact HB.out | apply bwa | apply bwn | apply bw1 | refine bws ?_ GE132.out) | exact HB.out)⟩⟩
   ·rw [if_neg c27] at H; have c27b0 : (a0_0 == 34) = false := beq_eq_false_iff_ne.mpr c27; have c27b1 : (a0_0 != 34) = true := bne_iff_ne.mpr c27; (first | rw [c27b0] | (simp only [i64_w, i32_w]; rw [c27b0]) | skip); have H' := As.mk H; clear H; go_wp2
    go_meet
    case rel => exact ⟨_, ((a0_0 == 35)), (by first | rfl | (simp; done) | (simp [*]; done)), H', ⟨by first | omega | exact Nat.le_refl _⟩, ⟨by (with_reducible repeat (first | refine bkn ?_ _ | refine bkd ?_ | refine bka ?_ _)); exact BK132.out⟩, ⟨by repeat (first | (with_reducible first | exact HB.out | apply bwa | apply bwn | apply bw1 | refine bws ?_ GE132.out) | exact HB.out)⟩⟩
  case rest =>
   clear HC24; (try clear c1); (try clear qi1); (try clear c2); (try clear p2); (try clear c3); (try clear c3b0); (try clear c3b1); (try clear c4); (try clear c5); (try clear c5b0); (try clear c6); (try clear c6b0); (try clear p6); (try clear c8); (try clear c8b0); (try clear c9); (try clear c9b0); (try clear qi13); (try clear qi14); (try clear c27); (try clear c27b0); (try clear c27b1); (try clear hcz11_0); (try clear hcz11_1); (try clear hcz11_2); (try clear hcz11_3); (try clear hcz11_4); (try clear hcz11_5); (try clear hcz26_0); (try clear hcz26_1); (try clear hcz26_2); (try clear hcz26_3); (try clear hcz26_4); (try clear hcz26_5); (try clear hfz11_0); (try clear hfz11_1); (try clear hfz11_2); (try clear hfz11_3); (try clear hfz11_4); (try clear hfz11_5); (try clear hfz26_0); (try clear hfz26_1); (try clear hfz26_2); (try clear hfz26_3); (try clear hfz26_4); (try clear hfz26_5); obtain ⟨kq, x22_23, rfl, HA, HJ23, BK132, HB⟩ := hcut
   cases kq with
   | zero => exact absurd HA.out (by simp [rmu.j0])
   | succ kj23 =>
    have H := HA.out; clear HA; simp only [rmu.j0] at H
    by_cases c28 : x22_23 = true
    ·subst c28
     have H1 : (some 4) = some r := by rw [if_pos rfl] at H; exact H
     clear H; have H := H1; clear H1; obtain rfl := Option.some.inj H; go_wp2
     go_ret
     exact ⟨by first | rfl | (simp [*] <;> rfl), by repeat (first | (with_reducible first | exact HB.out | apply bwa | apply bwn | apply bw1 | refine bws ?_ GE132.out) | exact HB.out)⟩
    ·replace c28 := Bool.eq_false_iff.mpr c28; subst c28
     have H1 : (if a0_0 = 30 then (some 5) else (if a0_0 = 31 then (some (wrap64 (5 - (wrap64 (5 * a1))))) else (some 0))) = some r := by rw [if_neg (show ¬ (false = true) by decide)] at H; exact H
     clear H; have H := H1; clear H1
     by_cases c29 : a0_0 = 30
     ·rw [if_pos c29] at H; have c29b0 : (a0_0 == 30) = true := beq_iff_eq.mpr c29; have c29b1 : (a0_0 != 30) = false := bne_eq_false_iff_eq.mpr c29; clear c29; obtain rfl := Option.some.inj H; go_wp2
      go_ret
      exact ⟨by first | rfl | (simp [*] <;> rfl), by repeat (first | (with_reducible first | exact HB.out | apply bwa | apply bwn | apply bw1 | refine bws ?_ GE132.out) | exact HB.out)⟩
     ·rw [if_neg c29] at H; have c29b0 : (a0_0 == 30) = false := beq_eq_false_iff_ne.mpr c29; have c29b1 : (a0_0 != 30) = true := bne_iff_ne.mpr c29
      by_cases c30 : a0_0 = 31
      ·rw [if_pos c30] at H; have c30b0 : (a0_0 == 31) = true := beq_iff_eq.mpr c30; have c30b1 : (a0_0 != 31) = false := bne_eq_false_iff_eq.mpr c30; clear c30; obtain rfl := Option.some.inj H; go_wp2
       go_ret
       exact ⟨by first | rfl | (simp [*] <;> rfl), by repeat (first | (with_reducible first | exact HB.out | apply bwa | apply bwn | apply bw1 | refine bws ?_ GE132.out) | exact HB.out)⟩
      ·rw [if_neg c30] at H; have c30b0 : (a0_0 == 31) = false := beq_eq_false_iff_ne.mpr c30; have c30b1 : (a0_0 != 31) = true := bne_iff_ne.mpr c30; obtain rfl := Option.some.inj H; go_wp2
       go_ret
       exact ⟨by first | rfl | (simp [*] <;> rfl), by repeat (first | (with_reducible first | exact HB.out | apply bwa | apply bwn | apply bw1 | refine bws ?_ GE132.out) | exact HB.out)⟩
end Go.Proofs.YtbpefmidgfmcaaaDoor.PTreeApart
end
