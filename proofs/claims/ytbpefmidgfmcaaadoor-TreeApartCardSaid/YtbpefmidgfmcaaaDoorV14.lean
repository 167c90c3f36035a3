import Derived.Test.YtbpefmidgfmcaaaDoorV13
section
set_option linter.unusedVariables false
namespace Go.Proofs.YtbpefmidgfmcaaaDoor
open Go.RowKit PTreeApart Go.Proofs.YtbpefmidgfmcaaaDoorW.PrintWords
/-- A row of function values. -/
def FAt (A : Option Addr) (vs : List Value) (w : World) : Prop :=
  ∀ j (h : j < vs.length), ∃ g o, A = some ⟨g, o, none⟩ ∧ w.cell? ⟨g, o + j, none⟩ = some vs[j] ∧ g < w.heap.size
theorem FAt.below {A : Option Addr} {l : List Value} {w w' : World} (h : FAt A l w) (hb : Below w.heap.size w w') : FAt A l w' := fun j hj => by
  obtain ⟨g, o, e, hc, hl⟩ := h j hj
  exact ⟨g, o, e, (hb.cell (p := ⟨g, o + j, none⟩) hl).trans hc, Nat.lt_of_lt_of_le hl hb.size⟩
/-- The two boxes of fits. -/
structure FB (w : World) (b1 b2 : Nat) (c1 c2 : Array Value) (w' : World) : Prop where
  k1 : Blk b1 c1 64 w'
  k2 : Blk b2 c2 33 w'
  below : Below w.heap.size w w'
theorem FB.step {w : World} {b1 b2 : Nat} {c1 c2 : Array Value} {w' w'' : World} (h : FB w b1 b2 c1 c2 w') (hb : Below w'.heap.size w' w'') : FB w b1 b2 c1 c2 w'' :=
  ⟨h.k1.step hb, h.k2.step hb, below_after h.below hb⟩
theorem FB.cells {w : World} {b1 b2 : Nat} {tx kv last rest : Value} {lo hi k n ln cl : Int} {t : ByteArray} {kids : Value} {w' : World} (h : FB w b1 b2 #[tx, .int .i64 lo, .int .i64 hi, kv, last, rest] #[.int .i64 k, .string t, .int .i64 n, .int .i64 ln, .int .i64 cl, kids] w') :
    w'.cell? ⟨b1, 0, none⟩ = some tx ∧ w'.cell? ⟨b1, 1, none⟩ = some (.int .i64 lo) ∧ w'.cell? ⟨b1, 2, none⟩ = some (.int .i64 hi) ∧ w'.cell? ⟨b1, 3, none⟩ = some kv ∧ w'.cell? ⟨b1, 4, none⟩ = some last ∧ w'.cell? ⟨b1, 5, none⟩ = some rest ∧
    w'.cell? ⟨b2, 1, none⟩ = some (.string t) ∧ w'.cell? ⟨b2, 2, none⟩ = some (.int .i64 n) :=
  ⟨h.k1.cell 0 _ rfl, h.k1.cell 1 _ rfl, h.k1.cell 2 _ rfl, h.k1.cell 3 _ rfl, h.k1.cell 4 _ rfl, h.k1.cell 5 _ rfl, h.k2.cell 1 _ rfl, h.k2.cell 2 _ rfl⟩
theorem eqn56 (w : World) : (binOp .eql 56 .nilFunc .nilFunc).run Tryd.prog w = .ok (.bool true) w := by kernel_rfl
theorem nen56 (w : World) : (binOp .neq 56 .nilFunc .nilFunc).run Tryd.prog w = .ok (.bool false) w := by kernel_rfl
theorem eqf56 (f : Fn) (a b : Array Value) (w : World) : (binOp .eql 56 (.func f a b) .nilFunc).run Tryd.prog w = .ok (.bool false) w := by kernel_rfl
theorem nef56 (f : Fn) (a b : Array Value) (w : World) : (binOp .neq 56 (.func f a b) .nilFunc).run Tryd.prog w = .ok (.bool true) w := by kernel_rfl
theorem eqn54 (w : World) : (binOp .eql 54 .nilFunc .nilFunc).run Tryd.prog w = .ok (.bool true) w := by kernel_rfl
theorem nen54 (w : World) : (binOp .neq 54 .nilFunc .nilFunc).run Tryd.prog w = .ok (.bool false) w := by kernel_rfl
theorem eqf54 (f : Fn) (a b : Array Value) (w : World) : (binOp .eql 54 (.func f a b) .nilFunc).run Tryd.prog w = .ok (.bool false) w := by kernel_rfl
theorem nef54 (f : Fn) (a b : Array Value) (w : World) : (binOp .neq 54 (.func f a b) .nilFunc).run Tryd.prog w = .ok (.bool true) w := by kernel_rfl
theorem IAt.drop {A : Option Addr} {l : List Int} {w : World} (h : IAt A l w) (n : Nat) : IAt (A.map fun x => x.add n) (l.drop n) w := fun j hj => by
  have hj' : n + j < l.length := by rw [List.length_drop] at hj; omega
  obtain ⟨g, o, rfl, hc, hl⟩ := h (n + j) hj'
  refine ⟨g, o + n, by simp [Addr.add], ?_, hl⟩
  rw [List.getElem_drop, ← hc, Nat.add_assoc]
theorem enters58 : ∀ args w, (callFunc 58 args).run Tryd.prog w = .ok (.enter 58 args) w := enters_of Tryd.func58 (by kernel_rfl) rfl
set_option maxHeartbeats 2000000 in
set_option maxRecDepth 100000 in
theorem fits1_any {W0 : World} {rest : Value} {p : Int → Bool} (hP : Pred W0 rest p) (b : Nat) (x : Int) (w : World) (hw : Below W0.heap.size W0 w) (hc : w.cell? ⟨b, 5, none⟩ = some rest) :
    Calls Tryd.prog 58 #[.int .i64 x, .pointer (some ⟨b, 0, none⟩)] w fun e w' => e = .returned (.bool (!p x)) ∧ Below w.heap.size w w' := by
  obtain ⟨f, cap, rfl, eg, hC⟩ := hP
  have HC := Lib.hid hC
  have HW := Lib.hid hw
  clear hC hw
  go_enter Tryd.func58, Tryd.ntmps58
  go_wp2_with fail
  refine (HC.out x w HW.out).mono ?_
  rintro e w' ⟨rfl, hb⟩
  have HB := Lib.hid hb
  clear hb
  obtain ⟨r, hr⟩ : ∃ r, r = p x := ⟨_, rfl⟩
  have HR := Lib.hid hr
  rw [← hr]
  clear hr
  go_wp2
  go_ret
  exact ⟨by rw [← HR.out]; rfl, HB.out⟩
set_option maxHeartbeats 2000000 in
set_option maxRecDepth 100000 in
theorem fits_nil_rest {w : World} {lo hi k n ln cl : Int} {kids : Value} {Ak A : Option Addr} {vs : List Value} {ck c : Nat} {l : List Int} {p : Int → Bool} {fr : FuncId} {capr : Array Value} {last : Value}
    (hn0 : lo ≤ n) (hn1 : n ≤ hi) (hF : FAt Ak vs w) (hA : IAt A l w) (hlen : vs.length ≤ l.length) (hl : l.length ≤ 1000) (hc : l.length ≤ c)
    (hp : ∀ j (h : j < vs.length), ∃ q, Pred w vs[j] q ∧ q (l[j]'(by omega)) = true)
    (hr : Pred w (.func (.func fr) #[] capr) p) (hall : (l.drop vs.length).all p = true) :
    Calls Tryd.prog 34 #[.agg #[.nilFunc, .int .i64 lo, .int .i64 hi, .slice Ak vs.length ck, last, (.func (.func fr) #[] capr)], .agg #[.int .i64 k, .string ⟨#[]⟩, .int .i64 n, .int .i64 ln, .int .i64 cl, kids], .slice A l.length c] w
      fun e w' => e = .returned (.bool true) ∧ Below w.heap.size w w' := by
  have HF := Lib.hid hF
  have HA := Lib.hid hA
  have HP := Lib.hid hp
  have HR := Lib.hid hr
  have HALL := Lib.hid hall
  clear hr hall
  have g1 : decide (n < lo) = false := decide_eq_false (by omega)
  have g2 : decide (hi < n) = false := decide_eq_false (by omega)
  have g3 : decide (l.length < vs.length) = false := decide_eq_false (by omega)
  clear hF hA hp
  have E1 := eqn56
  have E2 := nen56
  have E3 := eqf56
  have E4 := nef56
  have E5 := eqn54
  have E6 := nen54
  have E7 := eqf54
  have E8 := nef54
  go_enter Tryd.func34, Tryd.ntmps34
  go_upto_region 1 with (fail)
  have hFB : FB w w.heap.size (w.alloc (.cells #[.nilFunc, .int .i64 lo, .int .i64 hi, .slice Ak vs.length ck, last, (.func (.func fr) #[] capr)] 64)).heap.size #[.nilFunc, .int .i64 lo, .int .i64 hi, .slice Ak vs.length ck, last, (.func (.func fr) #[] capr)] #[.int .i64 k, .string ⟨#[]⟩, .int .i64 n, .int .i64 ln, .int .i64 cl, kids] ((w.alloc (.cells #[.nilFunc, .int .i64 lo, .int .i64 hi, .slice Ak vs.length ck, last, (.func (.func fr) #[] capr)] 64)).alloc (.cells #[.int .i64 k, .string ⟨#[]⟩, .int .i64 n, .int .i64 ln, .int .i64 cl, kids] 33)) :=
    ⟨(Blk.new w _ 64).step ((Below.refl _ _).alloc (Nat.le_refl _) _), Blk.new _ _ 33, below_after ((Below.refl _ _).alloc (Nat.le_refl _) _) ((Below.refl _ _).alloc (Nat.le_refl _) _)⟩
  rw [show (w.alloc (.cells #[.nilFunc, .int .i64 lo, .int .i64 hi, .slice Ak vs.length ck, last, (.func (.func fr) #[] capr)] 64)).heap.size = w.heap.size + 1 from by show (w.heap.push _).size = _; simp] at hFB
  generalize (w.alloc (.cells #[.nilFunc, .int .i64 lo, .int .i64 hi, .slice Ak vs.length ck, last, (.func (.func fr) #[] capr)] 64)).alloc (.cells #[.int .i64 k, .string ⟨#[]⟩, .int .i64 n, .int .i64 ln, .int .i64 cl, kids] 33) = w1 at *
  generalize hb1 : w.heap.size = b1 at hFB ⊢
  generalize Value.agg #[.nilFunc, .int .i64 lo, .int .i64 hi, .slice Ak vs.length ck, last, (.func (.func fr) #[] capr)] = F0
  generalize Value.agg #[.int .i64 k, .string ⟨#[]⟩, .int .i64 n, .int .i64 ln, .int .i64 cl, kids] = T0
  obtain ⟨q0, q1, q2, q3, q4, q5, q6, q7⟩ := hFB.cells
  have HFB := Lib.hid hFB
  clear hFB
  go_wp2
  clear q0 q1 q2 q3 q4 q5 q6 q7 g1 g2 g3
  go_loopw [56] (fun i wr => ∃ j : Nat, j ≤ vs.length ∧ i = .int .i64 j ∧ Hid (FB w b1 (b1 + 1) #[.nilFunc, .int .i64 lo, .int .i64 hi, .slice Ak vs.length ck, last, (.func (.func fr) #[] capr)] #[.int .i64 k, .string ⟨#[]⟩, .int .i64 n, .int .i64 ln, .int .i64 cl, kids] wr)) (fun i _ => vs.length - (intOf i).toNat)
  case atStart => exact ⟨0, Nat.zero_le _, rfl, HFB⟩
  case round =>
    obtain ⟨j, hj, rfl, hr⟩ := hrel
    by_cases hlt : j < vs.length
    · obtain ⟨gk, ok, rfl, hck, hgk⟩ := (HF.out.below hr.out.below) j hlt
      obtain ⟨gl, ol, rfl, hcl, hgl⟩ := (HA.out.below hr.out.below) j (by omega)
      obtain ⟨q, hq, hqt⟩ := HP.out j hlt
      generalize vs[j] = v at hck hq
      generalize l[j]'(by omega) = y at hcl hqt
      obtain ⟨f, cap, rfl, eg, hC⟩ := hq
      have HC := Lib.hid hC
      have HQ := Lib.hid hqt
      clear hC hqt
      go_wp2_with fail
      refine (HC.out y wr hr.out.below).mono ?_
      rintro e w2 ⟨rfl, hb2⟩
      have HFB2 := Lib.hid (hr.out.step hb2)
      clear hb2
      rw [HQ.out]
      go_wp2
      go_roundw
      case rel => exact ⟨j + 1, by omega, by go_num, HFB2⟩
      case measure => simp [intOf]; omega
    · have e : j = vs.length := by omega
      subst e
      obtain ⟨q0, q1, q2, q3, q4, q5, q6, q7⟩ := hr.out.cells
      have hmf : ∀ (fn : Fn) (first cap : Array Value) (w : World), (Instr.makeFunc fn first cap).run Tryd.prog w = .ok (.func fn first cap) w := fun _ _ _ _ => rfl
      have hPd : Pred wr (.func (.func 58) #[] #[.pointer (some ⟨b1, 0, none⟩)]) (fun x => !p x) :=
        ⟨58, _, rfl, enters58, fun x w' hw' => fits1_any HR.out b1 x w' (below_after hr.out.below hw') ((hw'.cell (p := ⟨b1, 5, none⟩) hr.out.k1.lt).trans q5)⟩
      have hcl := containsf_any (l.drop vs.length) (by rw [List.length_drop]; omega) (A.map fun x => x.add vs.length) (c - vs.length) _ _ wr ((HA.out.below hr.out.below).drop vs.length) hPd
      have hcl0 : c = vs.length → Calls Tryd.prog 57 #[.slice A (l.length - vs.length) 0, .func (.func 58) #[] #[.pointer (some ⟨b1, 0, none⟩)]] wr fun e w' => e = .returned (.bool ((l.drop vs.length).any fun x => !p x)) ∧ Below wr.heap.size wr w' := by
        intro hcv
        have hd : l.drop vs.length = [] := List.drop_eq_nil_of_le (by omega)
        have h0 := containsf_any [] (by simp) A 0 _ _ wr (fun j hj => absurd hj (by simp)) hPd
        rw [hd, show l.length - vs.length = 0 from by omega]
        exact h0
      rw [List.length_drop] at hcl
      have HCL := Lib.hid hcl
      have HCL0 := Lib.hid hcl0
      clear hcl0
      have hany : ((l.drop vs.length).any fun x => !p x) = false := by
        have := HALL.out
        rw [List.all_eq_true] at this
        rw [List.any_eq_false]
        intro x hx
        simp [this x hx]
      have HANY := Lib.hid hany
      clear hcl hPd hany
      go_wp2_with fail
      all_goals
        first | refine HCL.out.mono ?_ | refine (HCL0.out (by omega)).mono ?_
        rintro e w3 ⟨rfl, hb3⟩
        have HB3 := Lib.hid (below_after hr.out.below hb3)
        rw [HANY.out]
        clear hb3 q0 q1 q2 q3 q4 q5 q6 q7
        go_wp2
        go_ret
        exact ⟨rfl, hb1 ▸ HB3.out⟩
set_option maxHeartbeats 2000000 in
set_option maxRecDepth 100000 in
theorem fits_nil_none {w : World} {lo hi k n ln cl : Int} {kids : Value} {Ak A : Option Addr} {vs : List Value} {ck c : Nat} {l : List Int} {p : Int → Bool}
    (hn0 : lo ≤ n) (hn1 : n ≤ hi) (hF : FAt Ak vs w) (hA : IAt A l w) (hlen : vs.length ≤ l.length) (hl : l.length ≤ 1000) (hc : l.length ≤ c)
    (hp : ∀ j (h : j < vs.length), ∃ q, Pred w vs[j] q ∧ q (l[j]'(by omega)) = true)
    (hz : l.length = vs.length) :
    Calls Tryd.prog 34 #[.agg #[.nilFunc, .int .i64 lo, .int .i64 hi, .slice Ak vs.length ck, .nilFunc, .nilFunc], .agg #[.int .i64 k, .string ⟨#[]⟩, .int .i64 n, .int .i64 ln, .int .i64 cl, kids], .slice A l.length c] w
      fun e w' => e = .returned (.bool true) ∧ Below w.heap.size w w' := by
  have HF := Lib.hid hF
  have HA := Lib.hid hA
  have HP := Lib.hid hp
  have g1 : decide (n < lo) = false := decide_eq_false (by omega)
  have g2 : decide (hi < n) = false := decide_eq_false (by omega)
  have g3 : decide (l.length < vs.length) = false := decide_eq_false (by omega)
  clear hF hA hp
  have HZ := Lib.hid hz
  clear hz
  have E1 := eqn56
  have E2 := nen56
  have E3 := eqf56
  have E4 := nef56
  have E5 := eqn54
  have E6 := nen54
  have E7 := eqf54
  have E8 := nef54
  go_enter Tryd.func34, Tryd.ntmps34
  go_upto_region 1 with (fail)
  have hFB : FB w w.heap.size (w.alloc (.cells #[.nilFunc, .int .i64 lo, .int .i64 hi, .slice Ak vs.length ck, .nilFunc, .nilFunc] 64)).heap.size #[.nilFunc, .int .i64 lo, .int .i64 hi, .slice Ak vs.length ck, .nilFunc, .nilFunc] #[.int .i64 k, .string ⟨#[]⟩, .int .i64 n, .int .i64 ln, .int .i64 cl, kids] ((w.alloc (.cells #[.nilFunc, .int .i64 lo, .int .i64 hi, .slice Ak vs.length ck, .nilFunc, .nilFunc] 64)).alloc (.cells #[.int .i64 k, .string ⟨#[]⟩, .int .i64 n, .int .i64 ln, .int .i64 cl, kids] 33)) :=
    ⟨(Blk.new w _ 64).step ((Below.refl _ _).alloc (Nat.le_refl _) _), Blk.new _ _ 33, below_after ((Below.refl _ _).alloc (Nat.le_refl _) _) ((Below.refl _ _).alloc (Nat.le_refl _) _)⟩
  rw [show (w.alloc (.cells #[.nilFunc, .int .i64 lo, .int .i64 hi, .slice Ak vs.length ck, .nilFunc, .nilFunc] 64)).heap.size = w.heap.size + 1 from by show (w.heap.push _).size = _; simp] at hFB
  generalize (w.alloc (.cells #[.nilFunc, .int .i64 lo, .int .i64 hi, .slice Ak vs.length ck, .nilFunc, .nilFunc] 64)).alloc (.cells #[.int .i64 k, .string ⟨#[]⟩, .int .i64 n, .int .i64 ln, .int .i64 cl, kids] 33) = w1 at *
  generalize hb1 : w.heap.size = b1 at hFB ⊢
  generalize Value.agg #[.nilFunc, .int .i64 lo, .int .i64 hi, .slice Ak vs.length ck, .nilFunc, .nilFunc] = F0
  generalize Value.agg #[.int .i64 k, .string ⟨#[]⟩, .int .i64 n, .int .i64 ln, .int .i64 cl, kids] = T0
  obtain ⟨q0, q1, q2, q3, q4, q5, q6, q7⟩ := hFB.cells
  have HFB := Lib.hid hFB
  clear hFB
  go_wp2
  clear q0 q1 q2 q3 q4 q5 q6 q7 g1 g2 g3
  go_loopw [56] (fun i wr => ∃ j : Nat, j ≤ vs.length ∧ i = .int .i64 j ∧ Hid (FB w b1 (b1 + 1) #[.nilFunc, .int .i64 lo, .int .i64 hi, .slice Ak vs.length ck, .nilFunc, .nilFunc] #[.int .i64 k, .string ⟨#[]⟩, .int .i64 n, .int .i64 ln, .int .i64 cl, kids] wr)) (fun i _ => vs.length - (intOf i).toNat)
  case atStart => exact ⟨0, Nat.zero_le _, rfl, HFB⟩
  case round =>
    obtain ⟨j, hj, rfl, hr⟩ := hrel
    by_cases hlt : j < vs.length
    · obtain ⟨gk, ok, rfl, hck, hgk⟩ := (HF.out.below hr.out.below) j hlt
      obtain ⟨gl, ol, rfl, hcl, hgl⟩ := (HA.out.below hr.out.below) j (by omega)
      obtain ⟨q, hq, hqt⟩ := HP.out j hlt
      generalize vs[j] = v at hck hq
      generalize l[j]'(by omega) = y at hcl hqt
      obtain ⟨f, cap, rfl, eg, hC⟩ := hq
      have HC := Lib.hid hC
      have HQ := Lib.hid hqt
      clear hC hqt
      go_wp2_with fail
      refine (HC.out y wr hr.out.below).mono ?_
      rintro e w2 ⟨rfl, hb2⟩
      have HFB2 := Lib.hid (hr.out.step hb2)
      clear hb2
      rw [HQ.out]
      go_wp2
      go_roundw
      case rel => exact ⟨j + 1, by omega, by go_num, HFB2⟩
      case measure => simp [intOf]; omega
    · have e : j = vs.length := by omega
      subst e
      obtain ⟨q0, q1, q2, q3, q4, q5, q6, q7⟩ := hr.out.cells
      have hz2 : l.length - vs.length = 0 := by have := HZ.out; omega
      go_wp2
      all_goals
        go_ret
        exact ⟨rfl, hb1 ▸ hr.out.below⟩
set_option maxHeartbeats 2000000 in
set_option maxRecDepth 100000 in
theorem fits_nil_last0 {w : World} {lo hi k n ln cl : Int} {kids : Value} {Ak A : Option Addr} {vs : List Value} {ck c : Nat} {l : List Int} {p : Int → Bool} {fl : FuncId} {capl : Array Value}
    (hn0 : lo ≤ n) (hn1 : n ≤ hi) (hF : FAt Ak vs w) (hA : IAt A l w) (hlen : vs.length ≤ l.length) (hl : l.length ≤ 1000) (hc : l.length ≤ c)
    (hp : ∀ j (h : j < vs.length), ∃ q, Pred w vs[j] q ∧ q (l[j]'(by omega)) = true)
    (hz : l.length = vs.length) :
    Calls Tryd.prog 34 #[.agg #[.nilFunc, .int .i64 lo, .int .i64 hi, .slice Ak vs.length ck, (.func (.func fl) #[] capl), .nilFunc], .agg #[.int .i64 k, .string ⟨#[]⟩, .int .i64 n, .int .i64 ln, .int .i64 cl, kids], .slice A l.length c] w
      fun e w' => e = .returned (.bool true) ∧ Below w.heap.size w w' := by
  have HF := Lib.hid hF
  have HA := Lib.hid hA
  have HP := Lib.hid hp
  have g1 : decide (n < lo) = false := decide_eq_false (by omega)
  have g2 : decide (hi < n) = false := decide_eq_false (by omega)
  have g3 : decide (l.length < vs.length) = false := decide_eq_false (by omega)
  clear hF hA hp
  have HZ := Lib.hid hz
  clear hz
  have E1 := eqn56
  have E2 := nen56
  have E3 := eqf56
  have E4 := nef56
  have E5 := eqn54
  have E6 := nen54
  have E7 := eqf54
  have E8 := nef54
  go_enter Tryd.func34, Tryd.ntmps34
  go_upto_region 1 with (fail)
  have hFB : FB w w.heap.size (w.alloc (.cells #[.nilFunc, .int .i64 lo, .int .i64 hi, .slice Ak vs.length ck, (.func (.func fl) #[] capl), .nilFunc] 64)).heap.size #[.nilFunc, .int .i64 lo, .int .i64 hi, .slice Ak vs.length ck, (.func (.func fl) #[] capl), .nilFunc] #[.int .i64 k, .string ⟨#[]⟩, .int .i64 n, .int .i64 ln, .int .i64 cl, kids] ((w.alloc (.cells #[.nilFunc, .int .i64 lo, .int .i64 hi, .slice Ak vs.length ck, (.func (.func fl) #[] capl), .nilFunc] 64)).alloc (.cells #[.int .i64 k, .string ⟨#[]⟩, .int .i64 n, .int .i64 ln, .int .i64 cl, kids] 33)) :=
    ⟨(Blk.new w _ 64).step ((Below.refl _ _).alloc (Nat.le_refl _) _), Blk.new _ _ 33, below_after ((Below.refl _ _).alloc (Nat.le_refl _) _) ((Below.refl _ _).alloc (Nat.le_refl _) _)⟩
  rw [show (w.alloc (.cells #[.nilFunc, .int .i64 lo, .int .i64 hi, .slice Ak vs.length ck, (.func (.func fl) #[] capl), .nilFunc] 64)).heap.size = w.heap.size + 1 from by show (w.heap.push _).size = _; simp] at hFB
  generalize (w.alloc (.cells #[.nilFunc, .int .i64 lo, .int .i64 hi, .slice Ak vs.length ck, (.func (.func fl) #[] capl), .nilFunc] 64)).alloc (.cells #[.int .i64 k, .string ⟨#[]⟩, .int .i64 n, .int .i64 ln, .int .i64 cl, kids] 33) = w1 at *
  generalize hb1 : w.heap.size = b1 at hFB ⊢
  generalize Value.agg #[.nilFunc, .int .i64 lo, .int .i64 hi, .slice Ak vs.length ck, (.func (.func fl) #[] capl), .nilFunc] = F0
  generalize Value.agg #[.int .i64 k, .string ⟨#[]⟩, .int .i64 n, .int .i64 ln, .int .i64 cl, kids] = T0
  obtain ⟨q0, q1, q2, q3, q4, q5, q6, q7⟩ := hFB.cells
  have HFB := Lib.hid hFB
  clear hFB
  go_wp2
  clear q0 q1 q2 q3 q4 q5 q6 q7 g1 g2 g3
  go_loopw [56] (fun i wr => ∃ j : Nat, j ≤ vs.length ∧ i = .int .i64 j ∧ Hid (FB w b1 (b1 + 1) #[.nilFunc, .int .i64 lo, .int .i64 hi, .slice Ak vs.length ck, (.func (.func fl) #[] capl), .nilFunc] #[.int .i64 k, .string ⟨#[]⟩, .int .i64 n, .int .i64 ln, .int .i64 cl, kids] wr)) (fun i _ => vs.length - (intOf i).toNat)
  case atStart => exact ⟨0, Nat.zero_le _, rfl, HFB⟩
  case round =>
    obtain ⟨j, hj, rfl, hr⟩ := hrel
    by_cases hlt : j < vs.length
    · obtain ⟨gk, ok, rfl, hck, hgk⟩ := (HF.out.below hr.out.below) j hlt
      obtain ⟨gl, ol, rfl, hcl, hgl⟩ := (HA.out.below hr.out.below) j (by omega)
      obtain ⟨q, hq, hqt⟩ := HP.out j hlt
      generalize vs[j] = v at hck hq
      generalize l[j]'(by omega) = y at hcl hqt
      obtain ⟨f, cap, rfl, eg, hC⟩ := hq
      have HC := Lib.hid hC
      have HQ := Lib.hid hqt
      clear hC hqt
      go_wp2_with fail
      refine (HC.out y wr hr.out.below).mono ?_
      rintro e w2 ⟨rfl, hb2⟩
      have HFB2 := Lib.hid (hr.out.step hb2)
      clear hb2
      rw [HQ.out]
      go_wp2
      go_roundw
      case rel => exact ⟨j + 1, by omega, by go_num, HFB2⟩
      case measure => simp [intOf]; omega
    · have e : j = vs.length := by omega
      subst e
      obtain ⟨q0, q1, q2, q3, q4, q5, q6, q7⟩ := hr.out.cells
      have hz2 : l.length - vs.length = 0 := by have := HZ.out; omega
      go_wp2
      all_goals
        go_ret
        exact ⟨rfl, hb1 ▸ hr.out.below⟩
set_option maxHeartbeats 2000000 in
set_option maxRecDepth 100000 in
theorem fits_nil_last1 {w : World} {lo hi k n ln cl : Int} {kids : Value} {Ak A : Option Addr} {vs : List Value} {ck c : Nat} {l : List Int} {p : Int → Bool} {fl : FuncId} {capl : Array Value}
    (hn0 : lo ≤ n) (hn1 : n ≤ hi) (hF : FAt Ak vs w) (hA : IAt A l w) (hlen : vs.length ≤ l.length) (hl : l.length ≤ 1000) (hc : l.length ≤ c)
    (hp : ∀ j (h : j < vs.length), ∃ q, Pred w vs[j] q ∧ q (l[j]'(by omega)) = true)
    (hr : Pred w (.func (.func fl) #[] capl) p) (hz : l.length = vs.length + 1) (hall : p (l.getD vs.length 0) = true) :
    Calls Tryd.prog 34 #[.agg #[.nilFunc, .int .i64 lo, .int .i64 hi, .slice Ak vs.length ck, (.func (.func fl) #[] capl), .nilFunc], .agg #[.int .i64 k, .string ⟨#[]⟩, .int .i64 n, .int .i64 ln, .int .i64 cl, kids], .slice A l.length c] w
      fun e w' => e = .returned (.bool true) ∧ Below w.heap.size w w' := by
  have HF := Lib.hid hF
  have HA := Lib.hid hA
  have HP := Lib.hid hp
  have egl : ∀ args w, (callFunc fl args).run Tryd.prog w = .ok (.enter fl args) w := by
    obtain ⟨f', c', e', eg', _⟩ := hr
    cases e'
    exact eg'
  have hC : ∀ x w', Below w.heap.size w w' → Calls Tryd.prog fl (#[.int .i64 x] ++ capl) w' fun e w'' => e = .returned (.bool (p x)) ∧ Below w'.heap.size w' w'' := by
    obtain ⟨f', c', e', eg', hC'⟩ := hr
    cases e'
    exact hC'
  have HC := Lib.hid hC
  have HALL := Lib.hid hall
  clear hr hC hall
  have g1 : decide (n < lo) = false := decide_eq_false (by omega)
  have g2 : decide (hi < n) = false := decide_eq_false (by omega)
  have g3 : decide (l.length < vs.length) = false := decide_eq_false (by omega)
  clear hF hA hp
  have HZ := Lib.hid hz
  clear hz
  have E1 := eqn56
  have E2 := nen56
  have E3 := eqf56
  have E4 := nef56
  have E5 := eqn54
  have E6 := nen54
  have E7 := eqf54
  have E8 := nef54
  go_enter Tryd.func34, Tryd.ntmps34
  go_upto_region 1 with (fail)
  have hFB : FB w w.heap.size (w.alloc (.cells #[.nilFunc, .int .i64 lo, .int .i64 hi, .slice Ak vs.length ck, (.func (.func fl) #[] capl), .nilFunc] 64)).heap.size #[.nilFunc, .int .i64 lo, .int .i64 hi, .slice Ak vs.length ck, (.func (.func fl) #[] capl), .nilFunc] #[.int .i64 k, .string ⟨#[]⟩, .int .i64 n, .int .i64 ln, .int .i64 cl, kids] ((w.alloc (.cells #[.nilFunc, .int .i64 lo, .int .i64 hi, .slice Ak vs.length ck, (.func (.func fl) #[] capl), .nilFunc] 64)).alloc (.cells #[.int .i64 k, .string ⟨#[]⟩, .int .i64 n, .int .i64 ln, .int .i64 cl, kids] 33)) :=
    ⟨(Blk.new w _ 64).step ((Below.refl _ _).alloc (Nat.le_refl _) _), Blk.new _ _ 33, below_after ((Below.refl _ _).alloc (Nat.le_refl _) _) ((Below.refl _ _).alloc (Nat.le_refl _) _)⟩
  rw [show (w.alloc (.cells #[.nilFunc, .int .i64 lo, .int .i64 hi, .slice Ak vs.length ck, (.func (.func fl) #[] capl), .nilFunc] 64)).heap.size = w.heap.size + 1 from by show (w.heap.push _).size = _; simp] at hFB
  generalize (w.alloc (.cells #[.nilFunc, .int .i64 lo, .int .i64 hi, .slice Ak vs.length ck, (.func (.func fl) #[] capl), .nilFunc] 64)).alloc (.cells #[.int .i64 k, .string ⟨#[]⟩, .int .i64 n, .int .i64 ln, .int .i64 cl, kids] 33) = w1 at *
  generalize hb1 : w.heap.size = b1 at hFB ⊢
  generalize Value.agg #[.nilFunc, .int .i64 lo, .int .i64 hi, .slice Ak vs.length ck, (.func (.func fl) #[] capl), .nilFunc] = F0
  generalize Value.agg #[.int .i64 k, .string ⟨#[]⟩, .int .i64 n, .int .i64 ln, .int .i64 cl, kids] = T0
  obtain ⟨q0, q1, q2, q3, q4, q5, q6, q7⟩ := hFB.cells
  have HFB := Lib.hid hFB
  clear hFB
  go_wp2
  clear q0 q1 q2 q3 q4 q5 q6 q7 g1 g2 g3
  go_loopw [56] (fun i wr => ∃ j : Nat, j ≤ vs.length ∧ i = .int .i64 j ∧ Hid (FB w b1 (b1 + 1) #[.nilFunc, .int .i64 lo, .int .i64 hi, .slice Ak vs.length ck, (.func (.func fl) #[] capl), .nilFunc] #[.int .i64 k, .string ⟨#[]⟩, .int .i64 n, .int .i64 ln, .int .i64 cl, kids] wr)) (fun i _ => vs.length - (intOf i).toNat)
  case atStart => exact ⟨0, Nat.zero_le _, rfl, HFB⟩
  case round =>
    obtain ⟨j, hj, rfl, hr⟩ := hrel
    by_cases hlt : j < vs.length
    · obtain ⟨gk, ok, rfl, hck, hgk⟩ := (HF.out.below hr.out.below) j hlt
      obtain ⟨gl, ol, rfl, hcl, hgl⟩ := (HA.out.below hr.out.below) j (by omega)
      obtain ⟨q, hq, hqt⟩ := HP.out j hlt
      generalize vs[j] = v at hck hq
      generalize l[j]'(by omega) = y at hcl hqt
      obtain ⟨f, cap, rfl, eg, hC⟩ := hq
      have HC := Lib.hid hC
      have HQ := Lib.hid hqt
      clear hC hqt
      go_wp2_with fail
      refine (HC.out y wr hr.out.below).mono ?_
      rintro e w2 ⟨rfl, hb2⟩
      have HFB2 := Lib.hid (hr.out.step hb2)
      clear hb2
      rw [HQ.out]
      go_wp2
      go_roundw
      case rel => exact ⟨j + 1, by omega, by go_num, HFB2⟩
      case measure => simp [intOf]; omega
    · have e : j = vs.length := by omega
      subst e
      obtain ⟨q0, q1, q2, q3, q4, q5, q6, q7⟩ := hr.out.cells
      obtain ⟨gl, ol, rfl, hcl, hgl⟩ := (HA.out.below hr.out.below) vs.length (by have := HZ.out; omega)
      have hga : l.getD vs.length 0 = l[vs.length]'(by have := HZ.out; omega) := by rw [List.getD_eq_getElem?_getD, List.getElem?_eq_getElem (by have := HZ.out; omega)]; rfl
      rw [hga] at HALL
      generalize l[vs.length]'(by have := HZ.out; omega) = y at hcl HALL
      clear hga
      have hz2 : l.length - vs.length = 1 := by have := HZ.out; omega
      have HRB := Lib.hid hr.out.below
      have HP1 : Hid (p y = true) := HALL
      clear hr HZ HALL
      go_wp2_with fail
      first
        | (go_region_with (first | (refine (HC.out y _ (by exact ⟨HRB.out.os, HRB.out.tape, HRB.out.output, HRB.out.size, HRB.out.block⟩)).mono ?_; rintro e w3 ⟨rfl, hb3⟩)))
        | fail
      all_goals
        have HB3 := Lib.hid (show Below w.heap.size w w3 from HRB.out.trans (Below.mono ⟨hb3.os, hb3.tape, hb3.output, hb3.size, hb3.block⟩ HRB.out.size))
        rw [HP1.out]
        clear hb3 q0 q1 q2 q3 q4 q5 q6 q7
        go_wp2
        go_ret
        exact ⟨rfl, hb1 ▸ HB3.out⟩
set_option maxHeartbeats 2000000 in
set_option maxRecDepth 100000 in
theorem fits_fun_rest {w : World} {lo hi k n ln cl : Int} {kids : Value} {Ak A : Option Addr} {vs : List Value} {ck c : Nat} {l : List Int} {p : Int → Bool} {ft : FuncId} {capt : Array Value} {t : ByteArray} {fr : FuncId} {capr : Array Value} {last : Value}
    (hn0 : lo ≤ n) (hn1 : n ≤ hi) (hF : FAt Ak vs w) (hA : IAt A l w) (hlen : vs.length ≤ l.length) (hl : l.length ≤ 1000) (hc : l.length ≤ c)
    (hp : ∀ j (h : j < vs.length), ∃ q, Pred w vs[j] q ∧ q (l[j]'(by omega)) = true)
    (hT : TPred w (.func (.func ft) #[] capt) t)
    (hr : Pred w (.func (.func fr) #[] capr) p) (hall : (l.drop vs.length).all p = true) :
    Calls Tryd.prog 34 #[.agg #[(.func (.func ft) #[] capt), .int .i64 lo, .int .i64 hi, .slice Ak vs.length ck, last, (.func (.func fr) #[] capr)], .agg #[.int .i64 k, .string t, .int .i64 n, .int .i64 ln, .int .i64 cl, kids], .slice A l.length c] w
      fun e w' => e = .returned (.bool true) ∧ Below w.heap.size w w' := by
  have HF := Lib.hid hF
  have HA := Lib.hid hA
  have HP := Lib.hid hp
  have HR := Lib.hid hr
  have HALL := Lib.hid hall
  clear hr hall
  have egt : ∀ args w, (callFunc ft args).run Tryd.prog w = .ok (.enter ft args) w := by
    obtain ⟨f', c', e', eg', _⟩ := hT
    cases e'
    exact eg'
  have hCt : ∀ w', Below w.heap.size w w' → Calls Tryd.prog ft (#[.string t] ++ capt) w' fun e w'' => e = .returned (.bool true) ∧ Below w'.heap.size w' w'' := by
    obtain ⟨f', c', e', eg', hC'⟩ := hT
    cases e'
    exact hC'
  have HCT := Lib.hid hCt
  clear hT hCt
  have g1 : decide (n < lo) = false := decide_eq_false (by omega)
  have g2 : decide (hi < n) = false := decide_eq_false (by omega)
  have g3 : decide (l.length < vs.length) = false := decide_eq_false (by omega)
  clear hF hA hp
  have E1 := eqn56
  have E2 := nen56
  have E3 := eqf56
  have E4 := nef56
  have E5 := eqn54
  have E6 := nen54
  have E7 := eqf54
  have E8 := nef54
  go_enter Tryd.func34, Tryd.ntmps34
  go_upto_region 1 with (fail)
  have hFB : FB w w.heap.size (w.alloc (.cells #[(.func (.func ft) #[] capt), .int .i64 lo, .int .i64 hi, .slice Ak vs.length ck, last, (.func (.func fr) #[] capr)] 64)).heap.size #[(.func (.func ft) #[] capt), .int .i64 lo, .int .i64 hi, .slice Ak vs.length ck, last, (.func (.func fr) #[] capr)] #[.int .i64 k, .string t, .int .i64 n, .int .i64 ln, .int .i64 cl, kids] ((w.alloc (.cells #[(.func (.func ft) #[] capt), .int .i64 lo, .int .i64 hi, .slice Ak vs.length ck, last, (.func (.func fr) #[] capr)] 64)).alloc (.cells #[.int .i64 k, .string t, .int .i64 n, .int .i64 ln, .int .i64 cl, kids] 33)) :=
    ⟨(Blk.new w _ 64).step ((Below.refl _ _).alloc (Nat.le_refl _) _), Blk.new _ _ 33, below_after ((Below.refl _ _).alloc (Nat.le_refl _) _) ((Below.refl _ _).alloc (Nat.le_refl _) _)⟩
  rw [show (w.alloc (.cells #[(.func (.func ft) #[] capt), .int .i64 lo, .int .i64 hi, .slice Ak vs.length ck, last, (.func (.func fr) #[] capr)] 64)).heap.size = w.heap.size + 1 from by show (w.heap.push _).size = _; simp] at hFB
  generalize (w.alloc (.cells #[(.func (.func ft) #[] capt), .int .i64 lo, .int .i64 hi, .slice Ak vs.length ck, last, (.func (.func fr) #[] capr)] 64)).alloc (.cells #[.int .i64 k, .string t, .int .i64 n, .int .i64 ln, .int .i64 cl, kids] 33) = w1 at *
  generalize hb1 : w.heap.size = b1 at hFB ⊢
  generalize Value.agg #[(.func (.func ft) #[] capt), .int .i64 lo, .int .i64 hi, .slice Ak vs.length ck, last, (.func (.func fr) #[] capr)] = F0
  generalize Value.agg #[.int .i64 k, .string t, .int .i64 n, .int .i64 ln, .int .i64 cl, kids] = T0
  obtain ⟨q0, q1, q2, q3, q4, q5, q6, q7⟩ := hFB.cells
  have HFB1 := Lib.hid hFB
  clear hFB
  go_wp2_with fail
  refine (HCT.out w1 HFB1.out.below).mono ?_
  rintro e w2 ⟨rfl, hb2⟩
  have hFB := HFB1.out.step hb2
  clear hb2 q0 q1 q2 q3 q4 q5 q6 q7
  obtain ⟨q0, q1, q2, q3, q4, q5, q6, q7⟩ := hFB.cells
  have HFB := Lib.hid hFB
  clear hFB
  go_wp2
  clear q0 q1 q2 q3 q4 q5 q6 q7 g1 g2 g3
  go_loopw [56] (fun i wr => ∃ j : Nat, j ≤ vs.length ∧ i = .int .i64 j ∧ Hid (FB w b1 (b1 + 1) #[(.func (.func ft) #[] capt), .int .i64 lo, .int .i64 hi, .slice Ak vs.length ck, last, (.func (.func fr) #[] capr)] #[.int .i64 k, .string t, .int .i64 n, .int .i64 ln, .int .i64 cl, kids] wr)) (fun i _ => vs.length - (intOf i).toNat)
  case atStart => exact ⟨0, Nat.zero_le _, rfl, HFB⟩
  case round =>
    obtain ⟨j, hj, rfl, hr⟩ := hrel
    by_cases hlt : j < vs.length
    · obtain ⟨gk, ok, rfl, hck, hgk⟩ := (HF.out.below hr.out.below) j hlt
      obtain ⟨gl, ol, rfl, hcl, hgl⟩ := (HA.out.below hr.out.below) j (by omega)
      obtain ⟨q, hq, hqt⟩ := HP.out j hlt
      generalize vs[j] = v at hck hq
      generalize l[j]'(by omega) = y at hcl hqt
      obtain ⟨f, cap, rfl, eg, hC⟩ := hq
      have HC := Lib.hid hC
      have HQ := Lib.hid hqt
      clear hC hqt
      go_wp2_with fail
      refine (HC.out y wr hr.out.below).mono ?_
      rintro e w2 ⟨rfl, hb2⟩
      have HFB2 := Lib.hid (hr.out.step hb2)
      clear hb2
      rw [HQ.out]
      go_wp2
      go_roundw
      case rel => exact ⟨j + 1, by omega, by go_num, HFB2⟩
      case measure => simp [intOf]; omega
    · have e : j = vs.length := by omega
      subst e
      obtain ⟨q0, q1, q2, q3, q4, q5, q6, q7⟩ := hr.out.cells
      have hmf : ∀ (fn : Fn) (first cap : Array Value) (w : World), (Instr.makeFunc fn first cap).run Tryd.prog w = .ok (.func fn first cap) w := fun _ _ _ _ => rfl
      have hPd : Pred wr (.func (.func 58) #[] #[.pointer (some ⟨b1, 0, none⟩)]) (fun x => !p x) :=
        ⟨58, _, rfl, enters58, fun x w' hw' => fits1_any HR.out b1 x w' (below_after hr.out.below hw') ((hw'.cell (p := ⟨b1, 5, none⟩) hr.out.k1.lt).trans q5)⟩
      have hcl := containsf_any (l.drop vs.length) (by rw [List.length_drop]; omega) (A.map fun x => x.add vs.length) (c - vs.length) _ _ wr ((HA.out.below hr.out.below).drop vs.length) hPd
      have hcl0 : c = vs.length → Calls Tryd.prog 57 #[.slice A (l.length - vs.length) 0, .func (.func 58) #[] #[.pointer (some ⟨b1, 0, none⟩)]] wr fun e w' => e = .returned (.bool ((l.drop vs.length).any fun x => !p x)) ∧ Below wr.heap.size wr w' := by
        intro hcv
        have hd : l.drop vs.length = [] := List.drop_eq_nil_of_le (by omega)
        have h0 := containsf_any [] (by simp) A 0 _ _ wr (fun j hj => absurd hj (by simp)) hPd
        rw [hd, show l.length - vs.length = 0 from by omega]
        exact h0
      rw [List.length_drop] at hcl
      have HCL := Lib.hid hcl
      have HCL0 := Lib.hid hcl0
      clear hcl0
      have hany : ((l.drop vs.length).any fun x => !p x) = false := by
        have := HALL.out
        rw [List.all_eq_true] at this
        rw [List.any_eq_false]
        intro x hx
        simp [this x hx]
      have HANY := Lib.hid hany
      clear hcl hPd hany
      go_wp2_with fail
      all_goals
        first | refine HCL.out.mono ?_ | refine (HCL0.out (by omega)).mono ?_
        rintro e w3 ⟨rfl, hb3⟩
        have HB3 := Lib.hid (below_after hr.out.below hb3)
        rw [HANY.out]
        clear hb3 q0 q1 q2 q3 q4 q5 q6 q7
        go_wp2
        go_ret
        exact ⟨rfl, hb1 ▸ HB3.out⟩
set_option maxHeartbeats 2000000 in
set_option maxRecDepth 100000 in
theorem fits_fun_none {w : World} {lo hi k n ln cl : Int} {kids : Value} {Ak A : Option Addr} {vs : List Value} {ck c : Nat} {l : List Int} {p : Int → Bool} {ft : FuncId} {capt : Array Value} {t : ByteArray}
    (hn0 : lo ≤ n) (hn1 : n ≤ hi) (hF : FAt Ak vs w) (hA : IAt A l w) (hlen : vs.length ≤ l.length) (hl : l.length ≤ 1000) (hc : l.length ≤ c)
    (hp : ∀ j (h : j < vs.length), ∃ q, Pred w vs[j] q ∧ q (l[j]'(by omega)) = true)
    (hT : TPred w (.func (.func ft) #[] capt) t)
    (hz : l.length = vs.length) :
    Calls Tryd.prog 34 #[.agg #[(.func (.func ft) #[] capt), .int .i64 lo, .int .i64 hi, .slice Ak vs.length ck, .nilFunc, .nilFunc], .agg #[.int .i64 k, .string t, .int .i64 n, .int .i64 ln, .int .i64 cl, kids], .slice A l.length c] w
      fun e w' => e = .returned (.bool true) ∧ Below w.heap.size w w' := by
  have HF := Lib.hid hF
  have HA := Lib.hid hA
  have HP := Lib.hid hp
  have egt : ∀ args w, (callFunc ft args).run Tryd.prog w = .ok (.enter ft args) w := by
    obtain ⟨f', c', e', eg', _⟩ := hT
    cases e'
    exact eg'
  have hCt : ∀ w', Below w.heap.size w w' → Calls Tryd.prog ft (#[.string t] ++ capt) w' fun e w'' => e = .returned (.bool true) ∧ Below w'.heap.size w' w'' := by
    obtain ⟨f', c', e', eg', hC'⟩ := hT
    cases e'
    exact hC'
  have HCT := Lib.hid hCt
  clear hT hCt
  have g1 : decide (n < lo) = false := decide_eq_false (by omega)
  have g2 : decide (hi < n) = false := decide_eq_false (by omega)
  have g3 : decide (l.length < vs.length) = false := decide_eq_false (by omega)
  clear hF hA hp
  have HZ := Lib.hid hz
  clear hz
  have E1 := eqn56
  have E2 := nen56
  have E3 := eqf56
  have E4 := nef56
  have E5 := eqn54
  have E6 := nen54
  have E7 := eqf54
  have E8 := nef54
  go_enter Tryd.func34, Tryd.ntmps34
  go_upto_region 1 with (fail)
  have hFB : FB w w.heap.size (w.alloc (.cells #[(.func (.func ft) #[] capt), .int .i64 lo, .int .i64 hi, .slice Ak vs.length ck, .nilFunc, .nilFunc] 64)).heap.size #[(.func (.func ft) #[] capt), .int .i64 lo, .int .i64 hi, .slice Ak vs.length ck, .nilFunc, .nilFunc] #[.int .i64 k, .string t, .int .i64 n, .int .i64 ln, .int .i64 cl, kids] ((w.alloc (.cells #[(.func (.func ft) #[] capt), .int .i64 lo, .int .i64 hi, .slice Ak vs.length ck, .nilFunc, .nilFunc] 64)).alloc (.cells #[.int .i64 k, .string t, .int .i64 n, .int .i64 ln, .int .i64 cl, kids] 33)) :=
    ⟨(Blk.new w _ 64).step ((Below.refl _ _).alloc (Nat.le_refl _) _), Blk.new _ _ 33, below_after ((Below.refl _ _).alloc (Nat.le_refl _) _) ((Below.refl _ _).alloc (Nat.le_refl _) _)⟩
  rw [show (w.alloc (.cells #[(.func (.func ft) #[] capt), .int .i64 lo, .int .i64 hi, .slice Ak vs.length ck, .nilFunc, .nilFunc] 64)).heap.size = w.heap.size + 1 from by show (w.heap.push _).size = _; simp] at hFB
  generalize (w.alloc (.cells #[(.func (.func ft) #[] capt), .int .i64 lo, .int .i64 hi, .slice Ak vs.length ck, .nilFunc, .nilFunc] 64)).alloc (.cells #[.int .i64 k, .string t, .int .i64 n, .int .i64 ln, .int .i64 cl, kids] 33) = w1 at *
  generalize hb1 : w.heap.size = b1 at hFB ⊢
  generalize Value.agg #[(.func (.func ft) #[] capt), .int .i64 lo, .int .i64 hi, .slice Ak vs.length ck, .nilFunc, .nilFunc] = F0
  generalize Value.agg #[.int .i64 k, .string t, .int .i64 n, .int .i64 ln, .int .i64 cl, kids] = T0
  obtain ⟨q0, q1, q2, q3, q4, q5, q6, q7⟩ := hFB.cells
  have HFB1 := Lib.hid hFB
  clear hFB
  go_wp2_with fail
  refine (HCT.out w1 HFB1.out.below).mono ?_
  rintro e w2 ⟨rfl, hb2⟩
  have hFB := HFB1.out.step hb2
  clear hb2 q0 q1 q2 q3 q4 q5 q6 q7
  obtain ⟨q0, q1, q2, q3, q4, q5, q6, q7⟩ := hFB.cells
  have HFB := Lib.hid hFB
  clear hFB
  go_wp2
  clear q0 q1 q2 q3 q4 q5 q6 q7 g1 g2 g3
  go_loopw [56] (fun i wr => ∃ j : Nat, j ≤ vs.length ∧ i = .int .i64 j ∧ Hid (FB w b1 (b1 + 1) #[(.func (.func ft) #[] capt), .int .i64 lo, .int .i64 hi, .slice Ak vs.length ck, .nilFunc, .nilFunc] #[.int .i64 k, .string t, .int .i64 n, .int .i64 ln, .int .i64 cl, kids] wr)) (fun i _ => vs.length - (intOf i).toNat)
  case atStart => exact ⟨0, Nat.zero_le _, rfl, HFB⟩
  case round =>
    obtain ⟨j, hj, rfl, hr⟩ := hrel
    by_cases hlt : j < vs.length
    · obtain ⟨gk, ok, rfl, hck, hgk⟩ := (HF.out.below hr.out.below) j hlt
      obtain ⟨gl, ol, rfl, hcl, hgl⟩ := (HA.out.below hr.out.below) j (by omega)
      obtain ⟨q, hq, hqt⟩ := HP.out j hlt
      generalize vs[j] = v at hck hq
      generalize l[j]'(by omega) = y at hcl hqt
      obtain ⟨f, cap, rfl, eg, hC⟩ := hq
      have HC := Lib.hid hC
      have HQ := Lib.hid hqt
      clear hC hqt
      go_wp2_with fail
      refine (HC.out y wr hr.out.below).mono ?_
      rintro e w2 ⟨rfl, hb2⟩
      have HFB2 := Lib.hid (hr.out.step hb2)
      clear hb2
      rw [HQ.out]
      go_wp2
      go_roundw
      case rel => exact ⟨j + 1, by omega, by go_num, HFB2⟩
      case measure => simp [intOf]; omega
    · have e : j = vs.length := by omega
      subst e
      obtain ⟨q0, q1, q2, q3, q4, q5, q6, q7⟩ := hr.out.cells
      have hz2 : l.length - vs.length = 0 := by have := HZ.out; omega
      go_wp2
      all_goals
        go_ret
        exact ⟨rfl, hb1 ▸ hr.out.below⟩
set_option maxHeartbeats 2000000 in
set_option maxRecDepth 100000 in
theorem fits_fun_last0 {w : World} {lo hi k n ln cl : Int} {kids : Value} {Ak A : Option Addr} {vs : List Value} {ck c : Nat} {l : List Int} {p : Int → Bool} {ft : FuncId} {capt : Array Value} {t : ByteArray} {fl : FuncId} {capl : Array Value}
    (hn0 : lo ≤ n) (hn1 : n ≤ hi) (hF : FAt Ak vs w) (hA : IAt A l w) (hlen : vs.length ≤ l.length) (hl : l.length ≤ 1000) (hc : l.length ≤ c)
    (hp : ∀ j (h : j < vs.length), ∃ q, Pred w vs[j] q ∧ q (l[j]'(by omega)) = true)
    (hT : TPred w (.func (.func ft) #[] capt) t)
    (hz : l.length = vs.length) :
    Calls Tryd.prog 34 #[.agg #[(.func (.func ft) #[] capt), .int .i64 lo, .int .i64 hi, .slice Ak vs.length ck, (.func (.func fl) #[] capl), .nilFunc], .agg #[.int .i64 k, .string t, .int .i64 n, .int .i64 ln, .int .i64 cl, kids], .slice A l.length c] w
      fun e w' => e = .returned (.bool true) ∧ Below w.heap.size w w' := by
  have HF := Lib.hid hF
  have HA := Lib.hid hA
  have HP := Lib.hid hp
  have egt : ∀ args w, (callFunc ft args).run Tryd.prog w = .ok (.enter ft args) w := by
    obtain ⟨f', c', e', eg', _⟩ := hT
    cases e'
    exact eg'
  have hCt : ∀ w', Below w.heap.size w w' → Calls Tryd.prog ft (#[.string t] ++ capt) w' fun e w'' => e = .returned (.bool true) ∧ Below w'.heap.size w' w'' := by
    obtain ⟨f', c', e', eg', hC'⟩ := hT
    cases e'
    exact hC'
  have HCT := Lib.hid hCt
  clear hT hCt
  have g1 : decide (n < lo) = false := decide_eq_false (by omega)
  have g2 : decide (hi < n) = false := decide_eq_false (by omega)
  have g3 : decide (l.length < vs.length) = false := decide_eq_false (by omega)
  clear hF hA hp
  have HZ := Lib.hid hz
  clear hz
  have E1 := eqn56
  have E2 := nen56
  have E3 := eqf56
  have E4 := nef56
  have E5 := eqn54
  have E6 := nen54
  have E7 := eqf54
  have E8 := nef54
  go_enter Tryd.func34, Tryd.ntmps34
  go_upto_region 1 with (fail)
  have hFB : FB w w.heap.size (w.alloc (.cells #[(.func (.func ft) #[] capt), .int .i64 lo, .int .i64 hi, .slice Ak vs.length ck, (.func (.func fl) #[] capl), .nilFunc] 64)).heap.size #[(.func (.func ft) #[] capt), .int .i64 lo, .int .i64 hi, .slice Ak vs.length ck, (.func (.func fl) #[] capl), .nilFunc] #[.int .i64 k, .string t, .int .i64 n, .int .i64 ln, .int .i64 cl, kids] ((w.alloc (.cells #[(.func (.func ft) #[] capt), .int .i64 lo, .int .i64 hi, .slice Ak vs.length ck, (.func (.func fl) #[] capl), .nilFunc] 64)).alloc (.cells #[.int .i64 k, .string t, .int .i64 n, .int .i64 ln, .int .i64 cl, kids] 33)) :=
    ⟨(Blk.new w _ 64).step ((Below.refl _ _).alloc (Nat.le_refl _) _), Blk.new _ _ 33, below_after ((Below.refl _ _).alloc (Nat.le_refl _) _) ((Below.refl _ _).alloc (Nat.le_refl _) _)⟩
  rw [show (w.alloc (.cells #[(.func (.func ft) #[] capt), .int .i64 lo, .int .i64 hi, .slice Ak vs.length ck, (.func (.func fl) #[] capl), .nilFunc] 64)).heap.size = w.heap.size + 1 from by show (w.heap.push _).size = _; simp] at hFB
  generalize (w.alloc (.cells #[(.func (.func ft) #[] capt), .int .i64 lo, .int .i64 hi, .slice Ak vs.length ck, (.func (.func fl) #[] capl), .nilFunc] 64)).alloc (.cells #[.int .i64 k, .string t, .int .i64 n, .int .i64 ln, .int .i64 cl, kids] 33) = w1 at *
  generalize hb1 : w.heap.size = b1 at hFB ⊢
  generalize Value.agg #[(.func (.func ft) #[] capt), .int .i64 lo, .int .i64 hi, .slice Ak vs.length ck, (.func (.func fl) #[] capl), .nilFunc] = F0
  generalize Value.agg #[.int .i64 k, .string t, .int .i64 n, .int .i64 ln, .int .i64 cl, kids] = T0
  obtain ⟨q0, q1, q2, q3, q4, q5, q6, q7⟩ := hFB.cells
  have HFB1 := Lib.hid hFB
  clear hFB
  go_wp2_with fail
  refine (HCT.out w1 HFB1.out.below).mono ?_
  rintro e w2 ⟨rfl, hb2⟩
  have hFB := HFB1.out.step hb2
  clear hb2 q0 q1 q2 q3 q4 q5 q6 q7
  obtain ⟨q0, q1, q2, q3, q4, q5, q6, q7⟩ := hFB.cells
  have HFB := Lib.hid hFB
  clear hFB
  go_wp2
  clear q0 q1 q2 q3 q4 q5 q6 q7 g1 g2 g3
  go_loopw [56] (fun i wr => ∃ j : Nat, j ≤ vs.length ∧ i = .int .i64 j ∧ Hid (FB w b1 (b1 + 1) #[(.func (.func ft) #[] capt), .int .i64 lo, .int .i64 hi, .slice Ak vs.length ck, (.func (.func fl) #[] capl), .nilFunc] #[.int .i64 k, .string t, .int .i64 n, .int .i64 ln, .int .i64 cl, kids] wr)) (fun i _ => vs.length - (intOf i).toNat)
  case atStart => exact ⟨0, Nat.zero_le _, rfl, HFB⟩
  case round =>
    obtain ⟨j, hj, rfl, hr⟩ := hrel
    by_cases hlt : j < vs.length
    · obtain ⟨gk, ok, rfl, hck, hgk⟩ := (HF.out.below hr.out.below) j hlt
      obtain ⟨gl, ol, rfl, hcl, hgl⟩ := (HA.out.below hr.out.below) j (by omega)
      obtain ⟨q, hq, hqt⟩ := HP.out j hlt
      generalize vs[j] = v at hck hq
      generalize l[j]'(by omega) = y at hcl hqt
      obtain ⟨f, cap, rfl, eg, hC⟩ := hq
      have HC := Lib.hid hC
      have HQ := Lib.hid hqt
      clear hC hqt
      go_wp2_with fail
      refine (HC.out y wr hr.out.below).mono ?_
      rintro e w2 ⟨rfl, hb2⟩
      have HFB2 := Lib.hid (hr.out.step hb2)
      clear hb2
      rw [HQ.out]
      go_wp2
      go_roundw
      case rel => exact ⟨j + 1, by omega, by go_num, HFB2⟩
      case measure => simp [intOf]; omega
    · have e : j = vs.length := by omega
      subst e
      obtain ⟨q0, q1, q2, q3, q4, q5, q6, q7⟩ := hr.out.cells
      have hz2 : l.length - vs.length = 0 := by have := HZ.out; omega
      go_wp2
      all_goals
        go_ret
        exact ⟨rfl, hb1 ▸ hr.out.below⟩
set_option maxHeartbeats 2000000 in
set_option maxRecDepth 100000 in
theorem fits_fun_last1 {w : World} {lo hi k n ln cl : Int} {kids : Value} {Ak A : Option Addr} {vs : List Value} {ck c : Nat} {l : List Int} {p : Int → Bool} {ft : FuncId} {capt : Array Value} {t : ByteArray} {fl : FuncId} {capl : Array Value}
    (hn0 : lo ≤ n) (hn1 : n ≤ hi) (hF : FAt Ak vs w) (hA : IAt A l w) (hlen : vs.length ≤ l.length) (hl : l.length ≤ 1000) (hc : l.length ≤ c)
    (hp : ∀ j (h : j < vs.length), ∃ q, Pred w vs[j] q ∧ q (l[j]'(by omega)) = true)
    (hT : TPred w (.func (.func ft) #[] capt) t)
    (hr : Pred w (.func (.func fl) #[] capl) p) (hz : l.length = vs.length + 1) (hall : p (l.getD vs.length 0) = true) :
    Calls Tryd.prog 34 #[.agg #[(.func (.func ft) #[] capt), .int .i64 lo, .int .i64 hi, .slice Ak vs.length ck, (.func (.func fl) #[] capl), .nilFunc], .agg #[.int .i64 k, .string t, .int .i64 n, .int .i64 ln, .int .i64 cl, kids], .slice A l.length c] w
      fun e w' => e = .returned (.bool true) ∧ Below w.heap.size w w' := by
  have HF := Lib.hid hF
  have HA := Lib.hid hA
  have HP := Lib.hid hp
  have egl : ∀ args w, (callFunc fl args).run Tryd.prog w = .ok (.enter fl args) w := by
    obtain ⟨f', c', e', eg', _⟩ := hr
    cases e'
    exact eg'
  have hC : ∀ x w', Below w.heap.size w w' → Calls Tryd.prog fl (#[.int .i64 x] ++ capl) w' fun e w'' => e = .returned (.bool (p x)) ∧ Below w'.heap.size w' w'' := by
    obtain ⟨f', c', e', eg', hC'⟩ := hr
    cases e'
    exact hC'
  have HC := Lib.hid hC
  have HALL := Lib.hid hall
  clear hr hC hall
  have egt : ∀ args w, (callFunc ft args).run Tryd.prog w = .ok (.enter ft args) w := by
    obtain ⟨f', c', e', eg', _⟩ := hT
    cases e'
    exact eg'
  have hCt : ∀ w', Below w.heap.size w w' → Calls Tryd.prog ft (#[.string t] ++ capt) w' fun e w'' => e = .returned (.bool true) ∧ Below w'.heap.size w' w'' := by
    obtain ⟨f', c', e', eg', hC'⟩ := hT
    cases e'
    exact hC'
  have HCT := Lib.hid hCt
  clear hT hCt
  have g1 : decide (n < lo) = false := decide_eq_false (by omega)
  have g2 : decide (hi < n) = false := decide_eq_false (by omega)
  have g3 : decide (l.length < vs.length) = false := decide_eq_false (by omega)
  clear hF hA hp
  have HZ := Lib.hid hz
  clear hz
  have E1 := eqn56
  have E2 := nen56
  have E3 := eqf56
  have E4 := nef56
  have E5 := eqn54
  have E6 := nen54
  have E7 := eqf54
  have E8 := nef54
  go_enter Tryd.func34, Tryd.ntmps34
  go_upto_region 1 with (fail)
  have hFB : FB w w.heap.size (w.alloc (.cells #[(.func (.func ft) #[] capt), .int .i64 lo, .int .i64 hi, .slice Ak vs.length ck, (.func (.func fl) #[] capl), .nilFunc] 64)).heap.size #[(.func (.func ft) #[] capt), .int .i64 lo, .int .i64 hi, .slice Ak vs.length ck, (.func (.func fl) #[] capl), .nilFunc] #[.int .i64 k, .string t, .int .i64 n, .int .i64 ln, .int .i64 cl, kids] ((w.alloc (.cells #[(.func (.func ft) #[] capt), .int .i64 lo, .int .i64 hi, .slice Ak vs.length ck, (.func (.func fl) #[] capl), .nilFunc] 64)).alloc (.cells #[.int .i64 k, .string t, .int .i64 n, .int .i64 ln, .int .i64 cl, kids] 33)) :=
    ⟨(Blk.new w _ 64).step ((Below.refl _ _).alloc (Nat.le_refl _) _), Blk.new _ _ 33, below_after ((Below.refl _ _).alloc (Nat.le_refl _) _) ((Below.refl _ _).alloc (Nat.le_refl _) _)⟩
  rw [show (w.alloc (.cells #[(.func (.func ft) #[] capt), .int .i64 lo, .int .i64 hi, .slice Ak vs.length ck, (.func (.func fl) #[] capl), .nilFunc] 64)).heap.size = w.heap.size + 1 from by show (w.heap.push _).size = _; simp] at hFB
  generalize (w.alloc (.cells #[(.func (.func ft) #[] capt), .int .i64 lo, .int .i64 hi, .slice Ak vs.length ck, (.func (.func fl) #[] capl), .nilFunc] 64)).alloc (.cells #[.int .i64 k, .string t, .int .i64 n, .int .i64 ln, .int .i64 cl, kids] 33) = w1 at *
  generalize hb1 : w.heap.size = b1 at hFB ⊢
  generalize Value.agg #[(.func (.func ft) #[] capt), .int .i64 lo, .int .i64 hi, .slice Ak vs.length ck, (.func (.func fl) #[] capl), .nilFunc] = F0
  generalize Value.agg #[.int .i64 k, .string t, .int .i64 n, .int .i64 ln, .int .i64 cl, kids] = T0
  obtain ⟨q0, q1, q2, q3, q4, q5, q6, q7⟩ := hFB.cells
  have HFB1 := Lib.hid hFB
  clear hFB
  go_wp2_with fail
  refine (HCT.out w1 HFB1.out.below).mono ?_
  rintro e w2 ⟨rfl, hb2⟩
  have hFB := HFB1.out.step hb2
  clear hb2 q0 q1 q2 q3 q4 q5 q6 q7
  obtain ⟨q0, q1, q2, q3, q4, q5, q6, q7⟩ := hFB.cells
  have HFB := Lib.hid hFB
  clear hFB
  go_wp2
  clear q0 q1 q2 q3 q4 q5 q6 q7 g1 g2 g3
  go_loopw [56] (fun i wr => ∃ j : Nat, j ≤ vs.length ∧ i = .int .i64 j ∧ Hid (FB w b1 (b1 + 1) #[(.func (.func ft) #[] capt), .int .i64 lo, .int .i64 hi, .slice Ak vs.length ck, (.func (.func fl) #[] capl), .nilFunc] #[.int .i64 k, .string t, .int .i64 n, .int .i64 ln, .int .i64 cl, kids] wr)) (fun i _ => vs.length - (intOf i).toNat)
  case atStart => exact ⟨0, Nat.zero_le _, rfl, HFB⟩
  case round =>
    obtain ⟨j, hj, rfl, hr⟩ := hrel
    by_cases hlt : j < vs.length
    · obtain ⟨gk, ok, rfl, hck, hgk⟩ := (HF.out.below hr.out.below) j hlt
      obtain ⟨gl, ol, rfl, hcl, hgl⟩ := (HA.out.below hr.out.below) j (by omega)
      obtain ⟨q, hq, hqt⟩ := HP.out j hlt
      generalize vs[j] = v at hck hq
      generalize l[j]'(by omega) = y at hcl hqt
      obtain ⟨f, cap, rfl, eg, hC⟩ := hq
      have HC := Lib.hid hC
      have HQ := Lib.hid hqt
      clear hC hqt
      go_wp2_with fail
      refine (HC.out y wr hr.out.below).mono ?_
      rintro e w2 ⟨rfl, hb2⟩
      have HFB2 := Lib.hid (hr.out.step hb2)
      clear hb2
      rw [HQ.out]
      go_wp2
      go_roundw
      case rel => exact ⟨j + 1, by omega, by go_num, HFB2⟩
      case measure => simp [intOf]; omega
    · have e : j = vs.length := by omega
      subst e
      obtain ⟨q0, q1, q2, q3, q4, q5, q6, q7⟩ := hr.out.cells
      obtain ⟨gl, ol, rfl, hcl, hgl⟩ := (HA.out.below hr.out.below) vs.length (by have := HZ.out; omega)
      have hga : l.getD vs.length 0 = l[vs.length]'(by have := HZ.out; omega) := by rw [List.getD_eq_getElem?_getD, List.getElem?_eq_getElem (by have := HZ.out; omega)]; rfl
      rw [hga] at HALL
      generalize l[vs.length]'(by have := HZ.out; omega) = y at hcl HALL
      clear hga
      have hz2 : l.length - vs.length = 1 := by have := HZ.out; omega
      have HRB := Lib.hid hr.out.below
      have HP1 : Hid (p y = true) := HALL
      clear hr HZ HALL
      go_wp2_with fail
      first
        | (go_region_with (first | (refine (HC.out y _ (by exact ⟨HRB.out.os, HRB.out.tape, HRB.out.output, HRB.out.size, HRB.out.block⟩)).mono ?_; rintro e w3 ⟨rfl, hb3⟩)))
        | fail
      all_goals
        have HB3 := Lib.hid (show Below w.heap.size w w3 from HRB.out.trans (Below.mono ⟨hb3.os, hb3.tape, hb3.output, hb3.size, hb3.block⟩ HRB.out.size))
        rw [HP1.out]
        clear hb3 q0 q1 q2 q3 q4 q5 q6 q7
        go_wp2
        go_ret
        exact ⟨rfl, hb1 ▸ HB3.out⟩
end Go.Proofs.YtbpefmidgfmcaaaDoor
end
section
set_option linter.unusedVariables false
set_option linter.unusedSimpArgs false
namespace Go.Proofs.YtbpefmidgfmcaaaDoor
open Go.RowKit PTreeApart Go.Proofs.YtbpefmidgfmcaaaDoorW.PrintWords
/-- A function of a kind. -/
inductive Pc where
  | decl | stmt | term | var | one (l : List Int)
def Pc.fn : Pc → Int → Bool
  | .decl, x => declL.contains x
  | .stmt, x => decide (13 ≤ x ∧ x ≤ 25)
  | .term, x => decide (26 ≤ x ∧ x ≤ 36)
  | .var, x => varL.contains x
  | .one l, x => l.contains x
/-- A function of a text. -/
inductive Tc where
  | none | name | typ | op
def Tc.holds : Tc → List UInt8 → Prop
  | .none, t => t = []
  | .name, t => nameB t = true
  | .typ, t => typeB t = true
  | .op, t => opB t = true
structure FT where
  tx : Tc := .none
  lo : Int := 0
  hi : Int := 0
  ks : List Pc := []
  last : Option Pc := none
  rest : Option Pc := none
def tbl (k : Int) : FT :=
  if k = 1 then { rest := some .decl }
  else if k = 2 then { tx := .name }
  else if k = 3 then { tx := .name, rest := some (.one [4]) }
  else if k = 4 then { tx := .name, ks := [.one [5]] }
  else if k = 5 then { tx := .typ }
  else if k = 6 then { tx := .name, ks := [.one [5]] }
  else if k = 7 then { tx := .name, ks := [.one [12]] }
  else if k = 8 then { tx := .name, ks := [.one [29]], rest := some (.one [9]) }
  else if k = 9 then { hi := 3, ks := [.one [12]] }
  else if k = 10 then { tx := .name, hi := 1, ks := [.one [29], .one [12]] }
  else if k = 11 then { ks := [.one [12]] }
  else if k = 12 then { rest := some .stmt }
  else if k = 13 then { tx := .name, ks := [.one [5], .term] }
  else if k = 14 then { ks := [.var, .term] }
  else if k = 19 then { tx := .name, lo := -1, hi := 2147483647, ks := [.term], last := some .var }
  else if k = 20 then { ks := [.term], last := some .var }
  else if k = 21 then { tx := .name }
  else if k = 22 then { tx := .name }
  else if k = 23 then { ks := [.term, .one [12], .one [12]] }
  else if k = 24 then { ks := [.term, .one [12]] }
  else if k = 25 then {}
  else if k = 26 then { hi := 2147483647 }
  else if k = 27 then {}
  else if k = 28 then {}
  else if k = 29 then { tx := .name }
  else if k = 30 then { tx := .name, ks := [.term] }
  else if k = 31 then { ks := [.term, .term] }
  else if k = 32 then { tx := .op, ks := [.term, .term] }
  else if k = 33 then { tx := .name }
  else if k = 36 then { ks := [.one [12]] }
  else { ks := [.term] }
/-- The kids' kinds are as the form says. -/
def fitsL (T : FT) (l : List Int) : Prop :=
  T.ks.length ≤ l.length ∧ (∀ i (h : i < T.ks.length) (h' : i < l.length), (T.ks[i]).fn l[i] = true) ∧
  match T.rest, T.last with
  | some r, _ => (l.drop T.ks.length).all r.fn = true
  | none, none => l.length = T.ks.length
  | none, some q => l.length = T.ks.length ∨ (l.length = T.ks.length + 1 ∧ q.fn (l.getD T.ks.length 0) = true)
theorem term_fn {x : Int} (h : isTerm x) : Pc.term.fn x = true := decide_eq_true h
theorem var_fn {x : Int} (h : isVar x) : Pc.var.fn x = true := by
  rcases h with h | h | h <;> subst h <;> decide
theorem decl_fn {x : Int} (h : isDecl x) : Pc.decl.fn x = true := by
  rcases h with h | h | h | h | h | h | h <;> subst h <;> decide
theorem stmt_fn {x : Int} (h : isStmt x) : Pc.stmt.fn x = true := decide_eq_true h
theorem fits0 (T : FT) (hk : T.ks = []) (hr : T.rest = none) (hl : T.last = none) : fitsL T [] := by
  refine ⟨by simp [hk], fun i h _ => by simp [hk] at h, ?_⟩
  rw [hr, hl]; simp [hk]
theorem fits_rest (T : FT) (r : Pc) (l : List Int) (hk : T.ks = []) (hr : T.rest = some r) (h : ∀ x ∈ l, r.fn x = true) : fitsL T l := by
  refine ⟨by simp [hk], fun i h _ => by simp [hk] at h, ?_⟩
  rw [hr]; simp only [hk, List.length_nil, List.drop_zero]
  exact List.all_eq_true.2 h
theorem fits1 (T : FT) (a : Pc) (x : Int) (hk : T.ks = [a]) (hr : T.rest = none) (h : a.fn x = true) : fitsL T [x] := by
  refine ⟨by simp [hk], fun i h1 h2 => ?_, ?_⟩
  · obtain rfl : i = 0 := by simpa using h2
    simpa [hk] using h
  · rw [hr]
    cases T.last with
    | none => simp [hk]
    | some q => left; simp [hk]
theorem fits2 (T : FT) (a b : Pc) (x y : Int) (hk : T.ks = [a, b]) (hr : T.rest = none) (hl : T.last = none) (h : a.fn x = true) (h' : b.fn y = true) : fitsL T [x, y] := by
  refine ⟨by simp [hk], fun i h1 h2 => ?_, ?_⟩
  · match i, h2 with
    | 0, _ => simpa [hk] using h
    | 1, _ => simpa [hk] using h'
    | i + 2, h2 => simp at h2; omega
  · rw [hr, hl]; simp [hk]
theorem fits3 (T : FT) (a b c : Pc) (x y z : Int) (hk : T.ks = [a, b, c]) (hr : T.rest = none) (hl : T.last = none) (h : a.fn x = true) (h' : b.fn y = true) (h'' : c.fn z = true) : fitsL T [x, y, z] := by
  refine ⟨by simp [hk], fun i h1 h2 => ?_, ?_⟩
  · match i, h2 with
    | 0, _ => simpa [hk] using h
    | 1, _ => simpa [hk] using h'
    | 2, _ => simpa [hk] using h''
    | i + 3, h2 => simp at h2; omega
  · rw [hr, hl]; simp [hk]
theorem fits_last (T : FT) (a q : Pc) (x y : Int) (hk : T.ks = [a]) (hr : T.rest = none) (hl : T.last = some q) (h : a.fn x = true) (h' : q.fn y = true) : fitsL T [x, y] := by
  refine ⟨by simp [hk], fun i h1 h2 => ?_, ?_⟩
  · simp only [hk, List.length_cons, List.length_nil] at h1
    obtain rfl : i = 0 := by omega
    simpa [hk] using h
  · rw [hr, hl]; right; simp [hk, h']
theorem fits_one_rest (T : FT) (a r : Pc) (x : Int) (l : List Int) (hk : T.ks = [a]) (hr : T.rest = some r) (h : a.fn x = true) (h' : ∀ y ∈ l, r.fn y = true) : fitsL T (x :: l) := by
  refine ⟨by simp [hk], fun i h1 h2 => ?_, ?_⟩
  · simp only [hk, List.length_cons, List.length_nil] at h1
    obtain rfl : i = 0 := by omega
    simpa [hk] using h
  · rw [hr]; simp only [hk, List.length_cons, List.length_nil, List.drop_succ_cons, List.drop_zero]
    exact List.all_eq_true.2 h'
theorem kids_fit (k : Int) (l : List Int) (h1 : 1 ≤ k) (h36 : k ≤ 36) (h : kidsOk k l) : fitsL (tbl k) l := by
  have hk : k = 1 ∨ k = 2 ∨ k = 3 ∨ k = 4 ∨ k = 5 ∨ k = 6 ∨ k = 7 ∨ k = 8 ∨ k = 9 ∨ k = 10 ∨ k = 11 ∨ k = 12 ∨ k = 13 ∨ k = 14 ∨ k = 15 ∨ k = 16 ∨ k = 17 ∨ k = 18 ∨ k = 19 ∨ k = 20 ∨ k = 21 ∨ k = 22 ∨ k = 23 ∨ k = 24 ∨ k = 25 ∨ k = 26 ∨ k = 27 ∨ k = 28 ∨ k = 29 ∨ k = 30 ∨ k = 31 ∨ k = 32 ∨ k = 33 ∨ k = 34 ∨ k = 35 ∨ k = 36 := by omega
  rcases hk with rfl | rfl | rfl | rfl | rfl | rfl | rfl | rfl | rfl | rfl | rfl | rfl | rfl | rfl | rfl | rfl | rfl | rfl | rfl | rfl | rfl | rfl | rfl | rfl | rfl | rfl | rfl | rfl | rfl | rfl | rfl | rfl | rfl | rfl | rfl | rfl <;>
    simp (decide := true) only [kidsOk, ↓reduceIte, or_true, true_or, or_self] at h
  all_goals first
    | (subst h; exact fits0 _ rfl rfl rfl)
    | exact fits_rest _ _ _ rfl rfl (fun x hx => decl_fn (h x hx))
    | exact fits_rest _ _ _ rfl rfl (fun x hx => stmt_fn (h x hx))
    | exact fits_rest _ _ _ rfl rfl (fun x hx => by rw [h x hx]; rfl)
    | (subst h; exact fits1 _ _ _ rfl rfl rfl)
    | (subst h; exact fits2 _ _ _ _ _ rfl rfl rfl rfl rfl)
    | (obtain ⟨r, rfl, hr⟩ := h; exact fits_one_rest _ _ _ _ _ rfl rfl rfl (fun x hx => by rw [hr x hx]; rfl))
    | (obtain ⟨e, rfl, he⟩ := h; exact fits2 _ _ _ _ _ rfl rfl rfl rfl (term_fn he))
    | (obtain ⟨e, rfl, he⟩ := h; exact fits2 _ _ _ _ _ rfl rfl rfl (term_fn he) rfl)
    | (obtain ⟨e, rfl, he⟩ := h; exact fits1 _ _ _ rfl rfl (term_fn he))
    | (obtain ⟨e, rfl, he⟩ := h; exact fits3 _ _ _ _ _ _ _ rfl rfl rfl (term_fn he) rfl rfl)
    | (obtain ⟨v, e, rfl, hv, he⟩ := h; exact fits2 _ _ _ _ _ rfl rfl rfl (var_fn hv) (term_fn he))
    | (obtain ⟨v, e, rfl, hv, he⟩ := h; exact fits2 _ _ _ _ _ rfl rfl rfl (term_fn hv) (term_fn he))
    | (obtain ⟨e, he, rfl | ⟨v, rfl, hv⟩⟩ := h
       · exact fits1 _ _ _ rfl rfl (term_fn he)
       · exact fits_last _ _ _ _ _ rfl rfl rfl (term_fn he) (var_fn hv))
theorem text_fit (k : Int) (t : List UInt8) (h1 : 1 ≤ k) (h36 : k ≤ 36) (h : textOk k t) : (tbl k).tx.holds t := by
  have hk : k = 1 ∨ k = 2 ∨ k = 3 ∨ k = 4 ∨ k = 5 ∨ k = 6 ∨ k = 7 ∨ k = 8 ∨ k = 9 ∨ k = 10 ∨ k = 11 ∨ k = 12 ∨ k = 13 ∨ k = 14 ∨ k = 15 ∨ k = 16 ∨ k = 17 ∨ k = 18 ∨ k = 19 ∨ k = 20 ∨ k = 21 ∨ k = 22 ∨ k = 23 ∨ k = 24 ∨ k = 25 ∨ k = 26 ∨ k = 27 ∨ k = 28 ∨ k = 29 ∨ k = 30 ∨ k = 31 ∨ k = 32 ∨ k = 33 ∨ k = 34 ∨ k = 35 ∨ k = 36 := by omega
  rcases hk with rfl | rfl | rfl | rfl | rfl | rfl | rfl | rfl | rfl | rfl | rfl | rfl | rfl | rfl | rfl | rfl | rfl | rfl | rfl | rfl | rfl | rfl | rfl | rfl | rfl | rfl | rfl | rfl | rfl | rfl | rfl | rfl | rfl | rfl | rfl | rfl <;>
    simp (decide := true) only [textOk, ↓reduceIte, or_true, true_or, or_self] at h <;> exact h
theorem num_fit (k n : Int) (h1 : 1 ≤ k) (h36 : k ≤ 36) (h : numOk k n) : (tbl k).lo ≤ n ∧ n ≤ (tbl k).hi := by
  have hk : k = 1 ∨ k = 2 ∨ k = 3 ∨ k = 4 ∨ k = 5 ∨ k = 6 ∨ k = 7 ∨ k = 8 ∨ k = 9 ∨ k = 10 ∨ k = 11 ∨ k = 12 ∨ k = 13 ∨ k = 14 ∨ k = 15 ∨ k = 16 ∨ k = 17 ∨ k = 18 ∨ k = 19 ∨ k = 20 ∨ k = 21 ∨ k = 22 ∨ k = 23 ∨ k = 24 ∨ k = 25 ∨ k = 26 ∨ k = 27 ∨ k = 28 ∨ k = 29 ∨ k = 30 ∨ k = 31 ∨ k = 32 ∨ k = 33 ∨ k = 34 ∨ k = 35 ∨ k = 36 := by omega
  rcases hk with rfl | rfl | rfl | rfl | rfl | rfl | rfl | rfl | rfl | rfl | rfl | rfl | rfl | rfl | rfl | rfl | rfl | rfl | rfl | rfl | rfl | rfl | rfl | rfl | rfl | rfl | rfl | rfl | rfl | rfl | rfl | rfl | rfl | rfl | rfl | rfl <;>
    simp (decide := true) only [numOk, ↓reduceIte] at h <;> (simp (decide := true) only [tbl, ↓reduceIte]; omega)
end Go.Proofs.YtbpefmidgfmcaaaDoor
end
section
set_option linter.unusedVariables false
namespace Go.Proofs.YtbpefmidgfmcaaaDoor
open Go.RowKit PTreeApart Go.Proofs.YtbpefmidgfmcaaaDoorW.PrintWords
/-- A function value, of a kind. -/
def FnV (w : World) (v : Value) : Pc → Prop
  | .decl => v = .func (.func 37) #[] #[]
  | .stmt => v = .func (.func 21) #[] #[]
  | .term => v = .func (.func 23) #[] #[]
  | .var => v = .func (.func 40) #[] #[]
  | .one l => l.length ≤ 1000 ∧ ∃ b g, v = .func (.func 59) #[] #[.pointer (some ⟨b, 0, none⟩)] ∧ Blk b #[.slice (some ⟨g, 0, none⟩) l.length l.length] 46 w ∧ Blk g (ints l) 30 w
def Tc.val : Tc → Value
  | .none => .nilFunc
  | .name => .func (.func 38) #[] #[]
  | .typ => .func (.func 39) #[] #[]
  | .op => .func (.func 41) #[] #[]
def OptV (w : World) (v : Value) : Option Pc → Prop
  | none => v = .nilFunc
  | some c => FnV w v c
def KsV (w : World) (kv : Value) (ps : List Pc) : Prop :=
  (ps = [] ∧ kv = .slice none 0 0) ∨
    ∃ g, ∃ vs : List Value, kv = .slice (some ⟨g, 0, none⟩) vs.length vs.length ∧ Blk g vs.toArray 54 w ∧ vs.length = ps.length ∧ ∀ i (h : i < vs.length) (h' : i < ps.length), FnV w vs[i] ps[i]
/-- A map's entry is the form that the table has. -/
def FormV (w : World) (T : FT) (F : Value) : Prop :=
  ∃ kv lv rv, F = .agg #[T.tx.val, .int .i64 T.lo, .int .i64 T.hi, kv, lv, rv] ∧ KsV w kv T.ks ∧ OptV w lv T.last ∧ OptV w rv T.rest
/-- What a later world keeps. -/
def Keeps (m : Nat) (w w' : World) : Prop := ∀ k, k < w.heap.size → k ≠ m → w'.heap[k]? = w.heap[k]?
theorem Keeps.of_ext {m : Nat} {w w' : World} (h : Ext m w w') : Keeps m w w' := fun k _ hm => h.block k hm
theorem Blk.keeps {m g T : Nat} {cs : Array Value} {w w' : World} {arr : Array MapEntry} {clk : Nat} (h : Blk g cs T w) (hm : w.heap[m]? = some (.map arr clk)) (hk : Keeps m w w') : Blk g cs T w' := by
  refine ⟨(hk g h.lt fun e => ?_).trans h.heap⟩
  subst e
  rw [h.heap] at hm
  cases hm
theorem FnV.keeps {m : Nat} {w w' : World} {arr : Array MapEntry} {clk : Nat} {v : Value} {c : Pc} (h : FnV w v c) (hm : w.heap[m]? = some (.map arr clk)) (hk : Keeps m w w') : FnV w' v c := by
  cases c with
  | one l =>
    obtain ⟨h0, b, g, e, h1, h2⟩ := h
    exact ⟨h0, b, g, e, h1.keeps hm hk, h2.keeps hm hk⟩
  | decl => exact h
  | stmt => exact h
  | term => exact h
  | var => exact h
theorem OptV.keeps {m : Nat} {w w' : World} {arr : Array MapEntry} {clk : Nat} {v : Value} {c : Option Pc} (h : OptV w v c) (hm : w.heap[m]? = some (.map arr clk)) (hk : Keeps m w w') : OptV w' v c := by
  cases c with
  | none => exact h
  | some c => exact FnV.keeps h hm hk
theorem KsV.keeps {m : Nat} {w w' : World} {arr : Array MapEntry} {clk : Nat} {v : Value} {ps : List Pc} (h : KsV w v ps) (hm : w.heap[m]? = some (.map arr clk)) (hk : Keeps m w w') : KsV w' v ps := by
  rcases h with h | ⟨g, vs, e, h1, h2, h3⟩
  · exact .inl h
  · exact .inr ⟨g, vs, e, h1.keeps hm hk, h2, fun i a b => (h3 i a b).keeps hm hk⟩
theorem FormV.keeps {m : Nat} {w w' : World} {arr : Array MapEntry} {clk : Nat} {T : FT} {F : Value} (h : FormV w T F) (hm : w.heap[m]? = some (.map arr clk)) (hk : Keeps m w w') : FormV w' T F := by
  obtain ⟨kv, lv, rv, e, h1, h2, h3⟩ := h
  exact ⟨kv, lv, rv, e, h1.keeps hm hk, h2.keeps hm hk, h3.keeps hm hk⟩
theorem FnV.pred {W : World} {v : Value} {c : Pc} (h : FnV W v c) : Pred W v c.fn := by
  cases c with
  | decl => rw [show v = _ from h]; exact pred_decl W
  | stmt => rw [show v = _ from h]; exact pred_stmt W
  | term => rw [show v = _ from h]; exact pred_term W
  | var => rw [show v = _ from h]; exact pred_var W
  | one l =>
    obtain ⟨h0, b, g, rfl, h1, h2⟩ := h
    refine ⟨59, _, rfl, enters59, fun x w hw => (one1_any l h0 (some ⟨g, 0, none⟩) l.length x b w ?_ ?_).mono ?_⟩
    · intro j hj
      refine ⟨g, 0, rfl, ?_, Nat.lt_of_lt_of_le h2.lt hw.size⟩
      rw [Nat.zero_add, hw.cell (p := ⟨g, j, none⟩) h2.lt]
      exact h2.cell j _ (by simp [ints, hj])
    · rw [hw.cell (p := ⟨b, 0, none⟩) h1.lt]
      exact h1.cell 0 _ rfl
    · rintro e w2 ⟨rfl, rfl⟩
      exact ⟨rfl, Below.refl _ _⟩
theorem Tc.pred {W : World} {c : Tc} {t : ByteArray} (htab : Lib.TabIs Tryd.prog W "strings.asciiSpace" .u8 Lib.asciiSpaceTab) (h : c.holds t.data.toList) (h0 : c ≠ .none) : TPred W c.val t := by
  cases c with
  | none => exact absurd rfl h0
  | name => exact tpred_name htab h
  | typ => exact tpred_typ htab h
  | op => exact tpred_op h
theorem Pred.func {W : World} {v : Value} {p : Int → Bool} (h : Pred W v p) : ∃ f cap, v = .func (.func f) #[] cap := by
  obtain ⟨f, cap, e, _⟩ := h
  exact ⟨f, cap, e⟩
theorem text_nil {t : ByteArray} (h : t.data.toList = []) : t = ⟨#[]⟩ := by
  cases t with
  | mk d => congr 1; simpa using h
/-- 'fits' at a form of the table, at a twig that fits. -/
theorem form_fits {w : World} {T : FT} {F : Value} (hF : FormV w T F) (htab : Lib.TabIs Tryd.prog w "strings.asciiSpace" .u8 Lib.asciiSpaceTab) {t : ByteArray} {k n ln cl : Int} {kids : Value} {l : List Int} {A : Option Addr} {c : Nat}
    (ht : T.tx.holds t.data.toList) (hn : T.lo ≤ n ∧ n ≤ T.hi) (hl : fitsL T l) (hA : IAt A l w) (hlen : l.length ≤ 1000) (hc : l.length ≤ c) :
    Calls Tryd.prog 34 #[F, .agg #[.int .i64 k, .string t, .int .i64 n, .int .i64 ln, .int .i64 cl, kids], .slice A l.length c] w
      fun e w' => e = .returned (.bool true) ∧ Below w.heap.size w w' := by
  obtain ⟨kv, lv, rv, rfl, hk, hlast, hrest⟩ := hF
  obtain ⟨l1, l2, l3⟩ := hl
  -- the kids' functions
  obtain ⟨Ak, vs, ck, rfl, hvl, hFA, hp⟩ : ∃ Ak, ∃ vs : List Value, ∃ ck, kv = .slice Ak vs.length ck ∧ vs.length = T.ks.length ∧ FAt Ak vs w ∧ ∀ i (h : i < vs.length) (h' : i < T.ks.length), FnV w vs[i] T.ks[i] := by
    rcases hk with ⟨h1, h2⟩ | ⟨g, vs, h1, h2, h3, h4⟩
    · exact ⟨none, [], 0, h2, by rw [h1]; rfl, fun j hj => absurd hj (by simp), fun i h => absurd h (by simp)⟩
    · refine ⟨some ⟨g, 0, none⟩, vs, vs.length, h1, h3, fun j hj => ⟨g, 0, rfl, ?_, h2.lt⟩, h4⟩
      rw [Nat.zero_add]
      exact h2.cell j _ (by simp [hj])
  have hle : vs.length ≤ l.length := by omega
  have hp' : ∀ j (h : j < vs.length), ∃ q, Pred w vs[j] q ∧ q (l[j]'(by omega)) = true := fun j h => ⟨_, (hp j h (by omega)).pred, l2 j (by omega) (by omega)⟩
  rw [← hvl] at l3
  by_cases h0 : T.tx = .none
  · rw [h0] at ht ⊢
    obtain rfl := text_nil ht
    cases hR : T.rest with
    | some r =>
      rw [hR] at hrest l3
      have hP := FnV.pred hrest
      obtain ⟨fr, capr, rfl⟩ := hP.func
      exact fits_nil_rest hn.1 hn.2 hFA hA hle hlen hc hp' hP l3
    | none =>
      rw [hR] at hrest l3
      obtain rfl : rv = .nilFunc := hrest
      cases hL : T.last with
      | none =>
        rw [hL] at hlast l3
        obtain rfl : lv = .nilFunc := hlast
        exact fits_nil_none (p := fun _ => true) hn.1 hn.2 hFA hA hle hlen hc hp' l3
      | some q =>
        rw [hL] at hlast l3
        have hP := FnV.pred hlast
        obtain ⟨fl, capl, rfl⟩ := hP.func
        rcases l3 with l3 | ⟨l3, l4⟩
        · exact fits_nil_last0 (p := fun _ => true) hn.1 hn.2 hFA hA hle hlen hc hp' l3
        · exact fits_nil_last1 hn.1 hn.2 hFA hA hle hlen hc hp' hP l3 l4
  · have hTP := Tc.pred htab ht h0
    obtain ⟨ft, capt, hv, _⟩ := id hTP
    rw [hv] at hTP ⊢
    cases hR : T.rest with
    | some r =>
      rw [hR] at hrest l3
      have hP := FnV.pred hrest
      obtain ⟨fr, capr, rfl⟩ := hP.func
      exact fits_fun_rest hn.1 hn.2 hFA hA hle hlen hc hp' hTP hP l3
    | none =>
      rw [hR] at hrest l3
      obtain rfl : rv = .nilFunc := hrest
      cases hL : T.last with
      | none =>
        rw [hL] at hlast l3
        obtain rfl : lv = .nilFunc := hlast
        exact fits_fun_none (p := fun _ => true) hn.1 hn.2 hFA hA hle hlen hc hp' hTP l3
      | some q =>
        rw [hL] at hlast l3
        have hP := FnV.pred hlast
        obtain ⟨fl, capl, rfl⟩ := hP.func
        rcases l3 with l3 | ⟨l3, l4⟩
        · exact fits_fun_last0 (p := fun _ => true) hn.1 hn.2 hFA hA hle hlen hc hp' hTP l3
        · exact fits_fun_last1 hn.1 hn.2 hFA hA hle hlen hc hp' hTP hP l3 l4
end Go.Proofs.YtbpefmidgfmcaaaDoor
end
section
set_option linter.unusedVariables false
namespace Go.Proofs.YtbpefmidgfmcaaaDoor
open Go.RowKit PTreeApart Go.Proofs.YtbpefmidgfmcaaaDoorW.PrintWords
theorem FnV.step {w w' : World} {v : Value} {c : Pc} (h : FnV w v c) (hb : Below w.heap.size w w') : FnV w' v c := by
  cases c with
  | one l =>
    obtain ⟨h0, b, g, e, h1, h2⟩ := h
    exact ⟨h0, b, g, e, h1.step hb, h2.step hb⟩
  | decl => exact h
  | stmt => exact h
  | term => exact h
  | var => exact h
theorem KsV.step {w w' : World} {v : Value} {ps : List Pc} (h : KsV w v ps) (hb : Below w.heap.size w w') : KsV w' v ps := by
  rcases h with h | ⟨g, vs, e, h1, h2, h3⟩
  · exact .inl h
  · exact .inr ⟨g, vs, e, h1.step hb, h2, fun i a b => (h3 i a b).step hb⟩
theorem OptV.step {w w' : World} {v : Value} {c : Option Pc} (h : OptV w v c) (hb : Below w.heap.size w w') : OptV w' v c := by
  cases c with
  | none => exact h
  | some c => exact FnV.step h hb
theorem FormV.step {w w' : World} {T : FT} {F : Value} (h : FormV w T F) (hb : Below w.heap.size w w') : FormV w' T F := by
  obtain ⟨kv, lv, rv, e, h1, h2, h3⟩ := h
  exact ⟨kv, lv, rv, e, h1.step hb, h2.step hb, h3.step hb⟩
theorem ks1 {w : World} {g : Nat} {v : Value} {c : Pc} (hg : Blk g #[v] 54 w) (h : FnV w v c) : KsV w (.slice (some ⟨g, 0, none⟩) 1 1) [c] :=
  .inr ⟨g, [v], rfl, hg, rfl, fun i a b => by
    obtain rfl : i = 0 := by simpa using a
    exact h⟩
theorem ks2 {w : World} {g : Nat} {v v' : Value} {c c' : Pc} (hg : Blk g #[v, v'] 54 w) (h : FnV w v c) (h' : FnV w v' c') : KsV w (.slice (some ⟨g, 0, none⟩) 2 2) [c, c'] :=
  .inr ⟨g, [v, v'], rfl, hg, rfl, fun i a b => by
    match i, a with
    | 0, _ => exact h
    | 1, _ => exact h'
    | i + 2, a => simp at a; omega⟩
theorem ks3 {w : World} {g : Nat} {v v' v'' : Value} {c c' c'' : Pc} (hg : Blk g #[v, v', v''] 54 w) (h : FnV w v c) (h' : FnV w v' c') (h'' : FnV w v'' c'') : KsV w (.slice (some ⟨g, 0, none⟩) 3 3) [c, c', c''] :=
  .inr ⟨g, [v, v', v''], rfl, hg, rfl, fun i a b => by
    match i, a with
    | 0, _ => exact h
    | 1, _ => exact h'
    | 2, _ => exact h''
    | i + 3, a => simp at a; omega⟩
theorem ks0 {w : World} : KsV w (.slice none 0 0) [] := .inl ⟨rfl, rfl⟩
/-- 'one' at a row of the caller's. -/
theorem one_v (l : List Int) (hl : l.length ≤ 1000) (g : Nat) (w : World) (hg : Blk g (ints l) 30 w) :
    Calls Tryd.prog 35 #[.slice (some ⟨g, 0, none⟩) l.length l.length] w fun e w' => (∃ v, e = .returned v ∧ FnV w' v (.one l)) ∧ Below w.heap.size w w' := by
  have HG := Lib.hid hg
  clear hg
  have hmf : ∀ (fn : Fn) (first cap : Array Value) (w : World), (Instr.makeFunc fn first cap).run Tryd.prog w = .ok (.func fn first cap) w := fun _ _ _ _ => rfl
  go_enter Tryd.func35, Tryd.ntmps35
  go_wp2
  go_ret
  have hb : Below w.heap.size w (w.alloc (.cells #[.slice (some ⟨g, 0, none⟩) l.length l.length] 46)) := (Below.refl _ _).alloc (Nat.le_refl _) _
  exact ⟨⟨_, rfl, hl, w.heap.size, g, rfl, Blk.new w _ 46, HG.out.step hb⟩, hb⟩
/-- The function that hands its row back. -/
theorem row_same (A : Option Addr) (n c : Nat) (w : World) : Calls Tryd.prog 36 #[.slice A n c] w fun e w' => e = .returned (.slice A n c) ∧ w' = w := by
  go_enter Tryd.func36, Tryd.ntmps36
  go_wp2
  go_ret
  exact ⟨rfl, rfl⟩
/-- The shared form: one kid, a term. -/
def tTerm : FT := { ks := [.term] }
/-- What stands while the map of forms is made. -/
structure FC (w0 : World) (m : Nat) (v1 v2 v3 : Value) (b5 : Nat) (c5 : Array Value) (ks : List Int) (w : World) : Prop where
  below : Below w0.heap.size w0 w
  base : w0.heap.size ≤ m
  map : ∃ es : List (Int × Value), es.map (·.1) = ks ∧ IMap encI m es w ∧ ∀ p ∈ es, FormV w (tbl p.1) p.2
  o1 : FnV w v1 (.one [12])
  o2 : FnV w v2 (.one [29])
  o3 : FnV w v3 (.one [5])
  b5 : Blk b5 c5 64 w
  f5 : FormV w tTerm (.agg c5)
theorem IMap.step {κ : Type} {enc : κ → Value} {m : Nat} {es : List (κ × Value)} {w w' : World} (h : IMap enc m es w) (hb : Below w.heap.size w w') : IMap enc m es w' := by
  obtain ⟨arr, clk, hh, he⟩ := h
  have hlt : m < w.heap.size := (Array.getElem?_eq_some_iff.1 hh).1
  exact ⟨arr, clk, (hb.block m hlt).trans hh, he⟩
section
variable {w0 : World} {m : Nat} {v1 v2 v3 : Value} {b5 : Nat} {c5 : Array Value} {ks : List Int} {w w' : World}
theorem FC.step (h : FC w0 m v1 v2 v3 b5 c5 ks w) (hb : Below w.heap.size w w') : FC w0 m v1 v2 v3 b5 c5 ks w' := by
  obtain ⟨es, h1, h2, h3⟩ := h.map
  exact ⟨below_after h.below hb, h.base, ⟨es, h1, h2.step hb, fun p hp => (h3 p hp).step hb⟩, h.o1.step hb, h.o2.step hb, h.o3.step hb, h.b5.step hb, h.f5.step hb⟩
theorem FC.insert (h : FC w0 m v1 v2 v3 b5 c5 ks w) (k : Int) (F : Value) (hk : k ∉ ks) (hF : FormV w (tbl k) F) :
    ∃ w', (Instr.mapUpdate 50 (.map (some m)) (.int .i64 k) F).run Tryd.prog w = .ok () w' ∧ FC w0 m v1 v2 v3 b5 c5 (ks ++ [k]) w' := by
  obtain ⟨es, h1, h2, h3⟩ := h.map
  obtain ⟨arr, clk, hh, he⟩ := id h2
  obtain ⟨w', hr, hm', hx⟩ := h2.run_insert (P := Tryd.prog) (t := 50) (kt := 30) (et := 64) (d := .int .i64) (by kernel_rfl) (by kernel_rfl) .int k F (lookup_none es k (by rw [h1]; exact hk))
  have hK : Keeps m w w' := .of_ext hx
  refine ⟨w', hr, hx.below h.below h.base, h.base, ⟨es ++ [(k, F)], by simp [h1], hm', ?_⟩, h.o1.keeps hh hK, h.o2.keeps hh hK, h.o3.keeps hh hK, h.b5.keeps hh hK, h.f5.keeps hh hK⟩
  intro p hp
  rcases List.mem_append.1 hp with hp | hp
  · exact (h3 p hp).keeps hh hK
  · obtain rfl : p = (k, F) := by simpa using hp
    exact hF.keeps hh hK
end
end Go.Proofs.YtbpefmidgfmcaaaDoor
end
