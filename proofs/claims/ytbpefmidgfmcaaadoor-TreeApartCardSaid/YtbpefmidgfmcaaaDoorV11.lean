import Derived.Test.YtbpefmidgfmcaaaDoorV10
import Derived.Test.YtbpefmidgfmcaaaDoorV20
import Derived.Test.YtbpefmidgfmcaaaDoorV6
import Derived.Test.YtbpefmidgfmcaaaDoorV9
section
set_option linter.unusedVariables false
set_option linter.unusedSimpArgs false
namespace Go.Proofs.YtbpefmidgfmcaaaDoor
open Go.RowKit PTreeApart Go.Proofs.YtbpefmidgfmcaaaDoorW.PrintWords
set_option maxHeartbeats 2000000 in
set_option maxRecDepth 100000 in
theorem stmt_13 {W0 : World} {l : List S33} {b : Nat} {A : Option Addr} {c : Nat} {p v : Value} {bs : List UInt8} {ind : ByteArray} {w : World} {t : ByteArray} {n ln cl : Int} {kl : List Int} {A5 : Option Addr} {c5 : Nat} {d0 d1 : Nd}
    (hK : Kids l kl 13 t [d0, d1]) (E : Env W0 l A c) (h : St W0 b (.slice A l.length c) p v bs ind w)
    (hlen : bs.length + ((([118, 97, 114, 32] : List UInt8) ++ (t.data.toList ++ (([32] : List UInt8)))) ++ (kidT ind.data.toList 13 t 0 d0 ++ (([32, 61, 32] : List UInt8) ++ (kidT ind.data.toList 13 t 1 d1 ++ (([59] : List UInt8)))))).length ≤ 140737488355328) (h5 : kl.length ≤ c5) (hr : (Kd.int .i64).C W0 A5 kl.length kl) :
    Calls Tryd.prog 22 #[.pointer (some ⟨b, 0, none⟩), .agg #[.int .i64 13, .string t, .int .i64 n, .int .i64 ln, .int .i64 cl, .slice A5 kl.length c5]] w
      fun e w' => e = .returned (.tuple #[]) ∧ After W0 b (.slice A l.length c) v bs ((([118, 97, 114, 32] : List UInt8) ++ (t.data.toList ++ (([32] : List UInt8)))) ++ (kidT ind.data.toList 13 t 0 d0 ++ (([32, 61, 32] : List UInt8) ++ (kidT ind.data.toList 13 t 1 d1 ++ (([59] : List UInt8)))))) ind w w' := by
  have HEnt := Lib.hid (Ent.mk' h (box6 13 t n ln cl A5 kl.length c5))
  have HKi := Lib.hid hK
  have HL := Lib.hid hlen
  have HR := Lib.hid hr
  have HE := Lib.hid E
  clear hK hlen hr E
  go_enter Tryd.func22, Tryd.ntmps22
  go_upto_region 1 with (fail)
  generalize hW : w.alloc (.cells #[.int .i64 13, .string t, .int .i64 n, .int .i64 ln, .int .i64 cl, .slice A5 kl.length c5] 33) = w1 at *
  generalize hG : w.heap.size = gb at *
  clear hW hG h
  have HA1 : Hid (After W0 b (.slice A l.length c) v bs [] ind w1 w1) := Lib.hid HEnt.out.after
  obtain ⟨q0, q1, q2, q3, q4, q5, q6⟩ := HEnt.out.q HA1.out
  go_wp2_with fail
  refine (put3 ⟨#[118, 97, 114, 32]⟩ t ⟨#[32]⟩ HA1.out (by have := HL.out; simp only [List.length_append, List.length_cons, List.length_nil] at this ⊢; omega)).mono ?_
  rintro e w2 ⟨rfl, hA2⟩
  clear q0 q1 q2 q3 q4 q5 q6
  obtain ⟨q0, q1, q2, q3, q4, q5, q6⟩ := HEnt.out.q hA2
  have HA2 := Lib.hid hA2
  clear hA2
  go_wp2_with fail
  refine (kid_d HKi.out HE.out 0 _ rfl d0 rfl HA2.out (by have := HL.out; simp only [List.length_append, List.length_cons, List.length_nil] at this ⊢; omega) h5 HR.out).mono ?_
  rintro e w3 ⟨rfl, hA3⟩
  clear q0 q1 q2 q3 q4 q5 q6
  obtain ⟨q0, q1, q2, q3, q4, q5, q6⟩ := HEnt.out.q hA3
  have HA3 := Lib.hid hA3
  clear hA3
  go_wp2_with fail
  refine (put1 ⟨#[32, 61, 32]⟩ HA3.out (by have := HL.out; simp only [List.length_append, List.length_cons, List.length_nil] at this ⊢; omega)).mono ?_
  rintro e w4 ⟨rfl, hA4⟩
  clear q0 q1 q2 q3 q4 q5 q6
  obtain ⟨q0, q1, q2, q3, q4, q5, q6⟩ := HEnt.out.q hA4
  have HA4 := Lib.hid hA4
  clear hA4
  go_wp2_with fail
  refine (kid_d HKi.out HE.out 1 _ rfl d1 rfl HA4.out (by have := HL.out; simp only [List.length_append, List.length_cons, List.length_nil] at this ⊢; omega) h5 HR.out).mono ?_
  rintro e w5 ⟨rfl, hA5⟩
  clear q0 q1 q2 q3 q4 q5 q6
  obtain ⟨q0, q1, q2, q3, q4, q5, q6⟩ := HEnt.out.q hA5
  have HA5 := Lib.hid hA5
  clear hA5
  go_wp2_with fail
  refine (put1 ⟨#[59]⟩ HA5.out (by have := HL.out; simp only [List.length_append, List.length_cons, List.length_nil] at this ⊢; omega)).mono ?_
  rintro e w6 ⟨rfl, hA6⟩
  clear q0 q1 q2 q3 q4 q5 q6
  obtain ⟨q0, q1, q2, q3, q4, q5, q6⟩ := HEnt.out.q hA6
  have HA6 := Lib.hid hA6
  clear hA6
  go_wp2
  first | go_end0 | ((try simp only [Exit.inBlock, Exit.then]); refine bodyPost_ret (results_none rfl _ _ _) rfl ?_)
  exact ⟨rfl, After.then HEnt.out.mv (by simpa using HA6.out)⟩
set_option maxHeartbeats 2000000 in
set_option maxRecDepth 100000 in
theorem stmt_14 {W0 : World} {l : List S33} {b : Nat} {A : Option Addr} {c : Nat} {p v : Value} {bs : List UInt8} {ind : ByteArray} {w : World} {t : ByteArray} {n ln cl : Int} {kl : List Int} {A5 : Option Addr} {c5 : Nat} {d0 d1 : Nd}
    (hK : Kids l kl 14 t [d0, d1]) (E : Env W0 l A c) (h : St W0 b (.slice A l.length c) p v bs ind w)
    (hlen : bs.length + (kidT ind.data.toList 14 t 0 d0 ++ (([32, 61, 32] : List UInt8) ++ (kidT ind.data.toList 14 t 1 d1 ++ (([59] : List UInt8))))).length ≤ 140737488355328) (h5 : kl.length ≤ c5) (hr : (Kd.int .i64).C W0 A5 kl.length kl) :
    Calls Tryd.prog 22 #[.pointer (some ⟨b, 0, none⟩), .agg #[.int .i64 14, .string t, .int .i64 n, .int .i64 ln, .int .i64 cl, .slice A5 kl.length c5]] w
      fun e w' => e = .returned (.tuple #[]) ∧ After W0 b (.slice A l.length c) v bs (kidT ind.data.toList 14 t 0 d0 ++ (([32, 61, 32] : List UInt8) ++ (kidT ind.data.toList 14 t 1 d1 ++ (([59] : List UInt8))))) ind w w' := by
  have HEnt := Lib.hid (Ent.mk' h (box6 14 t n ln cl A5 kl.length c5))
  have HKi := Lib.hid hK
  have HL := Lib.hid hlen
  have HR := Lib.hid hr
  have HE := Lib.hid E
  clear hK hlen hr E
  go_enter Tryd.func22, Tryd.ntmps22
  go_upto_region 1 with (fail)
  generalize hW : w.alloc (.cells #[.int .i64 14, .string t, .int .i64 n, .int .i64 ln, .int .i64 cl, .slice A5 kl.length c5] 33) = w1 at *
  generalize hG : w.heap.size = gb at *
  clear hW hG h
  have HA1 : Hid (After W0 b (.slice A l.length c) v bs [] ind w1 w1) := Lib.hid HEnt.out.after
  obtain ⟨q0, q1, q2, q3, q4, q5, q6⟩ := HEnt.out.q HA1.out
  go_wp2_with fail
  refine (kid_d HKi.out HE.out 0 _ rfl d0 rfl HA1.out (by have := HL.out; simp only [List.length_append, List.length_cons, List.length_nil] at this ⊢; omega) h5 HR.out).mono ?_
  rintro e w2 ⟨rfl, hA2⟩
  clear q0 q1 q2 q3 q4 q5 q6
  obtain ⟨q0, q1, q2, q3, q4, q5, q6⟩ := HEnt.out.q hA2
  have HA2 := Lib.hid hA2
  clear hA2
  go_wp2_with fail
  refine (put1 ⟨#[32, 61, 32]⟩ HA2.out (by have := HL.out; simp only [List.length_append, List.length_cons, List.length_nil] at this ⊢; omega)).mono ?_
  rintro e w3 ⟨rfl, hA3⟩
  clear q0 q1 q2 q3 q4 q5 q6
  obtain ⟨q0, q1, q2, q3, q4, q5, q6⟩ := HEnt.out.q hA3
  have HA3 := Lib.hid hA3
  clear hA3
  go_wp2_with fail
  refine (kid_d HKi.out HE.out 1 _ rfl d1 rfl HA3.out (by have := HL.out; simp only [List.length_append, List.length_cons, List.length_nil] at this ⊢; omega) h5 HR.out).mono ?_
  rintro e w4 ⟨rfl, hA4⟩
  clear q0 q1 q2 q3 q4 q5 q6
  obtain ⟨q0, q1, q2, q3, q4, q5, q6⟩ := HEnt.out.q hA4
  have HA4 := Lib.hid hA4
  clear hA4
  go_wp2_with fail
  refine (put1 ⟨#[59]⟩ HA4.out (by have := HL.out; simp only [List.length_append, List.length_cons, List.length_nil] at this ⊢; omega)).mono ?_
  rintro e w5 ⟨rfl, hA5⟩
  clear q0 q1 q2 q3 q4 q5 q6
  obtain ⟨q0, q1, q2, q3, q4, q5, q6⟩ := HEnt.out.q hA5
  have HA5 := Lib.hid hA5
  clear hA5
  go_wp2
  first | go_end0 | ((try simp only [Exit.inBlock, Exit.then]); refine bodyPost_ret (results_none rfl _ _ _) rfl ?_)
  exact ⟨rfl, After.then HEnt.out.mv (by simpa using HA5.out)⟩
set_option maxHeartbeats 2000000 in
set_option maxRecDepth 100000 in
theorem stmt_15 {W0 : World} {l : List S33} {b : Nat} {A : Option Addr} {c : Nat} {p v : Value} {bs : List UInt8} {ind : ByteArray} {w : World} {t : ByteArray} {n ln cl : Int} {kl : List Int} {A5 : Option Addr} {c5 : Nat} {d0 : Nd}
    (hK : Kids l kl 15 t [d0]) (E : Env W0 l A c) (h : St W0 b (.slice A l.length c) p v bs ind w)
    (hlen : bs.length + (rowT (([99, 97, 108, 108] : List UInt8)) (prk ind.data.toList 15 t 0 [d0]) ++ (([59] : List UInt8))).length ≤ 140737488355328) (h5 : kl.length ≤ c5) (hr : (Kd.int .i64).C W0 A5 kl.length kl) :
    Calls Tryd.prog 22 #[.pointer (some ⟨b, 0, none⟩), .agg #[.int .i64 15, .string t, .int .i64 n, .int .i64 ln, .int .i64 cl, .slice A5 kl.length c5]] w
      fun e w' => e = .returned (.tuple #[]) ∧ After W0 b (.slice A l.length c) v bs (rowT (([99, 97, 108, 108] : List UInt8)) (prk ind.data.toList 15 t 0 [d0]) ++ (([59] : List UInt8))) ind w w' := by
  have HEnt := Lib.hid (Ent.mk' h (box6 15 t n ln cl A5 kl.length c5))
  have HKi := Lib.hid hK
  have HL := Lib.hid hlen
  have HR := Lib.hid hr
  have HE := Lib.hid E
  clear hK hlen hr E
  go_enter Tryd.func22, Tryd.ntmps22
  go_upto_region 1 with (fail)
  generalize hW : w.alloc (.cells #[.int .i64 15, .string t, .int .i64 n, .int .i64 ln, .int .i64 cl, .slice A5 kl.length c5] 33) = w1 at *
  generalize hG : w.heap.size = gb at *
  clear hW hG h
  have HA1 : Hid (After W0 b (.slice A l.length c) v bs [] ind w1 w1) := Lib.hid HEnt.out.after
  obtain ⟨q0, q1, q2, q3, q4, q5, q6⟩ := HEnt.out.q HA1.out
  have hmm := @run_makeMap Tryd.prog
  have hf77 := field77
  have HI0 := Lib.hid (IMap.new (fun n : Int => Value.int .i64 n) w1)
  have hz1 : b < w1.heap.size := HA1.out.lt
  have HB0 : Hid (Below w1.heap.size w1 (w1.alloc (.map #[] 0))) := Lib.hid ((Below.refl _ _).alloc (Nat.le_refl _) _)
  go_wp2_with (first | (refine wp_insert (t := 78) rfl _ (.const (.int .i64 15)) _ rfl Tryd.underlying78 Tryd.underlying30 KeyKind.int rfl 15 (.agg #[.string ⟨#[99, 97, 108, 108]⟩]) rfl rfl HI0.out (by rfl) ?_; intro x0 hI0 hX0; have HI1 := Lib.hid hI0; have HB1 := Lib.hid (hX0.below HB0.out (Nat.le_refl _)); clear hI0 hX0) | (refine wp_insert (t := 78) rfl _ (.const (.int .i64 16)) _ rfl Tryd.underlying78 Tryd.underlying30 KeyKind.int rfl 16 (.agg #[.string ⟨#[99, 97, 110, 99, 101, 108]⟩]) rfl rfl HI1.out (by rfl) ?_; intro x1 hI1 hX1; have HI2 := Lib.hid hI1; have HB2 := Lib.hid (hX1.below HB1.out (Nat.le_refl _)); clear hI1 hX1) | (refine wp_insert (t := 78) rfl _ (.const (.int .i64 17)) _ rfl Tryd.underlying78 Tryd.underlying30 KeyKind.int rfl 17 (.agg #[.string ⟨#[106, 111, 105, 110]⟩]) rfl rfl HI2.out (by rfl) ?_; intro x2 hI2 hX2; have HI3 := Lib.hid hI2; have HB3 := Lib.hid (hX2.below HB2.out (Nat.le_refl _)); clear hI2 hX2) | (refine wp_insert (t := 78) rfl _ (.const (.int .i64 18)) _ rfl Tryd.underlying78 Tryd.underlying30 KeyKind.int rfl 18 (.agg #[.string ⟨#[108, 111, 103]⟩]) rfl rfl HI3.out (by rfl) ?_; intro x3 hI3 hX3; have HI4 := Lib.hid hI3; have HB4 := Lib.hid (hX3.below HB3.out (Nat.le_refl _)); clear hI3 hX3; have hAm := HA1.out.step HB4.out; clear q0 q1 q2 q3 q4 q5 q6; obtain ⟨q0, q1, q2, q3, q4, q5, q6⟩ := HEnt.out.q hAm; have HAm := Lib.hid hAm; clear hAm) | (refine wp_lookup1 (t := 78) rfl _ _ rfl Tryd.underlying78 Tryd.underlying30 KeyKind.int rfl 15 (.agg #[.string ⟨#[99, 97, 108, 108]⟩]) rfl HI4.out (by rfl) ?_))
  go_wp2_with fail
  refine (row_then ⟨#[99, 97, 108, 108]⟩ 0 _ rfl HKi.out HE.out (by simp) HAm.out (by have := HL.out; simp [rowT] at this ⊢; omega) h5 HR.out).mono ?_
  rintro e w2 ⟨rfl, hA2⟩
  clear q0 q1 q2 q3 q4 q5 q6
  obtain ⟨q0, q1, q2, q3, q4, q5, q6⟩ := HEnt.out.q hA2
  have HA2 := Lib.hid hA2
  clear hA2
  go_wp2_with fail
  refine (put1 ⟨#[59]⟩ HA2.out (by have := HL.out; simp [rowT] at this ⊢; omega)).mono ?_
  rintro e w3 ⟨rfl, hA3⟩
  clear q0 q1 q2 q3 q4 q5 q6
  obtain ⟨q0, q1, q2, q3, q4, q5, q6⟩ := HEnt.out.q hA3
  have HA3 := Lib.hid hA3
  clear hA3
  go_wp2
  first | go_end0 | ((try simp only [Exit.inBlock, Exit.then]); refine bodyPost_ret (results_none rfl _ _ _) rfl ?_)
  exact ⟨rfl, After.then HEnt.out.mv (by simpa using HA3.out)⟩
set_option maxHeartbeats 2000000 in
set_option maxRecDepth 100000 in
theorem stmt_16 {W0 : World} {l : List S33} {b : Nat} {A : Option Addr} {c : Nat} {p v : Value} {bs : List UInt8} {ind : ByteArray} {w : World} {t : ByteArray} {n ln cl : Int} {kl : List Int} {A5 : Option Addr} {c5 : Nat} {d0 : Nd}
    (hK : Kids l kl 16 t [d0]) (E : Env W0 l A c) (h : St W0 b (.slice A l.length c) p v bs ind w)
    (hlen : bs.length + (rowT (([99, 97, 110, 99, 101, 108] : List UInt8)) (prk ind.data.toList 16 t 0 [d0]) ++ (([59] : List UInt8))).length ≤ 140737488355328) (h5 : kl.length ≤ c5) (hr : (Kd.int .i64).C W0 A5 kl.length kl) :
    Calls Tryd.prog 22 #[.pointer (some ⟨b, 0, none⟩), .agg #[.int .i64 16, .string t, .int .i64 n, .int .i64 ln, .int .i64 cl, .slice A5 kl.length c5]] w
      fun e w' => e = .returned (.tuple #[]) ∧ After W0 b (.slice A l.length c) v bs (rowT (([99, 97, 110, 99, 101, 108] : List UInt8)) (prk ind.data.toList 16 t 0 [d0]) ++ (([59] : List UInt8))) ind w w' := by
  have HEnt := Lib.hid (Ent.mk' h (box6 16 t n ln cl A5 kl.length c5))
  have HKi := Lib.hid hK
  have HL := Lib.hid hlen
  have HR := Lib.hid hr
  have HE := Lib.hid E
  clear hK hlen hr E
  go_enter Tryd.func22, Tryd.ntmps22
  go_upto_region 1 with (fail)
  generalize hW : w.alloc (.cells #[.int .i64 16, .string t, .int .i64 n, .int .i64 ln, .int .i64 cl, .slice A5 kl.length c5] 33) = w1 at *
  generalize hG : w.heap.size = gb at *
  clear hW hG h
  have HA1 : Hid (After W0 b (.slice A l.length c) v bs [] ind w1 w1) := Lib.hid HEnt.out.after
  obtain ⟨q0, q1, q2, q3, q4, q5, q6⟩ := HEnt.out.q HA1.out
  have hmm := @run_makeMap Tryd.prog
  have hf77 := field77
  have HI0 := Lib.hid (IMap.new (fun n : Int => Value.int .i64 n) w1)
  have hz1 : b < w1.heap.size := HA1.out.lt
  have HB0 : Hid (Below w1.heap.size w1 (w1.alloc (.map #[] 0))) := Lib.hid ((Below.refl _ _).alloc (Nat.le_refl _) _)
  go_wp2_with (first | (refine wp_insert (t := 78) rfl _ (.const (.int .i64 15)) _ rfl Tryd.underlying78 Tryd.underlying30 KeyKind.int rfl 15 (.agg #[.string ⟨#[99, 97, 108, 108]⟩]) rfl rfl HI0.out (by rfl) ?_; intro x0 hI0 hX0; have HI1 := Lib.hid hI0; have HB1 := Lib.hid (hX0.below HB0.out (Nat.le_refl _)); clear hI0 hX0) | (refine wp_insert (t := 78) rfl _ (.const (.int .i64 16)) _ rfl Tryd.underlying78 Tryd.underlying30 KeyKind.int rfl 16 (.agg #[.string ⟨#[99, 97, 110, 99, 101, 108]⟩]) rfl rfl HI1.out (by rfl) ?_; intro x1 hI1 hX1; have HI2 := Lib.hid hI1; have HB2 := Lib.hid (hX1.below HB1.out (Nat.le_refl _)); clear hI1 hX1) | (refine wp_insert (t := 78) rfl _ (.const (.int .i64 17)) _ rfl Tryd.underlying78 Tryd.underlying30 KeyKind.int rfl 17 (.agg #[.string ⟨#[106, 111, 105, 110]⟩]) rfl rfl HI2.out (by rfl) ?_; intro x2 hI2 hX2; have HI3 := Lib.hid hI2; have HB3 := Lib.hid (hX2.below HB2.out (Nat.le_refl _)); clear hI2 hX2) | (refine wp_insert (t := 78) rfl _ (.const (.int .i64 18)) _ rfl Tryd.underlying78 Tryd.underlying30 KeyKind.int rfl 18 (.agg #[.string ⟨#[108, 111, 103]⟩]) rfl rfl HI3.out (by rfl) ?_; intro x3 hI3 hX3; have HI4 := Lib.hid hI3; have HB4 := Lib.hid (hX3.below HB3.out (Nat.le_refl _)); clear hI3 hX3; have hAm := HA1.out.step HB4.out; clear q0 q1 q2 q3 q4 q5 q6; obtain ⟨q0, q1, q2, q3, q4, q5, q6⟩ := HEnt.out.q hAm; have HAm := Lib.hid hAm; clear hAm) | (refine wp_lookup1 (t := 78) rfl _ _ rfl Tryd.underlying78 Tryd.underlying30 KeyKind.int rfl 16 (.agg #[.string ⟨#[99, 97, 110, 99, 101, 108]⟩]) rfl HI4.out (by rfl) ?_))
  go_wp2_with fail
  refine (row_then ⟨#[99, 97, 110, 99, 101, 108]⟩ 0 _ rfl HKi.out HE.out (by simp) HAm.out (by have := HL.out; simp [rowT] at this ⊢; omega) h5 HR.out).mono ?_
  rintro e w2 ⟨rfl, hA2⟩
  clear q0 q1 q2 q3 q4 q5 q6
  obtain ⟨q0, q1, q2, q3, q4, q5, q6⟩ := HEnt.out.q hA2
  have HA2 := Lib.hid hA2
  clear hA2
  go_wp2_with fail
  refine (put1 ⟨#[59]⟩ HA2.out (by have := HL.out; simp [rowT] at this ⊢; omega)).mono ?_
  rintro e w3 ⟨rfl, hA3⟩
  clear q0 q1 q2 q3 q4 q5 q6
  obtain ⟨q0, q1, q2, q3, q4, q5, q6⟩ := HEnt.out.q hA3
  have HA3 := Lib.hid hA3
  clear hA3
  go_wp2
  first | go_end0 | ((try simp only [Exit.inBlock, Exit.then]); refine bodyPost_ret (results_none rfl _ _ _) rfl ?_)
  exact ⟨rfl, After.then HEnt.out.mv (by simpa using HA3.out)⟩
set_option maxHeartbeats 2000000 in
set_option maxRecDepth 100000 in
theorem stmt_17 {W0 : World} {l : List S33} {b : Nat} {A : Option Addr} {c : Nat} {p v : Value} {bs : List UInt8} {ind : ByteArray} {w : World} {t : ByteArray} {n ln cl : Int} {kl : List Int} {A5 : Option Addr} {c5 : Nat} {d0 : Nd}
    (hK : Kids l kl 17 t [d0]) (E : Env W0 l A c) (h : St W0 b (.slice A l.length c) p v bs ind w)
    (hlen : bs.length + (rowT (([106, 111, 105, 110] : List UInt8)) (prk ind.data.toList 17 t 0 [d0]) ++ (([59] : List UInt8))).length ≤ 140737488355328) (h5 : kl.length ≤ c5) (hr : (Kd.int .i64).C W0 A5 kl.length kl) :
    Calls Tryd.prog 22 #[.pointer (some ⟨b, 0, none⟩), .agg #[.int .i64 17, .string t, .int .i64 n, .int .i64 ln, .int .i64 cl, .slice A5 kl.length c5]] w
      fun e w' => e = .returned (.tuple #[]) ∧ After W0 b (.slice A l.length c) v bs (rowT (([106, 111, 105, 110] : List UInt8)) (prk ind.data.toList 17 t 0 [d0]) ++ (([59] : List UInt8))) ind w w' := by
  have HEnt := Lib.hid (Ent.mk' h (box6 17 t n ln cl A5 kl.length c5))
  have HKi := Lib.hid hK
  have HL := Lib.hid hlen
  have HR := Lib.hid hr
  have HE := Lib.hid E
  clear hK hlen hr E
  go_enter Tryd.func22, Tryd.ntmps22
  go_upto_region 1 with (fail)
  generalize hW : w.alloc (.cells #[.int .i64 17, .string t, .int .i64 n, .int .i64 ln, .int .i64 cl, .slice A5 kl.length c5] 33) = w1 at *
  generalize hG : w.heap.size = gb at *
  clear hW hG h
  have HA1 : Hid (After W0 b (.slice A l.length c) v bs [] ind w1 w1) := Lib.hid HEnt.out.after
  obtain ⟨q0, q1, q2, q3, q4, q5, q6⟩ := HEnt.out.q HA1.out
  have hmm := @run_makeMap Tryd.prog
  have hf77 := field77
  have HI0 := Lib.hid (IMap.new (fun n : Int => Value.int .i64 n) w1)
  have hz1 : b < w1.heap.size := HA1.out.lt
  have HB0 : Hid (Below w1.heap.size w1 (w1.alloc (.map #[] 0))) := Lib.hid ((Below.refl _ _).alloc (Nat.le_refl _) _)
  go_wp2_with (first | (refine wp_insert (t := 78) rfl _ (.const (.int .i64 15)) _ rfl Tryd.underlying78 Tryd.underlying30 KeyKind.int rfl 15 (.agg #[.string ⟨#[99, 97, 108, 108]⟩]) rfl rfl HI0.out (by rfl) ?_; intro x0 hI0 hX0; have HI1 := Lib.hid hI0; have HB1 := Lib.hid (hX0.below HB0.out (Nat.le_refl _)); clear hI0 hX0) | (refine wp_insert (t := 78) rfl _ (.const (.int .i64 16)) _ rfl Tryd.underlying78 Tryd.underlying30 KeyKind.int rfl 16 (.agg #[.string ⟨#[99, 97, 110, 99, 101, 108]⟩]) rfl rfl HI1.out (by rfl) ?_; intro x1 hI1 hX1; have HI2 := Lib.hid hI1; have HB2 := Lib.hid (hX1.below HB1.out (Nat.le_refl _)); clear hI1 hX1) | (refine wp_insert (t := 78) rfl _ (.const (.int .i64 17)) _ rfl Tryd.underlying78 Tryd.underlying30 KeyKind.int rfl 17 (.agg #[.string ⟨#[106, 111, 105, 110]⟩]) rfl rfl HI2.out (by rfl) ?_; intro x2 hI2 hX2; have HI3 := Lib.hid hI2; have HB3 := Lib.hid (hX2.below HB2.out (Nat.le_refl _)); clear hI2 hX2) | (refine wp_insert (t := 78) rfl _ (.const (.int .i64 18)) _ rfl Tryd.underlying78 Tryd.underlying30 KeyKind.int rfl 18 (.agg #[.string ⟨#[108, 111, 103]⟩]) rfl rfl HI3.out (by rfl) ?_; intro x3 hI3 hX3; have HI4 := Lib.hid hI3; have HB4 := Lib.hid (hX3.below HB3.out (Nat.le_refl _)); clear hI3 hX3; have hAm := HA1.out.step HB4.out; clear q0 q1 q2 q3 q4 q5 q6; obtain ⟨q0, q1, q2, q3, q4, q5, q6⟩ := HEnt.out.q hAm; have HAm := Lib.hid hAm; clear hAm) | (refine wp_lookup1 (t := 78) rfl _ _ rfl Tryd.underlying78 Tryd.underlying30 KeyKind.int rfl 17 (.agg #[.string ⟨#[106, 111, 105, 110]⟩]) rfl HI4.out (by rfl) ?_))
  go_wp2_with fail
  refine (row_then ⟨#[106, 111, 105, 110]⟩ 0 _ rfl HKi.out HE.out (by simp) HAm.out (by have := HL.out; simp [rowT] at this ⊢; omega) h5 HR.out).mono ?_
  rintro e w2 ⟨rfl, hA2⟩
  clear q0 q1 q2 q3 q4 q5 q6
  obtain ⟨q0, q1, q2, q3, q4, q5, q6⟩ := HEnt.out.q hA2
  have HA2 := Lib.hid hA2
  clear hA2
  go_wp2_with fail
  refine (put1 ⟨#[59]⟩ HA2.out (by have := HL.out; simp [rowT] at this ⊢; omega)).mono ?_
  rintro e w3 ⟨rfl, hA3⟩
  clear q0 q1 q2 q3 q4 q5 q6
  obtain ⟨q0, q1, q2, q3, q4, q5, q6⟩ := HEnt.out.q hA3
  have HA3 := Lib.hid hA3
  clear hA3
  go_wp2
  first | go_end0 | ((try simp only [Exit.inBlock, Exit.then]); refine bodyPost_ret (results_none rfl _ _ _) rfl ?_)
  exact ⟨rfl, After.then HEnt.out.mv (by simpa using HA3.out)⟩
set_option maxHeartbeats 2000000 in
set_option maxRecDepth 100000 in
theorem stmt_18 {W0 : World} {l : List S33} {b : Nat} {A : Option Addr} {c : Nat} {p v : Value} {bs : List UInt8} {ind : ByteArray} {w : World} {t : ByteArray} {n ln cl : Int} {kl : List Int} {A5 : Option Addr} {c5 : Nat} {d0 : Nd}
    (hK : Kids l kl 18 t [d0]) (E : Env W0 l A c) (h : St W0 b (.slice A l.length c) p v bs ind w)
    (hlen : bs.length + (rowT (([108, 111, 103] : List UInt8)) (prk ind.data.toList 18 t 0 [d0]) ++ (([59] : List UInt8))).length ≤ 140737488355328) (h5 : kl.length ≤ c5) (hr : (Kd.int .i64).C W0 A5 kl.length kl) :
    Calls Tryd.prog 22 #[.pointer (some ⟨b, 0, none⟩), .agg #[.int .i64 18, .string t, .int .i64 n, .int .i64 ln, .int .i64 cl, .slice A5 kl.length c5]] w
      fun e w' => e = .returned (.tuple #[]) ∧ After W0 b (.slice A l.length c) v bs (rowT (([108, 111, 103] : List UInt8)) (prk ind.data.toList 18 t 0 [d0]) ++ (([59] : List UInt8))) ind w w' := by
  have HEnt := Lib.hid (Ent.mk' h (box6 18 t n ln cl A5 kl.length c5))
  have HKi := Lib.hid hK
  have HL := Lib.hid hlen
  have HR := Lib.hid hr
  have HE := Lib.hid E
  clear hK hlen hr E
  go_enter Tryd.func22, Tryd.ntmps22
  go_upto_region 1 with (fail)
  generalize hW : w.alloc (.cells #[.int .i64 18, .string t, .int .i64 n, .int .i64 ln, .int .i64 cl, .slice A5 kl.length c5] 33) = w1 at *
  generalize hG : w.heap.size = gb at *
  clear hW hG h
  have HA1 : Hid (After W0 b (.slice A l.length c) v bs [] ind w1 w1) := Lib.hid HEnt.out.after
  obtain ⟨q0, q1, q2, q3, q4, q5, q6⟩ := HEnt.out.q HA1.out
  have hmm := @run_makeMap Tryd.prog
  have hf77 := field77
  have HI0 := Lib.hid (IMap.new (fun n : Int => Value.int .i64 n) w1)
  have hz1 : b < w1.heap.size := HA1.out.lt
  have HB0 : Hid (Below w1.heap.size w1 (w1.alloc (.map #[] 0))) := Lib.hid ((Below.refl _ _).alloc (Nat.le_refl _) _)
  go_wp2_with (first | (refine wp_insert (t := 78) rfl _ (.const (.int .i64 15)) _ rfl Tryd.underlying78 Tryd.underlying30 KeyKind.int rfl 15 (.agg #[.string ⟨#[99, 97, 108, 108]⟩]) rfl rfl HI0.out (by rfl) ?_; intro x0 hI0 hX0; have HI1 := Lib.hid hI0; have HB1 := Lib.hid (hX0.below HB0.out (Nat.le_refl _)); clear hI0 hX0) | (refine wp_insert (t := 78) rfl _ (.const (.int .i64 16)) _ rfl Tryd.underlying78 Tryd.underlying30 KeyKind.int rfl 16 (.agg #[.string ⟨#[99, 97, 110, 99, 101, 108]⟩]) rfl rfl HI1.out (by rfl) ?_; intro x1 hI1 hX1; have HI2 := Lib.hid hI1; have HB2 := Lib.hid (hX1.below HB1.out (Nat.le_refl _)); clear hI1 hX1) | (refine wp_insert (t := 78) rfl _ (.const (.int .i64 17)) _ rfl Tryd.underlying78 Tryd.underlying30 KeyKind.int rfl 17 (.agg #[.string ⟨#[106, 111, 105, 110]⟩]) rfl rfl HI2.out (by rfl) ?_; intro x2 hI2 hX2; have HI3 := Lib.hid hI2; have HB3 := Lib.hid (hX2.below HB2.out (Nat.le_refl _)); clear hI2 hX2) | (refine wp_insert (t := 78) rfl _ (.const (.int .i64 18)) _ rfl Tryd.underlying78 Tryd.underlying30 KeyKind.int rfl 18 (.agg #[.string ⟨#[108, 111, 103]⟩]) rfl rfl HI3.out (by rfl) ?_; intro x3 hI3 hX3; have HI4 := Lib.hid hI3; have HB4 := Lib.hid (hX3.below HB3.out (Nat.le_refl _)); clear hI3 hX3; have hAm := HA1.out.step HB4.out; clear q0 q1 q2 q3 q4 q5 q6; obtain ⟨q0, q1, q2, q3, q4, q5, q6⟩ := HEnt.out.q hAm; have HAm := Lib.hid hAm; clear hAm) | (refine wp_lookup1 (t := 78) rfl _ _ rfl Tryd.underlying78 Tryd.underlying30 KeyKind.int rfl 18 (.agg #[.string ⟨#[108, 111, 103]⟩]) rfl HI4.out (by rfl) ?_))
  go_wp2_with fail
  refine (row_then ⟨#[108, 111, 103]⟩ 0 _ rfl HKi.out HE.out (by simp) HAm.out (by have := HL.out; simp [rowT] at this ⊢; omega) h5 HR.out).mono ?_
  rintro e w2 ⟨rfl, hA2⟩
  clear q0 q1 q2 q3 q4 q5 q6
  obtain ⟨q0, q1, q2, q3, q4, q5, q6⟩ := HEnt.out.q hA2
  have HA2 := Lib.hid hA2
  clear hA2
  go_wp2_with fail
  refine (put1 ⟨#[59]⟩ HA2.out (by have := HL.out; simp [rowT] at this ⊢; omega)).mono ?_
  rintro e w3 ⟨rfl, hA3⟩
  clear q0 q1 q2 q3 q4 q5 q6
  obtain ⟨q0, q1, q2, q3, q4, q5, q6⟩ := HEnt.out.q hA3
  have HA3 := Lib.hid hA3
  clear hA3
  go_wp2
  first | go_end0 | ((try simp only [Exit.inBlock, Exit.then]); refine bodyPost_ret (results_none rfl _ _ _) rfl ?_)
  exact ⟨rfl, After.then HEnt.out.mv (by simpa using HA3.out)⟩
set_option maxHeartbeats 2000000 in
set_option maxRecDepth 100000 in
theorem stmt_19f1 {W0 : World} {l : List S33} {b : Nat} {A : Option Addr} {c : Nat} {p v : Value} {bs : List UInt8} {ind : ByteArray} {w : World} {t : ByteArray} {n ln cl : Int} {kl : List Int} {A5 : Option Addr} {c5 : Nat} {d0 : Nd}
    (hK : Kids l kl 19 t [d0]) (E : Env W0 l A c) (h : St W0 b (.slice A l.length c) p v bs ind w) (hn : n < 0)
    (hlen : bs.length + ((([112, 111, 115, 116, 32] : List UInt8) ++ (t.data.toList ++ (([32] : List UInt8)))) ++ (kidT ind.data.toList 19 t 0 d0 ++ (([32, 102, 114, 111, 110, 116] : List UInt8) ++ (toT (prs ind.data.toList 19 t 0 [d0]) ++ (([59] : List UInt8)))))).length ≤ 140737488355328) (h5 : kl.length ≤ c5) (hr : (Kd.int .i64).C W0 A5 kl.length kl) :
    Calls Tryd.prog 22 #[.pointer (some ⟨b, 0, none⟩), .agg #[.int .i64 19, .string t, .int .i64 n, .int .i64 ln, .int .i64 cl, .slice A5 kl.length c5]] w
      fun e w' => e = .returned (.tuple #[]) ∧ After W0 b (.slice A l.length c) v bs ((([112, 111, 115, 116, 32] : List UInt8) ++ (t.data.toList ++ (([32] : List UInt8)))) ++ (kidT ind.data.toList 19 t 0 d0 ++ (([32, 102, 114, 111, 110, 116] : List UInt8) ++ (toT (prs ind.data.toList 19 t 0 [d0]) ++ (([59] : List UInt8)))))) ind w w' := by
  have HEnt := Lib.hid (Ent.mk' h (box6 19 t n ln cl A5 kl.length c5))
  have HKi := Lib.hid hK
  have HL := Lib.hid hlen
  have HR := Lib.hid hr
  have HE := Lib.hid E
  clear hK hlen hr E
  go_enter Tryd.func22, Tryd.ntmps22
  go_upto_region 1 with (fail)
  generalize hW : w.alloc (.cells #[.int .i64 19, .string t, .int .i64 n, .int .i64 ln, .int .i64 cl, .slice A5 kl.length c5] 33) = w1 at *
  generalize hG : w.heap.size = gb at *
  clear hW hG h
  have HA1 : Hid (After W0 b (.slice A l.length c) v bs [] ind w1 w1) := Lib.hid HEnt.out.after
  obtain ⟨q0, q1, q2, q3, q4, q5, q6⟩ := HEnt.out.q HA1.out
  go_wp2_with fail
  refine (put3 ⟨#[112, 111, 115, 116, 32]⟩ t ⟨#[32]⟩ HA1.out (by have := HL.out; simp only [List.length_append, List.length_cons, List.length_nil] at this ⊢; omega)).mono ?_
  rintro e w2 ⟨rfl, hA2⟩
  clear q0 q1 q2 q3 q4 q5 q6
  obtain ⟨q0, q1, q2, q3, q4, q5, q6⟩ := HEnt.out.q hA2
  have HA2 := Lib.hid hA2
  clear hA2
  go_wp2_with fail
  refine (kid_d HKi.out HE.out 0 _ rfl d0 rfl HA2.out (by have := HL.out; simp only [List.length_append, List.length_cons, List.length_nil] at this ⊢; omega) h5 HR.out).mono ?_
  rintro e w3 ⟨rfl, hA3⟩
  clear q0 q1 q2 q3 q4 q5 q6
  obtain ⟨q0, q1, q2, q3, q4, q5, q6⟩ := HEnt.out.q hA3
  have HA3 := Lib.hid hA3
  clear hA3
  go_wp2_with fail
  refine (put1 ⟨#[32, 102, 114, 111, 110, 116]⟩ HA3.out (by have := HL.out; simp only [List.length_append, List.length_cons, List.length_nil] at this ⊢; omega)).mono ?_
  rintro e w4 ⟨rfl, hA4⟩
  clear q0 q1 q2 q3 q4 q5 q6
  obtain ⟨q0, q1, q2, q3, q4, q5, q6⟩ := HEnt.out.q hA4
  have HA4 := Lib.hid hA4
  clear hA4
  go_wp2_with fail
  refine (to_then HKi.out HE.out (by decide) (by decide) HA4.out (by have := HL.out; simp only [List.length_append, List.length_cons, List.length_nil] at this ⊢; omega) h5 HR.out).mono ?_
  rintro e w5 ⟨rfl, hA5⟩
  clear q0 q1 q2 q3 q4 q5 q6
  obtain ⟨q0, q1, q2, q3, q4, q5, q6⟩ := HEnt.out.q hA5
  have HA5 := Lib.hid hA5
  clear hA5
  go_wp2_with fail
  refine (put1 ⟨#[59]⟩ HA5.out (by have := HL.out; simp only [List.length_append, List.length_cons, List.length_nil] at this ⊢; omega)).mono ?_
  rintro e w6 ⟨rfl, hA6⟩
  clear q0 q1 q2 q3 q4 q5 q6
  obtain ⟨q0, q1, q2, q3, q4, q5, q6⟩ := HEnt.out.q hA6
  have HA6 := Lib.hid hA6
  clear hA6
  go_wp2
  first | go_end0 | ((try simp only [Exit.inBlock, Exit.then]); refine bodyPost_ret (results_none rfl _ _ _) rfl ?_)
  exact ⟨rfl, After.then HEnt.out.mv (by simpa using HA6.out)⟩
set_option maxHeartbeats 2000000 in
set_option maxRecDepth 100000 in
theorem stmt_19f2 {W0 : World} {l : List S33} {b : Nat} {A : Option Addr} {c : Nat} {p v : Value} {bs : List UInt8} {ind : ByteArray} {w : World} {t : ByteArray} {n ln cl : Int} {kl : List Int} {A5 : Option Addr} {c5 : Nat} {d0 d1 : Nd}
    (hK : Kids l kl 19 t [d0, d1]) (E : Env W0 l A c) (h : St W0 b (.slice A l.length c) p v bs ind w) (hn : n < 0)
    (hlen : bs.length + ((([112, 111, 115, 116, 32] : List UInt8) ++ (t.data.toList ++ (([32] : List UInt8)))) ++ (kidT ind.data.toList 19 t 0 d0 ++ (([32, 102, 114, 111, 110, 116] : List UInt8) ++ (toT (prs ind.data.toList 19 t 0 [d0, d1]) ++ (([59] : List UInt8)))))).length ≤ 140737488355328) (h5 : kl.length ≤ c5) (hr : (Kd.int .i64).C W0 A5 kl.length kl) :
    Calls Tryd.prog 22 #[.pointer (some ⟨b, 0, none⟩), .agg #[.int .i64 19, .string t, .int .i64 n, .int .i64 ln, .int .i64 cl, .slice A5 kl.length c5]] w
      fun e w' => e = .returned (.tuple #[]) ∧ After W0 b (.slice A l.length c) v bs ((([112, 111, 115, 116, 32] : List UInt8) ++ (t.data.toList ++ (([32] : List UInt8)))) ++ (kidT ind.data.toList 19 t 0 d0 ++ (([32, 102, 114, 111, 110, 116] : List UInt8) ++ (toT (prs ind.data.toList 19 t 0 [d0, d1]) ++ (([59] : List UInt8)))))) ind w w' := by
  have HEnt := Lib.hid (Ent.mk' h (box6 19 t n ln cl A5 kl.length c5))
  have HKi := Lib.hid hK
  have HL := Lib.hid hlen
  have HR := Lib.hid hr
  have HE := Lib.hid E
  clear hK hlen hr E
  go_enter Tryd.func22, Tryd.ntmps22
  go_upto_region 1 with (fail)
  generalize hW : w.alloc (.cells #[.int .i64 19, .string t, .int .i64 n, .int .i64 ln, .int .i64 cl, .slice A5 kl.length c5] 33) = w1 at *
  generalize hG : w.heap.size = gb at *
  clear hW hG h
  have HA1 : Hid (After W0 b (.slice A l.length c) v bs [] ind w1 w1) := Lib.hid HEnt.out.after
  obtain ⟨q0, q1, q2, q3, q4, q5, q6⟩ := HEnt.out.q HA1.out
  go_wp2_with fail
  refine (put3 ⟨#[112, 111, 115, 116, 32]⟩ t ⟨#[32]⟩ HA1.out (by have := HL.out; simp only [List.length_append, List.length_cons, List.length_nil] at this ⊢; omega)).mono ?_
  rintro e w2 ⟨rfl, hA2⟩
  clear q0 q1 q2 q3 q4 q5 q6
  obtain ⟨q0, q1, q2, q3, q4, q5, q6⟩ := HEnt.out.q hA2
  have HA2 := Lib.hid hA2
  clear hA2
  go_wp2_with fail
  refine (kid_d HKi.out HE.out 0 _ rfl d0 rfl HA2.out (by have := HL.out; simp only [List.length_append, List.length_cons, List.length_nil] at this ⊢; omega) h5 HR.out).mono ?_
  rintro e w3 ⟨rfl, hA3⟩
  clear q0 q1 q2 q3 q4 q5 q6
  obtain ⟨q0, q1, q2, q3, q4, q5, q6⟩ := HEnt.out.q hA3
  have HA3 := Lib.hid hA3
  clear hA3
  go_wp2_with fail
  refine (put1 ⟨#[32, 102, 114, 111, 110, 116]⟩ HA3.out (by have := HL.out; simp only [List.length_append, List.length_cons, List.length_nil] at this ⊢; omega)).mono ?_
  rintro e w4 ⟨rfl, hA4⟩
  clear q0 q1 q2 q3 q4 q5 q6
  obtain ⟨q0, q1, q2, q3, q4, q5, q6⟩ := HEnt.out.q hA4
  have HA4 := Lib.hid hA4
  clear hA4
  go_wp2_with fail
  refine (to_then HKi.out HE.out (by decide) (by decide) HA4.out (by have := HL.out; simp only [List.length_append, List.length_cons, List.length_nil] at this ⊢; omega) h5 HR.out).mono ?_
  rintro e w5 ⟨rfl, hA5⟩
  clear q0 q1 q2 q3 q4 q5 q6
  obtain ⟨q0, q1, q2, q3, q4, q5, q6⟩ := HEnt.out.q hA5
  have HA5 := Lib.hid hA5
  clear hA5
  go_wp2_with fail
  refine (put1 ⟨#[59]⟩ HA5.out (by have := HL.out; simp only [List.length_append, List.length_cons, List.length_nil] at this ⊢; omega)).mono ?_
  rintro e w6 ⟨rfl, hA6⟩
  clear q0 q1 q2 q3 q4 q5 q6
  obtain ⟨q0, q1, q2, q3, q4, q5, q6⟩ := HEnt.out.q hA6
  have HA6 := Lib.hid hA6
  clear hA6
  go_wp2
  first | go_end0 | ((try simp only [Exit.inBlock, Exit.then]); refine bodyPost_ret (results_none rfl _ _ _) rfl ?_)
  exact ⟨rfl, After.then HEnt.out.mv (by simpa using HA6.out)⟩
set_option maxHeartbeats 2000000 in
set_option maxRecDepth 100000 in
theorem stmt_19a1 {W0 : World} {l : List S33} {b : Nat} {A : Option Addr} {c : Nat} {p v : Value} {bs : List UInt8} {ind : ByteArray} {w : World} {t : ByteArray} {n ln cl : Int} {kl : List Int} {A5 : Option Addr} {c5 : Nat} {d0 : Nd}
    (hK : Kids l kl 19 t [d0]) (E : Env W0 l A c) (h : St W0 b (.slice A l.length c) p v bs ind w) (hn : 0 < n) (hn0 : -9223372036854775808 ≤ n) (hn1 : n ≤ 9223372036854775807)
    (hlen : bs.length + ((([112, 111, 115, 116, 32] : List UInt8) ++ (t.data.toList ++ (([32] : List UInt8)))) ++ (kidT ind.data.toList 19 t 0 d0 ++ ((([32, 97, 102, 116, 101, 114, 32] : List UInt8) ++ Lib.itoa n) ++ (toT (prs ind.data.toList 19 t 0 [d0]) ++ (([59] : List UInt8)))))).length ≤ 140737488355328) (h5 : kl.length ≤ c5) (hr : (Kd.int .i64).C W0 A5 kl.length kl) :
    Calls Tryd.prog 22 #[.pointer (some ⟨b, 0, none⟩), .agg #[.int .i64 19, .string t, .int .i64 n, .int .i64 ln, .int .i64 cl, .slice A5 kl.length c5]] w
      fun e w' => e = .returned (.tuple #[]) ∧ After W0 b (.slice A l.length c) v bs ((([112, 111, 115, 116, 32] : List UInt8) ++ (t.data.toList ++ (([32] : List UInt8)))) ++ (kidT ind.data.toList 19 t 0 d0 ++ ((([32, 97, 102, 116, 101, 114, 32] : List UInt8) ++ Lib.itoa n) ++ (toT (prs ind.data.toList 19 t 0 [d0]) ++ (([59] : List UInt8)))))) ind w w' := by
  have HEnt := Lib.hid (Ent.mk' h (box6 19 t n ln cl A5 kl.length c5))
  have HKi := Lib.hid hK
  have HL := Lib.hid hlen
  have HR := Lib.hid hr
  have HE := Lib.hid E
  clear hK hlen hr E
  go_enter Tryd.func22, Tryd.ntmps22
  go_upto_region 1 with (fail)
  generalize hW : w.alloc (.cells #[.int .i64 19, .string t, .int .i64 n, .int .i64 ln, .int .i64 cl, .slice A5 kl.length c5] 33) = w1 at *
  generalize hG : w.heap.size = gb at *
  clear hW hG h
  have HA1 : Hid (After W0 b (.slice A l.length c) v bs [] ind w1 w1) := Lib.hid HEnt.out.after
  obtain ⟨q0, q1, q2, q3, q4, q5, q6⟩ := HEnt.out.q HA1.out
  go_wp2_with fail
  refine (put3 ⟨#[112, 111, 115, 116, 32]⟩ t ⟨#[32]⟩ HA1.out (by have := HL.out; simp only [List.length_append, List.length_cons, List.length_nil] at this ⊢; omega)).mono ?_
  rintro e w2 ⟨rfl, hA2⟩
  clear q0 q1 q2 q3 q4 q5 q6
  obtain ⟨q0, q1, q2, q3, q4, q5, q6⟩ := HEnt.out.q hA2
  have HA2 := Lib.hid hA2
  clear hA2
  go_wp2_with fail
  refine (kid_d HKi.out HE.out 0 _ rfl d0 rfl HA2.out (by have := HL.out; simp only [List.length_append, List.length_cons, List.length_nil] at this ⊢; omega) h5 HR.out).mono ?_
  rintro e w3 ⟨rfl, hA3⟩
  clear q0 q1 q2 q3 q4 q5 q6
  obtain ⟨q0, q1, q2, q3, q4, q5, q6⟩ := HEnt.out.q hA3
  have HA3 := Lib.hid hA3
  clear hA3
  go_wp2_with fail
  refine (fmt_then n HE.out HA3.out hn0 hn1).mono ?_
  rintro e w4n ⟨rfl, hA4n⟩
  clear q0 q1 q2 q3 q4 q5 q6
  obtain ⟨q0, q1, q2, q3, q4, q5, q6⟩ := HEnt.out.q hA4n
  have HA4n := Lib.hid hA4n
  clear hA4n
  go_wp2_with fail
  refine (put2 ⟨#[32, 97, 102, 116, 101, 114, 32]⟩ ⟨(Lib.itoa n).toArray⟩ HA4n.out (by have := HL.out; simp only [List.length_append, List.length_cons, List.length_nil] at this ⊢; omega)).mono ?_
  rintro e w4 ⟨rfl, hA4⟩
  clear q0 q1 q2 q3 q4 q5 q6
  obtain ⟨q0, q1, q2, q3, q4, q5, q6⟩ := HEnt.out.q hA4
  have HA4 := Lib.hid hA4
  clear hA4
  go_wp2_with fail
  refine (to_then HKi.out HE.out (by decide) (by decide) HA4.out (by have := HL.out; simp only [List.length_append, List.length_cons, List.length_nil] at this ⊢; omega) h5 HR.out).mono ?_
  rintro e w5 ⟨rfl, hA5⟩
  clear q0 q1 q2 q3 q4 q5 q6
  obtain ⟨q0, q1, q2, q3, q4, q5, q6⟩ := HEnt.out.q hA5
  have HA5 := Lib.hid hA5
  clear hA5
  go_wp2_with fail
  refine (put1 ⟨#[59]⟩ HA5.out (by have := HL.out; simp only [List.length_append, List.length_cons, List.length_nil] at this ⊢; omega)).mono ?_
  rintro e w6 ⟨rfl, hA6⟩
  clear q0 q1 q2 q3 q4 q5 q6
  obtain ⟨q0, q1, q2, q3, q4, q5, q6⟩ := HEnt.out.q hA6
  have HA6 := Lib.hid hA6
  clear hA6
  go_wp2
  first | go_end0 | ((try simp only [Exit.inBlock, Exit.then]); refine bodyPost_ret (results_none rfl _ _ _) rfl ?_)
  exact ⟨rfl, After.then HEnt.out.mv (by simpa using HA6.out)⟩
set_option maxHeartbeats 2000000 in
set_option maxRecDepth 100000 in
theorem stmt_19a2 {W0 : World} {l : List S33} {b : Nat} {A : Option Addr} {c : Nat} {p v : Value} {bs : List UInt8} {ind : ByteArray} {w : World} {t : ByteArray} {n ln cl : Int} {kl : List Int} {A5 : Option Addr} {c5 : Nat} {d0 d1 : Nd}
    (hK : Kids l kl 19 t [d0, d1]) (E : Env W0 l A c) (h : St W0 b (.slice A l.length c) p v bs ind w) (hn : 0 < n) (hn0 : -9223372036854775808 ≤ n) (hn1 : n ≤ 9223372036854775807)
    (hlen : bs.length + ((([112, 111, 115, 116, 32] : List UInt8) ++ (t.data.toList ++ (([32] : List UInt8)))) ++ (kidT ind.data.toList 19 t 0 d0 ++ ((([32, 97, 102, 116, 101, 114, 32] : List UInt8) ++ Lib.itoa n) ++ (toT (prs ind.data.toList 19 t 0 [d0, d1]) ++ (([59] : List UInt8)))))).length ≤ 140737488355328) (h5 : kl.length ≤ c5) (hr : (Kd.int .i64).C W0 A5 kl.length kl) :
    Calls Tryd.prog 22 #[.pointer (some ⟨b, 0, none⟩), .agg #[.int .i64 19, .string t, .int .i64 n, .int .i64 ln, .int .i64 cl, .slice A5 kl.length c5]] w
      fun e w' => e = .returned (.tuple #[]) ∧ After W0 b (.slice A l.length c) v bs ((([112, 111, 115, 116, 32] : List UInt8) ++ (t.data.toList ++ (([32] : List UInt8)))) ++ (kidT ind.data.toList 19 t 0 d0 ++ ((([32, 97, 102, 116, 101, 114, 32] : List UInt8) ++ Lib.itoa n) ++ (toT (prs ind.data.toList 19 t 0 [d0, d1]) ++ (([59] : List UInt8)))))) ind w w' := by
  have HEnt := Lib.hid (Ent.mk' h (box6 19 t n ln cl A5 kl.length c5))
  have HKi := Lib.hid hK
  have HL := Lib.hid hlen
  have HR := Lib.hid hr
  have HE := Lib.hid E
  clear hK hlen hr E
  go_enter Tryd.func22, Tryd.ntmps22
  go_upto_region 1 with (fail)
  generalize hW : w.alloc (.cells #[.int .i64 19, .string t, .int .i64 n, .int .i64 ln, .int .i64 cl, .slice A5 kl.length c5] 33) = w1 at *
  generalize hG : w.heap.size = gb at *
  clear hW hG h
  have HA1 : Hid (After W0 b (.slice A l.length c) v bs [] ind w1 w1) := Lib.hid HEnt.out.after
  obtain ⟨q0, q1, q2, q3, q4, q5, q6⟩ := HEnt.out.q HA1.out
  go_wp2_with fail
  refine (put3 ⟨#[112, 111, 115, 116, 32]⟩ t ⟨#[32]⟩ HA1.out (by have := HL.out; simp only [List.length_append, List.length_cons, List.length_nil] at this ⊢; omega)).mono ?_
  rintro e w2 ⟨rfl, hA2⟩
  clear q0 q1 q2 q3 q4 q5 q6
  obtain ⟨q0, q1, q2, q3, q4, q5, q6⟩ := HEnt.out.q hA2
  have HA2 := Lib.hid hA2
  clear hA2
  go_wp2_with fail
  refine (kid_d HKi.out HE.out 0 _ rfl d0 rfl HA2.out (by have := HL.out; simp only [List.length_append, List.length_cons, List.length_nil] at this ⊢; omega) h5 HR.out).mono ?_
  rintro e w3 ⟨rfl, hA3⟩
  clear q0 q1 q2 q3 q4 q5 q6
  obtain ⟨q0, q1, q2, q3, q4, q5, q6⟩ := HEnt.out.q hA3
  have HA3 := Lib.hid hA3
  clear hA3
  go_wp2_with fail
  refine (fmt_then n HE.out HA3.out hn0 hn1).mono ?_
  rintro e w4n ⟨rfl, hA4n⟩
  clear q0 q1 q2 q3 q4 q5 q6
  obtain ⟨q0, q1, q2, q3, q4, q5, q6⟩ := HEnt.out.q hA4n
  have HA4n := Lib.hid hA4n
  clear hA4n
  go_wp2_with fail
  refine (put2 ⟨#[32, 97, 102, 116, 101, 114, 32]⟩ ⟨(Lib.itoa n).toArray⟩ HA4n.out (by have := HL.out; simp only [List.length_append, List.length_cons, List.length_nil] at this ⊢; omega)).mono ?_
  rintro e w4 ⟨rfl, hA4⟩
  clear q0 q1 q2 q3 q4 q5 q6
  obtain ⟨q0, q1, q2, q3, q4, q5, q6⟩ := HEnt.out.q hA4
  have HA4 := Lib.hid hA4
  clear hA4
  go_wp2_with fail
  refine (to_then HKi.out HE.out (by decide) (by decide) HA4.out (by have := HL.out; simp only [List.length_append, List.length_cons, List.length_nil] at this ⊢; omega) h5 HR.out).mono ?_
  rintro e w5 ⟨rfl, hA5⟩
  clear q0 q1 q2 q3 q4 q5 q6
  obtain ⟨q0, q1, q2, q3, q4, q5, q6⟩ := HEnt.out.q hA5
  have HA5 := Lib.hid hA5
  clear hA5
  go_wp2_with fail
  refine (put1 ⟨#[59]⟩ HA5.out (by have := HL.out; simp only [List.length_append, List.length_cons, List.length_nil] at this ⊢; omega)).mono ?_
  rintro e w6 ⟨rfl, hA6⟩
  clear q0 q1 q2 q3 q4 q5 q6
  obtain ⟨q0, q1, q2, q3, q4, q5, q6⟩ := HEnt.out.q hA6
  have HA6 := Lib.hid hA6
  clear hA6
  go_wp2
  first | go_end0 | ((try simp only [Exit.inBlock, Exit.then]); refine bodyPost_ret (results_none rfl _ _ _) rfl ?_)
  exact ⟨rfl, After.then HEnt.out.mv (by simpa using HA6.out)⟩
set_option maxHeartbeats 2000000 in
set_option maxRecDepth 100000 in
theorem stmt_19z1 {W0 : World} {l : List S33} {b : Nat} {A : Option Addr} {c : Nat} {p v : Value} {bs : List UInt8} {ind : ByteArray} {w : World} {t : ByteArray} {n ln cl : Int} {kl : List Int} {A5 : Option Addr} {c5 : Nat} {d0 : Nd}
    (hK : Kids l kl 19 t [d0]) (E : Env W0 l A c) (h : St W0 b (.slice A l.length c) p v bs ind w) (hn : ¬ n < 0) (hn2 : ¬ 0 < n)
    (hlen : bs.length + ((([112, 111, 115, 116, 32] : List UInt8) ++ (t.data.toList ++ (([32] : List UInt8)))) ++ (kidT ind.data.toList 19 t 0 d0 ++ (toT (prs ind.data.toList 19 t 0 [d0]) ++ (([59] : List UInt8))))).length ≤ 140737488355328) (h5 : kl.length ≤ c5) (hr : (Kd.int .i64).C W0 A5 kl.length kl) :
    Calls Tryd.prog 22 #[.pointer (some ⟨b, 0, none⟩), .agg #[.int .i64 19, .string t, .int .i64 n, .int .i64 ln, .int .i64 cl, .slice A5 kl.length c5]] w
      fun e w' => e = .returned (.tuple #[]) ∧ After W0 b (.slice A l.length c) v bs ((([112, 111, 115, 116, 32] : List UInt8) ++ (t.data.toList ++ (([32] : List UInt8)))) ++ (kidT ind.data.toList 19 t 0 d0 ++ (toT (prs ind.data.toList 19 t 0 [d0]) ++ (([59] : List UInt8))))) ind w w' := by
  have HEnt := Lib.hid (Ent.mk' h (box6 19 t n ln cl A5 kl.length c5))
  have HKi := Lib.hid hK
  have HL := Lib.hid hlen
  have HR := Lib.hid hr
  have HE := Lib.hid E
  clear hK hlen hr E
  go_enter Tryd.func22, Tryd.ntmps22
  go_upto_region 1 with (fail)
  generalize hW : w.alloc (.cells #[.int .i64 19, .string t, .int .i64 n, .int .i64 ln, .int .i64 cl, .slice A5 kl.length c5] 33) = w1 at *
  generalize hG : w.heap.size = gb at *
  clear hW hG h
  have HA1 : Hid (After W0 b (.slice A l.length c) v bs [] ind w1 w1) := Lib.hid HEnt.out.after
  obtain ⟨q0, q1, q2, q3, q4, q5, q6⟩ := HEnt.out.q HA1.out
  go_wp2_with fail
  refine (put3 ⟨#[112, 111, 115, 116, 32]⟩ t ⟨#[32]⟩ HA1.out (by have := HL.out; simp only [List.length_append, List.length_cons, List.length_nil] at this ⊢; omega)).mono ?_
  rintro e w2 ⟨rfl, hA2⟩
  clear q0 q1 q2 q3 q4 q5 q6
  obtain ⟨q0, q1, q2, q3, q4, q5, q6⟩ := HEnt.out.q hA2
  have HA2 := Lib.hid hA2
  clear hA2
  go_wp2_with fail
  refine (kid_d HKi.out HE.out 0 _ rfl d0 rfl HA2.out (by have := HL.out; simp only [List.length_append, List.length_cons, List.length_nil] at this ⊢; omega) h5 HR.out).mono ?_
  rintro e w3 ⟨rfl, hA3⟩
  clear q0 q1 q2 q3 q4 q5 q6
  obtain ⟨q0, q1, q2, q3, q4, q5, q6⟩ := HEnt.out.q hA3
  have HA3 := Lib.hid hA3
  clear hA3
  go_wp2_with fail
  refine (to_then HKi.out HE.out (by decide) (by decide) HA3.out (by have := HL.out; simp only [List.length_append, List.length_cons, List.length_nil] at this ⊢; omega) h5 HR.out).mono ?_
  rintro e w4 ⟨rfl, hA4⟩
  clear q0 q1 q2 q3 q4 q5 q6
  obtain ⟨q0, q1, q2, q3, q4, q5, q6⟩ := HEnt.out.q hA4
  have HA4 := Lib.hid hA4
  clear hA4
  go_wp2_with fail
  refine (put1 ⟨#[59]⟩ HA4.out (by have := HL.out; simp only [List.length_append, List.length_cons, List.length_nil] at this ⊢; omega)).mono ?_
  rintro e w5 ⟨rfl, hA5⟩
  clear q0 q1 q2 q3 q4 q5 q6
  obtain ⟨q0, q1, q2, q3, q4, q5, q6⟩ := HEnt.out.q hA5
  have HA5 := Lib.hid hA5
  clear hA5
  go_wp2
  first | go_end0 | ((try simp only [Exit.inBlock, Exit.then]); refine bodyPost_ret (results_none rfl _ _ _) rfl ?_)
  exact ⟨rfl, After.then HEnt.out.mv (by simpa using HA5.out)⟩
set_option maxHeartbeats 2000000 in
set_option maxRecDepth 100000 in
theorem stmt_19z2 {W0 : World} {l : List S33} {b : Nat} {A : Option Addr} {c : Nat} {p v : Value} {bs : List UInt8} {ind : ByteArray} {w : World} {t : ByteArray} {n ln cl : Int} {kl : List Int} {A5 : Option Addr} {c5 : Nat} {d0 d1 : Nd}
    (hK : Kids l kl 19 t [d0, d1]) (E : Env W0 l A c) (h : St W0 b (.slice A l.length c) p v bs ind w) (hn : ¬ n < 0) (hn2 : ¬ 0 < n)
    (hlen : bs.length + ((([112, 111, 115, 116, 32] : List UInt8) ++ (t.data.toList ++ (([32] : List UInt8)))) ++ (kidT ind.data.toList 19 t 0 d0 ++ (toT (prs ind.data.toList 19 t 0 [d0, d1]) ++ (([59] : List UInt8))))).length ≤ 140737488355328) (h5 : kl.length ≤ c5) (hr : (Kd.int .i64).C W0 A5 kl.length kl) :
    Calls Tryd.prog 22 #[.pointer (some ⟨b, 0, none⟩), .agg #[.int .i64 19, .string t, .int .i64 n, .int .i64 ln, .int .i64 cl, .slice A5 kl.length c5]] w
      fun e w' => e = .returned (.tuple #[]) ∧ After W0 b (.slice A l.length c) v bs ((([112, 111, 115, 116, 32] : List UInt8) ++ (t.data.toList ++ (([32] : List UInt8)))) ++ (kidT ind.data.toList 19 t 0 d0 ++ (toT (prs ind.data.toList 19 t 0 [d0, d1]) ++ (([59] : List UInt8))))) ind w w' := by
  have HEnt := Lib.hid (Ent.mk' h (box6 19 t n ln cl A5 kl.length c5))
  have HKi := Lib.hid hK
  have HL := Lib.hid hlen
  have HR := Lib.hid hr
  have HE := Lib.hid E
  clear hK hlen hr E
  go_enter Tryd.func22, Tryd.ntmps22
  go_upto_region 1 with (fail)
  generalize hW : w.alloc (.cells #[.int .i64 19, .string t, .int .i64 n, .int .i64 ln, .int .i64 cl, .slice A5 kl.length c5] 33) = w1 at *
  generalize hG : w.heap.size = gb at *
  clear hW hG h
  have HA1 : Hid (After W0 b (.slice A l.length c) v bs [] ind w1 w1) := Lib.hid HEnt.out.after
  obtain ⟨q0, q1, q2, q3, q4, q5, q6⟩ := HEnt.out.q HA1.out
  go_wp2_with fail
  refine (put3 ⟨#[112, 111, 115, 116, 32]⟩ t ⟨#[32]⟩ HA1.out (by have := HL.out; simp only [List.length_append, List.length_cons, List.length_nil] at this ⊢; omega)).mono ?_
  rintro e w2 ⟨rfl, hA2⟩
  clear q0 q1 q2 q3 q4 q5 q6
  obtain ⟨q0, q1, q2, q3, q4, q5, q6⟩ := HEnt.out.q hA2
  have HA2 := Lib.hid hA2
  clear hA2
  go_wp2_with fail
  refine (kid_d HKi.out HE.out 0 _ rfl d0 rfl HA2.out (by have := HL.out; simp only [List.length_append, List.length_cons, List.length_nil] at this ⊢; omega) h5 HR.out).mono ?_
  rintro e w3 ⟨rfl, hA3⟩
  clear q0 q1 q2 q3 q4 q5 q6
  obtain ⟨q0, q1, q2, q3, q4, q5, q6⟩ := HEnt.out.q hA3
  have HA3 := Lib.hid hA3
  clear hA3
  go_wp2_with fail
  refine (to_then HKi.out HE.out (by decide) (by decide) HA3.out (by have := HL.out; simp only [List.length_append, List.length_cons, List.length_nil] at this ⊢; omega) h5 HR.out).mono ?_
  rintro e w4 ⟨rfl, hA4⟩
  clear q0 q1 q2 q3 q4 q5 q6
  obtain ⟨q0, q1, q2, q3, q4, q5, q6⟩ := HEnt.out.q hA4
  have HA4 := Lib.hid hA4
  clear hA4
  go_wp2_with fail
  refine (put1 ⟨#[59]⟩ HA4.out (by have := HL.out; simp only [List.length_append, List.length_cons, List.length_nil] at this ⊢; omega)).mono ?_
  rintro e w5 ⟨rfl, hA5⟩
  clear q0 q1 q2 q3 q4 q5 q6
  obtain ⟨q0, q1, q2, q3, q4, q5, q6⟩ := HEnt.out.q hA5
  have HA5 := Lib.hid hA5
  clear hA5
  go_wp2
  first | go_end0 | ((try simp only [Exit.inBlock, Exit.then]); refine bodyPost_ret (results_none rfl _ _ _) rfl ?_)
  exact ⟨rfl, After.then HEnt.out.mv (by simpa using HA5.out)⟩
set_option maxHeartbeats 2000000 in
set_option maxRecDepth 100000 in
theorem stmt_201 {W0 : World} {l : List S33} {b : Nat} {A : Option Addr} {c : Nat} {p v : Value} {bs : List UInt8} {ind : ByteArray} {w : World} {t : ByteArray} {n ln cl : Int} {kl : List Int} {A5 : Option Addr} {c5 : Nat} {d0 : Nd}
    (hK : Kids l kl 20 t [d0]) (E : Env W0 l A c) (h : St W0 b (.slice A l.length c) p v bs ind w)
    (hlen : bs.length + (([115, 112, 97, 119, 110, 32] : List UInt8) ++ (kidT ind.data.toList 20 t 0 d0 ++ (toT (prs ind.data.toList 20 t 0 [d0]) ++ (([59] : List UInt8))))).length ≤ 140737488355328) (h5 : kl.length ≤ c5) (hr : (Kd.int .i64).C W0 A5 kl.length kl) :
    Calls Tryd.prog 22 #[.pointer (some ⟨b, 0, none⟩), .agg #[.int .i64 20, .string t, .int .i64 n, .int .i64 ln, .int .i64 cl, .slice A5 kl.length c5]] w
      fun e w' => e = .returned (.tuple #[]) ∧ After W0 b (.slice A l.length c) v bs (([115, 112, 97, 119, 110, 32] : List UInt8) ++ (kidT ind.data.toList 20 t 0 d0 ++ (toT (prs ind.data.toList 20 t 0 [d0]) ++ (([59] : List UInt8))))) ind w w' := by
  have HEnt := Lib.hid (Ent.mk' h (box6 20 t n ln cl A5 kl.length c5))
  have HKi := Lib.hid hK
  have HL := Lib.hid hlen
  have HR := Lib.hid hr
  have HE := Lib.hid E
  clear hK hlen hr E
  go_enter Tryd.func22, Tryd.ntmps22
  go_upto_region 1 with (fail)
  generalize hW : w.alloc (.cells #[.int .i64 20, .string t, .int .i64 n, .int .i64 ln, .int .i64 cl, .slice A5 kl.length c5] 33) = w1 at *
  generalize hG : w.heap.size = gb at *
  clear hW hG h
  have HA1 : Hid (After W0 b (.slice A l.length c) v bs [] ind w1 w1) := Lib.hid HEnt.out.after
  obtain ⟨q0, q1, q2, q3, q4, q5, q6⟩ := HEnt.out.q HA1.out
  go_wp2_with fail
  refine (put1 ⟨#[115, 112, 97, 119, 110, 32]⟩ HA1.out (by have := HL.out; simp only [List.length_append, List.length_cons, List.length_nil] at this ⊢; omega)).mono ?_
  rintro e w2 ⟨rfl, hA2⟩
  clear q0 q1 q2 q3 q4 q5 q6
  obtain ⟨q0, q1, q2, q3, q4, q5, q6⟩ := HEnt.out.q hA2
  have HA2 := Lib.hid hA2
  clear hA2
  go_wp2_with fail
  refine (kid_d HKi.out HE.out 0 _ rfl d0 rfl HA2.out (by have := HL.out; simp only [List.length_append, List.length_cons, List.length_nil] at this ⊢; omega) h5 HR.out).mono ?_
  rintro e w3 ⟨rfl, hA3⟩
  clear q0 q1 q2 q3 q4 q5 q6
  obtain ⟨q0, q1, q2, q3, q4, q5, q6⟩ := HEnt.out.q hA3
  have HA3 := Lib.hid hA3
  clear hA3
  go_wp2_with fail
  refine (to_then HKi.out HE.out (by decide) (by decide) HA3.out (by have := HL.out; simp only [List.length_append, List.length_cons, List.length_nil] at this ⊢; omega) h5 HR.out).mono ?_
  rintro e w4 ⟨rfl, hA4⟩
  clear q0 q1 q2 q3 q4 q5 q6
  obtain ⟨q0, q1, q2, q3, q4, q5, q6⟩ := HEnt.out.q hA4
  have HA4 := Lib.hid hA4
  clear hA4
  go_wp2_with fail
  refine (put1 ⟨#[59]⟩ HA4.out (by have := HL.out; simp only [List.length_append, List.length_cons, List.length_nil] at this ⊢; omega)).mono ?_
  rintro e w5 ⟨rfl, hA5⟩
  clear q0 q1 q2 q3 q4 q5 q6
  obtain ⟨q0, q1, q2, q3, q4, q5, q6⟩ := HEnt.out.q hA5
  have HA5 := Lib.hid hA5
  clear hA5
  go_wp2
  first | go_end0 | ((try simp only [Exit.inBlock, Exit.then]); refine bodyPost_ret (results_none rfl _ _ _) rfl ?_)
  exact ⟨rfl, After.then HEnt.out.mv (by simpa using HA5.out)⟩
set_option maxHeartbeats 2000000 in
set_option maxRecDepth 100000 in
theorem stmt_202 {W0 : World} {l : List S33} {b : Nat} {A : Option Addr} {c : Nat} {p v : Value} {bs : List UInt8} {ind : ByteArray} {w : World} {t : ByteArray} {n ln cl : Int} {kl : List Int} {A5 : Option Addr} {c5 : Nat} {d0 d1 : Nd}
    (hK : Kids l kl 20 t [d0, d1]) (E : Env W0 l A c) (h : St W0 b (.slice A l.length c) p v bs ind w)
    (hlen : bs.length + (([115, 112, 97, 119, 110, 32] : List UInt8) ++ (kidT ind.data.toList 20 t 0 d0 ++ (toT (prs ind.data.toList 20 t 0 [d0, d1]) ++ (([59] : List UInt8))))).length ≤ 140737488355328) (h5 : kl.length ≤ c5) (hr : (Kd.int .i64).C W0 A5 kl.length kl) :
    Calls Tryd.prog 22 #[.pointer (some ⟨b, 0, none⟩), .agg #[.int .i64 20, .string t, .int .i64 n, .int .i64 ln, .int .i64 cl, .slice A5 kl.length c5]] w
      fun e w' => e = .returned (.tuple #[]) ∧ After W0 b (.slice A l.length c) v bs (([115, 112, 97, 119, 110, 32] : List UInt8) ++ (kidT ind.data.toList 20 t 0 d0 ++ (toT (prs ind.data.toList 20 t 0 [d0, d1]) ++ (([59] : List UInt8))))) ind w w' := by
  have HEnt := Lib.hid (Ent.mk' h (box6 20 t n ln cl A5 kl.length c5))
  have HKi := Lib.hid hK
  have HL := Lib.hid hlen
  have HR := Lib.hid hr
  have HE := Lib.hid E
  clear hK hlen hr E
  go_enter Tryd.func22, Tryd.ntmps22
  go_upto_region 1 with (fail)
  generalize hW : w.alloc (.cells #[.int .i64 20, .string t, .int .i64 n, .int .i64 ln, .int .i64 cl, .slice A5 kl.length c5] 33) = w1 at *
  generalize hG : w.heap.size = gb at *
  clear hW hG h
  have HA1 : Hid (After W0 b (.slice A l.length c) v bs [] ind w1 w1) := Lib.hid HEnt.out.after
  obtain ⟨q0, q1, q2, q3, q4, q5, q6⟩ := HEnt.out.q HA1.out
  go_wp2_with fail
  refine (put1 ⟨#[115, 112, 97, 119, 110, 32]⟩ HA1.out (by have := HL.out; simp only [List.length_append, List.length_cons, List.length_nil] at this ⊢; omega)).mono ?_
  rintro e w2 ⟨rfl, hA2⟩
  clear q0 q1 q2 q3 q4 q5 q6
  obtain ⟨q0, q1, q2, q3, q4, q5, q6⟩ := HEnt.out.q hA2
  have HA2 := Lib.hid hA2
  clear hA2
  go_wp2_with fail
  refine (kid_d HKi.out HE.out 0 _ rfl d0 rfl HA2.out (by have := HL.out; simp only [List.length_append, List.length_cons, List.length_nil] at this ⊢; omega) h5 HR.out).mono ?_
  rintro e w3 ⟨rfl, hA3⟩
  clear q0 q1 q2 q3 q4 q5 q6
  obtain ⟨q0, q1, q2, q3, q4, q5, q6⟩ := HEnt.out.q hA3
  have HA3 := Lib.hid hA3
  clear hA3
  go_wp2_with fail
  refine (to_then HKi.out HE.out (by decide) (by decide) HA3.out (by have := HL.out; simp only [List.length_append, List.length_cons, List.length_nil] at this ⊢; omega) h5 HR.out).mono ?_
  rintro e w4 ⟨rfl, hA4⟩
  clear q0 q1 q2 q3 q4 q5 q6
  obtain ⟨q0, q1, q2, q3, q4, q5, q6⟩ := HEnt.out.q hA4
  have HA4 := Lib.hid hA4
  clear hA4
  go_wp2_with fail
  refine (put1 ⟨#[59]⟩ HA4.out (by have := HL.out; simp only [List.length_append, List.length_cons, List.length_nil] at this ⊢; omega)).mono ?_
  rintro e w5 ⟨rfl, hA5⟩
  clear q0 q1 q2 q3 q4 q5 q6
  obtain ⟨q0, q1, q2, q3, q4, q5, q6⟩ := HEnt.out.q hA5
  have HA5 := Lib.hid hA5
  clear hA5
  go_wp2
  first | go_end0 | ((try simp only [Exit.inBlock, Exit.then]); refine bodyPost_ret (results_none rfl _ _ _) rfl ?_)
  exact ⟨rfl, After.then HEnt.out.mv (by simpa using HA5.out)⟩
set_option maxHeartbeats 2000000 in
set_option maxRecDepth 100000 in
theorem stmt_21 {W0 : World} {l : List S33} {b : Nat} {A : Option Addr} {c : Nat} {p v : Value} {bs : List UInt8} {ind : ByteArray} {w : World} {t : ByteArray} {n ln cl : Int} {kl : List Int} {A5 : Option Addr} {c5 : Nat} 
    (hK : Kids l kl 21 t []) (E : Env W0 l A c) (h : St W0 b (.slice A l.length c) p v bs ind w)
    (hlen : bs.length + ((([101, 110, 97, 98, 108, 101, 32] : List UInt8) ++ (t.data.toList)) ++ (([59] : List UInt8))).length ≤ 140737488355328) (h5 : kl.length ≤ c5) (hr : (Kd.int .i64).C W0 A5 kl.length kl) :
    Calls Tryd.prog 22 #[.pointer (some ⟨b, 0, none⟩), .agg #[.int .i64 21, .string t, .int .i64 n, .int .i64 ln, .int .i64 cl, .slice A5 kl.length c5]] w
      fun e w' => e = .returned (.tuple #[]) ∧ After W0 b (.slice A l.length c) v bs ((([101, 110, 97, 98, 108, 101, 32] : List UInt8) ++ (t.data.toList)) ++ (([59] : List UInt8))) ind w w' := by
  have HEnt := Lib.hid (Ent.mk' h (box6 21 t n ln cl A5 kl.length c5))
  have HKi := Lib.hid hK
  have HL := Lib.hid hlen
  have HR := Lib.hid hr
  have HE := Lib.hid E
  clear hK hlen hr E
  go_enter Tryd.func22, Tryd.ntmps22
  go_upto_region 1 with (fail)
  generalize hW : w.alloc (.cells #[.int .i64 21, .string t, .int .i64 n, .int .i64 ln, .int .i64 cl, .slice A5 kl.length c5] 33) = w1 at *
  generalize hG : w.heap.size = gb at *
  clear hW hG h
  have HA1 : Hid (After W0 b (.slice A l.length c) v bs [] ind w1 w1) := Lib.hid HEnt.out.after
  obtain ⟨q0, q1, q2, q3, q4, q5, q6⟩ := HEnt.out.q HA1.out
  go_wp2_with fail
  refine (put2 ⟨#[101, 110, 97, 98, 108, 101, 32]⟩ t HA1.out (by have := HL.out; simp only [List.length_append, List.length_cons, List.length_nil] at this ⊢; omega)).mono ?_
  rintro e w2 ⟨rfl, hA2⟩
  clear q0 q1 q2 q3 q4 q5 q6
  obtain ⟨q0, q1, q2, q3, q4, q5, q6⟩ := HEnt.out.q hA2
  have HA2 := Lib.hid hA2
  clear hA2
  go_wp2_with fail
  refine (put1 ⟨#[59]⟩ HA2.out (by have := HL.out; simp only [List.length_append, List.length_cons, List.length_nil] at this ⊢; omega)).mono ?_
  rintro e w3 ⟨rfl, hA3⟩
  clear q0 q1 q2 q3 q4 q5 q6
  obtain ⟨q0, q1, q2, q3, q4, q5, q6⟩ := HEnt.out.q hA3
  have HA3 := Lib.hid hA3
  clear hA3
  go_wp2
  first | go_end0 | ((try simp only [Exit.inBlock, Exit.then]); refine bodyPost_ret (results_none rfl _ _ _) rfl ?_)
  exact ⟨rfl, After.then HEnt.out.mv (by simpa using HA3.out)⟩
set_option maxHeartbeats 2000000 in
set_option maxRecDepth 100000 in
theorem stmt_22 {W0 : World} {l : List S33} {b : Nat} {A : Option Addr} {c : Nat} {p v : Value} {bs : List UInt8} {ind : ByteArray} {w : World} {t : ByteArray} {n ln cl : Int} {kl : List Int} {A5 : Option Addr} {c5 : Nat} 
    (hK : Kids l kl 22 t []) (E : Env W0 l A c) (h : St W0 b (.slice A l.length c) p v bs ind w)
    (hlen : bs.length + ((([100, 105, 115, 97, 98, 108, 101, 32] : List UInt8) ++ (t.data.toList)) ++ (([59] : List UInt8))).length ≤ 140737488355328) (h5 : kl.length ≤ c5) (hr : (Kd.int .i64).C W0 A5 kl.length kl) :
    Calls Tryd.prog 22 #[.pointer (some ⟨b, 0, none⟩), .agg #[.int .i64 22, .string t, .int .i64 n, .int .i64 ln, .int .i64 cl, .slice A5 kl.length c5]] w
      fun e w' => e = .returned (.tuple #[]) ∧ After W0 b (.slice A l.length c) v bs ((([100, 105, 115, 97, 98, 108, 101, 32] : List UInt8) ++ (t.data.toList)) ++ (([59] : List UInt8))) ind w w' := by
  have HEnt := Lib.hid (Ent.mk' h (box6 22 t n ln cl A5 kl.length c5))
  have HKi := Lib.hid hK
  have HL := Lib.hid hlen
  have HR := Lib.hid hr
  have HE := Lib.hid E
  clear hK hlen hr E
  go_enter Tryd.func22, Tryd.ntmps22
  go_upto_region 1 with (fail)
  generalize hW : w.alloc (.cells #[.int .i64 22, .string t, .int .i64 n, .int .i64 ln, .int .i64 cl, .slice A5 kl.length c5] 33) = w1 at *
  generalize hG : w.heap.size = gb at *
  clear hW hG h
  have HA1 : Hid (After W0 b (.slice A l.length c) v bs [] ind w1 w1) := Lib.hid HEnt.out.after
  obtain ⟨q0, q1, q2, q3, q4, q5, q6⟩ := HEnt.out.q HA1.out
  go_wp2_with fail
  refine (put2 ⟨#[100, 105, 115, 97, 98, 108, 101, 32]⟩ t HA1.out (by have := HL.out; simp only [List.length_append, List.length_cons, List.length_nil] at this ⊢; omega)).mono ?_
  rintro e w2 ⟨rfl, hA2⟩
  clear q0 q1 q2 q3 q4 q5 q6
  obtain ⟨q0, q1, q2, q3, q4, q5, q6⟩ := HEnt.out.q hA2
  have HA2 := Lib.hid hA2
  clear hA2
  go_wp2_with fail
  refine (put1 ⟨#[59]⟩ HA2.out (by have := HL.out; simp only [List.length_append, List.length_cons, List.length_nil] at this ⊢; omega)).mono ?_
  rintro e w3 ⟨rfl, hA3⟩
  clear q0 q1 q2 q3 q4 q5 q6
  obtain ⟨q0, q1, q2, q3, q4, q5, q6⟩ := HEnt.out.q hA3
  have HA3 := Lib.hid hA3
  clear hA3
  go_wp2
  first | go_end0 | ((try simp only [Exit.inBlock, Exit.then]); refine bodyPost_ret (results_none rfl _ _ _) rfl ?_)
  exact ⟨rfl, After.then HEnt.out.mv (by simpa using HA3.out)⟩
set_option maxHeartbeats 2000000 in
set_option maxRecDepth 100000 in
theorem stmt_25 {W0 : World} {l : List S33} {b : Nat} {A : Option Addr} {c : Nat} {p v : Value} {bs : List UInt8} {ind : ByteArray} {w : World} {t : ByteArray} {n ln cl : Int} {kl : List Int} {A5 : Option Addr} {c5 : Nat} 
    (hK : Kids l kl 25 t []) (E : Env W0 l A c) (h : St W0 b (.slice A l.length c) p v bs ind w)
    (hlen : bs.length + (([114, 101, 116, 117, 114, 110] : List UInt8) ++ (([59] : List UInt8))).length ≤ 140737488355328) (h5 : kl.length ≤ c5) (hr : (Kd.int .i64).C W0 A5 kl.length kl) :
    Calls Tryd.prog 22 #[.pointer (some ⟨b, 0, none⟩), .agg #[.int .i64 25, .string t, .int .i64 n, .int .i64 ln, .int .i64 cl, .slice A5 kl.length c5]] w
      fun e w' => e = .returned (.tuple #[]) ∧ After W0 b (.slice A l.length c) v bs (([114, 101, 116, 117, 114, 110] : List UInt8) ++ (([59] : List UInt8))) ind w w' := by
  have HEnt := Lib.hid (Ent.mk' h (box6 25 t n ln cl A5 kl.length c5))
  have HKi := Lib.hid hK
  have HL := Lib.hid hlen
  have HR := Lib.hid hr
  have HE := Lib.hid E
  clear hK hlen hr E
  go_enter Tryd.func22, Tryd.ntmps22
  go_upto_region 1 with (fail)
  generalize hW : w.alloc (.cells #[.int .i64 25, .string t, .int .i64 n, .int .i64 ln, .int .i64 cl, .slice A5 kl.length c5] 33) = w1 at *
  generalize hG : w.heap.size = gb at *
  clear hW hG h
  have HA1 : Hid (After W0 b (.slice A l.length c) v bs [] ind w1 w1) := Lib.hid HEnt.out.after
  obtain ⟨q0, q1, q2, q3, q4, q5, q6⟩ := HEnt.out.q HA1.out
  go_wp2_with fail
  refine (put1 ⟨#[114, 101, 116, 117, 114, 110]⟩ HA1.out (by have := HL.out; simp only [List.length_append, List.length_cons, List.length_nil] at this ⊢; omega)).mono ?_
  rintro e w2 ⟨rfl, hA2⟩
  clear q0 q1 q2 q3 q4 q5 q6
  obtain ⟨q0, q1, q2, q3, q4, q5, q6⟩ := HEnt.out.q hA2
  have HA2 := Lib.hid hA2
  clear hA2
  go_wp2_with fail
  refine (put1 ⟨#[59]⟩ HA2.out (by have := HL.out; simp only [List.length_append, List.length_cons, List.length_nil] at this ⊢; omega)).mono ?_
  rintro e w3 ⟨rfl, hA3⟩
  clear q0 q1 q2 q3 q4 q5 q6
  obtain ⟨q0, q1, q2, q3, q4, q5, q6⟩ := HEnt.out.q hA3
  have HA3 := Lib.hid hA3
  clear hA3
  go_wp2
  first | go_end0 | ((try simp only [Exit.inBlock, Exit.then]); refine bodyPost_ret (results_none rfl _ _ _) rfl ?_)
  exact ⟨rfl, After.then HEnt.out.mv (by simpa using HA3.out)⟩
end Go.Proofs.YtbpefmidgfmcaaaDoor
end
section
set_option linter.unusedVariables false
set_option linter.unusedSimpArgs false
namespace Go.Proofs.YtbpefmidgfmcaaaDoor
open Go.RowKit PTreeApart Go.Proofs.YtbpefmidgfmcaaaDoorW.PrintWords
def elseK (e : Bool) (x : List UInt8) : List UInt8 := if e = true then [] else ([32, 101, 108, 115, 101, 32] : List UInt8) ++ x
theorem while_then {W0 : World} {l : List S33} {b : Nat} {A : Option Addr} {c : Nat} {v : Value} {bs out : List UInt8} {ind : ByteArray} {w0 w : World} {t : ByteArray} {n ln cl : Int} {kl : List Int} {A5 : Option Addr} {c5 : Nat} {d0 d1 : Nd}
    (hK : Kids l kl 24 t [d0, d1]) (E : Env W0 l A c) (h : After W0 b (.slice A l.length c) v bs out ind w0 w)
    (hlen : bs.length + (out ++ (([119, 104, 105, 108, 101, 32] : List UInt8) ++ (kidT ind.data.toList 24 t 0 d0 ++ (([32] : List UInt8) ++ kidT ind.data.toList 24 t 1 d1)))).length ≤ 140737488355328) (h5 : kl.length ≤ c5) (hr : (Kd.int .i64).C W0 A5 kl.length kl) :
    Calls Tryd.prog 46 #[.pointer (some ⟨b, 0, none⟩), .agg #[.int .i64 24, .string t, .int .i64 n, .int .i64 ln, .int .i64 cl, .slice A5 kl.length c5]] w
      fun e w' => e = .returned (.tuple #[]) ∧ After W0 b (.slice A l.length c) v bs (out ++ (([119, 104, 105, 108, 101, 32] : List UInt8) ++ (kidT ind.data.toList 24 t 0 d0 ++ (([32] : List UInt8) ++ kidT ind.data.toList 24 t 1 d1)))) ind w0 w' := by
  refine h.calls (Below.refl _ _) (fun p' v' hs => ?_)
  exact while_core hK E hs (by simp only [elseK, List.length_append] at hlen ⊢; omega) h5 hr
theorem if_then {W0 : World} {l : List S33} {b : Nat} {A : Option Addr} {c : Nat} {v : Value} {bs out : List UInt8} {ind : ByteArray} {w0 w : World} {t : ByteArray} {n ln cl : Int} {kl : List Int} {A5 : Option Addr} {c5 : Nat} {d0 d1 d2 : Nd}
    (hK : Kids l kl 23 t [d0, d1, d2]) (E : Env W0 l A c) (h : After W0 b (.slice A l.length c) v bs out ind w0 w)
    (hlen : bs.length + (out ++ (([105, 102, 32] : List UInt8) ++ (kidT ind.data.toList 23 t 0 d0 ++ (([32] : List UInt8) ++ (kidT ind.data.toList 23 t 1 d1 ++ elseK d2.kids.isEmpty (kidT ind.data.toList 23 t 2 d2)))))).length ≤ 140737488355328) (h5 : kl.length ≤ c5) (hr : (Kd.int .i64).C W0 A5 kl.length kl) :
    Calls Tryd.prog 46 #[.pointer (some ⟨b, 0, none⟩), .agg #[.int .i64 23, .string t, .int .i64 n, .int .i64 ln, .int .i64 cl, .slice A5 kl.length c5]] w
      fun e w' => e = .returned (.tuple #[]) ∧ After W0 b (.slice A l.length c) v bs (out ++ (([105, 102, 32] : List UInt8) ++ (kidT ind.data.toList 23 t 0 d0 ++ (([32] : List UInt8) ++ (kidT ind.data.toList 23 t 1 d1 ++ elseK d2.kids.isEmpty (kidT ind.data.toList 23 t 2 d2)))))) ind w0 w' := by
  refine h.calls (Below.refl _ _) (fun p' v' hs => ?_)
  exact if_core hK E hs (by simp only [elseK, List.length_append] at hlen ⊢; omega) h5 hr
set_option maxHeartbeats 2000000 in
set_option maxRecDepth 100000 in
theorem stmt_24 {W0 : World} {l : List S33} {b : Nat} {A : Option Addr} {c : Nat} {p v : Value} {bs : List UInt8} {ind : ByteArray} {w : World} {t : ByteArray} {n ln cl : Int} {kl : List Int} {A5 : Option Addr} {c5 : Nat} {d0 d1 : Nd}
    (hK : Kids l kl 24 t [d0, d1]) (E : Env W0 l A c) (h : St W0 b (.slice A l.length c) p v bs ind w)
    (hlen : bs.length + ((([119, 104, 105, 108, 101, 32] : List UInt8) ++ (kidT ind.data.toList 24 t 0 d0 ++ (([32] : List UInt8) ++ kidT ind.data.toList 24 t 1 d1)))).length ≤ 140737488355328) (h5 : kl.length ≤ c5) (hr : (Kd.int .i64).C W0 A5 kl.length kl) :
    Calls Tryd.prog 22 #[.pointer (some ⟨b, 0, none⟩), .agg #[.int .i64 24, .string t, .int .i64 n, .int .i64 ln, .int .i64 cl, .slice A5 kl.length c5]] w
      fun e w' => e = .returned (.tuple #[]) ∧ After W0 b (.slice A l.length c) v bs ((([119, 104, 105, 108, 101, 32] : List UInt8) ++ (kidT ind.data.toList 24 t 0 d0 ++ (([32] : List UInt8) ++ kidT ind.data.toList 24 t 1 d1)))) ind w w' := by
  have HEnt := Lib.hid (Ent.mk' h (box6 24 t n ln cl A5 kl.length c5))
  have HKi := Lib.hid hK
  have HL := Lib.hid hlen
  have HR := Lib.hid hr
  have HE := Lib.hid E
  clear hK hlen hr E
  go_enter Tryd.func22, Tryd.ntmps22
  go_upto_region 1 with (fail)
  generalize hW : w.alloc (.cells #[.int .i64 24, .string t, .int .i64 n, .int .i64 ln, .int .i64 cl, .slice A5 kl.length c5] 33) = w1 at *
  generalize hG : w.heap.size = gb at *
  clear hW hG h
  have HA1 : Hid (After W0 b (.slice A l.length c) v bs [] ind w1 w1) := Lib.hid HEnt.out.after
  obtain ⟨q0, q1, q2, q3, q4, q5, q6⟩ := HEnt.out.q HA1.out
  go_wp2_with fail
  refine (while_then HKi.out HE.out HA1.out (by have := HL.out; simp only [List.length_append, List.length_cons, List.length_nil] at this ⊢; omega) h5 HR.out).mono ?_
  rintro e w2 ⟨rfl, hA2⟩
  clear q0 q1 q2 q3 q4 q5 q6
  obtain ⟨q0, q1, q2, q3, q4, q5, q6⟩ := HEnt.out.q hA2
  have HA2 := Lib.hid hA2
  clear hA2
  go_wp2
  first | go_end0 | ((try simp only [Exit.inBlock, Exit.then]); refine bodyPost_ret (results_none rfl _ _ _) rfl ?_)
  exact ⟨rfl, After.then HEnt.out.mv (by simpa using HA2.out)⟩
set_option maxHeartbeats 2000000 in
set_option maxRecDepth 100000 in
theorem stmt_23 {W0 : World} {l : List S33} {b : Nat} {A : Option Addr} {c : Nat} {p v : Value} {bs : List UInt8} {ind : ByteArray} {w : World} {t : ByteArray} {n ln cl : Int} {kl : List Int} {A5 : Option Addr} {c5 : Nat} {d0 d1 d2 : Nd}
    (hK : Kids l kl 23 t [d0, d1, d2]) (E : Env W0 l A c) (h : St W0 b (.slice A l.length c) p v bs ind w)
    (hlen : bs.length + ((([105, 102, 32] : List UInt8) ++ (kidT ind.data.toList 23 t 0 d0 ++ (([32] : List UInt8) ++ (kidT ind.data.toList 23 t 1 d1 ++ elseK d2.kids.isEmpty (kidT ind.data.toList 23 t 2 d2)))))).length ≤ 140737488355328) (h5 : kl.length ≤ c5) (hr : (Kd.int .i64).C W0 A5 kl.length kl) :
    Calls Tryd.prog 22 #[.pointer (some ⟨b, 0, none⟩), .agg #[.int .i64 23, .string t, .int .i64 n, .int .i64 ln, .int .i64 cl, .slice A5 kl.length c5]] w
      fun e w' => e = .returned (.tuple #[]) ∧ After W0 b (.slice A l.length c) v bs ((([105, 102, 32] : List UInt8) ++ (kidT ind.data.toList 23 t 0 d0 ++ (([32] : List UInt8) ++ (kidT ind.data.toList 23 t 1 d1 ++ elseK d2.kids.isEmpty (kidT ind.data.toList 23 t 2 d2)))))) ind w w' := by
  have HEnt := Lib.hid (Ent.mk' h (box6 23 t n ln cl A5 kl.length c5))
  have HKi := Lib.hid hK
  have HL := Lib.hid hlen
  have HR := Lib.hid hr
  have HE := Lib.hid E
  clear hK hlen hr E
  go_enter Tryd.func22, Tryd.ntmps22
  go_upto_region 1 with (fail)
  generalize hW : w.alloc (.cells #[.int .i64 23, .string t, .int .i64 n, .int .i64 ln, .int .i64 cl, .slice A5 kl.length c5] 33) = w1 at *
  generalize hG : w.heap.size = gb at *
  clear hW hG h
  have HA1 : Hid (After W0 b (.slice A l.length c) v bs [] ind w1 w1) := Lib.hid HEnt.out.after
  obtain ⟨q0, q1, q2, q3, q4, q5, q6⟩ := HEnt.out.q HA1.out
  go_wp2_with fail
  refine (if_then HKi.out HE.out HA1.out (by have := HL.out; simp only [List.length_append, List.length_cons, List.length_nil] at this ⊢; omega) h5 HR.out).mono ?_
  rintro e w2 ⟨rfl, hA2⟩
  clear q0 q1 q2 q3 q4 q5 q6
  obtain ⟨q0, q1, q2, q3, q4, q5, q6⟩ := HEnt.out.q hA2
  have HA2 := Lib.hid hA2
  clear hA2
  go_wp2
  first | go_end0 | ((try simp only [Exit.inBlock, Exit.then]); refine bodyPost_ret (results_none rfl _ _ _) rfl ?_)
  exact ⟨rfl, After.then HEnt.out.mv (by simpa using HA2.out)⟩
end Go.Proofs.YtbpefmidgfmcaaaDoor
end
section
set_option linter.unusedVariables false
set_option linter.unusedSimpArgs false
namespace Go.Proofs.YtbpefmidgfmcaaaDoor
open Go.RowKit PTreeApart Go.Proofs.YtbpefmidgfmcaaaDoorW.PrintWords
set_option maxHeartbeats 2000000 in
set_option maxRecDepth 100000 in
theorem term_26 {W0 : World} {l : List S33} {b : Nat} {A : Option Addr} {c : Nat} {p v : Value} {bs : List UInt8} {ind : ByteArray} {w : World} {t : ByteArray} {n ln cl : Int} {kl : List Int} {A5 : Option Addr} {c5 : Nat} 
    (hK : Kids l kl 26 t []) (E : Env W0 l A c) (h : St W0 b (.slice A l.length c) p v bs ind w) (hn0 : -9223372036854775808 ≤ n) (hn1 : n ≤ 9223372036854775807)
    (hlen : bs.length + (Lib.itoa n).length ≤ 140737488355328) (h5 : kl.length ≤ c5) (hr : (Kd.int .i64).C W0 A5 kl.length kl) :
    Calls Tryd.prog 24 #[.pointer (some ⟨b, 0, none⟩), .agg #[.int .i64 26, .string t, .int .i64 n, .int .i64 ln, .int .i64 cl, .slice A5 kl.length c5]] w
      fun e w' => e = .returned (.tuple #[]) ∧ After W0 b (.slice A l.length c) v bs (Lib.itoa n) ind w w' := by
  have HEnt := Lib.hid (Ent.mk' h (box6 26 t n ln cl A5 kl.length c5))
  have HKi := Lib.hid hK
  have HL := Lib.hid hlen
  have HR := Lib.hid hr
  have HE := Lib.hid E
  clear hK hlen hr E
  go_enter Tryd.func24, Tryd.ntmps24
  go_upto_region 1 with (fail)
  generalize hW : w.alloc (.cells #[.int .i64 26, .string t, .int .i64 n, .int .i64 ln, .int .i64 cl, .slice A5 kl.length c5] 33) = w1 at *
  generalize hG : w.heap.size = gb at *
  clear hW hG h
  have HA1 : Hid (After W0 b (.slice A l.length c) v bs [] ind w1 w1) := Lib.hid HEnt.out.after
  obtain ⟨q0, q1, q2, q3, q4, q5, q6⟩ := HEnt.out.q HA1.out
  go_wp2_with fail
  refine (fmt_then n HE.out HA1.out hn0 hn1).mono ?_
  rintro e w2n ⟨rfl, hA2n⟩
  clear q0 q1 q2 q3 q4 q5 q6
  obtain ⟨q0, q1, q2, q3, q4, q5, q6⟩ := HEnt.out.q hA2n
  have HA2n := Lib.hid hA2n
  clear hA2n
  go_wp2_with fail
  refine (put1 ⟨(Lib.itoa n).toArray⟩ HA2n.out (by have := HL.out; simp only [List.length_append, List.length_cons, List.length_nil] at this ⊢; omega)).mono ?_
  rintro e w2 ⟨rfl, hA2⟩
  clear q0 q1 q2 q3 q4 q5 q6
  obtain ⟨q0, q1, q2, q3, q4, q5, q6⟩ := HEnt.out.q hA2
  have HA2 := Lib.hid hA2
  clear hA2
  go_wp2
  first | go_end0 | ((try simp only [Exit.inBlock, Exit.then]); refine bodyPost_ret (results_none rfl _ _ _) rfl ?_)
  exact ⟨rfl, After.then HEnt.out.mv (by simpa using HA2.out)⟩
set_option maxHeartbeats 2000000 in
set_option maxRecDepth 100000 in
theorem term_27 {W0 : World} {l : List S33} {b : Nat} {A : Option Addr} {c : Nat} {p v : Value} {bs : List UInt8} {ind : ByteArray} {w : World} {t : ByteArray} {n ln cl : Int} {kl : List Int} {A5 : Option Addr} {c5 : Nat} 
    (hK : Kids l kl 27 t []) (E : Env W0 l A c) (h : St W0 b (.slice A l.length c) p v bs ind w)
    (hlen : bs.length + (([110, 117, 108, 108] : List UInt8)).length ≤ 140737488355328) (h5 : kl.length ≤ c5) (hr : (Kd.int .i64).C W0 A5 kl.length kl) :
    Calls Tryd.prog 24 #[.pointer (some ⟨b, 0, none⟩), .agg #[.int .i64 27, .string t, .int .i64 n, .int .i64 ln, .int .i64 cl, .slice A5 kl.length c5]] w
      fun e w' => e = .returned (.tuple #[]) ∧ After W0 b (.slice A l.length c) v bs (([110, 117, 108, 108] : List UInt8)) ind w w' := by
  have HEnt := Lib.hid (Ent.mk' h (box6 27 t n ln cl A5 kl.length c5))
  have HKi := Lib.hid hK
  have HL := Lib.hid hlen
  have HR := Lib.hid hr
  have HE := Lib.hid E
  clear hK hlen hr E
  go_enter Tryd.func24, Tryd.ntmps24
  go_upto_region 1 with (fail)
  generalize hW : w.alloc (.cells #[.int .i64 27, .string t, .int .i64 n, .int .i64 ln, .int .i64 cl, .slice A5 kl.length c5] 33) = w1 at *
  generalize hG : w.heap.size = gb at *
  clear hW hG h
  have HA1 : Hid (After W0 b (.slice A l.length c) v bs [] ind w1 w1) := Lib.hid HEnt.out.after
  obtain ⟨q0, q1, q2, q3, q4, q5, q6⟩ := HEnt.out.q HA1.out
  go_wp2_with fail
  refine (put1 ⟨#[110, 117, 108, 108]⟩ HA1.out (by have := HL.out; simp only [List.length_append, List.length_cons, List.length_nil] at this ⊢; omega)).mono ?_
  rintro e w2 ⟨rfl, hA2⟩
  clear q0 q1 q2 q3 q4 q5 q6
  obtain ⟨q0, q1, q2, q3, q4, q5, q6⟩ := HEnt.out.q hA2
  have HA2 := Lib.hid hA2
  clear hA2
  go_wp2
  first | go_end0 | ((try simp only [Exit.inBlock, Exit.then]); refine bodyPost_ret (results_none rfl _ _ _) rfl ?_)
  exact ⟨rfl, After.then HEnt.out.mv (by simpa using HA2.out)⟩
set_option maxHeartbeats 2000000 in
set_option maxRecDepth 100000 in
theorem term_28 {W0 : World} {l : List S33} {b : Nat} {A : Option Addr} {c : Nat} {p v : Value} {bs : List UInt8} {ind : ByteArray} {w : World} {t : ByteArray} {n ln cl : Int} {kl : List Int} {A5 : Option Addr} {c5 : Nat} 
    (hK : Kids l kl 28 t []) (E : Env W0 l A c) (h : St W0 b (.slice A l.length c) p v bs ind w)
    (hlen : bs.length + (([105, 116] : List UInt8)).length ≤ 140737488355328) (h5 : kl.length ≤ c5) (hr : (Kd.int .i64).C W0 A5 kl.length kl) :
    Calls Tryd.prog 24 #[.pointer (some ⟨b, 0, none⟩), .agg #[.int .i64 28, .string t, .int .i64 n, .int .i64 ln, .int .i64 cl, .slice A5 kl.length c5]] w
      fun e w' => e = .returned (.tuple #[]) ∧ After W0 b (.slice A l.length c) v bs (([105, 116] : List UInt8)) ind w w' := by
  have HEnt := Lib.hid (Ent.mk' h (box6 28 t n ln cl A5 kl.length c5))
  have HKi := Lib.hid hK
  have HL := Lib.hid hlen
  have HR := Lib.hid hr
  have HE := Lib.hid E
  clear hK hlen hr E
  go_enter Tryd.func24, Tryd.ntmps24
  go_upto_region 1 with (fail)
  generalize hW : w.alloc (.cells #[.int .i64 28, .string t, .int .i64 n, .int .i64 ln, .int .i64 cl, .slice A5 kl.length c5] 33) = w1 at *
  generalize hG : w.heap.size = gb at *
  clear hW hG h
  have HA1 : Hid (After W0 b (.slice A l.length c) v bs [] ind w1 w1) := Lib.hid HEnt.out.after
  obtain ⟨q0, q1, q2, q3, q4, q5, q6⟩ := HEnt.out.q HA1.out
  go_wp2_with fail
  refine (put1 ⟨#[105, 116]⟩ HA1.out (by have := HL.out; simp only [List.length_append, List.length_cons, List.length_nil] at this ⊢; omega)).mono ?_
  rintro e w2 ⟨rfl, hA2⟩
  clear q0 q1 q2 q3 q4 q5 q6
  obtain ⟨q0, q1, q2, q3, q4, q5, q6⟩ := HEnt.out.q hA2
  have HA2 := Lib.hid hA2
  clear hA2
  go_wp2
  first | go_end0 | ((try simp only [Exit.inBlock, Exit.then]); refine bodyPost_ret (results_none rfl _ _ _) rfl ?_)
  exact ⟨rfl, After.then HEnt.out.mv (by simpa using HA2.out)⟩
set_option maxHeartbeats 2000000 in
set_option maxRecDepth 100000 in
theorem term_29 {W0 : World} {l : List S33} {b : Nat} {A : Option Addr} {c : Nat} {p v : Value} {bs : List UInt8} {ind : ByteArray} {w : World} {t : ByteArray} {n ln cl : Int} {kl : List Int} {A5 : Option Addr} {c5 : Nat} 
    (hK : Kids l kl 29 t []) (E : Env W0 l A c) (h : St W0 b (.slice A l.length c) p v bs ind w)
    (hlen : bs.length + (t.data.toList).length ≤ 140737488355328) (h5 : kl.length ≤ c5) (hr : (Kd.int .i64).C W0 A5 kl.length kl) :
    Calls Tryd.prog 24 #[.pointer (some ⟨b, 0, none⟩), .agg #[.int .i64 29, .string t, .int .i64 n, .int .i64 ln, .int .i64 cl, .slice A5 kl.length c5]] w
      fun e w' => e = .returned (.tuple #[]) ∧ After W0 b (.slice A l.length c) v bs (t.data.toList) ind w w' := by
  have HEnt := Lib.hid (Ent.mk' h (box6 29 t n ln cl A5 kl.length c5))
  have HKi := Lib.hid hK
  have HL := Lib.hid hlen
  have HR := Lib.hid hr
  have HE := Lib.hid E
  clear hK hlen hr E
  go_enter Tryd.func24, Tryd.ntmps24
  go_upto_region 1 with (fail)
  generalize hW : w.alloc (.cells #[.int .i64 29, .string t, .int .i64 n, .int .i64 ln, .int .i64 cl, .slice A5 kl.length c5] 33) = w1 at *
  generalize hG : w.heap.size = gb at *
  clear hW hG h
  have HA1 : Hid (After W0 b (.slice A l.length c) v bs [] ind w1 w1) := Lib.hid HEnt.out.after
  obtain ⟨q0, q1, q2, q3, q4, q5, q6⟩ := HEnt.out.q HA1.out
  go_wp2_with fail
  refine (put1 t HA1.out (by have := HL.out; simp only [List.length_append, List.length_cons, List.length_nil] at this ⊢; omega)).mono ?_
  rintro e w2 ⟨rfl, hA2⟩
  clear q0 q1 q2 q3 q4 q5 q6
  obtain ⟨q0, q1, q2, q3, q4, q5, q6⟩ := HEnt.out.q hA2
  have HA2 := Lib.hid hA2
  clear hA2
  go_wp2
  first | go_end0 | ((try simp only [Exit.inBlock, Exit.then]); refine bodyPost_ret (results_none rfl _ _ _) rfl ?_)
  exact ⟨rfl, After.then HEnt.out.mv (by simpa using HA2.out)⟩
set_option maxHeartbeats 2000000 in
set_option maxRecDepth 100000 in
theorem term_30 {W0 : World} {l : List S33} {b : Nat} {A : Option Addr} {c : Nat} {p v : Value} {bs : List UInt8} {ind : ByteArray} {w : World} {t : ByteArray} {n ln cl : Int} {kl : List Int} {A5 : Option Addr} {c5 : Nat} {d0 : Nd}
    (hK : Kids l kl 30 t [d0]) (E : Env W0 l A c) (h : St W0 b (.slice A l.length c) p v bs ind w)
    (hlen : bs.length + (kidT ind.data.toList 30 t 0 d0 ++ ((([46] : List UInt8) ++ (t.data.toList)))).length ≤ 140737488355328) (h5 : kl.length ≤ c5) (hr : (Kd.int .i64).C W0 A5 kl.length kl) :
    Calls Tryd.prog 24 #[.pointer (some ⟨b, 0, none⟩), .agg #[.int .i64 30, .string t, .int .i64 n, .int .i64 ln, .int .i64 cl, .slice A5 kl.length c5]] w
      fun e w' => e = .returned (.tuple #[]) ∧ After W0 b (.slice A l.length c) v bs (kidT ind.data.toList 30 t 0 d0 ++ ((([46] : List UInt8) ++ (t.data.toList)))) ind w w' := by
  have HEnt := Lib.hid (Ent.mk' h (box6 30 t n ln cl A5 kl.length c5))
  have HKi := Lib.hid hK
  have HL := Lib.hid hlen
  have HR := Lib.hid hr
  have HE := Lib.hid E
  clear hK hlen hr E
  go_enter Tryd.func24, Tryd.ntmps24
  go_upto_region 1 with (fail)
  generalize hW : w.alloc (.cells #[.int .i64 30, .string t, .int .i64 n, .int .i64 ln, .int .i64 cl, .slice A5 kl.length c5] 33) = w1 at *
  generalize hG : w.heap.size = gb at *
  clear hW hG h
  have HA1 : Hid (After W0 b (.slice A l.length c) v bs [] ind w1 w1) := Lib.hid HEnt.out.after
  obtain ⟨q0, q1, q2, q3, q4, q5, q6⟩ := HEnt.out.q HA1.out
  go_wp2_with fail
  refine (kid_d HKi.out HE.out 0 _ rfl d0 rfl HA1.out (by have := HL.out; simp only [List.length_append, List.length_cons, List.length_nil] at this ⊢; omega) h5 HR.out).mono ?_
  rintro e w2 ⟨rfl, hA2⟩
  clear q0 q1 q2 q3 q4 q5 q6
  obtain ⟨q0, q1, q2, q3, q4, q5, q6⟩ := HEnt.out.q hA2
  have HA2 := Lib.hid hA2
  clear hA2
  go_wp2_with fail
  refine (put2 ⟨#[46]⟩ t HA2.out (by have := HL.out; simp only [List.length_append, List.length_cons, List.length_nil] at this ⊢; omega)).mono ?_
  rintro e w3 ⟨rfl, hA3⟩
  clear q0 q1 q2 q3 q4 q5 q6
  obtain ⟨q0, q1, q2, q3, q4, q5, q6⟩ := HEnt.out.q hA3
  have HA3 := Lib.hid hA3
  clear hA3
  go_wp2
  first | go_end0 | ((try simp only [Exit.inBlock, Exit.then]); refine bodyPost_ret (results_none rfl _ _ _) rfl ?_)
  exact ⟨rfl, After.then HEnt.out.mv (by simpa using HA3.out)⟩
set_option maxHeartbeats 2000000 in
set_option maxRecDepth 100000 in
theorem term_31 {W0 : World} {l : List S33} {b : Nat} {A : Option Addr} {c : Nat} {p v : Value} {bs : List UInt8} {ind : ByteArray} {w : World} {t : ByteArray} {n ln cl : Int} {kl : List Int} {A5 : Option Addr} {c5 : Nat} {d0 d1 : Nd}
    (hK : Kids l kl 31 t [d0, d1]) (E : Env W0 l A c) (h : St W0 b (.slice A l.length c) p v bs ind w)
    (hlen : bs.length + (kidT ind.data.toList 31 t 0 d0 ++ (([91] : List UInt8) ++ (kidT ind.data.toList 31 t 1 d1 ++ (([93] : List UInt8))))).length ≤ 140737488355328) (h5 : kl.length ≤ c5) (hr : (Kd.int .i64).C W0 A5 kl.length kl) :
    Calls Tryd.prog 24 #[.pointer (some ⟨b, 0, none⟩), .agg #[.int .i64 31, .string t, .int .i64 n, .int .i64 ln, .int .i64 cl, .slice A5 kl.length c5]] w
      fun e w' => e = .returned (.tuple #[]) ∧ After W0 b (.slice A l.length c) v bs (kidT ind.data.toList 31 t 0 d0 ++ (([91] : List UInt8) ++ (kidT ind.data.toList 31 t 1 d1 ++ (([93] : List UInt8))))) ind w w' := by
  have HEnt := Lib.hid (Ent.mk' h (box6 31 t n ln cl A5 kl.length c5))
  have HKi := Lib.hid hK
  have HL := Lib.hid hlen
  have HR := Lib.hid hr
  have HE := Lib.hid E
  clear hK hlen hr E
  go_enter Tryd.func24, Tryd.ntmps24
  go_upto_region 1 with (fail)
  generalize hW : w.alloc (.cells #[.int .i64 31, .string t, .int .i64 n, .int .i64 ln, .int .i64 cl, .slice A5 kl.length c5] 33) = w1 at *
  generalize hG : w.heap.size = gb at *
  clear hW hG h
  have HA1 : Hid (After W0 b (.slice A l.length c) v bs [] ind w1 w1) := Lib.hid HEnt.out.after
  obtain ⟨q0, q1, q2, q3, q4, q5, q6⟩ := HEnt.out.q HA1.out
  go_wp2_with fail
  refine (kid_d HKi.out HE.out 0 _ rfl d0 rfl HA1.out (by have := HL.out; simp only [List.length_append, List.length_cons, List.length_nil] at this ⊢; omega) h5 HR.out).mono ?_
  rintro e w2 ⟨rfl, hA2⟩
  clear q0 q1 q2 q3 q4 q5 q6
  obtain ⟨q0, q1, q2, q3, q4, q5, q6⟩ := HEnt.out.q hA2
  have HA2 := Lib.hid hA2
  clear hA2
  go_wp2_with fail
  refine (put1 ⟨#[91]⟩ HA2.out (by have := HL.out; simp only [List.length_append, List.length_cons, List.length_nil] at this ⊢; omega)).mono ?_
  rintro e w3 ⟨rfl, hA3⟩
  clear q0 q1 q2 q3 q4 q5 q6
  obtain ⟨q0, q1, q2, q3, q4, q5, q6⟩ := HEnt.out.q hA3
  have HA3 := Lib.hid hA3
  clear hA3
  go_wp2_with fail
  refine (kid_d HKi.out HE.out 1 _ rfl d1 rfl HA3.out (by have := HL.out; simp only [List.length_append, List.length_cons, List.length_nil] at this ⊢; omega) h5 HR.out).mono ?_
  rintro e w4 ⟨rfl, hA4⟩
  clear q0 q1 q2 q3 q4 q5 q6
  obtain ⟨q0, q1, q2, q3, q4, q5, q6⟩ := HEnt.out.q hA4
  have HA4 := Lib.hid hA4
  clear hA4
  go_wp2_with fail
  refine (put1 ⟨#[93]⟩ HA4.out (by have := HL.out; simp only [List.length_append, List.length_cons, List.length_nil] at this ⊢; omega)).mono ?_
  rintro e w5 ⟨rfl, hA5⟩
  clear q0 q1 q2 q3 q4 q5 q6
  obtain ⟨q0, q1, q2, q3, q4, q5, q6⟩ := HEnt.out.q hA5
  have HA5 := Lib.hid hA5
  clear hA5
  go_wp2
  first | go_end0 | ((try simp only [Exit.inBlock, Exit.then]); refine bodyPost_ret (results_none rfl _ _ _) rfl ?_)
  exact ⟨rfl, After.then HEnt.out.mv (by simpa using HA5.out)⟩
set_option maxHeartbeats 2000000 in
set_option maxRecDepth 100000 in
theorem term_32 {W0 : World} {l : List S33} {b : Nat} {A : Option Addr} {c : Nat} {p v : Value} {bs : List UInt8} {ind : ByteArray} {w : World} {t : ByteArray} {n ln cl : Int} {kl : List Int} {A5 : Option Addr} {c5 : Nat} {d0 d1 : Nd}
    (hK : Kids l kl 32 t [d0, d1]) (E : Env W0 l A c) (h : St W0 b (.slice A l.length c) p v bs ind w)
    (hlen : bs.length + (kidT ind.data.toList 32 t 0 d0 ++ ((([32] : List UInt8) ++ (t.data.toList ++ (([32] : List UInt8)))) ++ (kidT ind.data.toList 32 t 1 d1))).length ≤ 140737488355328) (h5 : kl.length ≤ c5) (hr : (Kd.int .i64).C W0 A5 kl.length kl) :
    Calls Tryd.prog 24 #[.pointer (some ⟨b, 0, none⟩), .agg #[.int .i64 32, .string t, .int .i64 n, .int .i64 ln, .int .i64 cl, .slice A5 kl.length c5]] w
      fun e w' => e = .returned (.tuple #[]) ∧ After W0 b (.slice A l.length c) v bs (kidT ind.data.toList 32 t 0 d0 ++ ((([32] : List UInt8) ++ (t.data.toList ++ (([32] : List UInt8)))) ++ (kidT ind.data.toList 32 t 1 d1))) ind w w' := by
  have HEnt := Lib.hid (Ent.mk' h (box6 32 t n ln cl A5 kl.length c5))
  have HKi := Lib.hid hK
  have HL := Lib.hid hlen
  have HR := Lib.hid hr
  have HE := Lib.hid E
  clear hK hlen hr E
  go_enter Tryd.func24, Tryd.ntmps24
  go_upto_region 1 with (fail)
  generalize hW : w.alloc (.cells #[.int .i64 32, .string t, .int .i64 n, .int .i64 ln, .int .i64 cl, .slice A5 kl.length c5] 33) = w1 at *
  generalize hG : w.heap.size = gb at *
  clear hW hG h
  have HA1 : Hid (After W0 b (.slice A l.length c) v bs [] ind w1 w1) := Lib.hid HEnt.out.after
  obtain ⟨q0, q1, q2, q3, q4, q5, q6⟩ := HEnt.out.q HA1.out
  go_wp2_with fail
  refine (kid_d HKi.out HE.out 0 _ rfl d0 rfl HA1.out (by have := HL.out; simp only [List.length_append, List.length_cons, List.length_nil] at this ⊢; omega) h5 HR.out).mono ?_
  rintro e w2 ⟨rfl, hA2⟩
  clear q0 q1 q2 q3 q4 q5 q6
  obtain ⟨q0, q1, q2, q3, q4, q5, q6⟩ := HEnt.out.q hA2
  have HA2 := Lib.hid hA2
  clear hA2
  go_wp2_with fail
  refine (put3 ⟨#[32]⟩ t ⟨#[32]⟩ HA2.out (by have := HL.out; simp only [List.length_append, List.length_cons, List.length_nil] at this ⊢; omega)).mono ?_
  rintro e w3 ⟨rfl, hA3⟩
  clear q0 q1 q2 q3 q4 q5 q6
  obtain ⟨q0, q1, q2, q3, q4, q5, q6⟩ := HEnt.out.q hA3
  have HA3 := Lib.hid hA3
  clear hA3
  go_wp2_with fail
  refine (kid_d HKi.out HE.out 1 _ rfl d1 rfl HA3.out (by have := HL.out; simp only [List.length_append, List.length_cons, List.length_nil] at this ⊢; omega) h5 HR.out).mono ?_
  rintro e w4 ⟨rfl, hA4⟩
  clear q0 q1 q2 q3 q4 q5 q6
  obtain ⟨q0, q1, q2, q3, q4, q5, q6⟩ := HEnt.out.q hA4
  have HA4 := Lib.hid hA4
  clear hA4
  go_wp2
  first | go_end0 | ((try simp only [Exit.inBlock, Exit.then]); refine bodyPost_ret (results_none rfl _ _ _) rfl ?_)
  exact ⟨rfl, After.then HEnt.out.mv (by simpa using HA4.out)⟩
set_option maxHeartbeats 2000000 in
set_option maxRecDepth 100000 in
theorem term_33 {W0 : World} {l : List S33} {b : Nat} {A : Option Addr} {c : Nat} {p v : Value} {bs : List UInt8} {ind : ByteArray} {w : World} {t : ByteArray} {n ln cl : Int} {kl : List Int} {A5 : Option Addr} {c5 : Nat} 
    (hK : Kids l kl 33 t []) (E : Env W0 l A c) (h : St W0 b (.slice A l.length c) p v bs ind w)
    (hlen : bs.length + ((([110, 101, 119, 32] : List UInt8) ++ (t.data.toList))).length ≤ 140737488355328) (h5 : kl.length ≤ c5) (hr : (Kd.int .i64).C W0 A5 kl.length kl) :
    Calls Tryd.prog 24 #[.pointer (some ⟨b, 0, none⟩), .agg #[.int .i64 33, .string t, .int .i64 n, .int .i64 ln, .int .i64 cl, .slice A5 kl.length c5]] w
      fun e w' => e = .returned (.tuple #[]) ∧ After W0 b (.slice A l.length c) v bs ((([110, 101, 119, 32] : List UInt8) ++ (t.data.toList))) ind w w' := by
  have HEnt := Lib.hid (Ent.mk' h (box6 33 t n ln cl A5 kl.length c5))
  have HKi := Lib.hid hK
  have HL := Lib.hid hlen
  have HR := Lib.hid hr
  have HE := Lib.hid E
  clear hK hlen hr E
  go_enter Tryd.func24, Tryd.ntmps24
  go_upto_region 1 with (fail)
  generalize hW : w.alloc (.cells #[.int .i64 33, .string t, .int .i64 n, .int .i64 ln, .int .i64 cl, .slice A5 kl.length c5] 33) = w1 at *
  generalize hG : w.heap.size = gb at *
  clear hW hG h
  have HA1 : Hid (After W0 b (.slice A l.length c) v bs [] ind w1 w1) := Lib.hid HEnt.out.after
  obtain ⟨q0, q1, q2, q3, q4, q5, q6⟩ := HEnt.out.q HA1.out
  go_wp2_with fail
  refine (put2 ⟨#[110, 101, 119, 32]⟩ t HA1.out (by have := HL.out; simp only [List.length_append, List.length_cons, List.length_nil] at this ⊢; omega)).mono ?_
  rintro e w2 ⟨rfl, hA2⟩
  clear q0 q1 q2 q3 q4 q5 q6
  obtain ⟨q0, q1, q2, q3, q4, q5, q6⟩ := HEnt.out.q hA2
  have HA2 := Lib.hid hA2
  clear hA2
  go_wp2
  first | go_end0 | ((try simp only [Exit.inBlock, Exit.then]); refine bodyPost_ret (results_none rfl _ _ _) rfl ?_)
  exact ⟨rfl, After.then HEnt.out.mv (by simpa using HA2.out)⟩
set_option maxHeartbeats 2000000 in
set_option maxRecDepth 100000 in
theorem term_34 {W0 : World} {l : List S33} {b : Nat} {A : Option Addr} {c : Nat} {p v : Value} {bs : List UInt8} {ind : ByteArray} {w : World} {t : ByteArray} {n ln cl : Int} {kl : List Int} {A5 : Option Addr} {c5 : Nat} {d0 : Nd}
    (hK : Kids l kl 34 t [d0]) (E : Env W0 l A c) (h : St W0 b (.slice A l.length c) p v bs ind w)
    (hlen : bs.length + (rowT (([97, 114, 114] : List UInt8)) (prk ind.data.toList 34 t 0 [d0])).length ≤ 140737488355328) (h5 : kl.length ≤ c5) (hr : (Kd.int .i64).C W0 A5 kl.length kl) :
    Calls Tryd.prog 24 #[.pointer (some ⟨b, 0, none⟩), .agg #[.int .i64 34, .string t, .int .i64 n, .int .i64 ln, .int .i64 cl, .slice A5 kl.length c5]] w
      fun e w' => e = .returned (.tuple #[]) ∧ After W0 b (.slice A l.length c) v bs (rowT (([97, 114, 114] : List UInt8)) (prk ind.data.toList 34 t 0 [d0])) ind w w' := by
  have HEnt := Lib.hid (Ent.mk' h (box6 34 t n ln cl A5 kl.length c5))
  have HKi := Lib.hid hK
  have HL := Lib.hid hlen
  have HR := Lib.hid hr
  have HE := Lib.hid E
  clear hK hlen hr E
  go_enter Tryd.func24, Tryd.ntmps24
  go_upto_region 1 with (fail)
  generalize hW : w.alloc (.cells #[.int .i64 34, .string t, .int .i64 n, .int .i64 ln, .int .i64 cl, .slice A5 kl.length c5] 33) = w1 at *
  generalize hG : w.heap.size = gb at *
  clear hW hG h
  have HA1 : Hid (After W0 b (.slice A l.length c) v bs [] ind w1 w1) := Lib.hid HEnt.out.after
  obtain ⟨q0, q1, q2, q3, q4, q5, q6⟩ := HEnt.out.q HA1.out
  have hmm := @run_makeMap Tryd.prog
  have hf77 := field77
  have HI0 := Lib.hid (IMap.new (fun n : Int => Value.int .i64 n) w1)
  have hz1 : b < w1.heap.size := HA1.out.lt
  have HB0 : Hid (Below w1.heap.size w1 (w1.alloc (.map #[] 0))) := Lib.hid ((Below.refl _ _).alloc (Nat.le_refl _) _)
  go_wp2_with (first | (refine wp_insert (t := 78) rfl _ (.const (.int .i64 34)) _ rfl Tryd.underlying78 Tryd.underlying30 KeyKind.int rfl 34 (.agg #[.string ⟨#[97, 114, 114]⟩]) rfl rfl HI0.out (by rfl) ?_; intro x0 hI0 hX0; have HI1 := Lib.hid hI0; have HB1 := Lib.hid (hX0.below HB0.out (Nat.le_refl _)); clear hI0 hX0) | (refine wp_insert (t := 78) rfl _ (.const (.int .i64 35)) _ rfl Tryd.underlying78 Tryd.underlying30 KeyKind.int rfl 35 (.agg #[.string ⟨#[108, 101, 110]⟩]) rfl rfl HI1.out (by rfl) ?_; intro x1 hI1 hX1; have HI2 := Lib.hid hI1; have HB2 := Lib.hid (hX1.below HB1.out (Nat.le_refl _)); clear hI1 hX1) | (refine wp_insert (t := 78) rfl _ (.const (.int .i64 36)) _ rfl Tryd.underlying78 Tryd.underlying30 KeyKind.int rfl 36 (.agg #[.string ⟨#[102, 110]⟩]) rfl rfl HI2.out (by rfl) ?_; intro x2 hI2 hX2; have HI3 := Lib.hid hI2; have HB3 := Lib.hid (hX2.below HB2.out (Nat.le_refl _)); clear hI2 hX2; have hAm := HA1.out.step HB3.out; clear q0 q1 q2 q3 q4 q5 q6; obtain ⟨q0, q1, q2, q3, q4, q5, q6⟩ := HEnt.out.q hAm; have HAm := Lib.hid hAm; clear hAm) | (refine wp_lookup1 (t := 78) rfl _ _ rfl Tryd.underlying78 Tryd.underlying30 KeyKind.int rfl 34 (.agg #[.string ⟨#[97, 114, 114]⟩]) rfl HI3.out (by rfl) ?_))
  go_wp2_with fail
  refine (row_then ⟨#[97, 114, 114]⟩ 0 _ rfl HKi.out HE.out (by simp) HAm.out (by have := HL.out; simp [rowT] at this ⊢; omega) h5 HR.out).mono ?_
  rintro e w2 ⟨rfl, hA2⟩
  clear q0 q1 q2 q3 q4 q5 q6
  obtain ⟨q0, q1, q2, q3, q4, q5, q6⟩ := HEnt.out.q hA2
  have HA2 := Lib.hid hA2
  clear hA2
  go_wp2
  first | go_end0 | ((try simp only [Exit.inBlock, Exit.then]); refine bodyPost_ret (results_none rfl _ _ _) rfl ?_)
  exact ⟨rfl, After.then HEnt.out.mv (by simpa using HA2.out)⟩
set_option maxHeartbeats 2000000 in
set_option maxRecDepth 100000 in
theorem term_35 {W0 : World} {l : List S33} {b : Nat} {A : Option Addr} {c : Nat} {p v : Value} {bs : List UInt8} {ind : ByteArray} {w : World} {t : ByteArray} {n ln cl : Int} {kl : List Int} {A5 : Option Addr} {c5 : Nat} {d0 : Nd}
    (hK : Kids l kl 35 t [d0]) (E : Env W0 l A c) (h : St W0 b (.slice A l.length c) p v bs ind w)
    (hlen : bs.length + (rowT (([108, 101, 110] : List UInt8)) (prk ind.data.toList 35 t 0 [d0])).length ≤ 140737488355328) (h5 : kl.length ≤ c5) (hr : (Kd.int .i64).C W0 A5 kl.length kl) :
    Calls Tryd.prog 24 #[.pointer (some ⟨b, 0, none⟩), .agg #[.int .i64 35, .string t, .int .i64 n, .int .i64 ln, .int .i64 cl, .slice A5 kl.length c5]] w
      fun e w' => e = .returned (.tuple #[]) ∧ After W0 b (.slice A l.length c) v bs (rowT (([108, 101, 110] : List UInt8)) (prk ind.data.toList 35 t 0 [d0])) ind w w' := by
  have HEnt := Lib.hid (Ent.mk' h (box6 35 t n ln cl A5 kl.length c5))
  have HKi := Lib.hid hK
  have HL := Lib.hid hlen
  have HR := Lib.hid hr
  have HE := Lib.hid E
  clear hK hlen hr E
  go_enter Tryd.func24, Tryd.ntmps24
  go_upto_region 1 with (fail)
  generalize hW : w.alloc (.cells #[.int .i64 35, .string t, .int .i64 n, .int .i64 ln, .int .i64 cl, .slice A5 kl.length c5] 33) = w1 at *
  generalize hG : w.heap.size = gb at *
  clear hW hG h
  have HA1 : Hid (After W0 b (.slice A l.length c) v bs [] ind w1 w1) := Lib.hid HEnt.out.after
  obtain ⟨q0, q1, q2, q3, q4, q5, q6⟩ := HEnt.out.q HA1.out
  have hmm := @run_makeMap Tryd.prog
  have hf77 := field77
  have HI0 := Lib.hid (IMap.new (fun n : Int => Value.int .i64 n) w1)
  have hz1 : b < w1.heap.size := HA1.out.lt
  have HB0 : Hid (Below w1.heap.size w1 (w1.alloc (.map #[] 0))) := Lib.hid ((Below.refl _ _).alloc (Nat.le_refl _) _)
  go_wp2_with (first | (refine wp_insert (t := 78) rfl _ (.const (.int .i64 34)) _ rfl Tryd.underlying78 Tryd.underlying30 KeyKind.int rfl 34 (.agg #[.string ⟨#[97, 114, 114]⟩]) rfl rfl HI0.out (by rfl) ?_; intro x0 hI0 hX0; have HI1 := Lib.hid hI0; have HB1 := Lib.hid (hX0.below HB0.out (Nat.le_refl _)); clear hI0 hX0) | (refine wp_insert (t := 78) rfl _ (.const (.int .i64 35)) _ rfl Tryd.underlying78 Tryd.underlying30 KeyKind.int rfl 35 (.agg #[.string ⟨#[108, 101, 110]⟩]) rfl rfl HI1.out (by rfl) ?_; intro x1 hI1 hX1; have HI2 := Lib.hid hI1; have HB2 := Lib.hid (hX1.below HB1.out (Nat.le_refl _)); clear hI1 hX1) | (refine wp_insert (t := 78) rfl _ (.const (.int .i64 36)) _ rfl Tryd.underlying78 Tryd.underlying30 KeyKind.int rfl 36 (.agg #[.string ⟨#[102, 110]⟩]) rfl rfl HI2.out (by rfl) ?_; intro x2 hI2 hX2; have HI3 := Lib.hid hI2; have HB3 := Lib.hid (hX2.below HB2.out (Nat.le_refl _)); clear hI2 hX2; have hAm := HA1.out.step HB3.out; clear q0 q1 q2 q3 q4 q5 q6; obtain ⟨q0, q1, q2, q3, q4, q5, q6⟩ := HEnt.out.q hAm; have HAm := Lib.hid hAm; clear hAm) | (refine wp_lookup1 (t := 78) rfl _ _ rfl Tryd.underlying78 Tryd.underlying30 KeyKind.int rfl 35 (.agg #[.string ⟨#[108, 101, 110]⟩]) rfl HI3.out (by rfl) ?_))
  go_wp2_with fail
  refine (row_then ⟨#[108, 101, 110]⟩ 0 _ rfl HKi.out HE.out (by simp) HAm.out (by have := HL.out; simp [rowT] at this ⊢; omega) h5 HR.out).mono ?_
  rintro e w2 ⟨rfl, hA2⟩
  clear q0 q1 q2 q3 q4 q5 q6
  obtain ⟨q0, q1, q2, q3, q4, q5, q6⟩ := HEnt.out.q hA2
  have HA2 := Lib.hid hA2
  clear hA2
  go_wp2
  first | go_end0 | ((try simp only [Exit.inBlock, Exit.then]); refine bodyPost_ret (results_none rfl _ _ _) rfl ?_)
  exact ⟨rfl, After.then HEnt.out.mv (by simpa using HA2.out)⟩
set_option maxHeartbeats 2000000 in
set_option maxRecDepth 100000 in
theorem term_36 {W0 : World} {l : List S33} {b : Nat} {A : Option Addr} {c : Nat} {p v : Value} {bs : List UInt8} {ind : ByteArray} {w : World} {t : ByteArray} {n ln cl : Int} {kl : List Int} {A5 : Option Addr} {c5 : Nat} {d0 : Nd}
    (hK : Kids l kl 36 t [d0]) (E : Env W0 l A c) (h : St W0 b (.slice A l.length c) p v bs ind w)
    (hlen : bs.length + (rowT (([102, 110] : List UInt8)) (prk ind.data.toList 36 t 0 [d0])).length ≤ 140737488355328) (h5 : kl.length ≤ c5) (hr : (Kd.int .i64).C W0 A5 kl.length kl) :
    Calls Tryd.prog 24 #[.pointer (some ⟨b, 0, none⟩), .agg #[.int .i64 36, .string t, .int .i64 n, .int .i64 ln, .int .i64 cl, .slice A5 kl.length c5]] w
      fun e w' => e = .returned (.tuple #[]) ∧ After W0 b (.slice A l.length c) v bs (rowT (([102, 110] : List UInt8)) (prk ind.data.toList 36 t 0 [d0])) ind w w' := by
  have HEnt := Lib.hid (Ent.mk' h (box6 36 t n ln cl A5 kl.length c5))
  have HKi := Lib.hid hK
  have HL := Lib.hid hlen
  have HR := Lib.hid hr
  have HE := Lib.hid E
  clear hK hlen hr E
  go_enter Tryd.func24, Tryd.ntmps24
  go_upto_region 1 with (fail)
  generalize hW : w.alloc (.cells #[.int .i64 36, .string t, .int .i64 n, .int .i64 ln, .int .i64 cl, .slice A5 kl.length c5] 33) = w1 at *
  generalize hG : w.heap.size = gb at *
  clear hW hG h
  have HA1 : Hid (After W0 b (.slice A l.length c) v bs [] ind w1 w1) := Lib.hid HEnt.out.after
  obtain ⟨q0, q1, q2, q3, q4, q5, q6⟩ := HEnt.out.q HA1.out
  have hmm := @run_makeMap Tryd.prog
  have hf77 := field77
  have HI0 := Lib.hid (IMap.new (fun n : Int => Value.int .i64 n) w1)
  have hz1 : b < w1.heap.size := HA1.out.lt
  have HB0 : Hid (Below w1.heap.size w1 (w1.alloc (.map #[] 0))) := Lib.hid ((Below.refl _ _).alloc (Nat.le_refl _) _)
  go_wp2_with (first | (refine wp_insert (t := 78) rfl _ (.const (.int .i64 34)) _ rfl Tryd.underlying78 Tryd.underlying30 KeyKind.int rfl 34 (.agg #[.string ⟨#[97, 114, 114]⟩]) rfl rfl HI0.out (by rfl) ?_; intro x0 hI0 hX0; have HI1 := Lib.hid hI0; have HB1 := Lib.hid (hX0.below HB0.out (Nat.le_refl _)); clear hI0 hX0) | (refine wp_insert (t := 78) rfl _ (.const (.int .i64 35)) _ rfl Tryd.underlying78 Tryd.underlying30 KeyKind.int rfl 35 (.agg #[.string ⟨#[108, 101, 110]⟩]) rfl rfl HI1.out (by rfl) ?_; intro x1 hI1 hX1; have HI2 := Lib.hid hI1; have HB2 := Lib.hid (hX1.below HB1.out (Nat.le_refl _)); clear hI1 hX1) | (refine wp_insert (t := 78) rfl _ (.const (.int .i64 36)) _ rfl Tryd.underlying78 Tryd.underlying30 KeyKind.int rfl 36 (.agg #[.string ⟨#[102, 110]⟩]) rfl rfl HI2.out (by rfl) ?_; intro x2 hI2 hX2; have HI3 := Lib.hid hI2; have HB3 := Lib.hid (hX2.below HB2.out (Nat.le_refl _)); clear hI2 hX2; have hAm := HA1.out.step HB3.out; clear q0 q1 q2 q3 q4 q5 q6; obtain ⟨q0, q1, q2, q3, q4, q5, q6⟩ := HEnt.out.q hAm; have HAm := Lib.hid hAm; clear hAm) | (refine wp_lookup1 (t := 78) rfl _ _ rfl Tryd.underlying78 Tryd.underlying30 KeyKind.int rfl 36 (.agg #[.string ⟨#[102, 110]⟩]) rfl HI3.out (by rfl) ?_))
  go_wp2_with fail
  refine (row_then ⟨#[102, 110]⟩ 0 _ rfl HKi.out HE.out (by simp) HAm.out (by have := HL.out; simp [rowT] at this ⊢; omega) h5 HR.out).mono ?_
  rintro e w2 ⟨rfl, hA2⟩
  clear q0 q1 q2 q3 q4 q5 q6
  obtain ⟨q0, q1, q2, q3, q4, q5, q6⟩ := HEnt.out.q hA2
  have HA2 := Lib.hid hA2
  clear hA2
  go_wp2
  first | go_end0 | ((try simp only [Exit.inBlock, Exit.then]); refine bodyPost_ret (results_none rfl _ _ _) rfl ?_)
  exact ⟨rfl, After.then HEnt.out.mv (by simpa using HA2.out)⟩
end Go.Proofs.YtbpefmidgfmcaaaDoor
end
section
set_option linter.unusedVariables false
set_option linter.unusedSimpArgs false
namespace Go.Proofs.YtbpefmidgfmcaaaDoor
open Go.RowKit PTreeApart Go.Proofs.YtbpefmidgfmcaaaDoorW.PrintWords
theorem one_kid {ds : List Nd} (h : ∃ e, ds.map Nd.kind = [e] ∧ isTerm e) : ∃ d0, ds = [d0] := by
  obtain ⟨e, h1, _⟩ := h
  match ds, h1 with
  | [d], _ => exact ⟨d, rfl⟩
theorem two_kids {ds : List Nd} (h : ∃ a e, ds.map Nd.kind = [a, e]) : ∃ d0 d1, ds = [d0, d1] := by
  obtain ⟨a, e, h1⟩ := h
  match ds, h1 with
  | [d, d'], _ => exact ⟨d, d', rfl⟩
theorem three_kids {ds : List Nd} (h : ∃ a b e, ds.map Nd.kind = [a, b, e]) : ∃ d0 d1 d2, ds = [d0, d1, d2] := by
  obtain ⟨a, b, e, h1⟩ := h
  match ds, h1 with
  | [d, d', d''], _ => exact ⟨d, d', d'', rfl⟩
theorem one_of {ds : List Nd} {e : Int} (h1 : ds.map Nd.kind = [e]) : ∃ d0, ds = [d0] := by
  match ds, h1 with
  | [d], _ => exact ⟨d, rfl⟩
theorem two_of {ds : List Nd} {a e : Int} (h : ds.map Nd.kind = [a, e]) : ∃ d0 d1, ds = [d0, d1] := two_kids ⟨a, e, h⟩
set_option maxHeartbeats 1000000 in
theorem term_all {W0 : World} {l : List S33} {b : Nat} {A : Option Addr} {c : Nat} {p v : Value} {bs : List UInt8} {ind : ByteArray} {w : World} {k : Int} {t : ByteArray} {n ln cl : Int} {kl : List Int} {A5 : Option Addr} {c5 : Nat} {ds : List Nd}
    (hk1 : 26 ≤ k) (hk2 : k ≤ 36) (hO : kidsOk k (ds.map Nd.kind)) (hN : numOk k n) (hK : Kids l kl k t ds) (E : Env W0 l A c) (h : St W0 b (.slice A l.length c) p v bs ind w)
    (hlen : bs.length + (asm k t.data.toList n (third ds) ind.data.toList (prs ind.data.toList k t 0 ds)).length ≤ 140737488355328) (h5 : kl.length ≤ c5) (hr : (Kd.int .i64).C W0 A5 kl.length kl) :
    Calls Tryd.prog 24 #[.pointer (some ⟨b, 0, none⟩), .agg #[.int .i64 k, .string t, .int .i64 n, .int .i64 ln, .int .i64 cl, .slice A5 kl.length c5]] w
      fun e w' => e = .returned (.tuple #[]) ∧ After W0 b (.slice A l.length c) v bs (asm k t.data.toList n (third ds) ind.data.toList (prs ind.data.toList k t 0 ds)) ind w w' := by
  have hk : k = 26 ∨ k = 27 ∨ k = 28 ∨ k = 29 ∨ k = 30 ∨ k = 31 ∨ k = 32 ∨ k = 33 ∨ k = 34 ∨ k = 35 ∨ k = 36 := by omega
  rcases hk with rfl | rfl | rfl | rfl | rfl | rfl | rfl | rfl | rfl | rfl | rfl
  · obtain rfl : ds = [] := by simpa [kidsOk] using hO
    have hn : 0 ≤ n ∧ n ≤ 2147483647 := by simpa [numOk] using hN
    have hT : asm 26 t.data.toList n (third []) ind.data.toList (prs ind.data.toList 26 t 0 []) = Lib.itoa n := by
      simp [asm, prs_prk _ _ _ (by decide : (26 : Int) ≠ 12) (by decide : (26 : Int) ≠ 8), prk]
    rw [hT] at hlen ⊢
    exact term_26 hK E h (by omega) (by omega) hlen h5 hr
  · obtain rfl : ds = [] := by simpa [kidsOk] using hO
    have hT : asm 27 t.data.toList n (third []) ind.data.toList (prs ind.data.toList 27 t 0 []) = ([110, 117, 108, 108] : List UInt8) := by
      simp [asm, prs_prk _ _ _ (by decide : (27 : Int) ≠ 12) (by decide : (27 : Int) ≠ 8), prk]
    rw [hT] at hlen ⊢
    exact term_27 hK E h hlen h5 hr
  · obtain rfl : ds = [] := by simpa [kidsOk] using hO
    have hT : asm 28 t.data.toList n (third []) ind.data.toList (prs ind.data.toList 28 t 0 []) = ([105, 116] : List UInt8) := by
      simp [asm, prs_prk _ _ _ (by decide : (28 : Int) ≠ 12) (by decide : (28 : Int) ≠ 8), prk]
    rw [hT] at hlen ⊢
    exact term_28 hK E h hlen h5 hr
  · obtain rfl : ds = [] := by simpa [kidsOk] using hO
    have hT : asm 29 t.data.toList n (third []) ind.data.toList (prs ind.data.toList 29 t 0 []) = t.data.toList := by
      simp [asm, prs_prk _ _ _ (by decide : (29 : Int) ≠ 12) (by decide : (29 : Int) ≠ 8), prk]
    rw [hT] at hlen ⊢
    exact term_29 hK E h hlen h5 hr
  · obtain ⟨d0, rfl⟩ : ∃ d0, ds = [d0] := one_kid (by simpa [kidsOk] using hO)
    have hT : asm 30 t.data.toList n (third [d0]) ind.data.toList (prs ind.data.toList 30 t 0 [d0]) = kidT ind.data.toList 30 t 0 d0 ++ ((([46] : List UInt8) ++ (t.data.toList))) := by
      simp [asm, prs_prk _ _ _ (by decide : (30 : Int) ≠ 12) (by decide : (30 : Int) ≠ 8), prk]
    rw [hT] at hlen ⊢
    exact term_30 hK E h hlen h5 hr
  · obtain ⟨d0, d1, rfl⟩ : ∃ d0 d1, ds = [d0, d1] := by
      obtain ⟨a, e, h1, _⟩ : ∃ a e, ds.map Nd.kind = [a, e] ∧ isTerm a ∧ isTerm e := by simpa [kidsOk] using hO
      exact two_of h1
    have hT : asm 31 t.data.toList n (third [d0, d1]) ind.data.toList (prs ind.data.toList 31 t 0 [d0, d1]) = kidT ind.data.toList 31 t 0 d0 ++ (([91] : List UInt8) ++ (kidT ind.data.toList 31 t 1 d1 ++ (([93] : List UInt8)))) := by
      simp [asm, prs_prk _ _ _ (by decide : (31 : Int) ≠ 12) (by decide : (31 : Int) ≠ 8), prk]
    rw [hT] at hlen ⊢
    exact term_31 hK E h hlen h5 hr
  · obtain ⟨d0, d1, rfl⟩ : ∃ d0 d1, ds = [d0, d1] := by
      obtain ⟨a, e, h1, _⟩ : ∃ a e, ds.map Nd.kind = [a, e] ∧ isTerm a ∧ isTerm e := by simpa [kidsOk] using hO
      exact two_of h1
    have hT : asm 32 t.data.toList n (third [d0, d1]) ind.data.toList (prs ind.data.toList 32 t 0 [d0, d1]) = kidT ind.data.toList 32 t 0 d0 ++ ((([32] : List UInt8) ++ (t.data.toList ++ (([32] : List UInt8)))) ++ (kidT ind.data.toList 32 t 1 d1)) := by
      simp [asm, prs_prk _ _ _ (by decide : (32 : Int) ≠ 12) (by decide : (32 : Int) ≠ 8), prk]
    rw [hT] at hlen ⊢
    exact term_32 hK E h hlen h5 hr
  · obtain rfl : ds = [] := by simpa [kidsOk] using hO
    have hT : asm 33 t.data.toList n (third []) ind.data.toList (prs ind.data.toList 33 t 0 []) = (([110, 101, 119, 32] : List UInt8) ++ (t.data.toList)) := by
      simp [asm, prs_prk _ _ _ (by decide : (33 : Int) ≠ 12) (by decide : (33 : Int) ≠ 8), prk]
    rw [hT] at hlen ⊢
    exact term_33 hK E h hlen h5 hr
  · obtain ⟨d0, rfl⟩ : ∃ d0, ds = [d0] := one_kid (by simpa [kidsOk] using hO)
    have hT : asm 34 t.data.toList n (third [d0]) ind.data.toList (prs ind.data.toList 34 t 0 [d0]) = rowT (([97, 114, 114] : List UInt8)) (prk ind.data.toList 34 t 0 [d0]) := by
      simp [asm, prs_prk _ _ _ (by decide : (34 : Int) ≠ 12) (by decide : (34 : Int) ≠ 8), prk]
    rw [hT] at hlen ⊢
    exact term_34 hK E h hlen h5 hr
  · obtain ⟨d0, rfl⟩ : ∃ d0, ds = [d0] := one_kid (by simpa [kidsOk] using hO)
    have hT : asm 35 t.data.toList n (third [d0]) ind.data.toList (prs ind.data.toList 35 t 0 [d0]) = rowT (([108, 101, 110] : List UInt8)) (prk ind.data.toList 35 t 0 [d0]) := by
      simp [asm, prs_prk _ _ _ (by decide : (35 : Int) ≠ 12) (by decide : (35 : Int) ≠ 8), prk]
    rw [hT] at hlen ⊢
    exact term_35 hK E h hlen h5 hr
  · obtain ⟨d0, rfl⟩ : ∃ d0, ds = [d0] := one_of (by simpa [kidsOk] using hO)
    have hT : asm 36 t.data.toList n (third [d0]) ind.data.toList (prs ind.data.toList 36 t 0 [d0]) = rowT (([102, 110] : List UInt8)) (prk ind.data.toList 36 t 0 [d0]) := by
      simp [asm, prs_prk _ _ _ (by decide : (36 : Int) ≠ 12) (by decide : (36 : Int) ≠ 8), prk]
    rw [hT] at hlen ⊢
    exact term_36 hK E h hlen h5 hr
end Go.Proofs.YtbpefmidgfmcaaaDoor
end
section
set_option linter.unusedVariables false
set_option linter.unusedSimpArgs false
namespace Go.Proofs.YtbpefmidgfmcaaaDoor
open Go.RowKit PTreeApart Go.Proofs.YtbpefmidgfmcaaaDoorW.PrintWords
set_option maxHeartbeats 1000000 in
theorem stmt_all {W0 : World} {l : List S33} {b : Nat} {A : Option Addr} {c : Nat} {p v : Value} {bs : List UInt8} {ind : ByteArray} {w : World} {k : Int} {t : ByteArray} {n ln cl : Int} {kl : List Int} {A5 : Option Addr} {c5 : Nat} {ds : List Nd}
    (hk1 : 13 ≤ k) (hk2 : k ≤ 25) (hO : kidsOk k (ds.map Nd.kind)) (hN : numOk k n) (hK : Kids l kl k t ds) (E : Env W0 l A c) (h : St W0 b (.slice A l.length c) p v bs ind w)
    (hlen : bs.length + (asm k t.data.toList n (third ds) ind.data.toList (prs ind.data.toList k t 0 ds)).length ≤ 140737488355328) (h5 : kl.length ≤ c5) (hr : (Kd.int .i64).C W0 A5 kl.length kl) :
    Calls Tryd.prog 22 #[.pointer (some ⟨b, 0, none⟩), .agg #[.int .i64 k, .string t, .int .i64 n, .int .i64 ln, .int .i64 cl, .slice A5 kl.length c5]] w
      fun e w' => e = .returned (.tuple #[]) ∧ After W0 b (.slice A l.length c) v bs (asm k t.data.toList n (third ds) ind.data.toList (prs ind.data.toList k t 0 ds)) ind w w' := by
  have hk : k = 13 ∨ k = 14 ∨ k = 15 ∨ k = 16 ∨ k = 17 ∨ k = 18 ∨ k = 19 ∨ k = 20 ∨ k = 21 ∨ k = 22 ∨ k = 23 ∨ k = 24 ∨ k = 25 := by omega
  rcases hk with rfl | rfl | rfl | rfl | rfl | rfl | rfl | rfl | rfl | rfl | rfl | rfl | rfl
  · obtain ⟨d0, d1, rfl⟩ : ∃ d0 d1, ds = [d0, d1] := by
      obtain ⟨e, h1, _⟩ : ∃ e, ds.map Nd.kind = [5, e] ∧ isTerm e := by simpa [kidsOk] using hO
      exact two_of h1
    have hT : asm 13 t.data.toList n (third [d0, d1]) ind.data.toList (prs ind.data.toList 13 t 0 [d0, d1]) = (([118, 97, 114, 32] : List UInt8) ++ (t.data.toList ++ (([32] : List UInt8)))) ++ (kidT ind.data.toList 13 t 0 d0 ++ (([32, 61, 32] : List UInt8) ++ (kidT ind.data.toList 13 t 1 d1 ++ (([59] : List UInt8))))) := by
      simp [asm, prs_prk _ _ _ (by decide : (13 : Int) ≠ 12) (by decide : (13 : Int) ≠ 8), prk]
    rw [hT] at hlen ⊢
    exact stmt_13 hK E h hlen h5 hr
  · obtain ⟨d0, d1, rfl⟩ : ∃ d0 d1, ds = [d0, d1] := by
      obtain ⟨a, e, h1, _⟩ : ∃ v e, ds.map Nd.kind = [v, e] ∧ isVar v ∧ isTerm e := by simpa [kidsOk] using hO
      exact two_of h1
    have hT : asm 14 t.data.toList n (third [d0, d1]) ind.data.toList (prs ind.data.toList 14 t 0 [d0, d1]) = kidT ind.data.toList 14 t 0 d0 ++ (([32, 61, 32] : List UInt8) ++ (kidT ind.data.toList 14 t 1 d1 ++ (([59] : List UInt8)))) := by
      simp [asm, prs_prk _ _ _ (by decide : (14 : Int) ≠ 12) (by decide : (14 : Int) ≠ 8), prk]
    rw [hT] at hlen ⊢
    exact stmt_14 hK E h hlen h5 hr
  · obtain ⟨d0, rfl⟩ : ∃ d0, ds = [d0] := one_kid (by simpa [kidsOk] using hO)
    have hT : asm 15 t.data.toList n (third [d0]) ind.data.toList (prs ind.data.toList 15 t 0 [d0]) = rowT (([99, 97, 108, 108] : List UInt8)) (prk ind.data.toList 15 t 0 [d0]) ++ (([59] : List UInt8)) := by
      simp [asm, prs_prk _ _ _ (by decide : (15 : Int) ≠ 12) (by decide : (15 : Int) ≠ 8), prk]
    rw [hT] at hlen ⊢
    exact stmt_15 hK E h hlen h5 hr
  · obtain ⟨d0, rfl⟩ : ∃ d0, ds = [d0] := one_kid (by simpa [kidsOk] using hO)
    have hT : asm 16 t.data.toList n (third [d0]) ind.data.toList (prs ind.data.toList 16 t 0 [d0]) = rowT (([99, 97, 110, 99, 101, 108] : List UInt8)) (prk ind.data.toList 16 t 0 [d0]) ++ (([59] : List UInt8)) := by
      simp [asm, prs_prk _ _ _ (by decide : (16 : Int) ≠ 12) (by decide : (16 : Int) ≠ 8), prk]
    rw [hT] at hlen ⊢
    exact stmt_16 hK E h hlen h5 hr
  · obtain ⟨d0, rfl⟩ : ∃ d0, ds = [d0] := one_kid (by simpa [kidsOk] using hO)
    have hT : asm 17 t.data.toList n (third [d0]) ind.data.toList (prs ind.data.toList 17 t 0 [d0]) = rowT (([106, 111, 105, 110] : List UInt8)) (prk ind.data.toList 17 t 0 [d0]) ++ (([59] : List UInt8)) := by
      simp [asm, prs_prk _ _ _ (by decide : (17 : Int) ≠ 12) (by decide : (17 : Int) ≠ 8), prk]
    rw [hT] at hlen ⊢
    exact stmt_17 hK E h hlen h5 hr
  · obtain ⟨d0, rfl⟩ : ∃ d0, ds = [d0] := one_kid (by simpa [kidsOk] using hO)
    have hT : asm 18 t.data.toList n (third [d0]) ind.data.toList (prs ind.data.toList 18 t 0 [d0]) = rowT (([108, 111, 103] : List UInt8)) (prk ind.data.toList 18 t 0 [d0]) ++ (([59] : List UInt8)) := by
      simp [asm, prs_prk _ _ _ (by decide : (18 : Int) ≠ 12) (by decide : (18 : Int) ≠ 8), prk]
    rw [hT] at hlen ⊢
    exact stmt_18 hK E h hlen h5 hr
  · obtain ⟨e, _, h1⟩ : ∃ e, isTerm e ∧ (ds.map Nd.kind = [e] ∨ ∃ v, ds.map Nd.kind = [e, v] ∧ isVar v) := by simpa [kidsOk] using hO
    have hn : -1 ≤ n ∧ n ≤ 2147483647 := by simpa [numOk] using hN
    have hds : (∃ d0, ds = [d0]) ∨ ∃ d0 d1, ds = [d0, d1] := by
      rcases h1 with h1 | ⟨v, h1, _⟩
      · exact .inl (one_of h1)
      · exact .inr (two_of h1)
    rcases hds with ⟨d0, rfl⟩ | ⟨d0, d1, rfl⟩
    · by_cases hn1 : n < 0
      · have hT : asm 19 t.data.toList n (third [d0]) ind.data.toList (prs ind.data.toList 19 t 0 [d0]) = (([112, 111, 115, 116, 32] : List UInt8) ++ (t.data.toList ++ (([32] : List UInt8)))) ++ (kidT ind.data.toList 19 t 0 d0 ++ (([32, 102, 114, 111, 110, 116] : List UInt8) ++ (toT (prs ind.data.toList 19 t 0 [d0]) ++ (([59] : List UInt8))))) := by
          simp [asm, whenT, hn1]; simp [prs_prk, prk]
        rw [hT] at hlen ⊢
        exact stmt_19f1 hK E h hn1 hlen h5 hr
      · by_cases hn2 : 0 < n
        · have hT : asm 19 t.data.toList n (third [d0]) ind.data.toList (prs ind.data.toList 19 t 0 [d0]) = (([112, 111, 115, 116, 32] : List UInt8) ++ (t.data.toList ++ (([32] : List UInt8)))) ++ (kidT ind.data.toList 19 t 0 d0 ++ ((([32, 97, 102, 116, 101, 114, 32] : List UInt8) ++ Lib.itoa n) ++ (toT (prs ind.data.toList 19 t 0 [d0]) ++ (([59] : List UInt8))))) := by
            simp [asm, whenT, hn1, hn2]; simp [prs_prk, prk]
          rw [hT] at hlen ⊢
          exact stmt_19a1 hK E h hn2 (by omega) (by omega) hlen h5 hr
        · have hT : asm 19 t.data.toList n (third [d0]) ind.data.toList (prs ind.data.toList 19 t 0 [d0]) = (([112, 111, 115, 116, 32] : List UInt8) ++ (t.data.toList ++ (([32] : List UInt8)))) ++ (kidT ind.data.toList 19 t 0 d0 ++ (toT (prs ind.data.toList 19 t 0 [d0]) ++ (([59] : List UInt8)))) := by
            simp [asm, whenT, hn1, hn2]; simp [prs_prk, prk]
          rw [hT] at hlen ⊢
          exact stmt_19z1 hK E h hn1 hn2 hlen h5 hr
    · by_cases hn1 : n < 0
      · have hT : asm 19 t.data.toList n (third [d0, d1]) ind.data.toList (prs ind.data.toList 19 t 0 [d0, d1]) = (([112, 111, 115, 116, 32] : List UInt8) ++ (t.data.toList ++ (([32] : List UInt8)))) ++ (kidT ind.data.toList 19 t 0 d0 ++ (([32, 102, 114, 111, 110, 116] : List UInt8) ++ (toT (prs ind.data.toList 19 t 0 [d0, d1]) ++ (([59] : List UInt8))))) := by
          simp [asm, whenT, hn1]; simp [prs_prk, prk]
        rw [hT] at hlen ⊢
        exact stmt_19f2 hK E h hn1 hlen h5 hr
      · by_cases hn2 : 0 < n
        · have hT : asm 19 t.data.toList n (third [d0, d1]) ind.data.toList (prs ind.data.toList 19 t 0 [d0, d1]) = (([112, 111, 115, 116, 32] : List UInt8) ++ (t.data.toList ++ (([32] : List UInt8)))) ++ (kidT ind.data.toList 19 t 0 d0 ++ ((([32, 97, 102, 116, 101, 114, 32] : List UInt8) ++ Lib.itoa n) ++ (toT (prs ind.data.toList 19 t 0 [d0, d1]) ++ (([59] : List UInt8))))) := by
            simp [asm, whenT, hn1, hn2]; simp [prs_prk, prk]
          rw [hT] at hlen ⊢
          exact stmt_19a2 hK E h hn2 (by omega) (by omega) hlen h5 hr
        · have hT : asm 19 t.data.toList n (third [d0, d1]) ind.data.toList (prs ind.data.toList 19 t 0 [d0, d1]) = (([112, 111, 115, 116, 32] : List UInt8) ++ (t.data.toList ++ (([32] : List UInt8)))) ++ (kidT ind.data.toList 19 t 0 d0 ++ (toT (prs ind.data.toList 19 t 0 [d0, d1]) ++ (([59] : List UInt8)))) := by
            simp [asm, whenT, hn1, hn2]; simp [prs_prk, prk]
          rw [hT] at hlen ⊢
          exact stmt_19z2 hK E h hn1 hn2 hlen h5 hr
  · obtain ⟨e, _, h1⟩ : ∃ e, isTerm e ∧ (ds.map Nd.kind = [e] ∨ ∃ v, ds.map Nd.kind = [e, v] ∧ isVar v) := by simpa [kidsOk] using hO
    have hds : (∃ d0, ds = [d0]) ∨ ∃ d0 d1, ds = [d0, d1] := by
      rcases h1 with h1 | ⟨v, h1, _⟩
      · exact .inl (one_of h1)
      · exact .inr (two_of h1)
    rcases hds with ⟨d0, rfl⟩ | ⟨d0, d1, rfl⟩
    · have hT : asm 20 t.data.toList n (third [d0]) ind.data.toList (prs ind.data.toList 20 t 0 [d0]) = ([115, 112, 97, 119, 110, 32] : List UInt8) ++ (kidT ind.data.toList 20 t 0 d0 ++ (toT (prs ind.data.toList 20 t 0 [d0]) ++ (([59] : List UInt8)))) := by
        simp [asm] <;> simp [prs_prk, prk]
      rw [hT] at hlen ⊢
      exact stmt_201 hK E h hlen h5 hr
    · have hT : asm 20 t.data.toList n (third [d0, d1]) ind.data.toList (prs ind.data.toList 20 t 0 [d0, d1]) = ([115, 112, 97, 119, 110, 32] : List UInt8) ++ (kidT ind.data.toList 20 t 0 d0 ++ (toT (prs ind.data.toList 20 t 0 [d0, d1]) ++ (([59] : List UInt8)))) := by
        simp [asm] <;> simp [prs_prk, prk]
      rw [hT] at hlen ⊢
      exact stmt_202 hK E h hlen h5 hr
  · obtain rfl : ds = [] := by simpa [kidsOk] using hO
    have hT : asm 21 t.data.toList n (third []) ind.data.toList (prs ind.data.toList 21 t 0 []) = (([101, 110, 97, 98, 108, 101, 32] : List UInt8) ++ (t.data.toList)) ++ (([59] : List UInt8)) := by
      simp [asm, prs_prk _ _ _ (by decide : (21 : Int) ≠ 12) (by decide : (21 : Int) ≠ 8), prk]
    rw [hT] at hlen ⊢
    exact stmt_21 hK E h hlen h5 hr
  · obtain rfl : ds = [] := by simpa [kidsOk] using hO
    have hT : asm 22 t.data.toList n (third []) ind.data.toList (prs ind.data.toList 22 t 0 []) = (([100, 105, 115, 97, 98, 108, 101, 32] : List UInt8) ++ (t.data.toList)) ++ (([59] : List UInt8)) := by
      simp [asm, prs_prk _ _ _ (by decide : (22 : Int) ≠ 12) (by decide : (22 : Int) ≠ 8), prk]
    rw [hT] at hlen ⊢
    exact stmt_22 hK E h hlen h5 hr
  · obtain ⟨d0, d1, d2, rfl⟩ : ∃ d0 d1 d2, ds = [d0, d1, d2] := by
      obtain ⟨e, h1, _⟩ : ∃ e, ds.map Nd.kind = [e, 12, 12] ∧ isTerm e := by simpa [kidsOk] using hO
      exact three_kids ⟨_, _, _, h1⟩
    have hT : asm 23 t.data.toList n (third [d0, d1, d2]) ind.data.toList (prs ind.data.toList 23 t 0 [d0, d1, d2]) = (([105, 102, 32] : List UInt8) ++ (kidT ind.data.toList 23 t 0 d0 ++ (([32] : List UInt8) ++ (kidT ind.data.toList 23 t 1 d1 ++ elseK d2.kids.isEmpty (kidT ind.data.toList 23 t 2 d2))))) := by
      simp [asm, prs_prk _ _ _ (by decide : (23 : Int) ≠ 12) (by decide : (23 : Int) ≠ 8), prk, elseT, elseK, third]
    rw [hT] at hlen ⊢
    exact stmt_23 hK E h hlen h5 hr
  · obtain ⟨d0, d1, rfl⟩ : ∃ d0 d1, ds = [d0, d1] := by
      obtain ⟨e, h1, _⟩ : ∃ e, ds.map Nd.kind = [e, 12] ∧ isTerm e := by simpa [kidsOk] using hO
      exact two_of h1
    have hT : asm 24 t.data.toList n (third [d0, d1]) ind.data.toList (prs ind.data.toList 24 t 0 [d0, d1]) = (([119, 104, 105, 108, 101, 32] : List UInt8) ++ (kidT ind.data.toList 24 t 0 d0 ++ (([32] : List UInt8) ++ kidT ind.data.toList 24 t 1 d1))) := by
      simp [asm, prs_prk _ _ _ (by decide : (24 : Int) ≠ 12) (by decide : (24 : Int) ≠ 8), prk, elseT, third]
    rw [hT] at hlen ⊢
    exact stmt_24 hK E h hlen h5 hr
  · obtain rfl : ds = [] := by simpa [kidsOk] using hO
    have hT : asm 25 t.data.toList n (third []) ind.data.toList (prs ind.data.toList 25 t 0 []) = ([114, 101, 116, 117, 114, 110] : List UInt8) ++ (([59] : List UInt8)) := by
      simp [asm, prs_prk _ _ _ (by decide : (25 : Int) ≠ 12) (by decide : (25 : Int) ≠ 8), prk]
    rw [hT] at hlen ⊢
    exact stmt_25 hK E h hlen h5 hr
end Go.Proofs.YtbpefmidgfmcaaaDoor
end
section
set_option linter.unusedVariables false
set_option linter.unusedSimpArgs false
namespace Go.Proofs.YtbpefmidgfmcaaaDoor
open Go.RowKit PTreeApart Go.Proofs.YtbpefmidgfmcaaaDoorW.PrintWords
set_option maxHeartbeats 2000000 in
set_option maxRecDepth 100000 in
theorem decl_2 {W0 : World} {l : List S33} {b : Nat} {A : Option Addr} {c : Nat} {p v : Value} {bs : List UInt8} {ind : ByteArray} {w : World} {t : ByteArray} {n ln cl : Int} {kl : List Int} {A5 : Option Addr} {c5 : Nat} 
    (hK : Kids l kl 2 t []) (E : Env W0 l A c) (h : St W0 b (.slice A l.length c) p v bs ind w)
    (hlen : bs.length + ((([108, 111, 111, 112, 101, 114, 32] : List UInt8) ++ (t.data.toList ++ (([59] : List UInt8))))).length ≤ 140737488355328) (h5 : kl.length ≤ c5) (hr : (Kd.int .i64).C W0 A5 kl.length kl) :
    Calls Tryd.prog 25 #[.pointer (some ⟨b, 0, none⟩), .agg #[.int .i64 2, .string t, .int .i64 n, .int .i64 ln, .int .i64 cl, .slice A5 kl.length c5]] w
      fun e w' => e = .returned (.tuple #[]) ∧ After W0 b (.slice A l.length c) v bs ((([108, 111, 111, 112, 101, 114, 32] : List UInt8) ++ (t.data.toList ++ (([59] : List UInt8))))) ind w w' := by
  have HEnt := Lib.hid (Ent.mk' h (box6 2 t n ln cl A5 kl.length c5))
  have HKi := Lib.hid hK
  have HL := Lib.hid hlen
  have HR := Lib.hid hr
  have HE := Lib.hid E
  clear hK hlen hr E
  go_enter Tryd.func25, Tryd.ntmps25
  go_upto_region 1 with (fail)
  generalize hW : w.alloc (.cells #[.int .i64 2, .string t, .int .i64 n, .int .i64 ln, .int .i64 cl, .slice A5 kl.length c5] 33) = w1 at *
  generalize hG : w.heap.size = gb at *
  clear hW hG h
  have HA1 : Hid (After W0 b (.slice A l.length c) v bs [] ind w1 w1) := Lib.hid HEnt.out.after
  obtain ⟨q0, q1, q2, q3, q4, q5, q6⟩ := HEnt.out.q HA1.out
  go_wp2_with fail
  refine (put3 ⟨#[108, 111, 111, 112, 101, 114, 32]⟩ t ⟨#[59]⟩ HA1.out (by have := HL.out; simp only [List.length_append, List.length_cons, List.length_nil] at this ⊢; omega)).mono ?_
  rintro e w2 ⟨rfl, hA2⟩
  clear q0 q1 q2 q3 q4 q5 q6
  obtain ⟨q0, q1, q2, q3, q4, q5, q6⟩ := HEnt.out.q hA2
  have HA2 := Lib.hid hA2
  clear hA2
  go_wp2
  first | go_end0 | ((try simp only [Exit.inBlock, Exit.then]); refine bodyPost_ret (results_none rfl _ _ _) rfl ?_)
  exact ⟨rfl, After.then HEnt.out.mv (by simpa using HA2.out)⟩
set_option maxHeartbeats 2000000 in
set_option maxRecDepth 100000 in
theorem decl_3 {W0 : World} {l : List S33} {b : Nat} {A : Option Addr} {c : Nat} {p v : Value} {bs : List UInt8} {ind : ByteArray} {w : World} {t : ByteArray} {n ln cl : Int} {kl : List Int} {A5 : Option Addr} {c5 : Nat} {ds : List Nd}
    (hK : Kids l kl 3 t ds) (E : Env W0 l A c) (h : St W0 b (.slice A l.length c) p v bs ind w) (hts : t.size ≤ 140737488355328)
    (hlen : bs.length + (rowT (([99, 108, 97, 115, 115, 32] : List UInt8) ++ t.data.toList ++ ([32, 123] : List UInt8)) (prk ind.data.toList 3 t 0 ds) ++ (([32, 125] : List UInt8))).length ≤ 140737488355328) (h5 : kl.length ≤ c5) (hr : (Kd.int .i64).C W0 A5 kl.length kl) :
    Calls Tryd.prog 25 #[.pointer (some ⟨b, 0, none⟩), .agg #[.int .i64 3, .string t, .int .i64 n, .int .i64 ln, .int .i64 cl, .slice A5 kl.length c5]] w
      fun e w' => e = .returned (.tuple #[]) ∧ After W0 b (.slice A l.length c) v bs (rowT (([99, 108, 97, 115, 115, 32] : List UInt8) ++ t.data.toList ++ ([32, 123] : List UInt8)) (prk ind.data.toList 3 t 0 ds) ++ (([32, 125] : List UInt8))) ind w w' := by
  have HEnt := Lib.hid (Ent.mk' h (box6 3 t n ln cl A5 kl.length c5))
  have HKi := Lib.hid hK
  have HL := Lib.hid hlen
  have HR := Lib.hid hr
  have HE := Lib.hid E
  clear hK hlen hr E
  go_enter Tryd.func25, Tryd.ntmps25
  go_upto_region 1 with (fail)
  generalize hW : w.alloc (.cells #[.int .i64 3, .string t, .int .i64 n, .int .i64 ln, .int .i64 cl, .slice A5 kl.length c5] 33) = w1 at *
  generalize hG : w.heap.size = gb at *
  clear hW hG h
  have HA1 : Hid (After W0 b (.slice A l.length c) v bs [] ind w1 w1) := Lib.hid HEnt.out.after
  obtain ⟨q0, q1, q2, q3, q4, q5, q6⟩ := HEnt.out.q HA1.out
  go_wp2_with fail
  obtain ⟨wd, hwd⟩ : ∃ wd : ByteArray, (⟨#[99, 108, 97, 115, 115, 32]⟩ ++ t ++ ⟨#[32, 123]⟩) = wd := ⟨_, rfl⟩
  rw [hwd]
  have hwd2 : wd.data.toList = ([99, 108, 97, 115, 115, 32] : List UInt8) ++ t.data.toList ++ ([32, 123] : List UInt8) := by rw [← hwd]; simp
  have HW := Lib.hid hwd2
  clear hwd hwd2
  go_wp2_with fail
  refine (row_then wd 0 _ rfl HKi.out HE.out (by simp) HA1.out (by have := HL.out; rw [HW.out]; simp [rowT] at this ⊢; omega) h5 HR.out).mono ?_
  rintro e w2 ⟨rfl, hA2⟩
  rw [HW.out] at hA2
  clear q0 q1 q2 q3 q4 q5 q6
  obtain ⟨q0, q1, q2, q3, q4, q5, q6⟩ := HEnt.out.q hA2
  have HA2 := Lib.hid hA2
  clear hA2
  go_wp2_with fail
  refine (put1 ⟨#[32, 125]⟩ HA2.out (by have := HL.out; simp [rowT] at this ⊢; omega)).mono ?_
  rintro e w3 ⟨rfl, hA3⟩
  clear q0 q1 q2 q3 q4 q5 q6
  obtain ⟨q0, q1, q2, q3, q4, q5, q6⟩ := HEnt.out.q hA3
  have HA3 := Lib.hid hA3
  clear hA3
  go_wp2
  first | go_end0 | ((try simp only [Exit.inBlock, Exit.then]); refine bodyPost_ret (results_none rfl _ _ _) rfl ?_)
  exact ⟨rfl, After.then HEnt.out.mv (by simpa using HA3.out)⟩
set_option maxHeartbeats 2000000 in
set_option maxRecDepth 100000 in
theorem decl_4 {W0 : World} {l : List S33} {b : Nat} {A : Option Addr} {c : Nat} {p v : Value} {bs : List UInt8} {ind : ByteArray} {w : World} {t : ByteArray} {n ln cl : Int} {kl : List Int} {A5 : Option Addr} {c5 : Nat} {d0 : Nd}
    (hK : Kids l kl 4 t [d0]) (E : Env W0 l A c) (h : St W0 b (.slice A l.length c) p v bs ind w)
    (hlen : bs.length + (rowT (t.data.toList) (prk ind.data.toList 4 t 0 [d0]) ++ (([59] : List UInt8))).length ≤ 140737488355328) (h5 : kl.length ≤ c5) (hr : (Kd.int .i64).C W0 A5 kl.length kl) :
    Calls Tryd.prog 25 #[.pointer (some ⟨b, 0, none⟩), .agg #[.int .i64 4, .string t, .int .i64 n, .int .i64 ln, .int .i64 cl, .slice A5 kl.length c5]] w
      fun e w' => e = .returned (.tuple #[]) ∧ After W0 b (.slice A l.length c) v bs (rowT (t.data.toList) (prk ind.data.toList 4 t 0 [d0]) ++ (([59] : List UInt8))) ind w w' := by
  have HEnt := Lib.hid (Ent.mk' h (box6 4 t n ln cl A5 kl.length c5))
  have HKi := Lib.hid hK
  have HL := Lib.hid hlen
  have HR := Lib.hid hr
  have HE := Lib.hid E
  clear hK hlen hr E
  go_enter Tryd.func25, Tryd.ntmps25
  go_upto_region 1 with (fail)
  generalize hW : w.alloc (.cells #[.int .i64 4, .string t, .int .i64 n, .int .i64 ln, .int .i64 cl, .slice A5 kl.length c5] 33) = w1 at *
  generalize hG : w.heap.size = gb at *
  clear hW hG h
  have HA1 : Hid (After W0 b (.slice A l.length c) v bs [] ind w1 w1) := Lib.hid HEnt.out.after
  obtain ⟨q0, q1, q2, q3, q4, q5, q6⟩ := HEnt.out.q HA1.out
  go_wp2_with fail
  refine (row_then t 0 _ rfl HKi.out HE.out (by simp) HA1.out (by have := HL.out; simp [rowT] at this ⊢; omega) h5 HR.out).mono ?_
  rintro e w2 ⟨rfl, hA2⟩
  clear q0 q1 q2 q3 q4 q5 q6
  obtain ⟨q0, q1, q2, q3, q4, q5, q6⟩ := HEnt.out.q hA2
  have HA2 := Lib.hid hA2
  clear hA2
  go_wp2_with fail
  refine (put1 ⟨#[59]⟩ HA2.out (by have := HL.out; simp [rowT] at this ⊢; omega)).mono ?_
  rintro e w3 ⟨rfl, hA3⟩
  clear q0 q1 q2 q3 q4 q5 q6
  obtain ⟨q0, q1, q2, q3, q4, q5, q6⟩ := HEnt.out.q hA3
  have HA3 := Lib.hid hA3
  clear hA3
  go_wp2
  first | go_end0 | ((try simp only [Exit.inBlock, Exit.then]); refine bodyPost_ret (results_none rfl _ _ _) rfl ?_)
  exact ⟨rfl, After.then HEnt.out.mv (by simpa using HA3.out)⟩
set_option maxHeartbeats 2000000 in
set_option maxRecDepth 100000 in
theorem decl_5 {W0 : World} {l : List S33} {b : Nat} {A : Option Addr} {c : Nat} {p v : Value} {bs : List UInt8} {ind : ByteArray} {w : World} {t : ByteArray} {n ln cl : Int} {kl : List Int} {A5 : Option Addr} {c5 : Nat} 
    (hK : Kids l kl 5 t []) (E : Env W0 l A c) (h : St W0 b (.slice A l.length c) p v bs ind w)
    (hlen : bs.length + (t.data.toList).length ≤ 140737488355328) (h5 : kl.length ≤ c5) (hr : (Kd.int .i64).C W0 A5 kl.length kl) :
    Calls Tryd.prog 25 #[.pointer (some ⟨b, 0, none⟩), .agg #[.int .i64 5, .string t, .int .i64 n, .int .i64 ln, .int .i64 cl, .slice A5 kl.length c5]] w
      fun e w' => e = .returned (.tuple #[]) ∧ After W0 b (.slice A l.length c) v bs (t.data.toList) ind w w' := by
  have HEnt := Lib.hid (Ent.mk' h (box6 5 t n ln cl A5 kl.length c5))
  have HKi := Lib.hid hK
  have HL := Lib.hid hlen
  have HR := Lib.hid hr
  have HE := Lib.hid E
  clear hK hlen hr E
  go_enter Tryd.func25, Tryd.ntmps25
  go_upto_region 1 with (fail)
  generalize hW : w.alloc (.cells #[.int .i64 5, .string t, .int .i64 n, .int .i64 ln, .int .i64 cl, .slice A5 kl.length c5] 33) = w1 at *
  generalize hG : w.heap.size = gb at *
  clear hW hG h
  have HA1 : Hid (After W0 b (.slice A l.length c) v bs [] ind w1 w1) := Lib.hid HEnt.out.after
  obtain ⟨q0, q1, q2, q3, q4, q5, q6⟩ := HEnt.out.q HA1.out
  go_wp2_with fail
  refine (put1 t HA1.out (by have := HL.out; simp only [List.length_append, List.length_cons, List.length_nil] at this ⊢; omega)).mono ?_
  rintro e w2 ⟨rfl, hA2⟩
  clear q0 q1 q2 q3 q4 q5 q6
  obtain ⟨q0, q1, q2, q3, q4, q5, q6⟩ := HEnt.out.q hA2
  have HA2 := Lib.hid hA2
  clear hA2
  go_wp2
  first | go_end0 | ((try simp only [Exit.inBlock, Exit.then]); refine bodyPost_ret (results_none rfl _ _ _) rfl ?_)
  exact ⟨rfl, After.then HEnt.out.mv (by simpa using HA2.out)⟩
set_option maxHeartbeats 2000000 in
set_option maxRecDepth 100000 in
theorem decl_6 {W0 : World} {l : List S33} {b : Nat} {A : Option Addr} {c : Nat} {p v : Value} {bs : List UInt8} {ind : ByteArray} {w : World} {t : ByteArray} {n ln cl : Int} {kl : List Int} {A5 : Option Addr} {c5 : Nat} {d0 : Nd}
    (hK : Kids l kl 6 t [d0]) (E : Env W0 l A c) (h : St W0 b (.slice A l.length c) p v bs ind w) (hts : t.size ≤ 140737488355328)
    (hlen : bs.length + (rowT (([118, 97, 114, 32] : List UInt8) ++ t.data.toList) (prk ind.data.toList 6 t 0 [d0]) ++ (([59] : List UInt8))).length ≤ 140737488355328) (h5 : kl.length ≤ c5) (hr : (Kd.int .i64).C W0 A5 kl.length kl) :
    Calls Tryd.prog 25 #[.pointer (some ⟨b, 0, none⟩), .agg #[.int .i64 6, .string t, .int .i64 n, .int .i64 ln, .int .i64 cl, .slice A5 kl.length c5]] w
      fun e w' => e = .returned (.tuple #[]) ∧ After W0 b (.slice A l.length c) v bs (rowT (([118, 97, 114, 32] : List UInt8) ++ t.data.toList) (prk ind.data.toList 6 t 0 [d0]) ++ (([59] : List UInt8))) ind w w' := by
  have HEnt := Lib.hid (Ent.mk' h (box6 6 t n ln cl A5 kl.length c5))
  have HKi := Lib.hid hK
  have HL := Lib.hid hlen
  have HR := Lib.hid hr
  have HE := Lib.hid E
  clear hK hlen hr E
  go_enter Tryd.func25, Tryd.ntmps25
  go_upto_region 1 with (fail)
  generalize hW : w.alloc (.cells #[.int .i64 6, .string t, .int .i64 n, .int .i64 ln, .int .i64 cl, .slice A5 kl.length c5] 33) = w1 at *
  generalize hG : w.heap.size = gb at *
  clear hW hG h
  have HA1 : Hid (After W0 b (.slice A l.length c) v bs [] ind w1 w1) := Lib.hid HEnt.out.after
  obtain ⟨q0, q1, q2, q3, q4, q5, q6⟩ := HEnt.out.q HA1.out
  go_wp2_with fail
  obtain ⟨wd, hwd⟩ : ∃ wd : ByteArray, (⟨#[118, 97, 114, 32]⟩ ++ t) = wd := ⟨_, rfl⟩
  rw [hwd]
  have hwd2 : wd.data.toList = ([118, 97, 114, 32] : List UInt8) ++ t.data.toList := by rw [← hwd]; simp
  have HW := Lib.hid hwd2
  clear hwd hwd2
  go_wp2_with fail
  refine (row_then wd 0 _ rfl HKi.out HE.out (by simp) HA1.out (by have := HL.out; rw [HW.out]; simp [rowT] at this ⊢; omega) h5 HR.out).mono ?_
  rintro e w2 ⟨rfl, hA2⟩
  rw [HW.out] at hA2
  clear q0 q1 q2 q3 q4 q5 q6
  obtain ⟨q0, q1, q2, q3, q4, q5, q6⟩ := HEnt.out.q hA2
  have HA2 := Lib.hid hA2
  clear hA2
  go_wp2_with fail
  refine (put1 ⟨#[59]⟩ HA2.out (by have := HL.out; simp [rowT] at this ⊢; omega)).mono ?_
  rintro e w3 ⟨rfl, hA3⟩
  clear q0 q1 q2 q3 q4 q5 q6
  obtain ⟨q0, q1, q2, q3, q4, q5, q6⟩ := HEnt.out.q hA3
  have HA3 := Lib.hid hA3
  clear hA3
  go_wp2
  first | go_end0 | ((try simp only [Exit.inBlock, Exit.then]); refine bodyPost_ret (results_none rfl _ _ _) rfl ?_)
  exact ⟨rfl, After.then HEnt.out.mv (by simpa using HA3.out)⟩
set_option maxHeartbeats 2000000 in
set_option maxRecDepth 100000 in
theorem decl_7 {W0 : World} {l : List S33} {b : Nat} {A : Option Addr} {c : Nat} {p v : Value} {bs : List UInt8} {ind : ByteArray} {w : World} {t : ByteArray} {n ln cl : Int} {kl : List Int} {A5 : Option Addr} {c5 : Nat} {d0 : Nd}
    (hK : Kids l kl 7 t [d0]) (E : Env W0 l A c) (h : St W0 b (.slice A l.length c) p v bs ind w) (hts : t.size ≤ 140737488355328)
    (hlen : bs.length + (rowT (([102, 110, 32] : List UInt8) ++ t.data.toList) (prk ind.data.toList 7 t 0 [d0])).length ≤ 140737488355328) (h5 : kl.length ≤ c5) (hr : (Kd.int .i64).C W0 A5 kl.length kl) :
    Calls Tryd.prog 25 #[.pointer (some ⟨b, 0, none⟩), .agg #[.int .i64 7, .string t, .int .i64 n, .int .i64 ln, .int .i64 cl, .slice A5 kl.length c5]] w
      fun e w' => e = .returned (.tuple #[]) ∧ After W0 b (.slice A l.length c) v bs (rowT (([102, 110, 32] : List UInt8) ++ t.data.toList) (prk ind.data.toList 7 t 0 [d0])) ind w w' := by
  have HEnt := Lib.hid (Ent.mk' h (box6 7 t n ln cl A5 kl.length c5))
  have HKi := Lib.hid hK
  have HL := Lib.hid hlen
  have HR := Lib.hid hr
  have HE := Lib.hid E
  clear hK hlen hr E
  go_enter Tryd.func25, Tryd.ntmps25
  go_upto_region 1 with (fail)
  generalize hW : w.alloc (.cells #[.int .i64 7, .string t, .int .i64 n, .int .i64 ln, .int .i64 cl, .slice A5 kl.length c5] 33) = w1 at *
  generalize hG : w.heap.size = gb at *
  clear hW hG h
  have HA1 : Hid (After W0 b (.slice A l.length c) v bs [] ind w1 w1) := Lib.hid HEnt.out.after
  obtain ⟨q0, q1, q2, q3, q4, q5, q6⟩ := HEnt.out.q HA1.out
  go_wp2_with fail
  obtain ⟨wd, hwd⟩ : ∃ wd : ByteArray, (⟨#[102, 110, 32]⟩ ++ t) = wd := ⟨_, rfl⟩
  rw [hwd]
  have hwd2 : wd.data.toList = ([102, 110, 32] : List UInt8) ++ t.data.toList := by rw [← hwd]; simp
  have HW := Lib.hid hwd2
  clear hwd hwd2
  go_wp2_with fail
  refine (row_then wd 0 _ rfl HKi.out HE.out (by simp) HA1.out (by have := HL.out; rw [HW.out]; simp [rowT] at this ⊢; omega) h5 HR.out).mono ?_
  rintro e w2 ⟨rfl, hA2⟩
  rw [HW.out] at hA2
  clear q0 q1 q2 q3 q4 q5 q6
  obtain ⟨q0, q1, q2, q3, q4, q5, q6⟩ := HEnt.out.q hA2
  have HA2 := Lib.hid hA2
  clear hA2
  go_wp2
  first | go_end0 | ((try simp only [Exit.inBlock, Exit.then]); refine bodyPost_ret (results_none rfl _ _ _) rfl ?_)
  exact ⟨rfl, After.then HEnt.out.mv (by simpa using HA2.out)⟩
set_option maxHeartbeats 2000000 in
set_option maxRecDepth 100000 in
theorem decl_11 {W0 : World} {l : List S33} {b : Nat} {A : Option Addr} {c : Nat} {p v : Value} {bs : List UInt8} {ind : ByteArray} {w : World} {t : ByteArray} {n ln cl : Int} {kl : List Int} {A5 : Option Addr} {c5 : Nat} {d0 : Nd}
    (hK : Kids l kl 11 t [d0]) (E : Env W0 l A c) (h : St W0 b (.slice A l.length c) p v bs ind w)
    (hlen : bs.length + (rowT (([109, 97, 105, 110] : List UInt8)) (prk ind.data.toList 11 t 0 [d0])).length ≤ 140737488355328) (h5 : kl.length ≤ c5) (hr : (Kd.int .i64).C W0 A5 kl.length kl) :
    Calls Tryd.prog 25 #[.pointer (some ⟨b, 0, none⟩), .agg #[.int .i64 11, .string t, .int .i64 n, .int .i64 ln, .int .i64 cl, .slice A5 kl.length c5]] w
      fun e w' => e = .returned (.tuple #[]) ∧ After W0 b (.slice A l.length c) v bs (rowT (([109, 97, 105, 110] : List UInt8)) (prk ind.data.toList 11 t 0 [d0])) ind w w' := by
  have HEnt := Lib.hid (Ent.mk' h (box6 11 t n ln cl A5 kl.length c5))
  have HKi := Lib.hid hK
  have HL := Lib.hid hlen
  have HR := Lib.hid hr
  have HE := Lib.hid E
  clear hK hlen hr E
  go_enter Tryd.func25, Tryd.ntmps25
  go_upto_region 1 with (fail)
  generalize hW : w.alloc (.cells #[.int .i64 11, .string t, .int .i64 n, .int .i64 ln, .int .i64 cl, .slice A5 kl.length c5] 33) = w1 at *
  generalize hG : w.heap.size = gb at *
  clear hW hG h
  have HA1 : Hid (After W0 b (.slice A l.length c) v bs [] ind w1 w1) := Lib.hid HEnt.out.after
  obtain ⟨q0, q1, q2, q3, q4, q5, q6⟩ := HEnt.out.q HA1.out
  go_wp2_with fail
  refine (row_then ⟨#[109, 97, 105, 110]⟩ 0 _ rfl HKi.out HE.out (by simp) HA1.out (by have := HL.out; simp [rowT] at this ⊢; omega) h5 HR.out).mono ?_
  rintro e w2 ⟨rfl, hA2⟩
  clear q0 q1 q2 q3 q4 q5 q6
  obtain ⟨q0, q1, q2, q3, q4, q5, q6⟩ := HEnt.out.q hA2
  have HA2 := Lib.hid hA2
  clear hA2
  go_wp2
  first | go_end0 | ((try simp only [Exit.inBlock, Exit.then]); refine bodyPost_ret (results_none rfl _ _ _) rfl ?_)
  exact ⟨rfl, After.then HEnt.out.mv (by simpa using HA2.out)⟩
set_option maxHeartbeats 2000000 in
set_option maxRecDepth 100000 in
theorem decl_8 {W0 : World} {l : List S33} {b : Nat} {A : Option Addr} {c : Nat} {p v : Value} {bs : List UInt8} {ind : ByteArray} {w : World} {t : ByteArray} {n ln cl : Int} {kl : List Int} {A5 : Option Addr} {c5 : Nat} {d0 : Nd} {ds : List Nd}
    (hK : Kids l kl 8 t (d0 :: ds)) (E : Env W0 l A c) (h : St W0 b (.slice A l.length c) p v bs ind w)
    (hlen : bs.length + ((([99, 111, 109, 112, 32] : List UInt8) ++ (t.data.toList ++ (([32, 111, 110, 32] : List UInt8)))) ++ (kidT ind.data.toList 8 t 0 d0 ++ (([32] : List UInt8) ++ (bracesT ind.data.toList (ds.map (pr (ind.data.toList ++ [32, 32]))))))).length ≤ 140737488355328) (h5 : kl.length ≤ c5) (hr : (Kd.int .i64).C W0 A5 kl.length kl) :
    Calls Tryd.prog 25 #[.pointer (some ⟨b, 0, none⟩), .agg #[.int .i64 8, .string t, .int .i64 n, .int .i64 ln, .int .i64 cl, .slice A5 kl.length c5]] w
      fun e w' => e = .returned (.tuple #[]) ∧ After W0 b (.slice A l.length c) v bs ((([99, 111, 109, 112, 32] : List UInt8) ++ (t.data.toList ++ (([32, 111, 110, 32] : List UInt8)))) ++ (kidT ind.data.toList 8 t 0 d0 ++ (([32] : List UInt8) ++ (bracesT ind.data.toList (ds.map (pr (ind.data.toList ++ [32, 32]))))))) ind w w' := by
  obtain ⟨i0, hi0, hz0, hz1, hz2⟩ := info_parts info3s
  have hk1 : 1 ≤ kl.length := by have := hK.len; simp at this; omega
  have hcut := cut_from (P := Tryd.prog) 31 3 .i64 Tryd.underlying31 hi0 1 hz1 A5 kl.length c5 1 (by decide) (by omega)
  have hr7 := Kd.C_drop hr hk1 h5
  have hl7 : kl.length - 1 = (kl.drop 1).length := by simp
  have hKB : KidsB l (kl.drop 1) ds := by
    have hl := hK.len
    have hf := hK.few
    simp only [List.length_cons] at hl hf
    refine ⟨fun j hj => ?_, fun j hj => ?_, fun j hj => ?_, by rw [List.length_drop]; omega, by omega⟩
    · obtain ⟨g1, m, g2⟩ := hK.place (j + 1) (by simp only [List.length_cons]; omega)
      refine ⟨by rw [List.length_drop]; omega, m, ?_⟩
      have e : (kl.drop 1).getD j 0 = kl.getD (j + 1) 0 := by simp [List.getD]
      rw [e]; exact g2
    · exact hK.ok (j + 1) (by simp only [List.length_cons]; omega)
    · exact hK.ih (j + 1) (by simp only [List.length_cons]; omega)
  have h57 : (kl.drop 1).length ≤ c5 - 1 := by rw [List.length_drop]; omega
  rw [show ((1 : Int)).toNat = 1 from rfl, hl7] at hcut
  rw [show (1 : Nat) * (Kd.int .i64).sz = 1 * 1 from rfl] at hr7
  generalize (if c5 = 1 then A5 else A5.map (·.add (1 * 1))) = A7 at hcut hr7
  clear hl7 hz0 hz1 hz2
  generalize kl.drop 1 = kl7 at *
  have HR7 := Lib.hid hr7
  have HKB := Lib.hid hKB
  clear hr7 hKB
  have HEnt := Lib.hid (Ent.mk' h (box6 8 t n ln cl A5 kl.length c5))
  have HKi := Lib.hid hK
  have HL := Lib.hid hlen
  have HR := Lib.hid hr
  have HE := Lib.hid E
  clear hK hlen hr E
  go_enter Tryd.func25, Tryd.ntmps25
  go_upto_region 1 with (fail)
  generalize hW : w.alloc (.cells #[.int .i64 8, .string t, .int .i64 n, .int .i64 ln, .int .i64 cl, .slice A5 kl.length c5] 33) = w1 at *
  generalize hG : w.heap.size = gb at *
  clear hW hG h
  have HA1 : Hid (After W0 b (.slice A l.length c) v bs [] ind w1 w1) := Lib.hid HEnt.out.after
  obtain ⟨q0, q1, q2, q3, q4, q5, q6⟩ := HEnt.out.q HA1.out
  go_wp2_with fail
  refine (put3 ⟨#[99, 111, 109, 112, 32]⟩ t ⟨#[32, 111, 110, 32]⟩ HA1.out (by have := HL.out; simp only [List.length_append, List.length_cons, List.length_nil] at this ⊢; omega)).mono ?_
  rintro e w2 ⟨rfl, hA2⟩
  clear q0 q1 q2 q3 q4 q5 q6
  obtain ⟨q0, q1, q2, q3, q4, q5, q6⟩ := HEnt.out.q hA2
  have HA2 := Lib.hid hA2
  clear hA2
  go_wp2_with fail
  refine (kid_d HKi.out HE.out 0 _ rfl d0 rfl HA2.out (by have := HL.out; simp only [List.length_append, List.length_cons, List.length_nil] at this ⊢; omega) h5 HR.out).mono ?_
  rintro e w3 ⟨rfl, hA3⟩
  clear q0 q1 q2 q3 q4 q5 q6
  obtain ⟨q0, q1, q2, q3, q4, q5, q6⟩ := HEnt.out.q hA3
  have HA3 := Lib.hid hA3
  clear hA3
  go_wp2_with fail
  refine (put1 ⟨#[32]⟩ HA3.out (by have := HL.out; simp only [List.length_append, List.length_cons, List.length_nil] at this ⊢; omega)).mono ?_
  rintro e w4 ⟨rfl, hA4⟩
  clear q0 q1 q2 q3 q4 q5 q6
  obtain ⟨q0, q1, q2, q3, q4, q5, q6⟩ := HEnt.out.q hA4
  have HA4 := Lib.hid hA4
  clear hA4
  go_wp2_with fail
  refine (braces_then HKB.out HE.out HA4.out (by have := HL.out; simp only [List.length_append, List.length_cons, List.length_nil] at this ⊢; omega) h57 HR7.out).mono ?_
  rintro e w5 ⟨rfl, hA5⟩
  clear q0 q1 q2 q3 q4 q5 q6
  obtain ⟨q0, q1, q2, q3, q4, q5, q6⟩ := HEnt.out.q hA5
  have HA5 := Lib.hid hA5
  clear hA5
  go_wp2
  first | go_end0 | ((try simp only [Exit.inBlock, Exit.then]); refine bodyPost_ret (results_none rfl _ _ _) rfl ?_)
  exact ⟨rfl, After.then HEnt.out.mv (by simpa using HA5.out)⟩
end Go.Proofs.YtbpefmidgfmcaaaDoor
end
section
set_option linter.unusedVariables false
set_option linter.unusedSimpArgs false
namespace Go.Proofs.YtbpefmidgfmcaaaDoor
open Go.RowKit PTreeApart Go.Proofs.YtbpefmidgfmcaaaDoorW.PrintWords
set_option maxHeartbeats 2000000 in
set_option maxRecDepth 100000 in
theorem decl_9_0 {W0 : World} {l : List S33} {b : Nat} {A : Option Addr} {c : Nat} {p v : Value} {bs : List UInt8} {ind : ByteArray} {w : World} {t : ByteArray} {ln cl : Int} {kl : List Int} {A5 : Option Addr} {c5 : Nat} {d0 : Nd}
    (hK : Kids l kl 9 t [d0]) (E : Env W0 l A c) (h : St W0 b (.slice A l.length c) p v bs ind w)
    (hlen : bs.length + (rowT (lifeT 0) (prk ind.data.toList 9 t 0 [d0])).length ≤ 140737488355328) (h5 : kl.length ≤ c5) (hr : (Kd.int .i64).C W0 A5 kl.length kl) :
    Calls Tryd.prog 25 #[.pointer (some ⟨b, 0, none⟩), .agg #[.int .i64 9, .string t, .int .i64 0, .int .i64 ln, .int .i64 cl, .slice A5 kl.length c5]] w
      fun e w' => e = .returned (.tuple #[]) ∧ After W0 b (.slice A l.length c) v bs (rowT (lifeT 0) (prk ind.data.toList 9 t 0 [d0])) ind w w' := by
  have HEnt := Lib.hid (Ent.mk' h (box6 9 t 0 ln cl A5 kl.length c5))
  have HKi := Lib.hid hK
  have HL := Lib.hid hlen
  have HR := Lib.hid hr
  have HE := Lib.hid E
  clear hK hlen hr E
  go_enter Tryd.func25, Tryd.ntmps25
  go_upto_region 1 with (fail)
  generalize hW : w.alloc (.cells #[.int .i64 9, .string t, .int .i64 0, .int .i64 ln, .int .i64 cl, .slice A5 kl.length c5] 33) = w1 at *
  generalize hG : w.heap.size = gb at *
  clear hW hG h
  have HA1 : Hid (After W0 b (.slice A l.length c) v bs [] ind w1 w1) := Lib.hid HEnt.out.after
  obtain ⟨q0, q1, q2, q3, q4, q5, q6⟩ := HEnt.out.q HA1.out
  go_wp2_with fail
  first
    | (go_region_with (first | (go_at_call 47; refine (row_then ⟨#[99, 114, 101, 97, 116, 101]⟩ 0 _ rfl HKi.out HE.out (by simp) ((HA1.out.alloc _).drewN 1) (by have := HL.out; simp [rowT, lifeT, onT] at this ⊢; omega) h5 HR.out).mono ?_; rintro e w' ⟨rfl, hAz⟩)))
    | fail
  all_goals
    go_wp2
    first | go_end0 | ((try simp only [Exit.inBlock, Exit.then]); refine bodyPost_ret (results_none rfl _ _ _) rfl ?_)
    exact ⟨rfl, After.then HEnt.out.mv (by simpa [lifeT, onT] using hAz)⟩
set_option maxHeartbeats 2000000 in
set_option maxRecDepth 100000 in
theorem decl_9_1 {W0 : World} {l : List S33} {b : Nat} {A : Option Addr} {c : Nat} {p v : Value} {bs : List UInt8} {ind : ByteArray} {w : World} {t : ByteArray} {ln cl : Int} {kl : List Int} {A5 : Option Addr} {c5 : Nat} {d0 : Nd}
    (hK : Kids l kl 9 t [d0]) (E : Env W0 l A c) (h : St W0 b (.slice A l.length c) p v bs ind w)
    (hlen : bs.length + (rowT (lifeT 1) (prk ind.data.toList 9 t 0 [d0])).length ≤ 140737488355328) (h5 : kl.length ≤ c5) (hr : (Kd.int .i64).C W0 A5 kl.length kl) :
    Calls Tryd.prog 25 #[.pointer (some ⟨b, 0, none⟩), .agg #[.int .i64 9, .string t, .int .i64 1, .int .i64 ln, .int .i64 cl, .slice A5 kl.length c5]] w
      fun e w' => e = .returned (.tuple #[]) ∧ After W0 b (.slice A l.length c) v bs (rowT (lifeT 1) (prk ind.data.toList 9 t 0 [d0])) ind w w' := by
  have HEnt := Lib.hid (Ent.mk' h (box6 9 t 1 ln cl A5 kl.length c5))
  have HKi := Lib.hid hK
  have HL := Lib.hid hlen
  have HR := Lib.hid hr
  have HE := Lib.hid E
  clear hK hlen hr E
  go_enter Tryd.func25, Tryd.ntmps25
  go_upto_region 1 with (fail)
  generalize hW : w.alloc (.cells #[.int .i64 9, .string t, .int .i64 1, .int .i64 ln, .int .i64 cl, .slice A5 kl.length c5] 33) = w1 at *
  generalize hG : w.heap.size = gb at *
  clear hW hG h
  have HA1 : Hid (After W0 b (.slice A l.length c) v bs [] ind w1 w1) := Lib.hid HEnt.out.after
  obtain ⟨q0, q1, q2, q3, q4, q5, q6⟩ := HEnt.out.q HA1.out
  go_wp2_with fail
  first
    | (go_region_with (first | (go_at_call 47; refine (row_then ⟨#[115, 116, 97, 114, 116]⟩ 0 _ rfl HKi.out HE.out (by simp) ((HA1.out.alloc _).drewN 1) (by have := HL.out; simp [rowT, lifeT, onT] at this ⊢; omega) h5 HR.out).mono ?_; rintro e w' ⟨rfl, hAz⟩)))
    | fail
  all_goals
    go_wp2
    first | go_end0 | ((try simp only [Exit.inBlock, Exit.then]); refine bodyPost_ret (results_none rfl _ _ _) rfl ?_)
    exact ⟨rfl, After.then HEnt.out.mv (by simpa [lifeT, onT] using hAz)⟩
set_option maxHeartbeats 2000000 in
set_option maxRecDepth 100000 in
theorem decl_9_2 {W0 : World} {l : List S33} {b : Nat} {A : Option Addr} {c : Nat} {p v : Value} {bs : List UInt8} {ind : ByteArray} {w : World} {t : ByteArray} {ln cl : Int} {kl : List Int} {A5 : Option Addr} {c5 : Nat} {d0 : Nd}
    (hK : Kids l kl 9 t [d0]) (E : Env W0 l A c) (h : St W0 b (.slice A l.length c) p v bs ind w)
    (hlen : bs.length + (rowT (lifeT 2) (prk ind.data.toList 9 t 0 [d0])).length ≤ 140737488355328) (h5 : kl.length ≤ c5) (hr : (Kd.int .i64).C W0 A5 kl.length kl) :
    Calls Tryd.prog 25 #[.pointer (some ⟨b, 0, none⟩), .agg #[.int .i64 9, .string t, .int .i64 2, .int .i64 ln, .int .i64 cl, .slice A5 kl.length c5]] w
      fun e w' => e = .returned (.tuple #[]) ∧ After W0 b (.slice A l.length c) v bs (rowT (lifeT 2) (prk ind.data.toList 9 t 0 [d0])) ind w w' := by
  have HEnt := Lib.hid (Ent.mk' h (box6 9 t 2 ln cl A5 kl.length c5))
  have HKi := Lib.hid hK
  have HL := Lib.hid hlen
  have HR := Lib.hid hr
  have HE := Lib.hid E
  clear hK hlen hr E
  go_enter Tryd.func25, Tryd.ntmps25
  go_upto_region 1 with (fail)
  generalize hW : w.alloc (.cells #[.int .i64 9, .string t, .int .i64 2, .int .i64 ln, .int .i64 cl, .slice A5 kl.length c5] 33) = w1 at *
  generalize hG : w.heap.size = gb at *
  clear hW hG h
  have HA1 : Hid (After W0 b (.slice A l.length c) v bs [] ind w1 w1) := Lib.hid HEnt.out.after
  obtain ⟨q0, q1, q2, q3, q4, q5, q6⟩ := HEnt.out.q HA1.out
  go_wp2_with fail
  first
    | (go_region_with (first | (go_at_call 47; refine (row_then ⟨#[115, 116, 111, 112]⟩ 0 _ rfl HKi.out HE.out (by simp) ((HA1.out.alloc _).drewN 1) (by have := HL.out; simp [rowT, lifeT, onT] at this ⊢; omega) h5 HR.out).mono ?_; rintro e w' ⟨rfl, hAz⟩)))
    | fail
  all_goals
    go_wp2
    first | go_end0 | ((try simp only [Exit.inBlock, Exit.then]); refine bodyPost_ret (results_none rfl _ _ _) rfl ?_)
    exact ⟨rfl, After.then HEnt.out.mv (by simpa [lifeT, onT] using hAz)⟩
set_option maxHeartbeats 2000000 in
set_option maxRecDepth 100000 in
theorem decl_9_3 {W0 : World} {l : List S33} {b : Nat} {A : Option Addr} {c : Nat} {p v : Value} {bs : List UInt8} {ind : ByteArray} {w : World} {t : ByteArray} {ln cl : Int} {kl : List Int} {A5 : Option Addr} {c5 : Nat} {d0 : Nd}
    (hK : Kids l kl 9 t [d0]) (E : Env W0 l A c) (h : St W0 b (.slice A l.length c) p v bs ind w)
    (hlen : bs.length + (rowT (lifeT 3) (prk ind.data.toList 9 t 0 [d0])).length ≤ 140737488355328) (h5 : kl.length ≤ c5) (hr : (Kd.int .i64).C W0 A5 kl.length kl) :
    Calls Tryd.prog 25 #[.pointer (some ⟨b, 0, none⟩), .agg #[.int .i64 9, .string t, .int .i64 3, .int .i64 ln, .int .i64 cl, .slice A5 kl.length c5]] w
      fun e w' => e = .returned (.tuple #[]) ∧ After W0 b (.slice A l.length c) v bs (rowT (lifeT 3) (prk ind.data.toList 9 t 0 [d0])) ind w w' := by
  have HEnt := Lib.hid (Ent.mk' h (box6 9 t 3 ln cl A5 kl.length c5))
  have HKi := Lib.hid hK
  have HL := Lib.hid hlen
  have HR := Lib.hid hr
  have HE := Lib.hid E
  clear hK hlen hr E
  go_enter Tryd.func25, Tryd.ntmps25
  go_upto_region 1 with (fail)
  generalize hW : w.alloc (.cells #[.int .i64 9, .string t, .int .i64 3, .int .i64 ln, .int .i64 cl, .slice A5 kl.length c5] 33) = w1 at *
  generalize hG : w.heap.size = gb at *
  clear hW hG h
  have HA1 : Hid (After W0 b (.slice A l.length c) v bs [] ind w1 w1) := Lib.hid HEnt.out.after
  obtain ⟨q0, q1, q2, q3, q4, q5, q6⟩ := HEnt.out.q HA1.out
  go_wp2_with fail
  first
    | (go_region_with (first | (go_at_call 47; refine (row_then ⟨#[100, 101, 115, 116, 114, 111, 121]⟩ 0 _ rfl HKi.out HE.out (by simp) ((HA1.out.alloc _).drewN 1) (by have := HL.out; simp [rowT, lifeT, onT] at this ⊢; omega) h5 HR.out).mono ?_; rintro e w' ⟨rfl, hAz⟩)))
    | fail
  all_goals
    go_wp2
    first | go_end0 | ((try simp only [Exit.inBlock, Exit.then]); refine bodyPost_ret (results_none rfl _ _ _) rfl ?_)
    exact ⟨rfl, After.then HEnt.out.mv (by simpa [lifeT, onT] using hAz)⟩
end Go.Proofs.YtbpefmidgfmcaaaDoor
end
section
set_option linter.unusedVariables false
set_option linter.unusedSimpArgs false
namespace Go.Proofs.YtbpefmidgfmcaaaDoor
open Go.RowKit PTreeApart Go.Proofs.YtbpefmidgfmcaaaDoorW.PrintWords
set_option maxHeartbeats 2000000 in
set_option maxRecDepth 100000 in
theorem decl_10_0 {W0 : World} {l : List S33} {b : Nat} {A : Option Addr} {c : Nat} {p v : Value} {bs : List UInt8} {ind : ByteArray} {w : World} {t : ByteArray} {ln cl : Int} {kl : List Int} {A5 : Option Addr} {c5 : Nat} {d0 d1 : Nd}
    (hK : Kids l kl 10 t [d0, d1]) (E : Env W0 l A c) (h : St W0 b (.slice A l.length c) p v bs ind w)
    (hlen : bs.length + ((([101, 118, 101, 110, 116, 32] : List UInt8) ++ (t.data.toList ++ (([32, 111, 110, 32] : List UInt8)))) ++ (kidT ind.data.toList 10 t 0 d0 ++ (rowT (onT 0) (prk ind.data.toList 10 t 1 ([d0, d1].drop 1))))).length ≤ 140737488355328) (h5 : kl.length ≤ c5) (hr : (Kd.int .i64).C W0 A5 kl.length kl) :
    Calls Tryd.prog 25 #[.pointer (some ⟨b, 0, none⟩), .agg #[.int .i64 10, .string t, .int .i64 0, .int .i64 ln, .int .i64 cl, .slice A5 kl.length c5]] w
      fun e w' => e = .returned (.tuple #[]) ∧ After W0 b (.slice A l.length c) v bs ((([101, 118, 101, 110, 116, 32] : List UInt8) ++ (t.data.toList ++ (([32, 111, 110, 32] : List UInt8)))) ++ (kidT ind.data.toList 10 t 0 d0 ++ (rowT (onT 0) (prk ind.data.toList 10 t 1 ([d0, d1].drop 1))))) ind w w' := by
  have HEnt := Lib.hid (Ent.mk' h (box6 10 t 0 ln cl A5 kl.length c5))
  have HKi := Lib.hid hK
  have HL := Lib.hid hlen
  have HR := Lib.hid hr
  have HE := Lib.hid E
  clear hK hlen hr E
  go_enter Tryd.func25, Tryd.ntmps25
  go_upto_region 1 with (fail)
  generalize hW : w.alloc (.cells #[.int .i64 10, .string t, .int .i64 0, .int .i64 ln, .int .i64 cl, .slice A5 kl.length c5] 33) = w1 at *
  generalize hG : w.heap.size = gb at *
  clear hW hG h
  have HA1 : Hid (After W0 b (.slice A l.length c) v bs [] ind w1 w1) := Lib.hid HEnt.out.after
  obtain ⟨q0, q1, q2, q3, q4, q5, q6⟩ := HEnt.out.q HA1.out
  go_wp2_with fail
  refine (put3 ⟨#[101, 118, 101, 110, 116, 32]⟩ t ⟨#[32, 111, 110, 32]⟩ HA1.out (by have := HL.out; simp only [List.length_append, List.length_cons, List.length_nil] at this ⊢; omega)).mono ?_
  rintro e w2 ⟨rfl, hA2⟩
  clear q0 q1 q2 q3 q4 q5 q6
  obtain ⟨q0, q1, q2, q3, q4, q5, q6⟩ := HEnt.out.q hA2
  have HA2 := Lib.hid hA2
  clear hA2
  go_wp2_with fail
  refine (kid_d HKi.out HE.out 0 _ rfl d0 rfl HA2.out (by have := HL.out; simp only [List.length_append, List.length_cons, List.length_nil] at this ⊢; omega) h5 HR.out).mono ?_
  rintro e w3 ⟨rfl, hA3⟩
  clear q0 q1 q2 q3 q4 q5 q6
  obtain ⟨q0, q1, q2, q3, q4, q5, q6⟩ := HEnt.out.q hA3
  have HA3 := Lib.hid hA3
  clear hA3
  go_wp2_with fail
  first
    | (go_region_with (first | (go_at_call 47; refine (row_then ⟨#[32, 111, 102, 102]⟩ 1 _ rfl HKi.out HE.out (by simp) ((HA3.out.alloc _).drewN 1) (by have := HL.out; simp [rowT, lifeT, onT] at this ⊢; omega) h5 HR.out).mono ?_; rintro e w' ⟨rfl, hAz⟩)))
    | fail
  all_goals
    go_wp2
    first | go_end0 | ((try simp only [Exit.inBlock, Exit.then]); refine bodyPost_ret (results_none rfl _ _ _) rfl ?_)
    exact ⟨rfl, After.then HEnt.out.mv (by simpa [lifeT, onT] using hAz)⟩
set_option maxHeartbeats 2000000 in
set_option maxRecDepth 100000 in
theorem decl_10_1 {W0 : World} {l : List S33} {b : Nat} {A : Option Addr} {c : Nat} {p v : Value} {bs : List UInt8} {ind : ByteArray} {w : World} {t : ByteArray} {ln cl : Int} {kl : List Int} {A5 : Option Addr} {c5 : Nat} {d0 d1 : Nd}
    (hK : Kids l kl 10 t [d0, d1]) (E : Env W0 l A c) (h : St W0 b (.slice A l.length c) p v bs ind w)
    (hlen : bs.length + ((([101, 118, 101, 110, 116, 32] : List UInt8) ++ (t.data.toList ++ (([32, 111, 110, 32] : List UInt8)))) ++ (kidT ind.data.toList 10 t 0 d0 ++ (rowT (onT 1) (prk ind.data.toList 10 t 1 ([d0, d1].drop 1))))).length ≤ 140737488355328) (h5 : kl.length ≤ c5) (hr : (Kd.int .i64).C W0 A5 kl.length kl) :
    Calls Tryd.prog 25 #[.pointer (some ⟨b, 0, none⟩), .agg #[.int .i64 10, .string t, .int .i64 1, .int .i64 ln, .int .i64 cl, .slice A5 kl.length c5]] w
      fun e w' => e = .returned (.tuple #[]) ∧ After W0 b (.slice A l.length c) v bs ((([101, 118, 101, 110, 116, 32] : List UInt8) ++ (t.data.toList ++ (([32, 111, 110, 32] : List UInt8)))) ++ (kidT ind.data.toList 10 t 0 d0 ++ (rowT (onT 1) (prk ind.data.toList 10 t 1 ([d0, d1].drop 1))))) ind w w' := by
  have HEnt := Lib.hid (Ent.mk' h (box6 10 t 1 ln cl A5 kl.length c5))
  have HKi := Lib.hid hK
  have HL := Lib.hid hlen
  have HR := Lib.hid hr
  have HE := Lib.hid E
  clear hK hlen hr E
  go_enter Tryd.func25, Tryd.ntmps25
  go_upto_region 1 with (fail)
  generalize hW : w.alloc (.cells #[.int .i64 10, .string t, .int .i64 1, .int .i64 ln, .int .i64 cl, .slice A5 kl.length c5] 33) = w1 at *
  generalize hG : w.heap.size = gb at *
  clear hW hG h
  have HA1 : Hid (After W0 b (.slice A l.length c) v bs [] ind w1 w1) := Lib.hid HEnt.out.after
  obtain ⟨q0, q1, q2, q3, q4, q5, q6⟩ := HEnt.out.q HA1.out
  go_wp2_with fail
  refine (put3 ⟨#[101, 118, 101, 110, 116, 32]⟩ t ⟨#[32, 111, 110, 32]⟩ HA1.out (by have := HL.out; simp only [List.length_append, List.length_cons, List.length_nil] at this ⊢; omega)).mono ?_
  rintro e w2 ⟨rfl, hA2⟩
  clear q0 q1 q2 q3 q4 q5 q6
  obtain ⟨q0, q1, q2, q3, q4, q5, q6⟩ := HEnt.out.q hA2
  have HA2 := Lib.hid hA2
  clear hA2
  go_wp2_with fail
  refine (kid_d HKi.out HE.out 0 _ rfl d0 rfl HA2.out (by have := HL.out; simp only [List.length_append, List.length_cons, List.length_nil] at this ⊢; omega) h5 HR.out).mono ?_
  rintro e w3 ⟨rfl, hA3⟩
  clear q0 q1 q2 q3 q4 q5 q6
  obtain ⟨q0, q1, q2, q3, q4, q5, q6⟩ := HEnt.out.q hA3
  have HA3 := Lib.hid hA3
  clear hA3
  go_wp2_with fail
  first
    | (go_region_with (first | (go_at_call 47; refine (row_then ⟨#[32, 111, 110]⟩ 1 _ rfl HKi.out HE.out (by simp) ((HA3.out.alloc _).drewN 1) (by have := HL.out; simp [rowT, lifeT, onT] at this ⊢; omega) h5 HR.out).mono ?_; rintro e w' ⟨rfl, hAz⟩)))
    | fail
  all_goals
    go_wp2
    first | go_end0 | ((try simp only [Exit.inBlock, Exit.then]); refine bodyPost_ret (results_none rfl _ _ _) rfl ?_)
    exact ⟨rfl, After.then HEnt.out.mv (by simpa [lifeT, onT] using hAz)⟩
end Go.Proofs.YtbpefmidgfmcaaaDoor
end
section
set_option linter.unusedVariables false
set_option linter.unusedSimpArgs false
namespace Go.Proofs.YtbpefmidgfmcaaaDoor
open Go.RowKit PTreeApart Go.Proofs.YtbpefmidgfmcaaaDoorW.PrintWords
set_option maxHeartbeats 1000000 in
theorem decl_all {W0 : World} {l : List S33} {b : Nat} {A : Option Addr} {c : Nat} {p v : Value} {bs : List UInt8} {ind : ByteArray} {w : World} {k : Int} {t : ByteArray} {n ln cl : Int} {kl : List Int} {A5 : Option Addr} {c5 : Nat} {ds : List Nd}
    (hk1 : 2 ≤ k) (hk2 : k ≤ 11) (hO : kidsOk k (ds.map Nd.kind)) (hN : numOk k n) (hK : Kids l kl k t ds) (E : Env W0 l A c) (h : St W0 b (.slice A l.length c) p v bs ind w) (hts : t.size ≤ 140737488355328)
    (hlen : bs.length + (asm k t.data.toList n (third ds) ind.data.toList (prs ind.data.toList k t 0 ds)).length ≤ 140737488355328) (h5 : kl.length ≤ c5) (hr : (Kd.int .i64).C W0 A5 kl.length kl) :
    Calls Tryd.prog 25 #[.pointer (some ⟨b, 0, none⟩), .agg #[.int .i64 k, .string t, .int .i64 n, .int .i64 ln, .int .i64 cl, .slice A5 kl.length c5]] w
      fun e w' => e = .returned (.tuple #[]) ∧ After W0 b (.slice A l.length c) v bs (asm k t.data.toList n (third ds) ind.data.toList (prs ind.data.toList k t 0 ds)) ind w w' := by
  have hk : k = 2 ∨ k = 3 ∨ k = 4 ∨ k = 5 ∨ k = 6 ∨ k = 7 ∨ k = 8 ∨ k = 9 ∨ k = 10 ∨ k = 11 := by omega
  rcases hk with rfl | rfl | rfl | rfl | rfl | rfl | rfl | rfl | rfl | rfl
  · obtain rfl : ds = [] := by simpa [kidsOk] using hO
    have hT : asm 2 t.data.toList n (third []) ind.data.toList (prs ind.data.toList 2 t 0 []) = (([108, 111, 111, 112, 101, 114, 32] : List UInt8) ++ (t.data.toList ++ (([59] : List UInt8)))) := by
      simp [asm, prs_prk _ _ _ (by decide : (2 : Int) ≠ 12) (by decide : (2 : Int) ≠ 8), prk]
    rw [hT] at hlen ⊢
    exact decl_2 hK E h hlen h5 hr
  · have hT : asm 3 t.data.toList n (third ds) ind.data.toList (prs ind.data.toList 3 t 0 ds) = rowT (([99, 108, 97, 115, 115, 32] : List UInt8) ++ t.data.toList ++ ([32, 123] : List UInt8)) (prk ind.data.toList 3 t 0 ds) ++ (([32, 125] : List UInt8)) := by
      simp [asm, prs_prk _ _ _ (by decide : (3 : Int) ≠ 12) (by decide : (3 : Int) ≠ 8), prk]
    rw [hT] at hlen ⊢
    exact decl_3 hK E h hts hlen h5 hr
  · obtain ⟨d0, rfl⟩ : ∃ d0, ds = [d0] := one_of (by simpa [kidsOk] using hO)
    have hT : asm 4 t.data.toList n (third [d0]) ind.data.toList (prs ind.data.toList 4 t 0 [d0]) = rowT (t.data.toList) (prk ind.data.toList 4 t 0 [d0]) ++ (([59] : List UInt8)) := by
      simp [asm, prs_prk _ _ _ (by decide : (4 : Int) ≠ 12) (by decide : (4 : Int) ≠ 8), prk]
    rw [hT] at hlen ⊢
    exact decl_4 hK E h hlen h5 hr
  · obtain rfl : ds = [] := by simpa [kidsOk] using hO
    have hT : asm 5 t.data.toList n (third []) ind.data.toList (prs ind.data.toList 5 t 0 []) = t.data.toList := by
      simp [asm, prs_prk _ _ _ (by decide : (5 : Int) ≠ 12) (by decide : (5 : Int) ≠ 8), prk]
    rw [hT] at hlen ⊢
    exact decl_5 hK E h hlen h5 hr
  · obtain ⟨d0, rfl⟩ : ∃ d0, ds = [d0] := one_of (by simpa [kidsOk] using hO)
    have hT : asm 6 t.data.toList n (third [d0]) ind.data.toList (prs ind.data.toList 6 t 0 [d0]) = rowT (([118, 97, 114, 32] : List UInt8) ++ t.data.toList) (prk ind.data.toList 6 t 0 [d0]) ++ (([59] : List UInt8)) := by
      simp [asm, prs_prk _ _ _ (by decide : (6 : Int) ≠ 12) (by decide : (6 : Int) ≠ 8), prk]
    rw [hT] at hlen ⊢
    exact decl_6 hK E h hts hlen h5 hr
  · obtain ⟨d0, rfl⟩ : ∃ d0, ds = [d0] := one_of (by simpa [kidsOk] using hO)
    have hT : asm 7 t.data.toList n (third [d0]) ind.data.toList (prs ind.data.toList 7 t 0 [d0]) = rowT (([102, 110, 32] : List UInt8) ++ t.data.toList) (prk ind.data.toList 7 t 0 [d0]) := by
      simp [asm, prs_prk _ _ _ (by decide : (7 : Int) ≠ 12) (by decide : (7 : Int) ≠ 8), prk]
    rw [hT] at hlen ⊢
    exact decl_7 hK E h hts hlen h5 hr
  · obtain ⟨r, h1, _⟩ : ∃ r, ds.map Nd.kind = 29 :: r ∧ ∀ x ∈ r, x = 9 := by simpa [kidsOk] using hO
    obtain ⟨d0, ds, rfl⟩ : ∃ d0 ds', ds = d0 :: ds' := by cases ds with | nil => simp at h1 | cons a b => exact ⟨a, b, rfl⟩
    have hT : asm 8 t.data.toList n (third (d0 :: ds)) ind.data.toList (prs ind.data.toList 8 t 0 (d0 :: ds)) = (([99, 111, 109, 112, 32] : List UInt8) ++ (t.data.toList ++ (([32, 111, 110, 32] : List UInt8)))) ++ (kidT ind.data.toList 8 t 0 d0 ++ (([32] : List UInt8) ++ (bracesT ind.data.toList (ds.map (pr (ind.data.toList ++ [32, 32])))))) := by
      have hm : must 8 t 0 = 0 := must_zero _ _ _ (by decide); have hp : par 8 t 0 d0.kind d0.text = false := par_must _ _ _ _ _ hm; simp [asm, prs, prs_comp, kidT, hp, deep, parT]
    rw [hT] at hlen ⊢
    exact decl_8 hK E h hlen h5 hr
  · obtain ⟨d0, rfl⟩ : ∃ d0, ds = [d0] := one_of (by simpa [kidsOk] using hO)
    have hn : 0 ≤ n ∧ n ≤ 3 := by simpa [numOk] using hN
    have hn4 : n = 0 ∨ n = 1 ∨ n = 2 ∨ n = 3 := by omega
    rcases hn4 with rfl | rfl | rfl | rfl
    · have hT : asm 9 t.data.toList 0 (third [d0]) ind.data.toList (prs ind.data.toList 9 t 0 [d0]) = rowT (lifeT 0) (prk ind.data.toList 9 t 0 [d0]) := by
        simp [asm, prs_prk _ _ _ (by decide : (9 : Int) ≠ 12) (by decide : (9 : Int) ≠ 8), prk]
      rw [hT] at hlen ⊢
      exact decl_9_0 hK E h hlen h5 hr
    · have hT : asm 9 t.data.toList 1 (third [d0]) ind.data.toList (prs ind.data.toList 9 t 0 [d0]) = rowT (lifeT 1) (prk ind.data.toList 9 t 0 [d0]) := by
        simp [asm, prs_prk _ _ _ (by decide : (9 : Int) ≠ 12) (by decide : (9 : Int) ≠ 8), prk]
      rw [hT] at hlen ⊢
      exact decl_9_1 hK E h hlen h5 hr
    · have hT : asm 9 t.data.toList 2 (third [d0]) ind.data.toList (prs ind.data.toList 9 t 0 [d0]) = rowT (lifeT 2) (prk ind.data.toList 9 t 0 [d0]) := by
        simp [asm, prs_prk _ _ _ (by decide : (9 : Int) ≠ 12) (by decide : (9 : Int) ≠ 8), prk]
      rw [hT] at hlen ⊢
      exact decl_9_2 hK E h hlen h5 hr
    · have hT : asm 9 t.data.toList 3 (third [d0]) ind.data.toList (prs ind.data.toList 9 t 0 [d0]) = rowT (lifeT 3) (prk ind.data.toList 9 t 0 [d0]) := by
        simp [asm, prs_prk _ _ _ (by decide : (9 : Int) ≠ 12) (by decide : (9 : Int) ≠ 8), prk]
      rw [hT] at hlen ⊢
      exact decl_9_3 hK E h hlen h5 hr
  · obtain ⟨d0, d1, rfl⟩ : ∃ d0 d1, ds = [d0, d1] := two_of (by simpa [kidsOk] using hO)
    have hn : n = 0 ∨ n = 1 := by simpa [numOk] using hN
    rcases hn with rfl | rfl
    · have hT : asm 10 t.data.toList 0 (third [d0, d1]) ind.data.toList (prs ind.data.toList 10 t 0 [d0, d1]) = (([101, 118, 101, 110, 116, 32] : List UInt8) ++ (t.data.toList ++ (([32, 111, 110, 32] : List UInt8)))) ++ (kidT ind.data.toList 10 t 0 d0 ++ (rowT (onT 0) (prk ind.data.toList 10 t 1 ([d0, d1].drop 1)))) := by
        simp [asm, prs_prk _ _ _ (by decide : (10 : Int) ≠ 12) (by decide : (10 : Int) ≠ 8), prk]
      rw [hT] at hlen ⊢
      exact decl_10_0 hK E h hlen h5 hr
    · have hT : asm 10 t.data.toList 1 (third [d0, d1]) ind.data.toList (prs ind.data.toList 10 t 0 [d0, d1]) = (([101, 118, 101, 110, 116, 32] : List UInt8) ++ (t.data.toList ++ (([32, 111, 110, 32] : List UInt8)))) ++ (kidT ind.data.toList 10 t 0 d0 ++ (rowT (onT 1) (prk ind.data.toList 10 t 1 ([d0, d1].drop 1)))) := by
        simp [asm, prs_prk _ _ _ (by decide : (10 : Int) ≠ 12) (by decide : (10 : Int) ≠ 8), prk]
      rw [hT] at hlen ⊢
      exact decl_10_1 hK E h hlen h5 hr
  · obtain ⟨d0, rfl⟩ : ∃ d0, ds = [d0] := one_of (by simpa [kidsOk] using hO)
    have hT : asm 11 t.data.toList n (third [d0]) ind.data.toList (prs ind.data.toList 11 t 0 [d0]) = rowT (([109, 97, 105, 110] : List UInt8)) (prk ind.data.toList 11 t 0 [d0]) := by
      simp [asm, prs_prk _ _ _ (by decide : (11 : Int) ≠ 12) (by decide : (11 : Int) ≠ 8), prk]
    rw [hT] at hlen ⊢
    exact decl_11 hK E h hlen h5 hr
end Go.Proofs.YtbpefmidgfmcaaaDoor
end
section
set_option linter.unusedVariables false
set_option linter.unusedSimpArgs false
namespace Go.Proofs.YtbpefmidgfmcaaaDoor
open Go.RowKit PTreeApart Go.Proofs.YtbpefmidgfmcaaaDoorW.PrintWords
theorem Kids.of {l : List S33} {kl : List Int} {k : Int} {t : ByteArray} {n ne : Int} {ds : List Nd} {c nx : Int} (hl : l.length ≤ 300) (h0 : 0 ≤ c) (hcl : c ≤ l.length) (hT : Trs l kl 0 ds c nx) (hO : Oks k t 0 ds ne) (ih : ∀ d ∈ ds, TwigOk l d) : Kids l kl k t ds := by
  refine ⟨fun j hj => ?_, fun j hj => ?_, fun j hj => ih _ (List.getElem_mem hj), ?_, ?_⟩
  · have := hT.kid j hj
    rwa [Nat.zero_add] at this
  · exact ⟨_, hO.kid j hj⟩
  · have := hT.len
    omega
  · have h1 := Trs.next ds hT
    have h2 := length_cnts ds
    have h3 := h1.2 hcl
    omega
/-- A form of the call of a printer's method. -/
def Meth (f : Nat) (l : List S33) (d : Nd) : Prop :=
  ∀ (W0 : World) (b : Nat) (A : Option Addr) (c : Nat) (ln cl : Int) (kl : List Int) (p v : Value) (bs : List UInt8) (ind : ByteArray) (w : World) (A5 : Option Addr) (c5 : Nat),
    Env W0 l A c → Kids l kl d.kind d.text d.kids → St W0 b (.slice A l.length c) p v bs ind w → bs.length + (pr ind.data.toList d).length ≤ 140737488355328 →
    kl.length ≤ c5 → (Kd.int .i64).C W0 A5 kl.length kl →
    Calls Tryd.prog f #[.pointer (some ⟨b, 0, none⟩), .agg #[.int .i64 d.kind, .string d.text, .int .i64 d.num, .int .i64 ln, .int .i64 cl, .slice A5 kl.length c5]] w
      fun e w' => e = .returned (.tuple #[]) ∧ After W0 b (.slice A l.length c) v bs (pr ind.data.toList d) ind w w'
theorem Meth.then {f : Nat} {l : List S33} {d : Nd} (hM : Meth f l d) {W0 : World} {b : Nat} {A : Option Addr} {c : Nat} {v : Value} {bs out : List UInt8} {ind : ByteArray} {w0 w : World} {ln cl : Int} {kl : List Int} {A5 : Option Addr} {c5 : Nat} {k n : Int} {t : ByteArray} (hk : d.kind = k) (ht : d.text = t) (hn : d.num = n)
    (hK : Kids l kl d.kind d.text d.kids) (E : Env W0 l A c) (h : After W0 b (.slice A l.length c) v bs out ind w0 w)
    (hlen : bs.length + (out ++ pr ind.data.toList d).length ≤ 140737488355328) (h5 : kl.length ≤ c5) (hr : (Kd.int .i64).C W0 A5 kl.length kl) :
    Calls Tryd.prog f #[.pointer (some ⟨b, 0, none⟩), .agg #[.int .i64 k, .string t, .int .i64 n, .int .i64 ln, .int .i64 cl, .slice A5 kl.length c5]] w
      fun e w' => e = .returned (.tuple #[]) ∧ After W0 b (.slice A l.length c) v bs (out ++ pr ind.data.toList d) ind w0 w' := by
  subst hk ht hn
  refine h.calls (Below.refl _ _) (fun p' v' hs => ?_)
  exact hM W0 b A c ln cl kl p' v' _ ind w A5 c5 E hK hs (by rw [List.length_append] at hlen ⊢; omega) h5 hr
theorem meth_term {l : List S33} {d : Nd} {ne : Int} (h1 : 26 ≤ d.kind) (h2 : d.kind ≤ 36) (hO : Ok d ne) : Meth 24 l d := by
  intro W0 b A c ln cl kl p v bs ind w A5 c5 E hK h hlen h5 hr
  cases d with
  | mk k t n ks => exact term_all h1 h2 hO.2.2.2.2.2.1 hO.2.2.2.2.1 hK E h hlen h5 hr
theorem meth_stmt {l : List S33} {d : Nd} {ne : Int} (h1 : 13 ≤ d.kind) (h2 : d.kind ≤ 25) (hO : Ok d ne) : Meth 22 l d := by
  intro W0 b A c ln cl kl p v bs ind w A5 c5 E hK h hlen h5 hr
  cases d with
  | mk k t n ks => exact stmt_all h1 h2 hO.2.2.2.2.2.1 hO.2.2.2.2.1 hK E h hlen h5 hr
theorem size_of_len {t : ByteArray} {B : Nat} (h : t.data.toList.length ≤ B) : t.size ≤ B := by
  have : t.size = t.data.toList.length := by rw [Array.length_toList]; rfl
  omega
theorem meth_decl {l : List S33} {d : Nd} {ne : Int} (h1 : 2 ≤ d.kind) (h2 : d.kind ≤ 11) (hO : Ok d ne) (hts : d.text.size ≤ 140737488355328) : Meth 25 l d := by
  intro W0 b A c ln cl kl p v bs ind w A5 c5 E hK h hlen h5 hr
  cases d with
  | mk k t n ks => exact decl_all h1 h2 hO.2.2.2.2.2.1 hO.2.2.2.2.1 hK E h hts hlen h5 hr
end Go.Proofs.YtbpefmidgfmcaaaDoor
end
section
set_option linter.unusedVariables false
set_option linter.unusedSimpArgs false
namespace Go.Proofs.YtbpefmidgfmcaaaDoor
open Go.RowKit PTreeApart Go.Proofs.YtbpefmidgfmcaaaDoorW.PrintWords
theorem stmt_is (k : Int) (r : Bool) (w : World) (h : decide (13 ≤ k ∧ k ≤ 25) = r) : Calls Tryd.prog 21 #[.int .i64 k] w fun e w' => e = .returned (.bool r) ∧ ∃ nd, w' = w.drewN nd := by
  refine (tree_statement.calls k r w ?_).mono (fun e w' h => ⟨h.1, (by obtain ⟨_, ⟨nd, h2⟩⟩ := h; exact ⟨nd, h2⟩)⟩)
  unfold tree_statement.f
  rw [← h]
  by_cases h1 : k ≥ 13
  · rw [if_pos h1]; congr 1; rw [Bool.eq_iff_iff]; simp; omega
  · rw [if_neg h1]; congr 1; symm; exact decide_eq_false (by omega)
theorem term_is (k : Int) (r : Bool) (w : World) (h : decide (26 ≤ k ∧ k ≤ 36) = r) : Calls Tryd.prog 23 #[.int .i64 k] w fun e w' => e = .returned (.bool r) ∧ ∃ nd, w' = w.drewN nd := by
  refine (tree_Term.calls k r w ?_).mono (fun e w' h => ⟨h.1, (by obtain ⟨_, ⟨nd, h2⟩⟩ := h; exact ⟨nd, h2⟩)⟩)
  unfold tree_Term.f
  rw [← h]
  by_cases h1 : k ≥ 26
  · rw [if_pos h1]; congr 1; rw [Bool.eq_iff_iff]; simp; omega
  · rw [if_neg h1]; congr 1; symm; exact decide_eq_false (by omega)
set_option maxHeartbeats 2000000 in
set_option maxRecDepth 100000 in
theorem twig_stmt {l : List S33} {d : Nd} (hM : Meth 22 l d) (h1 : 13 ≤ d.kind) (h2 : d.kind ≤ 25) : Meth 11 l d := by
  intro W0 b A c ln cl kl p v bs ind w A5 c5 E hK h hlen h5 hr
  generalize hgk : d.kind = k at *
  generalize hgt : d.text = t at *
  generalize hgn : d.num = n at *
  have HEnt := Lib.hid (Ent.mk' h (box6 k t n ln cl A5 kl.length c5))
  have HKi := Lib.hid hK
  have HL := Lib.hid hlen
  have HR := Lib.hid hr
  have HE := Lib.hid E
  have HM := Lib.hid hM
  have HK := Lib.hid hgk
  have HT := Lib.hid hgt
  have HN := Lib.hid hgn
  have t1 : (k == 1) = false := by simpa using (by omega : k ≠ 1)
  have t12 : (k == 12) = false := by simpa using (by omega : k ≠ 12)
  clear hK hlen hr E hM hgk hgt hgn
  go_enter Tryd.func11, Tryd.ntmps11
  go_upto_region 2 with (fail)
  generalize hW : w.alloc (.cells #[.int .i64 k, .string t, .int .i64 n, .int .i64 ln, .int .i64 cl, .slice A5 kl.length c5] 33) = w1 at *
  generalize hG : w.heap.size = gb at *
  clear hW hG h
  obtain ⟨q0, q1, q2, q3, q4, q5, q6⟩ := HEnt.out.q HEnt.out.after
  go_wp2_with fail
  refine (stmt_is k true _ (decide_eq_true ⟨h1, h2⟩)).mono ?_
  rintro e w2 ⟨rfl, nd, hw2⟩
  have hA2 : After W0 b (.slice A l.length c) v bs [] ind w1 w2 := by rw [hw2]; exact HEnt.out.after.drewN nd
  clear hw2 q0 q1 q2 q3 q4 q5 q6
  obtain ⟨q0, q1, q2, q3, q4, q5, q6⟩ := HEnt.out.q hA2
  have HA2 := Lib.hid hA2
  clear hA2
  go_wp2_with fail
  refine (HM.out.then HK.out HT.out HN.out (by rw [HK.out, HT.out]; exact HKi.out) HE.out HA2.out (by have := HL.out; simpa using this) h5 HR.out).mono ?_
  rintro e w3 ⟨rfl, hA3⟩
  have HA3 := Lib.hid hA3
  clear hA3 q0 q1 q2 q3 q4 q5 q6
  go_wp2
  first | go_end0 | ((try simp only [Exit.inBlock, Exit.then]); refine bodyPost_ret (results_none rfl _ _ _) rfl ?_)
  exact ⟨rfl, After.then HEnt.out.mv (by simpa using HA3.out)⟩
set_option maxHeartbeats 2000000 in
set_option maxRecDepth 100000 in
theorem twig_term {l : List S33} {d : Nd} (hM : Meth 24 l d) (h1 : 26 ≤ d.kind) (h2 : d.kind ≤ 36) : Meth 11 l d := by
  intro W0 b A c ln cl kl p v bs ind w A5 c5 E hK h hlen h5 hr
  generalize hgk : d.kind = k at *
  generalize hgt : d.text = t at *
  generalize hgn : d.num = n at *
  have HEnt := Lib.hid (Ent.mk' h (box6 k t n ln cl A5 kl.length c5))
  have HKi := Lib.hid hK
  have HL := Lib.hid hlen
  have HR := Lib.hid hr
  have HE := Lib.hid E
  have HM := Lib.hid hM
  have HK := Lib.hid hgk
  have HT := Lib.hid hgt
  have HN := Lib.hid hgn
  have t1 : (k == 1) = false := by simpa using (by omega : k ≠ 1)
  have t12 : (k == 12) = false := by simpa using (by omega : k ≠ 12)
  clear hK hlen hr E hM hgk hgt hgn
  go_enter Tryd.func11, Tryd.ntmps11
  go_upto_region 2 with (fail)
  generalize hW : w.alloc (.cells #[.int .i64 k, .string t, .int .i64 n, .int .i64 ln, .int .i64 cl, .slice A5 kl.length c5] 33) = w1 at *
  generalize hG : w.heap.size = gb at *
  clear hW hG h
  obtain ⟨q0, q1, q2, q3, q4, q5, q6⟩ := HEnt.out.q HEnt.out.after
  go_wp2_with fail
  refine (stmt_is k false _ (decide_eq_false (by omega))).mono ?_
  rintro e w2 ⟨rfl, nd, hw2⟩
  have hA2 : After W0 b (.slice A l.length c) v bs [] ind w1 w2 := by rw [hw2]; exact HEnt.out.after.drewN nd
  clear hw2 q0 q1 q2 q3 q4 q5 q6
  obtain ⟨q0, q1, q2, q3, q4, q5, q6⟩ := HEnt.out.q hA2
  have HA2 := Lib.hid hA2
  clear hA2
  go_wp2_with fail
  refine (term_is k true _ (decide_eq_true ⟨h1, h2⟩)).mono ?_
  rintro e w2b ⟨rfl, nd, hw2b⟩
  have hA2b : After W0 b (.slice A l.length c) v bs [] ind w1 w2b := by rw [hw2b]; exact HA2.out.drewN nd
  clear hw2b q0 q1 q2 q3 q4 q5 q6
  obtain ⟨q0, q1, q2, q3, q4, q5, q6⟩ := HEnt.out.q hA2b
  have HA2b := Lib.hid hA2b
  clear hA2b
  go_wp2_with fail
  refine (HM.out.then HK.out HT.out HN.out (by rw [HK.out, HT.out]; exact HKi.out) HE.out HA2b.out (by have := HL.out; simpa using this) h5 HR.out).mono ?_
  rintro e w3 ⟨rfl, hA3⟩
  have HA3 := Lib.hid hA3
  clear hA3 q0 q1 q2 q3 q4 q5 q6
  go_wp2
  first | go_end0 | ((try simp only [Exit.inBlock, Exit.then]); refine bodyPost_ret (results_none rfl _ _ _) rfl ?_)
  exact ⟨rfl, After.then HEnt.out.mv (by simpa using HA3.out)⟩
set_option maxHeartbeats 2000000 in
set_option maxRecDepth 100000 in
theorem twig_decl {l : List S33} {d : Nd} (hM : Meth 25 l d) (h1 : 2 ≤ d.kind) (h2 : d.kind ≤ 11) : Meth 11 l d := by
  intro W0 b A c ln cl kl p v bs ind w A5 c5 E hK h hlen h5 hr
  generalize hgk : d.kind = k at *
  generalize hgt : d.text = t at *
  generalize hgn : d.num = n at *
  have HEnt := Lib.hid (Ent.mk' h (box6 k t n ln cl A5 kl.length c5))
  have HKi := Lib.hid hK
  have HL := Lib.hid hlen
  have HR := Lib.hid hr
  have HE := Lib.hid E
  have HM := Lib.hid hM
  have HK := Lib.hid hgk
  have HT := Lib.hid hgt
  have HN := Lib.hid hgn
  have t1 : (k == 1) = false := by simpa using (by omega : k ≠ 1)
  have t12 : (k == 12) = false := by simpa using (by omega : k ≠ 12)
  clear hK hlen hr E hM hgk hgt hgn
  go_enter Tryd.func11, Tryd.ntmps11
  go_upto_region 2 with (fail)
  generalize hW : w.alloc (.cells #[.int .i64 k, .string t, .int .i64 n, .int .i64 ln, .int .i64 cl, .slice A5 kl.length c5] 33) = w1 at *
  generalize hG : w.heap.size = gb at *
  clear hW hG h
  obtain ⟨q0, q1, q2, q3, q4, q5, q6⟩ := HEnt.out.q HEnt.out.after
  go_wp2_with fail
  refine (stmt_is k false _ (decide_eq_false (by omega))).mono ?_
  rintro e w2 ⟨rfl, nd, hw2⟩
  have hA2 : After W0 b (.slice A l.length c) v bs [] ind w1 w2 := by rw [hw2]; exact HEnt.out.after.drewN nd
  clear hw2 q0 q1 q2 q3 q4 q5 q6
  obtain ⟨q0, q1, q2, q3, q4, q5, q6⟩ := HEnt.out.q hA2
  have HA2 := Lib.hid hA2
  clear hA2
  go_wp2_with fail
  refine (term_is k false _ (decide_eq_false (by omega))).mono ?_
  rintro e w2b ⟨rfl, nd, hw2b⟩
  have hA2b : After W0 b (.slice A l.length c) v bs [] ind w1 w2b := by rw [hw2b]; exact HA2.out.drewN nd
  clear hw2b q0 q1 q2 q3 q4 q5 q6
  obtain ⟨q0, q1, q2, q3, q4, q5, q6⟩ := HEnt.out.q hA2b
  have HA2b := Lib.hid hA2b
  clear hA2b
  go_wp2_with fail
  refine (HM.out.then HK.out HT.out HN.out (by rw [HK.out, HT.out]; exact HKi.out) HE.out HA2b.out (by have := HL.out; simpa using this) h5 HR.out).mono ?_
  rintro e w3 ⟨rfl, hA3⟩
  have HA3 := Lib.hid hA3
  clear hA3 q0 q1 q2 q3 q4 q5 q6
  go_wp2
  first | go_end0 | ((try simp only [Exit.inBlock, Exit.then]); refine bodyPost_ret (results_none rfl _ _ _) rfl ?_)
  exact ⟨rfl, After.then HEnt.out.mv (by simpa using HA3.out)⟩
set_option maxHeartbeats 2000000 in
set_option maxRecDepth 100000 in
theorem twig_block {l : List S33} {d : Nd} (h12 : d.kind = 12) : Meth 11 l d := by
  intro W0 b A c ln cl kl p v bs ind w A5 c5 E hK h hlen h5 hr
  have hKB : KidsB l kl d.kids := ⟨hK.place, hK.ok, hK.ih, hK.len, hK.few⟩
  have hT12 : pr ind.data.toList d = bracesT ind.data.toList (d.kids.map (pr (ind.data.toList ++ [32, 32]))) := by
    cases d with
    | mk k t n ks =>
      obtain rfl : k = 12 := h12
      simp [pr, asm, prs_block, Nd.kids]
  rw [hT12] at hlen ⊢
  rw [h12] at hK ⊢
  have HKB := Lib.hid hKB
  clear hT12 hKB
  generalize hgt : d.text = t at *
  generalize hgn : d.num = n at *
  have HEnt := Lib.hid (Ent.mk' h (box6 12 t n ln cl A5 kl.length c5))
  have HKi := Lib.hid hK
  have HL := Lib.hid hlen
  have HR := Lib.hid hr
  have HE := Lib.hid E
  have HT := Lib.hid hgt
  have HN := Lib.hid hgn
  clear hK hlen hr E hgt hgn
  go_enter Tryd.func11, Tryd.ntmps11
  go_upto_region 2 with (fail)
  generalize hW : w.alloc (.cells #[.int .i64 12, .string t, .int .i64 n, .int .i64 ln, .int .i64 cl, .slice A5 kl.length c5] 33) = w1 at *
  generalize hG : w.heap.size = gb at *
  clear hW hG h
  obtain ⟨q0, q1, q2, q3, q4, q5, q6⟩ := HEnt.out.q HEnt.out.after
  go_wp2_with fail
  refine (braces_then HKB.out HE.out HEnt.out.after (by have := HL.out; simpa using this) h5 HR.out).mono ?_
  rintro e w3 ⟨rfl, hA3⟩
  have HA3 := Lib.hid hA3
  clear hA3 q0 q1 q2 q3 q4 q5 q6
  go_wp2
  first | go_end0 | ((try simp only [Exit.inBlock, Exit.then]); refine bodyPost_ret (results_none rfl _ _ _) rfl ?_)
  exact ⟨rfl, After.then HEnt.out.mv (by simpa using HA3.out)⟩
end Go.Proofs.YtbpefmidgfmcaaaDoor
end
section
set_option linter.unusedVariables false
set_option linter.unusedSimpArgs false
namespace Go.Proofs.YtbpefmidgfmcaaaDoor
open Go.RowKit PTreeApart Go.Proofs.YtbpefmidgfmcaaaDoorW.PrintWords
theorem prs_prog (ind : List UInt8) (t : ByteArray) : ∀ (ds : List Nd) (i : Nat), prs ind 1 t i ds = ds.map (pr ind)
  | [], i => by simp [prs]
  | d :: ds, i => by
    have h : par 1 t i d.kind d.text = false := par_must _ _ _ _ _ (must_zero _ _ _ (by decide))
    simp [prs, deep, h, parT, prs_prog ind t ds (i + 1)]
set_option maxHeartbeats 2000000 in
set_option maxRecDepth 100000 in
theorem twig_prog {l : List S33} {d : Nd} (h1 : d.kind = 1) : Meth 11 l d := by
  intro W0 b A c ln cl kl p v bs ind w A5 c5 E hK h hlen h5 hr
  have hKB : KidsB l kl d.kids := ⟨hK.place, hK.ok, hK.ih, hK.len, hK.few⟩
  have hT1 : pr ind.data.toList d = lines [] (d.kids.map (pr ind.data.toList)) := by
    cases d with
    | mk k t n ks =>
      obtain rfl : k = 1 := h1
      simp [pr, asm, prs_prog, Nd.kids]
  rw [hT1] at hlen ⊢
  rw [h1] at hK ⊢
  generalize d.kids = ds at *
  generalize hgt : d.text = t at *
  generalize hgn : d.num = n at *
  have hkl : kl.length ≤ 300 := by have := hKB.len; have := hKB.few; omega
  have HEnt := Lib.hid (Ent.mk' h (box6 1 t n ln cl A5 kl.length c5))
  have HKi := Lib.hid hKB
  have HL := Lib.hid hlen
  have HR := Lib.hid hr
  have HE := Lib.hid E
  clear hT1 hKB hK hlen hr E hgt hgn
  go_enter Tryd.func11, Tryd.ntmps11
  go_upto_region 2 with (fail)
  generalize hW : w.alloc (.cells #[.int .i64 1, .string t, .int .i64 n, .int .i64 ln, .int .i64 cl, .slice A5 kl.length c5] 33) = w1 at *
  generalize hG : w.heap.size = gb at *
  clear hW hG h
  obtain ⟨q0, q1, q2, q3, q4, q5, q6⟩ := HEnt.out.q HEnt.out.after
  have HA2 : Hid (After W0 b (.slice A l.length c) v bs [] ind w1 w1) := Lib.hid HEnt.out.after
  go_wp2_with fail
  clear q0 q1 q2 q3 q4 q5 q6
  go_loopw [16] (fun i wr => ∃ j : Nat, j ≤ kl.length ∧ i = .int .i64 j ∧ Hid (After W0 b (.slice A l.length c) v bs (lines [] ((ds.take j).map (pr ind.data.toList))) ind w1 wr)) (fun i _ => kl.length - (intOf i).toNat)
  case atStart => exact ⟨0, Nat.zero_le _, rfl, by have := HA2.out; simpa [lines] using Lib.hid this⟩
  case round =>
    obtain ⟨j, hj, rfl, hr⟩ := hrel
    by_cases hlt : j < kl.length
    · have hd : j < ds.length := by rw [← HKi.out.len]; exact hlt
      obtain ⟨hi, m, hTr⟩ := HKi.out.place j hd
      obtain ⟨ne, hO⟩ := HKi.out.ok j hd
      obtain ⟨hx0, hxl⟩ := hTr.kind.2.2
      have hgd : kl.getD j 0 = rd kl (j : Int) := by simp [rd]
      rw [hgd] at hx0 hxl hTr
      obtain ⟨adk, ek, hck⟩ := Kd.at_int HR.out (j : Int) (by omega) (by omega)
      obtain ⟨ad, A6, c6, ea, hTw, h6, hr6, hbl⟩ := HE.out.twig (rd kl (j : Int)) hx0 hxl
      subst ek ea
      generalize hgx : rT l (rd kl (j : Int)) = x at *
      have HGX := Lib.hid hgx
      have HTr := Lib.hid hTr
      have HO := Lib.hid hO
      have HR6 := Lib.hid hr6
      have HTw := Lib.hid hTw
      have HCk := Lib.hid hck
      have HS := Lib.hid (lines_length [] (pr ind.data.toList) ds j hd)
      have HT := Lib.hid (lines_take [] (pr ind.data.toList) ds j hd)
      clear hgx hTr hO hr6 hTw hck hgd
      have e1 : wr.cell? (adk.add j) = some (.int .i64 (rd kl (j : Int))) := by
        have := (hr.out.below.cell (World.block_lt_of_cell? W0 _ HCk.out)).trans HCk.out
        rwa [show ((j : Int)).toNat = j from by omega] at this
      obtain ⟨t0, t1, t2, t3, t4, t5⟩ := HTw.out.below hr.out.below hbl
      have s0 := hr.out.c0
      have HA3 := hr
      go_wp2_with fail
      refine (twig_then (HKi.out.ih j hd) HE.out HTr.out HO.out HGX.out HA3.out (by have := HL.out; have h2 := HS.out; simp only [List.length_append, List.length_cons, List.length_nil] at this h2 ⊢; omega) h6 HR6.out).mono ?_
      rintro e w4 ⟨rfl, hA4⟩
      have HA4 := Lib.hid hA4
      clear hA4 t0 t1 t2 t3 t4 t5 s0 e1
      go_wp2_with fail
      refine (put1 ⟨#[10]⟩ HA4.out (by have := HL.out; have h2 := HS.out; simp only [List.length_append, List.length_cons, List.length_nil] at this h2 ⊢; omega)).mono ?_
      rintro e w5 ⟨rfl, hA5⟩
      have HA5 := Lib.hid hA5
      clear hA5
      go_wp2
      go_roundw
      case rel =>
        refine ⟨j + 1, by omega, by go_num, ?_⟩
        have := HA5.out
        rw [HT.out]
        exact Lib.hid (by simpa using this)
      case measure => simp [intOf]; omega
    · have e : j = kl.length := by omega
      subst e
      have hA6 : After W0 b (.slice A l.length c) v bs (lines [] (ds.map (pr ind.data.toList))) ind w1 wr := by
        have := hr.out
        rwa [List.take_of_length_le (by rw [HKi.out.len]; exact Nat.le_refl _)] at this
      have HA6 := Lib.hid hA6
      clear hA6
      go_wp2
      first | go_end0 | ((try simp only [Exit.inBlock, Exit.then]); refine bodyPost_ret (results_none rfl _ _ _) rfl ?_)
      exact ⟨rfl, After.then HEnt.out.mv HA6.out⟩
theorem text_len {k : Int} {t : List UInt8} (h : textOk k t) : t.length ≤ 32 := by
  have hn : ∀ s, nameB s = true → s.length ≤ 32 := by
    intro s hs
    simp only [nameB, Bool.and_eq_true, decide_eq_true_eq] at hs
    exact hs.1.1.1.2
  unfold textOk at h
  split at h
  · simp only [typeB, Bool.or_eq_true, beq_iff_eq] at h
    rcases h with ((((h | h) | h) | h) | h) | h
    · exact hn _ h
    all_goals (rw [h]; decide)
  · split at h
    · simp only [opB, Bool.or_eq_true, beq_iff_eq] at h
      rcases h with (((h | h) | h) | h) | h
      all_goals (rw [h]; decide)
    · split at h
      · exact hn _ h
      · rw [h]; decide
/-- Each tree that may be is printed. -/
theorem twig_ok (l : List S33) (hl : l.length ≤ 300) : ∀ d : Nd, TwigOk l d := by
  refine Nd.ind ?_
  intro k t n ks ih W0 b A c at_ nx ne x p v bs ind w A5 c5 E hT hO hx h hlen h5 hr
  have hM : Meth 11 l (.mk k t n ks) := by
    have ht := text_len hO.2.2.2.1
    have h1 : 1 ≤ k := hO.2.1
    have h36 : k ≤ 36 := hO.2.2.1
    by_cases c1 : k = 1
    · exact twig_prog c1
    by_cases c12 : k = 12
    · exact twig_block c12
    by_cases c25 : 13 ≤ k ∧ k ≤ 25
    · exact twig_stmt (meth_stmt c25.1 c25.2 hO) c25.1 c25.2
    by_cases c26 : 26 ≤ k
    · exact twig_term (meth_term c26 h36 hO) c26 h36
    · exact twig_decl (meth_decl (by show 2 ≤ k; omega) (by show k ≤ 11; omega) hO (size_of_len (Nat.le_trans ht (by decide)))) (by show 2 ≤ k; omega) (by show k ≤ 11; omega)
  obtain ⟨g0, g1, g2, g3, g4, g5⟩ := hT
  rw [hx] at g2 g3 g4 g5
  have hK : Kids l x.f5 k t ks := Kids.of (n := n) hl (by omega) (by omega) g5 hO.2.2.2.2.2.2 ih
  subst g2 g3 g4
  exact hM W0 b A c x.f3 x.f4 x.f5 p v bs ind w A5 c5 E hK h hlen h5 hr
end Go.Proofs.YtbpefmidgfmcaaaDoor
end
section
set_option linter.unusedVariables false
namespace Go.Proofs.YtbpefmidgfmcaaaDoor
open Go.RowKit PTreeApart Go.Proofs.YtbpefmidgfmcaaaDoorW.PrintWords
/-- What May does at a tree that may be. -/
def MayTrue (w0 : World) (l : List S33) (A : Option Addr) (c : Nat) : Prop :=
  ∀ w, Below w0.heap.size w0 w → Calls Tryd.prog 10 #[.agg #[.slice A l.length c]] w fun e w' => e = .returned (.bool true) ∧ Below w.heap.size w w'
set_option maxHeartbeats 2000000 in
set_option maxRecDepth 100000 in
theorem print_ok {w0 : World} {l : List S33} {A : Option Addr} {c : Nat} {d : Nd} (E : Env w0 l A c) (hT : Tr l d 0 l.length) (hO : Ok d 0) (hM : MayTrue w0 l A c) :
    Calls Tryd.prog 7 #[.agg #[.slice A l.length c]] w0 fun e w' => e = .returned (.string ⟨(pr [] d).toArray⟩) ∧ Below w0.heap.size w0 w' := by
  have hTw := twig_ok l E.few d
  have hl := pr_short E.few hT hO
  obtain ⟨hk1, hk2, hk3, hk4⟩ := hT.kind
  have HE := Lib.hid E
  have HT := Lib.hid hT
  have HO := Lib.hid hO
  have HM := Lib.hid hM
  have HTw := Lib.hid hTw
  have HL := Lib.hid hl
  clear E hT hO hM hTw hl hk1 hk2
  go_enter Tryd.func7, Tryd.ntmps7
  go_wp2_with fail
  refine (HM.out _ ((Below.refl _ _).alloc (Nat.le_refl _) _)).mono ?_
  rintro e w1 ⟨rfl, hB1⟩
  have hB : Below w0.heap.size w0 w1 := ((Below.refl _ _).alloc (Nat.le_refl _) _).trans (hB1.mono (by show w0.heap.size ≤ (w0.heap.push _).size; simp))
  have hQ : Blk w0.heap.size #[.slice A l.length c] 24 w1 := (Blk.new w0 _ 24).step hB1
  have q0 : w1.cell? ⟨w0.heap.size, 0, none⟩ = some (.slice A l.length c) := hQ.cell 0 _ rfl
  have hs1 : w0.heap.size < w1.heap.size := hQ.lt
  have HB := Lib.hid hB
  clear hB hB1
  go_upto_region 4 with (fail)
  obtain ⟨ad, A5, c5, rfl, hTw, h5, hr, hlt⟩ := HE.out.twig 0 hk3 hk4
  have e0 : ad.add (Int.toNat 0 * 6) = ad := rfl
  rw [e0] at hTw hlt
  generalize hx : rT l 0 = x at hTw h5 hr
  have hB2 : Below w0.heap.size w0 (w1.alloc (.cells #[.slice (some ad) l.length c, .pointer none, .slice none 0 0, .string ⟨#[]⟩] 41)) := HB.out.alloc (by omega) _
  have hS : St w0 w1.heap.size (.slice (some ad) l.length c) (.pointer none) (.slice none 0 0) [] ⟨#[]⟩ (w1.alloc (.cells #[.slice (some ad) l.length c, .pointer none, .slice none 0 0, .string ⟨#[]⟩] 41)) :=
    ⟨hB2, by omega, (Blk.new w1 _ 41).heap, ⟨rfl, .inl ⟨rfl, rfl⟩⟩, by simp [Value.ownBlock], .inl rfl, fun _ => rfl⟩
  have q1 : (w1.alloc (.cells #[.slice (some ad) l.length c, .pointer none, .slice none 0 0, .string ⟨#[]⟩] 41)).cell? ⟨w0.heap.size, 0, none⟩ = some (.slice (some ad) l.length c) := ((Below.refl _ _).alloc (Nat.le_refl _) _).cell (B := w1.heap.size) (p := ⟨w0.heap.size, 0, none⟩) hs1 |>.trans q0
  generalize w1.alloc (.cells #[.slice (some ad) l.length c, .pointer none, .slice none 0 0, .string ⟨#[]⟩] 41) = w2 at *
  generalize w1.heap.size = g at *
  have hTB := hTw.below hB2 hlt
  obtain ⟨t0, t1, t2, t3, t4, t5⟩ := hTB
  have HS := Lib.hid hS
  have HTwA := Lib.hid hTw
  have H5 := Lib.hid h5
  have HR := Lib.hid hr
  have HX := Lib.hid hx
  clear hS hTw h5 hr hx hB2
  go_wp2_with fail
  refine (HTw.out w0 g (some ad) c 0 l.length 0 x _ _ [] ⟨#[]⟩ w2 A5 c5 HE.out HT.out HO.out HX.out HS.out (by simpa using HL.out) H5.out HR.out).mono ?_
  rintro e w3 ⟨rfl, hA⟩
  obtain ⟨p', v', hS3, _⟩ := hA
  have HS3 := Lib.hid hS3
  clear hS3
  go_wp2_with fail
  refine (string_any HS3.out).mono ?_
  rintro e w4 ⟨rfl, hB4⟩
  go_wp2
  go_ret
  exact ⟨rfl, hB4⟩
end Go.Proofs.YtbpefmidgfmcaaaDoor
end
