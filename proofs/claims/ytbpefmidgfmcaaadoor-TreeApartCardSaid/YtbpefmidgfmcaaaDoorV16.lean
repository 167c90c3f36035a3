import Derived.Test.YtbpefmidgfmcaaaDoorV13
import Derived.Test.YtbpefmidgfmcaaaDoorV6
section
set_option linter.unusedVariables false
set_option linter.unusedSimpArgs false
namespace Go.Proofs.YtbpefmidgfmcaaaDoor
open Go.RowKit PTreeApart Go.Proofs.YtbpefmidgfmcaaaDoorW.PrintWords
/-- The two twigs of deeper. -/
structure DB (w : World) (b1 b2 : Nat) (c1 c2 : Array Value) (w' : World) : Prop where
  k1 : Blk b1 c1 33 w'
  k2 : Blk b2 c2 33 w'
  below : Below w.heap.size w w'
theorem DB.step {w : World} {b1 b2 : Nat} {c1 c2 : Array Value} {w' w'' : World} (h : DB w b1 b2 c1 c2 w') (hb : Below w'.heap.size w' w'') : DB w b1 b2 c1 c2 w'' :=
  ⟨h.k1.step hb, h.k2.step hb, below_after h.below hb⟩
theorem DB.drew {w : World} {b1 b2 : Nat} {c1 c2 : Array Value} {w' : World} (h : DB w b1 b2 c1 c2 w') : DB w b1 b2 c1 c2 w'.drew := h.step (Below.refl _ _).drew
theorem DB.cells {w : World} {b1 b2 : Nat} {k n ln cl k2 n2 ln2 cl2 : Int} {t t2 : ByteArray} {kv kv2 : Value} {w' : World} (h : DB w b1 b2 #[.int .i64 k, .string t, .int .i64 n, .int .i64 ln, .int .i64 cl, kv] #[.int .i64 k2, .string t2, .int .i64 n2, .int .i64 ln2, .int .i64 cl2, kv2] w') :
    w'.cell? ⟨b1, 0, none⟩ = some (.int .i64 k) ∧ w'.cell? ⟨b1, 1, none⟩ = some (.string t) ∧ w'.cell? ⟨b1, 2, none⟩ = some (.int .i64 n) ∧ w'.cell? ⟨b1, 3, none⟩ = some (.int .i64 ln) ∧ w'.cell? ⟨b1, 4, none⟩ = some (.int .i64 cl) ∧ w'.cell? ⟨b1, 5, none⟩ = some kv ∧
    w'.cell? ⟨b2, 0, none⟩ = some (.int .i64 k2) ∧ w'.cell? ⟨b2, 1, none⟩ = some (.string t2) ∧ w'.cell? ⟨b2, 2, none⟩ = some (.int .i64 n2) ∧ w'.cell? ⟨b2, 3, none⟩ = some (.int .i64 ln2) ∧ w'.cell? ⟨b2, 4, none⟩ = some (.int .i64 cl2) ∧ w'.cell? ⟨b2, 5, none⟩ = some kv2 :=
  ⟨h.k1.cell 0 _ rfl, h.k1.cell 1 _ rfl, h.k1.cell 2 _ rfl, h.k1.cell 3 _ rfl, h.k1.cell 4 _ rfl, h.k1.cell 5 _ rfl, h.k2.cell 0 _ rfl, h.k2.cell 1 _ rfl, h.k2.cell 2 _ rfl, h.k2.cell 3 _ rfl, h.k2.cell 4 _ rfl, h.k2.cell 5 _ rfl⟩
theorem DB.read {w : World} {b1 b2 : Nat} {c1 c2 : Array Value} {w' : World} {A : Option Addr} {kl : List Int} (hr : (Kd.int .i64).C w A kl.length kl) (h : Hid (DB w b1 b2 c1 c2 w')) : (Kd.int .i64).C w' A kl.length kl := Kd.C_below hr h.out.below
def deepN (b1 b2 b3 b4 : Bool) : Int := (if b1 then 1 else 0) + (if b2 then 1 else 0) + (if b3 then 1 else 0) + (if b4 then 1 else 0)
def partN (b1 b2 b3 b4 : Bool) : Nat → Int
  | 0 => 0
  | 1 => (if b1 then 1 else 0)
  | 2 => (if b1 then 1 else 0) + (if b2 then 1 else 0)
  | 3 => (if b1 then 1 else 0) + (if b2 then 1 else 0) + (if b3 then 1 else 0)
  | _ => deepN b1 b2 b3 b4
theorem partN_t0 (b2 b3 b4 : Bool) : wrap64 (partN true b2 b3 b4 0 + 1) = partN true b2 b3 b4 1 := by cases b2 <;> cases b3 <;> cases b4 <;> (simp [partN, deepN, wrap64])
theorem partN_t1 (b1 b3 b4 : Bool) : wrap64 (partN b1 true b3 b4 1 + 1) = partN b1 true b3 b4 2 := by cases b1 <;> cases b3 <;> cases b4 <;> (simp [partN, deepN, wrap64])
theorem partN_t2 (b1 b2 b4 : Bool) : wrap64 (partN b1 b2 true b4 2 + 1) = partN b1 b2 true b4 3 := by cases b1 <;> cases b2 <;> cases b4 <;> (simp [partN, deepN, wrap64])
theorem partN_t3 (b1 b2 b3 : Bool) : wrap64 (partN b1 b2 b3 true 3 + 1) = partN b1 b2 b3 true 4 := by cases b1 <;> cases b2 <;> cases b3 <;> (simp [partN, deepN, wrap64])
theorem partN_f0 (b2 b3 b4 : Bool) : partN false b2 b3 b4 0 = partN false b2 b3 b4 1 := by cases b2 <;> cases b3 <;> cases b4 <;> rfl
theorem partN_f1 (b1 b3 b4 : Bool) : partN b1 false b3 b4 1 = partN b1 false b3 b4 2 := by cases b1 <;> cases b3 <;> cases b4 <;> rfl
theorem partN_f2 (b1 b2 b4 : Bool) : partN b1 b2 false b4 2 = partN b1 b2 false b4 3 := by cases b1 <;> cases b2 <;> cases b4 <;> rfl
theorem partN_f3 (b1 b2 b3 : Bool) : partN b1 b2 b3 false 3 = partN b1 b2 b3 false 4 := by cases b1 <;> cases b2 <;> cases b3 <;> rfl
theorem more_eq (k : Int) (t : ByteArray) (i : Nat) (d : Nd) : more k t i d = deepN (decide (d.kind = 12)) (par k t i d.kind d.text) (decide (k = 31 ∧ i = 1)) (decide (k = 34 ∨ k = 35)) := by
  unfold more deepN
  simp only [decide_eq_true_eq]
  by_cases a : k = 31
  · subst a
    have h1 : ¬ ((31 : Int) = 34 ∨ (31 : Int) = 35) := by omega
    by_cases b : i = 1
    · simp [b]
    · simp [b]
  · by_cases b : k = 34 ∨ k = 35
    · simp [a, b]
    · simp [a, b]
theorem binds_term {k : Int} {t : ByteArray} (h : ¬ (26 ≤ k ∧ k ≤ 36)) : binds k t = 0 := by
  unfold binds
  repeat' split
  all_goals first | rfl | omega
theorem term_binds {k : Int} {t : ByteArray} (h : 26 ≤ k ∧ k ≤ 36) : 0 < binds k t := by
  unfold binds
  repeat' split
  all_goals first | decide | omega
theorem term_yes (x : Int) (h : 26 ≤ x ∧ x ≤ 36) (w : World) : Calls Tryd.prog 23 #[.int .i64 x] w fun e w' => e = .returned (.bool true) ∧ Below w.heap.size w w' := by
  refine (tree_Term.calls x true w ?_).mono ?_
  · unfold tree_Term.f
    rw [if_pos h.1, decide_eq_true h.2]
  · rintro e w' ⟨rfl, hd⟩
    exact ⟨rfl, hd.below⟩
theorem term_no (x : Int) (h : ¬ (26 ≤ x ∧ x ≤ 36)) (w : World) : Calls Tryd.prog 23 #[.int .i64 x] w fun e w' => e = .returned (.bool false) ∧ Below w.heap.size w w' := by
  refine (tree_Term.calls x false w ?_).mono ?_
  · unfold tree_Term.f
    by_cases h1 : 26 ≤ x
    · rw [if_pos h1, decide_eq_false (fun h2 => h ⟨h1, h2⟩)]
    · rw [if_neg h1]
  · rintro e w' ⟨rfl, hd⟩
    exact ⟨rfl, hd.below⟩
theorem Blk.cast {g : Nat} {cs cs' : Array Value} {T : Nat} {w : World} (h : Blk g cs T w) (e : cs = cs') : Blk g cs' T w := e ▸ h
set_option maxHeartbeats 40000000 in
set_option maxRecDepth 100000 in
theorem deeper_any (k : Int) (t : ByteArray) (n ln cl : Int) (A : Option Addr) (c : Nat) (kl : List Int) (i : Nat) (k2 : Int) (t2 : ByteArray) (n2 ln2 cl2 : Int) (A2 : Option Addr) (c2 : Nat) (kl2 : List Int) (w : World)
    (hr : Kd.C (Kd.int .i64) w A kl.length kl) (hc : kl.length ≤ c) (hr2 : Kd.C (Kd.int .i64) w A2 kl2.length kl2) (hc2 : kl2.length ≤ c2) (hi : i < 1000000) :
    Calls Tryd.prog 33 #[.agg #[.int .i64 k, .string t, .int .i64 n, .int .i64 ln, .int .i64 cl, .slice A kl.length c], .int .i64 (i : Int), .agg #[.int .i64 k2, .string t2, .int .i64 n2, .int .i64 ln2, .int .i64 cl2, .slice A2 kl2.length c2]] w
      fun e w' => e = .returned (.int .i64 (deepN (decide (k2 = 12)) (par k t i k2 t2) (decide (k = 31 ∧ i = 1)) (decide (k = 34 ∨ k = 35)))) ∧ Below w.heap.size w w' := by
  have HR := Lib.hid hr
  have HR2 := Lib.hid hr2
  clear hr hr2
  go_enter Tryd.func33, Tryd.ntmps33
  go_upto_region 1 with (fail)
  have hDB : DB w w.heap.size (w.alloc (.cells #[.int .i64 k, .string t, .int .i64 n, .int .i64 ln, .int .i64 cl, .slice A kl.length c] 33)).heap.size #[.int .i64 k, .string t, .int .i64 n, .int .i64 ln, .int .i64 cl, .slice A kl.length c] #[.int .i64 k2, .string t2, .int .i64 n2, .int .i64 ln2, .int .i64 cl2, .slice A2 kl2.length c2] ((w.alloc (.cells #[.int .i64 k, .string t, .int .i64 n, .int .i64 ln, .int .i64 cl, .slice A kl.length c] 33)).alloc (.cells #[.int .i64 k2, .string t2, .int .i64 n2, .int .i64 ln2, .int .i64 cl2, .slice A2 kl2.length c2] 33)) :=
    ⟨(Blk.new w _ 33).step ((Below.refl _ _).alloc (Nat.le_refl _) _), Blk.new _ _ 33, below_after ((Below.refl _ _).alloc (Nat.le_refl _) _) ((Below.refl _ _).alloc (Nat.le_refl _) _)⟩
  rw [show (w.alloc (.cells #[.int .i64 k, .string t, .int .i64 n, .int .i64 ln, .int .i64 cl, .slice A kl.length c] 33)).heap.size = w.heap.size + 1 from by show (w.heap.push _).size = _; simp] at hDB
  generalize (w.alloc (.cells #[.int .i64 k, .string t, .int .i64 n, .int .i64 ln, .int .i64 cl, .slice A kl.length c] 33)).alloc (.cells #[.int .i64 k2, .string t2, .int .i64 n2, .int .i64 ln2, .int .i64 cl2, .slice A2 kl2.length c2] 33) = w1 at *
  generalize hb1 : w.heap.size = gb at hDB ⊢
  have hgk : ∃ gk, gk = gb + 1 := ⟨_, rfl⟩
  obtain ⟨gk, hgk⟩ := hgk
  rw [← hgk] at hDB ⊢
  clear hgk
  have KC := hDB.cells
  have HD := Lib.hid hDB
  clear hDB
  (try simp only [Act.put, List.setIfInBounds_toArray, List.set_cons_zero, List.set_cons_succ])
  go_cut [38, 39, 40] (fun v38 v39 v40 wc => ∃ g, v38 = .slice (some ⟨g, 0, none⟩) 4 4 ∧ v39 = .int .i64 4 ∧ v40 = .int .i64 0 ∧ Hid (Blk g #[.bool (decide (k2 = 12)), .bool (par k t i k2 t2), .bool (decide (k = 31 ∧ i = 1)), .bool (decide (k = 34 ∨ k = 35))] 4 wc) ∧ Hid (Below w.heap.size w wc))
  case first =>
    obtain ⟨T, hT, HT⟩ : ∃ T, (T = true ↔ 26 ≤ k2 ∧ k2 ≤ 36) ∧ Hid (∀ w, Calls Tryd.prog 23 #[.int .i64 k2] w fun e w' => e = .returned (.bool T) ∧ Below w.heap.size w w') := by
      by_cases ht : 26 ≤ k2 ∧ k2 ≤ 36
      · exact ⟨true, by simp [ht], Lib.hid (term_yes k2 ht)⟩
      · exact ⟨false, by simp [ht], Lib.hid (term_no k2 ht)⟩
    obtain ⟨b31, h31⟩ : ∃ b, (k == 31) = b := ⟨_, rfl⟩
    obtain ⟨b34, h34⟩ : ∃ b, (k == 34) = b := ⟨_, rfl⟩
    have HT1 := Lib.hid hT
    clear hT
    obtain ⟨B1, hB1⟩ : ∃ b, (k2 == 12) = b := ⟨_, rfl⟩
    obtain ⟨B2, hB2⟩ : ∃ b, decide (binds k2 t2 < must k t i) = b := ⟨_, rfl⟩
    obtain ⟨B3, hB3⟩ : ∃ b, ((i : Int) == 1) = b := ⟨_, rfl⟩
    obtain ⟨B4, hB4⟩ : ∃ b, (k == 35) = b := ⟨_, rfl⟩
    have hWB : ∀ g wc, Blk g #[.bool B1, .bool (if T then B2 else false), .bool (if b31 then B3 else false), .bool (if b34 then true else B4)] 4 wc → Blk g #[.bool (decide (k2 = 12)), .bool (par k t i k2 t2), .bool (decide (k = 31 ∧ i = 1)), .bool (decide (k = 34 ∨ k = 35))] 4 wc := by
      intro g wc hb
      refine hb.cast ?_
      have e2 : (if T then B2 else false) = par k t i k2 t2 := by
        unfold par
        by_cases ht : 26 ≤ k2 ∧ k2 ≤ 36
        · rw [HT1.out.2 ht, ← hB2]; simp [term_binds ht]
        · have : T = false := by simpa using fun h => ht (HT1.out.1 h)
          rw [this]; simp [binds_term ht]
      have e3 : (if b31 then B3 else false) = decide (k = 31 ∧ i = 1) := by
        rw [← h31, ← hB3, Bool.eq_iff_iff]
        by_cases hk : k = 31
        · simp [hk]; omega
        · simp [hk]
      have e4 : (if b34 then true else B4) = decide (k = 34 ∨ k = 35) := by
        rw [← h34, ← hB4, Bool.eq_iff_iff]
        by_cases hk : k = 34
        · simp [hk]
        · simp [hk]
      have e1 : B1 = decide (k2 = 12) := by rw [← hB1, Bool.eq_iff_iff]; simp
      rw [e1, e2, e3, e4]
    have HWB := Lib.hid hWB
    clear hWB
    refine wp_region_held_drew (S := fun w' => (w'.cell? ⟨gb, 0, none⟩ = some (.int .i64 k) ∧ w'.cell? ⟨gb, 1, none⟩ = some (.string t) ∧ w'.cell? ⟨gb, 2, none⟩ = some (.int .i64 n) ∧ w'.cell? ⟨gb, 3, none⟩ = some (.int .i64 ln) ∧ w'.cell? ⟨gb, 4, none⟩ = some (.int .i64 cl) ∧ w'.cell? ⟨gb, 5, none⟩ = some (.slice A kl.length c) ∧
      w'.cell? ⟨gk, 0, none⟩ = some (.int .i64 k2) ∧ w'.cell? ⟨gk, 1, none⟩ = some (.string t2) ∧ w'.cell? ⟨gk, 2, none⟩ = some (.int .i64 n2) ∧ w'.cell? ⟨gk, 3, none⟩ = some (.int .i64 ln2) ∧ w'.cell? ⟨gk, 4, none⟩ = some (.int .i64 cl2) ∧ w'.cell? ⟨gk, 5, none⟩ = some (.slice A2 kl2.length c2)) ∧
      Hid (DB w gb gk #[.int .i64 k, .string t, .int .i64 n, .int .i64 ln, .int .i64 cl, .slice A kl.length c] #[.int .i64 k2, .string t2, .int .i64 n2, .int .i64 ln2, .int .i64 cl2, .slice A2 kl2.length c2] w')) (by kernel_rfl) ⟨HD.out.drew.cells, Lib.hid HD.out.drew⟩ (fun hHeld => ?_)
    cases T <;> cases b31 <;> cases b34
    all_goals (try (exfalso; rw [beq_iff_eq] at h31 h34; omega))
    all_goals
      first
        | refine wpAnyH_take (i := 0) (oi := ⟨some 9, _, _, _, _, _⟩) (v := undef) rfl (by kernel_rfl) (by kernel_rfl) (by kernel_rfl) (fun _ _ _ h => h) (Or.inr ⟨by rfl, rfl⟩) (by assumption) ?_
        | (refine wpAnyH_take (i := 0) (oi := ⟨some 9, _, _, _, _, _⟩) (v := ?_) rfl (by kernel_rfl) (by kernel_rfl) (by kernel_rfl) (fun _ _ _ h => h) (Or.inl ⟨by rfl, ?_⟩) (by assumption) ?_
           rotate_left
           · (intro w hSw; (try dsimp only at hSw); go_simp; (first | done | with_reducible rfl)))
      (try simp only [Act.put, List.setIfInBounds_toArray, List.set_cons_zero, List.set_cons_succ])
    all_goals
      first
        | refine wpAnyH_take (i := 1) (oi := ⟨some 10, _, _, _, _, _⟩) (v := undef) rfl (by kernel_rfl) (by kernel_rfl) (by kernel_rfl) (fun _ _ _ h => h) (Or.inr ⟨by rfl, rfl⟩) (by assumption) ?_
        | (refine wpAnyH_take (i := 1) (oi := ⟨some 10, _, _, _, _, _⟩) (v := ?_) rfl (by kernel_rfl) (by kernel_rfl) (by kernel_rfl) (fun _ _ _ h => h) (Or.inl ⟨by rfl, ?_⟩) (by assumption) ?_
           rotate_left
           · (intro w hSw; (try dsimp only at hSw); go_simp; (first | done | with_reducible rfl)))
      (try simp only [Act.put, List.setIfInBounds_toArray, List.set_cons_zero, List.set_cons_succ])
    all_goals
      first
        | refine wpAnyH_take (i := 2) (oi := ⟨some 11, _, _, _, _, _⟩) (v := undef) rfl (by kernel_rfl) (by kernel_rfl) (by kernel_rfl) (fun _ _ _ h => h) (Or.inr ⟨by rfl, rfl⟩) (by assumption) ?_
        | (refine wpAnyH_take (i := 2) (oi := ⟨some 11, _, _, _, _, _⟩) (v := ?_) rfl (by kernel_rfl) (by kernel_rfl) (by kernel_rfl) (fun _ _ _ h => h) (Or.inl ⟨by rfl, ?_⟩) (by assumption) ?_
           rotate_left
           · (intro w hSw; (try dsimp only at hSw); go_simp; (first | done | with_reducible rfl)))
      (try simp only [Act.put, List.setIfInBounds_toArray, List.set_cons_zero, List.set_cons_succ])
    all_goals
      first
        | refine wpAnyH_take (i := 3) (oi := ⟨some 12, _, _, _, _, _⟩) (v := undef) rfl (by kernel_rfl) (by kernel_rfl) (by kernel_rfl) (fun _ _ _ h => h) (Or.inr ⟨by rfl, rfl⟩) (by assumption) ?_
        | (refine wpAnyH_take (i := 3) (oi := ⟨some 12, _, _, _, _, _⟩) (v := ?_) rfl (by kernel_rfl) (by kernel_rfl) (by kernel_rfl) (fun _ _ _ h => h) (Or.inl ⟨by rfl, ?_⟩) (by assumption) ?_
           rotate_left
           · (intro w hSw; (try dsimp only at hSw); go_simp; (first | done | with_reducible rfl)))
      (try simp only [Act.put, List.setIfInBounds_toArray, List.set_cons_zero, List.set_cons_succ])
    all_goals
      first
        | refine wpAnyH_take (i := 4) (oi := ⟨some 13, _, _, _, _, _⟩) (v := undef) rfl (by kernel_rfl) (by kernel_rfl) (by kernel_rfl) (fun _ _ _ h => h) (Or.inr ⟨by rfl, rfl⟩) (by assumption) ?_
        | (refine wpAnyH_take (i := 4) (oi := ⟨some 13, _, _, _, _, _⟩) (v := ?_) rfl (by kernel_rfl) (by kernel_rfl) (by kernel_rfl) (fun _ _ _ h => h) (Or.inl ⟨by rfl, ?_⟩) (by assumption) ?_
           rotate_left
           · (intro w hSw; (try dsimp only at hSw); go_simp; (first | done | with_reducible rfl)))
      (try simp only [Act.put, List.setIfInBounds_toArray, List.set_cons_zero, List.set_cons_succ])
    all_goals
      first
        | refine wpAnyH_take (i := 14) (oi := ⟨some 23, _, _, _, _, _⟩) (v := undef) rfl (by kernel_rfl) (by kernel_rfl) (by kernel_rfl) (fun _ _ _ h => h) (Or.inr ⟨by rfl, rfl⟩) (by assumption) ?_
        | (refine wpAnyH_take (i := 14) (oi := ⟨some 23, _, _, _, _, _⟩) (v := ?_) rfl (by kernel_rfl) (by kernel_rfl) (by kernel_rfl) (fun _ _ _ h => h) (Or.inl ⟨by rfl, ?_⟩) (by assumption) ?_
           rotate_left
           · (intro w hSw; (try dsimp only at hSw); go_simp; (first | done | with_reducible rfl)))
      (try simp only [Act.put, List.setIfInBounds_toArray, List.set_cons_zero, List.set_cons_succ])
    all_goals
      first
        | refine wpAnyH_take (i := 15) (oi := ⟨some 24, _, _, _, _, _⟩) (v := undef) rfl (by kernel_rfl) (by kernel_rfl) (by kernel_rfl) (fun _ _ _ h => h) (Or.inr ⟨by rfl, rfl⟩) (by assumption) ?_
        | (refine wpAnyH_take (i := 15) (oi := ⟨some 24, _, _, _, _, _⟩) (v := ?_) rfl (by kernel_rfl) (by kernel_rfl) (by kernel_rfl) (fun _ _ _ h => h) (Or.inl ⟨by rfl, ?_⟩) (by assumption) ?_
           rotate_left
           · (intro w hSw; (try dsimp only at hSw); go_simp; (first | done | with_reducible rfl)))
      (try simp only [Act.put, List.setIfInBounds_toArray, List.set_cons_zero, List.set_cons_succ])
    all_goals
      first
        | refine wpAnyH_take (i := 16) (oi := ⟨some 25, _, _, _, _, _⟩) (v := undef) rfl (by kernel_rfl) (by kernel_rfl) (by kernel_rfl) (fun _ _ _ h => h) (Or.inr ⟨by rfl, rfl⟩) (by assumption) ?_
        | (refine wpAnyH_take (i := 16) (oi := ⟨some 25, _, _, _, _, _⟩) (v := ?_) rfl (by kernel_rfl) (by kernel_rfl) (by kernel_rfl) (fun _ _ _ h => h) (Or.inl ⟨by rfl, ?_⟩) (by assumption) ?_
           rotate_left
           · (intro w hSw; (try dsimp only at hSw); go_simp; (first | done | with_reducible rfl)))
      (try simp only [Act.put, List.setIfInBounds_toArray, List.set_cons_zero, List.set_cons_succ])
    all_goals
      first
        | refine wpAnyH_take (i := 21) (oi := ⟨some 30, _, _, _, _, _⟩) (v := undef) rfl (by kernel_rfl) (by kernel_rfl) (by kernel_rfl) (fun _ _ _ h => h) (Or.inr ⟨by rfl, rfl⟩) (by assumption) ?_
        | (refine wpAnyH_take (i := 21) (oi := ⟨some 30, _, _, _, _, _⟩) (v := ?_) rfl (by kernel_rfl) (by kernel_rfl) (by kernel_rfl) (fun _ _ _ h => h) (Or.inl ⟨by rfl, ?_⟩) (by assumption) ?_
           rotate_left
           · (intro w hSw; (try dsimp only at hSw); go_simp; (first | done | with_reducible rfl)))
      (try simp only [Act.put, List.setIfInBounds_toArray, List.set_cons_zero, List.set_cons_succ])
    all_goals
      first
        | refine wpAnyH_take (i := 22) (oi := ⟨some 31, _, _, _, _, _⟩) (v := undef) rfl (by kernel_rfl) (by kernel_rfl) (by kernel_rfl) (fun _ _ _ h => h) (Or.inr ⟨by rfl, rfl⟩) (by assumption) ?_
        | (refine wpAnyH_take (i := 22) (oi := ⟨some 31, _, _, _, _, _⟩) (v := ?_) rfl (by kernel_rfl) (by kernel_rfl) (by kernel_rfl) (fun _ _ _ h => h) (Or.inl ⟨by rfl, ?_⟩) (by assumption) ?_
           rotate_left
           · (intro w hSw; (try dsimp only at hSw); go_simp; (first | done | with_reducible rfl)))
      (try simp only [Act.put, List.setIfInBounds_toArray, List.set_cons_zero, List.set_cons_succ])
    all_goals
      first
        | refine wpAnyH_take (i := 23) (oi := ⟨some 32, _, _, _, _, _⟩) (v := undef) rfl (by kernel_rfl) (by kernel_rfl) (by kernel_rfl) (fun _ _ _ h => h) (Or.inr ⟨by rfl, rfl⟩) (by assumption) ?_
        | (refine wpAnyH_take (i := 23) (oi := ⟨some 32, _, _, _, _, _⟩) (v := ?_) rfl (by kernel_rfl) (by kernel_rfl) (by kernel_rfl) (fun _ _ _ h => h) (Or.inl ⟨by rfl, ?_⟩) (by assumption) ?_
           rotate_left
           · (intro w hSw; (try dsimp only at hSw); go_simp; (first | done | with_reducible rfl)))
      (try simp only [Act.put, List.setIfInBounds_toArray, List.set_cons_zero, List.set_cons_succ])
    all_goals
      first
        | refine wpAnyH_take (i := 31) (oi := ⟨some 40, _, _, _, _, _⟩) (v := undef) rfl (by kernel_rfl) (by kernel_rfl) (by kernel_rfl) (fun _ _ _ h => h) (Or.inr ⟨by rfl, rfl⟩) (by assumption) ?_
        | (refine wpAnyH_take (i := 31) (oi := ⟨some 40, _, _, _, _, _⟩) (v := ?_) rfl (by kernel_rfl) (by kernel_rfl) (by kernel_rfl) (fun _ _ _ h => h) (Or.inl ⟨by rfl, ?_⟩) (by assumption) ?_
           rotate_left
           · (intro w hSw; (try dsimp only at hSw); go_simp; (first | done | with_reducible rfl)))
      (try simp only [Act.put, List.setIfInBounds_toArray, List.set_cons_zero, List.set_cons_succ])
    all_goals
      first
        | (refine wpAnyH_ready (rs := [5]) (by kernel_rfl) (by simp) ?_
           refine AllReadyH.cons (o := ⟨some 14, _, _, _, _, _⟩) rfl (fun K hK => ?_) AllReadyH.nil
           go_simp
           refine (HT.out _).mono ?_; rintro e w' ⟨rfl, hb1⟩
           refine hK.out _ _ ?_ (fun hHeld => ?_)
           · go_split_ands; exact ⟨(DB.step (Hid.out (by assumption)) hb1).cells, Lib.hid (DB.step (Hid.out (by assumption)) hb1)⟩
           clear hK K)
      (try simp only [Act.put, List.setIfInBounds_toArray, List.set_cons_zero, List.set_cons_succ])
    all_goals
      first
        | refine wpAnyH_take (i := 6) (oi := ⟨some 15, _, _, _, _, _⟩) (v := undef) rfl (by kernel_rfl) (by kernel_rfl) (by kernel_rfl) (fun _ _ _ h => h) (Or.inr ⟨by rfl, rfl⟩) (by assumption) ?_
        | (refine wpAnyH_take (i := 6) (oi := ⟨some 15, _, _, _, _, _⟩) (v := ?_) rfl (by kernel_rfl) (by kernel_rfl) (by kernel_rfl) (fun _ _ _ h => h) (Or.inl ⟨by rfl, ?_⟩) (by assumption) ?_
           rotate_left
           · (intro w hSw; (try dsimp only at hSw); go_simp; (first | done | with_reducible rfl)))
      (try simp only [Act.put, List.setIfInBounds_toArray, List.set_cons_zero, List.set_cons_succ])
    all_goals
      first
        | refine wpAnyH_take (i := 7) (oi := ⟨some 16, _, _, _, _, _⟩) (v := undef) rfl (by kernel_rfl) (by kernel_rfl) (by kernel_rfl) (fun _ _ _ h => h) (Or.inr ⟨by rfl, rfl⟩) (by assumption) ?_
        | (refine wpAnyH_take (i := 7) (oi := ⟨some 16, _, _, _, _, _⟩) (v := ?_) rfl (by kernel_rfl) (by kernel_rfl) (by kernel_rfl) (fun _ _ _ h => h) (Or.inl ⟨by rfl, ?_⟩) (by assumption) ?_
           rotate_left
           · (intro w hSw; (try dsimp only at hSw); go_simp; (first | done | with_reducible rfl)))
      (try simp only [Act.put, List.setIfInBounds_toArray, List.set_cons_zero, List.set_cons_succ])
    all_goals
      first
        | refine wpAnyH_take (i := 9) (oi := ⟨some 18, _, _, _, _, _⟩) (v := undef) rfl (by kernel_rfl) (by kernel_rfl) (by kernel_rfl) (fun _ _ _ h => h) (Or.inr ⟨by rfl, rfl⟩) (by assumption) ?_
        | (refine wpAnyH_take (i := 9) (oi := ⟨some 18, _, _, _, _, _⟩) (v := ?_) rfl (by kernel_rfl) (by kernel_rfl) (by kernel_rfl) (fun _ _ _ h => h) (Or.inl ⟨by rfl, ?_⟩) (by assumption) ?_
           rotate_left
           · (intro w hSw; (try dsimp only at hSw); go_simp; (first | done | with_reducible rfl)))
      (try simp only [Act.put, List.setIfInBounds_toArray, List.set_cons_zero, List.set_cons_succ])
    all_goals
      first
        | refine wpAnyH_take (i := 10) (oi := ⟨some 19, _, _, _, _, _⟩) (v := undef) rfl (by kernel_rfl) (by kernel_rfl) (by kernel_rfl) (fun _ _ _ h => h) (Or.inr ⟨by rfl, rfl⟩) (by assumption) ?_
        | (refine wpAnyH_take (i := 10) (oi := ⟨some 19, _, _, _, _, _⟩) (v := ?_) rfl (by kernel_rfl) (by kernel_rfl) (by kernel_rfl) (fun _ _ _ h => h) (Or.inl ⟨by rfl, ?_⟩) (by assumption) ?_
           rotate_left
           · (intro w hSw; (try dsimp only at hSw); go_simp; (first | done | with_reducible rfl)))
      (try simp only [Act.put, List.setIfInBounds_toArray, List.set_cons_zero, List.set_cons_succ])
    all_goals
      first
        | refine wpAnyH_take (i := 8) (oi := ⟨some 17, _, _, _, _, _⟩) (v := undef) rfl (by kernel_rfl) (by kernel_rfl) (by kernel_rfl) (fun _ _ _ h => h) (Or.inr ⟨by rfl, rfl⟩) (by assumption) ?_
        | (refine wpAnyH_ready (rs := [8]) (by kernel_rfl) (by simp) ?_
           refine AllReadyH.cons (o := ⟨some 17, _, _, _, _, _⟩) rfl (fun K hK => ?_) AllReadyH.nil
           go_simp
           go_at_call 55; refine (binds_any _ _ _ _ _ _ _ _ _ ?_ hc2).mono ?_; (go_split_ands; exact DB.read HR2.out (by assumption)); rintro e w' ⟨rfl, hb1⟩
           refine hK.out _ _ ?_ (fun hHeld => ?_)
           · go_split_ands; exact ⟨(DB.step (Hid.out (by assumption)) hb1).cells, Lib.hid (DB.step (Hid.out (by assumption)) hb1)⟩
           clear hK K)
      (try simp only [Act.put, List.setIfInBounds_toArray, List.set_cons_zero, List.set_cons_succ])
    all_goals
      first
        | refine wpAnyH_take (i := 11) (oi := ⟨some 20, _, _, _, _, _⟩) (v := undef) rfl (by kernel_rfl) (by kernel_rfl) (by kernel_rfl) (fun _ _ _ h => h) (Or.inr ⟨by rfl, rfl⟩) (by assumption) ?_
        | (refine wpAnyH_ready (rs := [11]) (by kernel_rfl) (by simp) ?_
           refine AllReadyH.cons (o := ⟨some 20, _, _, _, _, _⟩) rfl (fun K hK => ?_) AllReadyH.nil
           go_simp
           go_at_call 56; refine (must_any _ _ _ _ _ _ _ _ i _ ?_ hc hi).mono ?_; (go_split_ands; exact DB.read HR.out (by assumption)); rintro e w' ⟨rfl, hb1⟩
           refine hK.out _ _ ?_ (fun hHeld => ?_)
           · go_split_ands; exact ⟨(DB.step (Hid.out (by assumption)) hb1).cells, Lib.hid (DB.step (Hid.out (by assumption)) hb1)⟩
           clear hK K)
      (try simp only [Act.put, List.setIfInBounds_toArray, List.set_cons_zero, List.set_cons_succ])
    all_goals
      first
        | refine wpAnyH_take (i := 12) (oi := ⟨some 21, _, _, _, _, _⟩) (v := undef) rfl (by kernel_rfl) (by kernel_rfl) (by kernel_rfl) (fun _ _ _ h => h) (Or.inr ⟨by rfl, rfl⟩) (by assumption) ?_
        | (refine wpAnyH_take (i := 12) (oi := ⟨some 21, _, _, _, _, _⟩) (v := ?_) rfl (by kernel_rfl) (by kernel_rfl) (by kernel_rfl) (fun _ _ _ h => h) (Or.inl ⟨by rfl, ?_⟩) (by assumption) ?_
           rotate_left
           · (intro w hSw; (try dsimp only at hSw); go_simp; (first | done | with_reducible rfl)))
      (try simp only [Act.put, List.setIfInBounds_toArray, List.set_cons_zero, List.set_cons_succ])
    all_goals
      first
        | refine wpAnyH_take (i := 13) (oi := ⟨some 22, _, _, _, _, _⟩) (v := undef) rfl (by kernel_rfl) (by kernel_rfl) (by kernel_rfl) (fun _ _ _ h => h) (Or.inr ⟨by rfl, rfl⟩) (by assumption) ?_
        | (refine wpAnyH_take (i := 13) (oi := ⟨some 22, _, _, _, _, _⟩) (v := ?_) rfl (by kernel_rfl) (by kernel_rfl) (by kernel_rfl) (fun _ _ _ h => h) (Or.inl ⟨by rfl, ?_⟩) (by assumption) ?_
           rotate_left
           · (intro w hSw; (try dsimp only at hSw); go_simp; (first | done | with_reducible rfl)))
      (try simp only [Act.put, List.setIfInBounds_toArray, List.set_cons_zero, List.set_cons_succ])
    all_goals
      first
        | refine wpAnyH_take (i := 17) (oi := ⟨some 26, _, _, _, _, _⟩) (v := undef) rfl (by kernel_rfl) (by kernel_rfl) (by kernel_rfl) (fun _ _ _ h => h) (Or.inr ⟨by rfl, rfl⟩) (by assumption) ?_
        | (refine wpAnyH_take (i := 17) (oi := ⟨some 26, _, _, _, _, _⟩) (v := ?_) rfl (by kernel_rfl) (by kernel_rfl) (by kernel_rfl) (fun _ _ _ h => h) (Or.inl ⟨by rfl, ?_⟩) (by assumption) ?_
           rotate_left
           · (intro w hSw; (try dsimp only at hSw); go_simp; (first | done | with_reducible rfl)))
      (try simp only [Act.put, List.setIfInBounds_toArray, List.set_cons_zero, List.set_cons_succ])
    all_goals
      first
        | refine wpAnyH_take (i := 18) (oi := ⟨some 27, _, _, _, _, _⟩) (v := undef) rfl (by kernel_rfl) (by kernel_rfl) (by kernel_rfl) (fun _ _ _ h => h) (Or.inr ⟨by rfl, rfl⟩) (by assumption) ?_
        | (refine wpAnyH_take (i := 18) (oi := ⟨some 27, _, _, _, _, _⟩) (v := ?_) rfl (by kernel_rfl) (by kernel_rfl) (by kernel_rfl) (fun _ _ _ h => h) (Or.inl ⟨by rfl, ?_⟩) (by assumption) ?_
           rotate_left
           · (intro w hSw; (try dsimp only at hSw); go_simp; (first | done | with_reducible rfl)))
      (try simp only [Act.put, List.setIfInBounds_toArray, List.set_cons_zero, List.set_cons_succ])
    all_goals
      first
        | refine wpAnyH_take (i := 19) (oi := ⟨some 28, _, _, _, _, _⟩) (v := undef) rfl (by kernel_rfl) (by kernel_rfl) (by kernel_rfl) (fun _ _ _ h => h) (Or.inr ⟨by rfl, rfl⟩) (by assumption) ?_
        | (refine wpAnyH_take (i := 19) (oi := ⟨some 28, _, _, _, _, _⟩) (v := ?_) rfl (by kernel_rfl) (by kernel_rfl) (by kernel_rfl) (fun _ _ _ h => h) (Or.inl ⟨by rfl, ?_⟩) (by assumption) ?_
           rotate_left
           · (intro w hSw; (try dsimp only at hSw); go_simp; (first | done | with_reducible rfl)))
      (try simp only [Act.put, List.setIfInBounds_toArray, List.set_cons_zero, List.set_cons_succ])
    all_goals
      first
        | refine wpAnyH_take (i := 20) (oi := ⟨some 29, _, _, _, _, _⟩) (v := undef) rfl (by kernel_rfl) (by kernel_rfl) (by kernel_rfl) (fun _ _ _ h => h) (Or.inr ⟨by rfl, rfl⟩) (by assumption) ?_
        | (refine wpAnyH_take (i := 20) (oi := ⟨some 29, _, _, _, _, _⟩) (v := ?_) rfl (by kernel_rfl) (by kernel_rfl) (by kernel_rfl) (fun _ _ _ h => h) (Or.inl ⟨by rfl, ?_⟩) (by assumption) ?_
           rotate_left
           · (intro w hSw; (try dsimp only at hSw); go_simp; (first | done | with_reducible rfl)))
      (try simp only [Act.put, List.setIfInBounds_toArray, List.set_cons_zero, List.set_cons_succ])
    all_goals
      first
        | refine wpAnyH_take (i := 24) (oi := ⟨some 33, _, _, _, _, _⟩) (v := undef) rfl (by kernel_rfl) (by kernel_rfl) (by kernel_rfl) (fun _ _ _ h => h) (Or.inr ⟨by rfl, rfl⟩) (by assumption) ?_
        | (refine wpAnyH_take (i := 24) (oi := ⟨some 33, _, _, _, _, _⟩) (v := ?_) rfl (by kernel_rfl) (by kernel_rfl) (by kernel_rfl) (fun _ _ _ h => h) (Or.inl ⟨by rfl, ?_⟩) (by assumption) ?_
           rotate_left
           · (intro w hSw; (try dsimp only at hSw); go_simp; (first | done | with_reducible rfl)))
      (try simp only [Act.put, List.setIfInBounds_toArray, List.set_cons_zero, List.set_cons_succ])
    all_goals
      first
        | refine wpAnyH_take (i := 25) (oi := ⟨some 34, _, _, _, _, _⟩) (v := undef) rfl (by kernel_rfl) (by kernel_rfl) (by kernel_rfl) (fun _ _ _ h => h) (Or.inr ⟨by rfl, rfl⟩) (by assumption) ?_
        | (refine wpAnyH_take (i := 25) (oi := ⟨some 34, _, _, _, _, _⟩) (v := ?_) rfl (by kernel_rfl) (by kernel_rfl) (by kernel_rfl) (fun _ _ _ h => h) (Or.inl ⟨by rfl, ?_⟩) (by assumption) ?_
           rotate_left
           · (intro w hSw; (try dsimp only at hSw); go_simp; (first | done | with_reducible rfl)))
      (try simp only [Act.put, List.setIfInBounds_toArray, List.set_cons_zero, List.set_cons_succ])
    all_goals
      first
        | refine wpAnyH_take (i := 26) (oi := ⟨some 35, _, _, _, _, _⟩) (v := undef) rfl (by kernel_rfl) (by kernel_rfl) (by kernel_rfl) (fun _ _ _ h => h) (Or.inr ⟨by rfl, rfl⟩) (by assumption) ?_
        | (refine wpAnyH_take (i := 26) (oi := ⟨some 35, _, _, _, _, _⟩) (v := ?_) rfl (by kernel_rfl) (by kernel_rfl) (by kernel_rfl) (fun _ _ _ h => h) (Or.inl ⟨by rfl, ?_⟩) (by assumption) ?_
           rotate_left
           · (intro w hSw; (try dsimp only at hSw); go_simp; (first | done | with_reducible rfl)))
      (try simp only [Act.put, List.setIfInBounds_toArray, List.set_cons_zero, List.set_cons_succ])
    all_goals
      first
        | refine wpAnyH_take (i := 27) (oi := ⟨some 36, _, _, _, _, _⟩) (v := undef) rfl (by kernel_rfl) (by kernel_rfl) (by kernel_rfl) (fun _ _ _ h => h) (Or.inr ⟨by rfl, rfl⟩) (by assumption) ?_
        | (refine wpAnyH_take (i := 27) (oi := ⟨some 36, _, _, _, _, _⟩) (v := ?_) rfl (by kernel_rfl) (by kernel_rfl) (by kernel_rfl) (fun _ _ _ h => h) (Or.inl ⟨by rfl, ?_⟩) (by assumption) ?_
           rotate_left
           · (intro w hSw; (try dsimp only at hSw); go_simp; (first | done | with_reducible rfl)))
      (try simp only [Act.put, List.setIfInBounds_toArray, List.set_cons_zero, List.set_cons_succ])
    all_goals
      first
        | refine wpAnyH_take (i := 28) (oi := ⟨some 37, _, _, _, _, _⟩) (v := undef) rfl (by kernel_rfl) (by kernel_rfl) (by kernel_rfl) (fun _ _ _ h => h) (Or.inr ⟨by rfl, rfl⟩) (by assumption) ?_
        | (refine wpAnyH_take (i := 28) (oi := ⟨some 37, _, _, _, _, _⟩) (v := ?_) rfl (by kernel_rfl) (by kernel_rfl) (by kernel_rfl) (fun _ _ _ h => h) (Or.inl ⟨by rfl, ?_⟩) (by assumption) ?_
           rotate_left
           · (intro w hSw; (try dsimp only at hSw); go_simp; (first | done | with_reducible rfl)))
      (try simp only [Act.put, List.setIfInBounds_toArray, List.set_cons_zero, List.set_cons_succ])
    all_goals
      refine wpAnyH_ready (rs := [29]) (by kernel_rfl) (by simp) ?_
      refine AllReadyH.cons (o := ⟨some 38, _, _, _, _, _⟩) rfl (fun K hK => ?_) AllReadyH.nil
      go_simp
      refine hK.out _ _ ?_ (fun hHeld => ?_)
      · go_split_ands; exact ⟨(DB.step (Hid.out (by assumption)) ((Below.refl _ _).alloc (Nat.le_refl _) _)).cells, Lib.hid (DB.step (Hid.out (by assumption)) ((Below.refl _ _).alloc (Nat.le_refl _) _))⟩
      clear hK K
      (try simp only [Act.put, List.setIfInBounds_toArray, List.set_cons_zero, List.set_cons_succ])
    all_goals
      first
        | refine wpAnyH_take (i := 30) (oi := ⟨some 39, _, _, _, _, _⟩) (v := undef) rfl (by kernel_rfl) (by kernel_rfl) (by kernel_rfl) (fun _ _ _ h => h) (Or.inr ⟨by rfl, rfl⟩) (by assumption) ?_
        | (refine wpAnyH_take (i := 30) (oi := ⟨some 39, _, _, _, _, _⟩) (v := ?_) rfl (by kernel_rfl) (by kernel_rfl) (by kernel_rfl) (fun _ _ _ h => h) (Or.inl ⟨by rfl, ?_⟩) (by assumption) ?_
           rotate_left
           · (intro w hSw; (try dsimp only at hSw); go_simp; (first | done | with_reducible rfl)))
      (try simp only [Act.put, List.setIfInBounds_toArray, List.set_cons_zero, List.set_cons_succ])
    all_goals
      refine wpAnyH_done (by kernel_rfl) ?_ _
      try go_wp2
      go_meet
      case rel =>
        go_split_ands
        exact ⟨_, rfl, rfl, rfl, Lib.hid (HWB.out _ _ (Blk.new _ _ 4)), Lib.hid (DB.below (Hid.out (by assumption)))⟩
  case rest =>
    obtain ⟨g, rfl, rfl, rfl, hb, hB⟩ := hcut
    clear KC HD HR HR2
    obtain ⟨B1, e1⟩ : ∃ b, b = decide (k2 = 12) := ⟨_, rfl⟩
    rw [← e1] at hb
    obtain ⟨B2, e2⟩ : ∃ b, b = par k t i k2 t2 := ⟨_, rfl⟩
    rw [← e2] at hb
    obtain ⟨B3, e3⟩ : ∃ b, b = decide (k = 31 ∧ i = 1) := ⟨_, rfl⟩
    rw [← e3] at hb
    obtain ⟨B4, e4⟩ : ∃ b, b = decide (k = 34 ∨ k = 35) := ⟨_, rfl⟩
    rw [← e4] at hb
    have HEE := Lib.hid (And.intro e1 (And.intro e2 (And.intro e3 e4)))
    clear e1 e2 e3 e4
    go_wp2
    go_loopw [6, 40] (fun n q wr => ∃ j : Nat, j ≤ 4 ∧ q = .int .i64 j ∧ n = .int .i64 (partN B1 B2 B3 B4 j) ∧ Hid (Blk g #[.bool B1, .bool B2, .bool B3, .bool B4] 4 wr) ∧ Hid (Below w.heap.size w wr)) (fun _ q _ => 4 - (intOf q).toNat)
    case atStart => exact ⟨0, by omega, rfl, rfl, hb, hB⟩
    case round =>
      obtain ⟨j, hj, rfl, rfl, hbr, hBr⟩ := hrel
      have q0 := hbr.out.cell 0 _ rfl
      have q1 := hbr.out.cell 1 _ rfl
      have q2 := hbr.out.cell 2 _ rfl
      have q3 := hbr.out.cell 3 _ rfl
      have hj5 : j = 0 ∨ j = 1 ∨ j = 2 ∨ j = 3 ∨ j = 4 := by omega
      clear hj
      rcases hj5 with rfl | rfl | rfl | rfl | rfl
      · cases B1
        all_goals
          go_wp2
          go_roundw
          case rel => exact ⟨1, by omega, by go_num, by first | exact congrArg _ (partN_t0 _ _ _) | exact congrArg _ (partN_f0 _ _ _), hbr, hBr⟩
          case measure => simp [intOf]
      · cases B2
        all_goals
          go_wp2
          go_roundw
          case rel => exact ⟨2, by omega, by go_num, by first | exact congrArg _ (partN_t1 _ _ _) | exact congrArg _ (partN_f1 _ _ _), hbr, hBr⟩
          case measure => simp [intOf]
      · cases B3
        all_goals
          go_wp2
          go_roundw
          case rel => exact ⟨3, by omega, by go_num, by first | exact congrArg _ (partN_t2 _ _ _) | exact congrArg _ (partN_f2 _ _ _), hbr, hBr⟩
          case measure => simp [intOf]
      · cases B4
        all_goals
          go_wp2
          go_roundw
          case rel => exact ⟨4, by omega, by go_num, by first | exact congrArg _ (partN_t3 _ _ _) | exact congrArg _ (partN_f3 _ _ _), hbr, hBr⟩
          case measure => simp [intOf]
      · go_wp2
        go_ret
        exact ⟨by rw [← HEE.out.1, ← HEE.out.2.1, ← HEE.out.2.2.1, ← HEE.out.2.2.2]; rfl, hBr.out⟩
end Go.Proofs.YtbpefmidgfmcaaaDoor
end
