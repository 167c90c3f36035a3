import Derived.Test.YtbpefmidgfmcaaaDoorV11
import Derived.Test.YtbpefmidgfmcaaaDoorV15
import Derived.Test.YtbpefmidgfmcaaaDoorV16
import Derived.Test.YtbpefmidgfmcaaaDoorV6
import Derived.Maps.AppendAt
section
set_option linter.unusedVariables false
set_option linter.unusedSimpArgs false
namespace Go.Proofs.YtbpefmidgfmcaaaDoor
open Go.RowKit PTreeApart Go.Proofs.YtbpefmidgfmcaaaDoorW.PrintWords
/-- What is there when a tree is walked. -/
structure WEnv (W0 : World) (l : List S33) (A : Option Addr) (c m : Nat) (es : List (Int × Value)) : Prop where
  env : Env W0 l A c
  tab : Lib.TabIs Tryd.prog W0 "strings.asciiSpace" .u8 Lib.asciiSpaceTab
  map : IMap encI m es W0
  keys : ∀ k, 1 ≤ k → k ≤ 36 → k ∈ es.map (·.1)
  forms : ∀ p ∈ es, FormV W0 (tbl p.1) p.2
/-- What walk does at a tree that may be. -/
def WalkOk (l : List S33) (d : Nd) : Prop :=
  ∀ (W0 : World) (A : Option Addr) (c m : Nat) (es : List (Int × Value)) (at_ nx ne : Int) (w : World),
    WEnv W0 l A c m es → Tr l d at_ nx → Ok d ne → 0 ≤ ne → Below W0.heap.size W0 w →
    Calls Tryd.prog 17 #[.agg #[.slice A l.length c], .int .i64 at_, .int .i64 ne, .map (some m)] w fun e w' => e = .returned (.int .i64 nx) ∧ Below w.heap.size w w'
theorem IMap.below {m : Nat} {es : List (Int × Value)} {w w' : World} (h : IMap encI m es w) (hb : Below w.heap.size w w') : IMap encI m es w' := by
  obtain ⟨arr, clk, hh, he⟩ := h
  exact ⟨arr, clk, (hb.block m (Array.getElem?_eq_some_iff.1 hh).1).trans hh, he⟩
theorem ownsRow_below {w w' : World} {base : Nat} {e : TypeId} {size n : Nat} {v : Value} {xs : List Value} (h : w.ownsRow base e size v n xs) (hb : Below w.heap.size w w') : w'.ownsRow base e size v n xs :=
  ownsRow_other h fun k hk => hb.block k (h.lt k hk).2
/-- What stands in the walk's loop. -/
structure WI (w : World) (b0 b1 : Nat) (tv : Value) (cs : Array Value) (v : Value) (ks : List Int) (wr : World) : Prop where
  k0 : Blk b0 #[tv] 24 wr
  k1 : Blk b1 cs 33 wr
  h0 : w.heap.size ≤ b0
  h1 : b0 < b1
  below : Below w.heap.size w wr
  own : wr.ownsRow (b1 + 1) 30 1 v ks.length (ks.map (.int .i64))
theorem WI.step {w : World} {b0 b1 : Nat} {tv : Value} {cs : Array Value} {v : Value} {ks : List Int} {wr w' : World} (h : WI w b0 b1 tv cs v ks wr) (hb : Below wr.heap.size wr w') : WI w b0 b1 tv cs v ks w' :=
  ⟨h.k0.step hb, h.k1.step hb, h.h0, h.h1, below_after h.below hb, ownsRow_below h.own hb⟩
theorem WI.grow {w : World} {b0 b1 : Nat} {tv : Value} {cs : Array Value} {v v' : Value} {ks : List Int} {x : Int} {wr w' : World} (h : WI w b0 b1 tv cs v ks wr) (hg : wr.grownBy w' v.ownBlock)
    (ho : w'.ownsRow (b1 + 1) 30 1 v' (ks.length + 1) (ks.map (.int .i64) ++ [.int .i64 x])) : WI w b0 b1 tv cs v' (ks ++ [x]) w' := by
  have hb := h.below.grown hg (Nat.le_trans h.h0 (Nat.le_of_lt h.k0.lt)) (fun k hk => by have := (h.own.lt k hk).1; have := h.h0; have := h.h1; omega)
  have n0 : v.ownBlock ≠ some b0 := fun e => by have := (h.own.lt _ e).1; have := h.h1; omega
  have n1 : v.ownBlock ≠ some b1 := fun e => by have := (h.own.lt _ e).1; omega
  refine ⟨⟨(hg.block b0 h.k0.lt n0.symm).trans h.k0.heap⟩, ⟨(hg.block b1 h.k1.lt n1.symm).trans h.k1.heap⟩, h.h0, h.h1, hb, ?_⟩
  simpa using ho
theorem WI.iat {w : World} {b0 b1 : Nat} {tv : Value} {cs : Array Value} {v : Value} {ks : List Int} {wr : World} (h : WI w b0 b1 tv cs v ks wr) : ∃ A c, v = .slice A ks.length c ∧ ks.length ≤ c ∧ IAt A ks wr := by
  rcases h.own.2 with ⟨hv, hn⟩ | ⟨g, cap, cur, hv, hb, hg, hle, _⟩
  · rw [hn]
    exact ⟨none, 0, hv, Nat.le_refl _, fun j hj => by omega⟩
  · refine ⟨some ⟨g, 0, none⟩, cap, hv, hle, fun j hj => ⟨g, 0, rfl, ?_, (Array.getElem?_eq_some_iff.1 hg).1⟩⟩
    have := h.own.cells (g := g) (by rw [hv]; rfl) j (.int .i64 ks[j]) (by simp [hj])
    rw [Nat.zero_add]
    have e : (⟨g, 0, none⟩ : Addr).add j = ⟨g, j, none⟩ := by
      simp [Addr.add]
      try (intro h; exact h.symm)
    rw [← e]; exact this
/-- What stands behind the append. -/
structure WK (w : World) (b0 b1 b2 : Nat) (tv : Value) (cs cs2 : Array Value) (v : Value) (ks : List Int) (wr : World) : Prop where
  wi : WI w b0 b1 tv cs v ks wr
  k2 : Blk b2 cs2 33 wr
theorem WK.step {w : World} {b0 b1 b2 : Nat} {tv : Value} {cs cs2 : Array Value} {v : Value} {ks : List Int} {wr w' : World} (h : WK w b0 b1 b2 tv cs cs2 v ks wr) (hb : Below wr.heap.size wr w') : WK w b0 b1 b2 tv cs cs2 v ks w' :=
  ⟨h.wi.step hb, h.k2.step hb⟩
theorem WK.drew {w : World} {b0 b1 b2 : Nat} {tv : Value} {cs cs2 : Array Value} {v : Value} {ks : List Int} {wr : World} (h : WK w b0 b1 b2 tv cs cs2 v ks wr) : WK w b0 b1 b2 tv cs cs2 v ks wr.drew := h.step ⟨rfl, rfl, rfl, Nat.le_refl _, fun _ _ => rfl⟩
theorem WK.cells {w : World} {b0 b1 b2 : Nat} {k n ln cl k2 n2 ln2 cl2 : Int} {t t2 : ByteArray} {A A2 : Option Addr} {m c m2 c2 : Nat} {tv v : Value} {ks : List Int} {wr : World}
    (h : WK w b0 b1 b2 tv (box6 k t n ln cl A m c) (box6 k2 t2 n2 ln2 cl2 A2 m2 c2) v ks wr) :
    wr.cell? ⟨b0, 0, none⟩ = some tv ∧ wr.cell? ⟨b1, 0, none⟩ = some (.int .i64 k) ∧ wr.cell? ⟨b1, 1, none⟩ = some (.string t) ∧ wr.cell? ⟨b1, 2, none⟩ = some (.int .i64 n) ∧ wr.cell? ⟨b1, 3, none⟩ = some (.int .i64 ln) ∧ wr.cell? ⟨b1, 4, none⟩ = some (.int .i64 cl) ∧ wr.cell? ⟨b1, 5, none⟩ = some (.slice A m c) ∧
    wr.cell? ⟨b2, 0, none⟩ = some (.int .i64 k2) ∧ wr.cell? ⟨b2, 1, none⟩ = some (.string t2) ∧ wr.cell? ⟨b2, 2, none⟩ = some (.int .i64 n2) ∧ wr.cell? ⟨b2, 3, none⟩ = some (.int .i64 ln2) ∧ wr.cell? ⟨b2, 4, none⟩ = some (.int .i64 cl2) ∧ wr.cell? ⟨b2, 5, none⟩ = some (.slice A2 m2 c2) :=
  ⟨h.wi.k0.cell 0 _ rfl, h.wi.k1.cell 0 _ rfl, h.wi.k1.cell 1 _ rfl, h.wi.k1.cell 2 _ rfl, h.wi.k1.cell 3 _ rfl, h.wi.k1.cell 4 _ rfl, h.wi.k1.cell 5 _ rfl, h.k2.cell 0 _ rfl, h.k2.cell 1 _ rfl, h.k2.cell 2 _ rfl, h.k2.cell 3 _ rfl, h.k2.cell 4 _ rfl, h.k2.cell 5 _ rfl⟩
/-- What deeper answers. -/
def Deeper : Prop := ∀ (k : Int) (t : ByteArray) (n ln cl : Int) (A : Option Addr) (c : Nat) (kl : List Int) (i : Nat) (k2 : Int) (t2 : ByteArray) (n2 ln2 cl2 : Int) (A2 : Option Addr) (c2 : Nat) (kl2 : List Int) (w : World),
  Kd.C (Kd.int .i64) w A kl.length kl → kl.length ≤ c → Kd.C (Kd.int .i64) w A2 kl2.length kl2 → kl2.length ≤ c2 → i < 1000000 → ∀ d : Nd, d.kind = k2 → d.text = t2 →
    Calls Tryd.prog 33 #[.agg #[.int .i64 k, .string t, .int .i64 n, .int .i64 ln, .int .i64 cl, .slice A kl.length c], .int .i64 (i : Int), .agg #[.int .i64 k2, .string t2, .int .i64 n2, .int .i64 ln2, .int .i64 cl2, .slice A2 kl2.length c2]] w
      fun e w' => e = .returned (.int .i64 (more k t i d)) ∧ Below w.heap.size w w'
theorem more_b (k : Int) (t : ByteArray) (i : Nat) (d : Nd) : 0 ≤ more k t i d ∧ more k t i d ≤ 3 := by
  unfold more
  repeat' split
  all_goals omega
theorem lookup_key {k : Int} : ∀ {es : List (Int × Value)}, k ∈ es.map (·.1) → ∃ v, es.lookup k = some v ∧ (k, v) ∈ es
  | p :: es, h => by
    by_cases e : k = p.1
    · exact ⟨p.2, by simp [List.lookup, e], by rw [e]; exact List.mem_cons_self⟩
    · have h2 : k ∈ es.map (·.1) := by
        rw [List.map_cons, List.mem_cons] at h
        exact h.resolve_left e
      obtain ⟨v, h3, h4⟩ := lookup_key h2
      have : (k == p.1) = false := by simpa using e
      exact ⟨v, by simp only [List.lookup, this]; exact h3, List.mem_cons_of_mem _ h4⟩
theorem FnV.func {w : World} {v : Value} {c : Pc} (h : FnV w v c) : ∃ f cap, v = .func (.func f) #[] cap := (FnV.pred h).func
theorem OptV.shape {w : World} {v : Value} {c : Option Pc} (h : OptV w v c) : v = .nilFunc ∨ ∃ f cap, v = .func (.func f) #[] cap := by
  cases c with
  | none => exact .inl h
  | some c => exact .inr (FnV.func h)
theorem FormV.shape {w : World} {T : FT} {F : Value} (h : FormV w T F) : ∃ (tx : Value) (lo hi : Int) (A : Option Addr) (n : Nat) (lv rv : Value), F = .agg #[tx, .int .i64 lo, .int .i64 hi, .slice A n n, lv, rv] ∧
    (tx = .nilFunc ∨ ∃ f cap, tx = .func (.func f) #[] cap) ∧ (lv = .nilFunc ∨ ∃ f cap, lv = .func (.func f) #[] cap) ∧ (rv = .nilFunc ∨ ∃ f cap, rv = .func (.func f) #[] cap) := by
  obtain ⟨kv, lv, rv, rfl, h1, h2, h3⟩ := h
  have h0 : T.tx.val = .nilFunc ∨ ∃ f cap, T.tx.val = .func (.func f) #[] cap := by
    cases T.tx
    · exact .inl rfl
    · exact .inr ⟨_, _, rfl⟩
    · exact .inr ⟨_, _, rfl⟩
    · exact .inr ⟨_, _, rfl⟩
  rcases h1 with ⟨_, rfl⟩ | ⟨g, vs, rfl, _⟩
  · exact ⟨_, _, _, none, 0, _, _, rfl, h0, h2.shape, h3.shape⟩
  · exact ⟨_, _, _, _, _, _, _, rfl, h0, h2.shape, h3.shape⟩
theorem info30 : (Tryd.prog.info? 30).map (fun i => (i.zero, i.size, i.bytes)) = some (some (.int .i64 0), 1, 8) := by kernel_rfl
set_option maxHeartbeats 8000000 in
set_option maxRecDepth 100000 in
theorem walk_mk (hDp : Deeper) (l : List S33) (k : Int) (t : ByteArray) (n : Int) (ks : List Nd) (ih : ∀ d ∈ ks, WalkOk l d) : WalkOk l (.mk k t n ks) := by
  intro W0 A c m es at_ nx ne w E hT hO hne hB
  obtain ⟨ha0, ha1, hk, ht, hn, hTs⟩ := hT
  obtain ⟨hn64, hk1, hk36, htx, hnum, hkids, hOs⟩ := hO
  have hlen := E.env.few
  have hnx := (Tr.next (.mk k t n ks) ⟨ha0, ha1, hk, ht, hn, hTs⟩)
  obtain ⟨i0, hi, hz0, hz1, hz2⟩ := info_parts info30
  obtain ⟨ad, A5, c5, rfl, hTw, h5, hr5, hlt⟩ := E.env.twig at_ ha0 ha1
  generalize hx : rT l at_ = x at *
  have hTwB := hTw.below hB hlt
  have hltw : (ad.add (at_.toNat * 6)).block < w.heap.size := Nat.lt_of_lt_of_le hlt hB.size
  obtain ⟨t0, t1, t2, t3, t4, t5⟩ := hTwB
  have hkl := hTs.len
  have hklen : x.f5.length ≤ 300 := by
    have h1 := length_cnts ks; have h2 := hnx.1; have h3 := hnx.2
    simp only [cnt] at h2; omega
  have g1 : decide ((l.length : Int) ≤ at_) = false := decide_eq_false (by omega)
  have g2 : decide ((64 : Int) < ne) = false := decide_eq_false (by omega)
  have HE := Lib.hid E
  have HX := Lib.hid (And.intro hk (And.intro ht hn))
  have HTs := Lib.hid hTs
  have HOs := Lib.hid hOs
  have HOK := Lib.hid (And.intro hk1 (And.intro hk36 (And.intro htx (And.intro hnum hkids))))
  have HB := Lib.hid hB
  have HR5 := Lib.hid hr5
  have HNX := Lib.hid hnx
  have HIH := Lib.hid ih
  have HKL := Lib.hid hkl
  have HTW := Lib.hid hTw
  clear E hk ht hn hTs hOs hk1 hk36 htx hnum hkids hB hr5 hnx ih hkl hTw hx hlt
  go_enter Tryd.func17, Tryd.ntmps17
  go_upto_region 6 with (fail)
  have hWI : WI w w.heap.size (w.heap.size + 1) (.slice (some ad) l.length c) (box6 x.f0 x.f1 x.f2 x.f3 x.f4 A5 x.f5.length c5) (.slice none 0 0) [] ((w.alloc (.cells #[.slice (some ad) l.length c] 24)).alloc (.cells (box6 x.f0 x.f1 x.f2 x.f3 x.f4 A5 x.f5.length c5) 33)) := by
    refine ⟨(Blk.new w _ 24).step ((Below.refl _ _).alloc (Nat.le_refl _) _), ?_, Nat.le_refl _, by omega, below_after ((Below.refl _ _).alloc (Nat.le_refl _) _) ((Below.refl _ _).alloc (Nat.le_refl _) _), World.ownsRow_nil _ _ _ _⟩
    have := Blk.new (w.alloc (.cells #[.slice (some ad) l.length c] 24)) (box6 x.f0 x.f1 x.f2 x.f3 x.f4 A5 x.f5.length c5) 33
    rwa [show (w.alloc (.cells #[.slice (some ad) l.length c] 24)).heap.size = w.heap.size + 1 from by show (w.heap.push _).size = _; simp] at this
  have hwk : ∀ W : World, W = ((w.alloc (.cells #[.slice (some ad) l.length c] 24)).alloc (.cells (box6 x.f0 x.f1 x.f2 x.f3 x.f4 A5 x.f5.length c5) 33)) → True := fun _ _ => trivial
  clear hwk t0 t1 t2 t3 t4 t5
  change Code.wp _ _ _ _ ((w.alloc (.cells #[.slice (some ad) l.length c] 24)).alloc (.cells (box6 x.f0 x.f1 x.f2 x.f3 x.f4 A5 x.f5.length c5) 33))
  generalize ((w.alloc (.cells #[.slice (some ad) l.length c] 24)).alloc (.cells (box6 x.f0 x.f1 x.f2 x.f3 x.f4 A5 x.f5.length c5) 33)) = w1 at *
  obtain ⟨b1, hb1⟩ : ∃ b1, b1 = w.heap.size + 1 := ⟨_, rfl⟩
  obtain ⟨b0, hb0⟩ : ∃ b0, b0 = w.heap.size := ⟨_, rfl⟩
  rw [← hb1, ← hb0] at hWI
  rw [← hb1, ← hb0]
  clear hb1 hb0
  have q5 := hWI.k1.cell 5 _ rfl
  have HWI := Lib.hid hWI
  clear hWI
  go_wp2_with fail
  clear q5
  go_loopw [10, 11, 36] (fun nv kv i wr => ∃ (j : Nat) (cj : Int), j ≤ x.f5.length ∧ i = .int .i64 j ∧ nv = .int .i64 cj ∧ cj ≤ l.length ∧ 0 ≤ cj ∧ Hid (Trs l x.f5 j (ks.drop j) cj nx) ∧ Hid (WI w b0 b1 (.slice (some ad) l.length c) (box6 x.f0 x.f1 x.f2 x.f3 x.f4 A5 x.f5.length c5) kv ((ks.take j).map Nd.kind) wr)) (fun _ _ i _ => x.f5.length - (intOf i).toNat)
  case atStart => exact ⟨0, at_ + 1, Nat.zero_le _, rfl, rfl, by omega, by omega, HTs, HWI⟩
  case round =>
    obtain ⟨j, cj, hj, rfl, rfl, hcl, hc0, hTj, hWj⟩ := hrel
    clear HWI
    by_cases hlt : j < x.f5.length
    · have hjk : j < ks.length := by have := HKL.out; omega
      have hT0 := hTj.out
      rw [List.drop_eq_getElem_cons hjk] at hT0
      obtain ⟨hij, hget, m', hTr, hTs'⟩ := hT0
      have htk : ks.take (j + 1) = ks.take j ++ [ks[j]] := List.take_succ_eq_append_getElem hjk
      have hOk := HOs.out.kid j hjk
      rw [Nat.zero_add] at hOk
      have hih := HIH.out ks[j] (List.getElem_mem hjk)
      generalize ks[j] = d at hTr htk hOk hih
      obtain ⟨hm1, hm2⟩ := Tr.next d hTr
      have hcp := cnt_pos d
      have hB0 : Below W0.heap.size W0 wr := below_after HB.out hWj.out.below
      obtain ⟨L, hL⟩ : ∃ L, L = (ks.take j).map Nd.kind := ⟨_, rfl⟩
      rw [← hL] at hWj
      have hLl : L.length ≤ 300 := by rw [hL, List.length_map, List.length_take]; omega
      have HLL := Lib.hid hL
      clear hL
      obtain ⟨adk, rfl, hck⟩ := Kd.at_int HR5.out (j : Int) (by omega) (by omega)
      have e1 : wr.cell? (adk.add j) = some (.int .i64 cj) := by
        have h1 := (hB0.cell (World.block_lt_of_cell? W0 _ hck)).trans hck
        rw [show ((j : Int)).toNat = j from by omega] at h1
        rw [h1, show rd x.f5 (j : Int) = cj from by rw [← hget]; simp [rd]]
      obtain ⟨hk20, hk21, hx20, hx2l⟩ := hTr.kind
      obtain ⟨ad', A6, c6, ea, hTw2, h6, hr6, hlt2⟩ := HE.out.env.twig cj hx20 hx2l
      cases ea
      generalize hx2 : rT l cj = x2 at *
      obtain ⟨mo, hmo⟩ : ∃ mo, mo = more x.f0 x.f1 j d := ⟨_, rfl⟩
      have hmb := more_b x.f0 x.f1 j d
      rw [← hmo] at hmb
      have h33 : ∀ W, Below W0.heap.size W0 W → Calls Tryd.prog 33 #[.agg #[.int .i64 x.f0, .string x.f1, .int .i64 x.f2, .int .i64 x.f3, .int .i64 x.f4, .slice (some adk) x.f5.length c5], .int .i64 (j : Int), .agg #[.int .i64 x2.f0, .string x2.f1, .int .i64 x2.f2, .int .i64 x2.f3, .int .i64 x2.f4, .slice A6 x2.f5.length c6]] W
          fun e w' => e = .returned (.int .i64 mo) ∧ Below W.heap.size W w' := fun W hW => by
        rw [hmo]
        exact hDp _ _ _ _ _ _ _ _ _ _ _ _ _ _ _ _ _ W (Kd.C_below HR5.out hW) h5 (Kd.C_below hr6 hW) h6 (by omega) d hk20.symm hk21.symm
      have h17 : ∀ W, Below W0.heap.size W0 W → Calls Tryd.prog 17 #[.agg #[.slice (some ad) l.length c], .int .i64 cj, .int .i64 (ne + mo), .map (some m)] W
          fun e w' => e = .returned (.int .i64 m') ∧ Below W.heap.size W w' := fun W hW =>
        hih W0 (some ad) c m es cj m' (ne + mo) W HE.out hTr (by rw [hmo, HX.out.1, HX.out.2.1]; exact hOk) (by omega) hW
      have hTw3 := hTw2.below hB0 hlt2
      obtain ⟨t0, t1, t2, t3, t4, t5⟩ := hTw3
      have l3 : (adk.add j).block < wr.heap.size := World.block_lt_of_cell? wr _ e1
      have l4 : (ad.add (cj.toNat * 6)).block < wr.heap.size := Nat.lt_of_lt_of_le hlt2 hB0.size
      have q0 := hWj.out.k0.cell 0 _ rfl
      have q5 := hWj.out.k1.cell 5 _ rfl
      have l5 := hWj.out.k0.lt
      have l6 := hWj.out.k1.lt
      have hne2 : u11.ownBlock ≠ some wr.heap.size := fun e => by have := (hWj.out.own.lt _ e).2; omega
      have g1' : decide ((l.length : Int) ≤ cj) = false := decide_eq_false (by omega)
      have g3 : decide (m' < (0 : Int)) = false := decide_eq_false (by omega)
      have hsum : IntKind.i64.wrap (ne + mo) = ne + mo := by rw [IntKind.wrap_i64]; omega
      have HTs2 := Lib.hid hTs'
      have HTk := Lib.hid htk
      have HK2 := Lib.hid hk20
      have H33 := Lib.hid h33
      have H17 := Lib.hid h17
      have HM1 := Lib.hid (And.intro hm2 hm1)
      have HNE := Lib.hid hne2
      clear hij hget hTr hTs' htk hOk hih hm1 hck hk20 hk21 hTw2 hr6 hlt2 hx2 hmo h33 h17 hne2 hB0
      go_upto_region 12 with (fail)
      have hWk : WI w b0 b1 (.slice (some ad) l.length c) (box6 x.f0 x.f1 x.f2 x.f3 x.f4 (some adk) x.f5.length c5) u11 L (wr.alloc (.cells (box6 x2.f0 x2.f1 x2.f2 x2.f3 x2.f4 A6 x2.f5.length c6) 33)) := hWj.out.step ((Below.refl _ _).alloc (Nat.le_refl _) _)
      have hK2 : Blk wr.heap.size (box6 x2.f0 x2.f1 x2.f2 x2.f3 x2.f4 A6 x2.f5.length c6) 33 (wr.alloc (.cells (box6 x2.f0 x2.f1 x2.f2 x2.f3 x2.f4 A6 x2.f5.length c6) 33)) := Blk.new _ _ _
      change Code.wp _ _ _ _ (wr.alloc (.cells (box6 x2.f0 x2.f1 x2.f2 x2.f3 x2.f4 A6 x2.f5.length c6) 33))
      clear t0 t1 t2 t3 t4 t5 e1 l3 l4 q0 q5 l5 l6
      generalize wr.alloc (.cells (box6 x2.f0 x2.f1 x2.f2 x2.f3 x2.f4 A6 x2.f5.length c6) 33) = wk at *
      generalize wr.heap.size = b2 at *
      have q0 := hK2.cell 0 _ rfl
      have HWk := Lib.hid hWk
      have HBk := Lib.hid hK2
      have l7 := hK2.lt
      have l8 := hWk.k1.lt
      have l9 : b1 + 1 ≤ (wk.alloc (.cells #[.int .i64 x2.f0] 30)).heap.size := by show _ ≤ (wk.heap.push _).size; simp; omega
      clear hWk hK2
      go_wp2_with (first
        | (at_builtin; refine wpList_append_own_at _ rfl _ _ 46 rfl (b1 + 1) 30 i0 (.int .i64 0) 1 8 Tryd.underlying46 hi hz0 hz1 hz2 rfl (by decide) _ _ _ rfl (HWk.out.own.alloc _) ⟨wk.heap.size, 0, none⟩ 1 1 [.int .i64 x2.f0] rfl rfl ?c1 ?c2 ?c3 ?c4 ?c5 ?_)
        | fail)
      case c1 =>
        intro i u hu
        match i, hu with
        | 0, hu =>
          simp at hu
          subst hu
          have e : (⟨wk.heap.size, 0, none⟩ : Addr).add 0 = ⟨wk.heap.size, 0, none⟩ := rfl
          rw [e]
          exact (Blk.new wk #[.int .i64 x2.f0] 30).cell 0 _ rfl
      case c2 => intro u hu; simp at hu; subst hu; rfl
      case c3 => unfold maxLen; omega
      case c4 => omega
      case c5 => exact l9
      intro v3 w3 hown hgrow _ _
      have hWK : WK w b0 b1 b2 (.slice (some ad) l.length c) (box6 x.f0 x.f1 x.f2 x.f3 x.f4 (some adk) x.f5.length c5) (box6 x2.f0 x2.f1 x2.f2 x2.f3 x2.f4 A6 x2.f5.length c6) v3 (L ++ [x2.f0]) w3 := by
        refine ⟨(HWk.out.step ((Below.refl _ _).alloc (Nat.le_refl _) _)).grow hgrow hown, ⟨?_⟩⟩
        rw [hgrow.block b2 (by show _ < (wk.heap.push _).size; simp; omega) (fun e => HNE.out e.symm)]
        exact (HBk.out.step ((Below.refl _ _).alloc (Nat.le_refl _) _)).heap
      have HWK := Lib.hid hWK
      clear hWK hown hgrow q0 l7 l8 l9 HNE HBk
      go_wp2_with fail
      first
        | (go_region_held3 (fun w' => (w'.cell? ⟨b0, 0, none⟩ = some (.slice (some ad) l.length c) ∧ w'.cell? ⟨b1, 0, none⟩ = some (.int .i64 x.f0) ∧ w'.cell? ⟨b1, 1, none⟩ = some (.string x.f1) ∧ w'.cell? ⟨b1, 2, none⟩ = some (.int .i64 x.f2) ∧ w'.cell? ⟨b1, 3, none⟩ = some (.int .i64 x.f3) ∧ w'.cell? ⟨b1, 4, none⟩ = some (.int .i64 x.f4) ∧ w'.cell? ⟨b1, 5, none⟩ = some (.slice (some adk) x.f5.length c5) ∧
        w'.cell? ⟨b2, 0, none⟩ = some (.int .i64 x2.f0) ∧ w'.cell? ⟨b2, 1, none⟩ = some (.string x2.f1) ∧ w'.cell? ⟨b2, 2, none⟩ = some (.int .i64 x2.f2) ∧ w'.cell? ⟨b2, 3, none⟩ = some (.int .i64 x2.f3) ∧ w'.cell? ⟨b2, 4, none⟩ = some (.int .i64 x2.f4) ∧ w'.cell? ⟨b2, 5, none⟩ = some (.slice A6 x2.f5.length c6)) ∧
            Hid (WK w b0 b1 b2 (.slice (some ad) l.length c) (box6 x.f0 x.f1 x.f2 x.f3 x.f4 (some adk) x.f5.length c5) (box6 x2.f0 x2.f1 x2.f2 x2.f3 x2.f4 A6 x2.f5.length c6) v3 (L ++ [x2.f0]) w'))
            (first | exact ⟨HWK.out.drew.cells, Lib.hid HWK.out.drew⟩ | (go_split_ands; exact ⟨(WK.step (Hid.out (by assumption)) hb1).cells, Lib.hid (WK.step (Hid.out (by assumption)) hb1)⟩))
            (first | (go_at_call 33; refine (H33.out _ ?_).mono ?_; (go_split_ands; exact below_after HB.out (WI.below (WK.wi (Hid.out (by assumption))))); rintro e w' ⟨rfl, hb1⟩) | (go_at_call 17; refine (H17.out _ ?_).mono ?_; (go_split_ands; exact below_after HB.out (WI.below (WK.wi (Hid.out (by assumption))))); rintro e w' ⟨rfl, hb1⟩)))
        | fail
      have HK3 : Hid (WK w b0 b1 b2 (.slice (some ad) l.length c) (box6 x.f0 x.f1 x.f2 x.f3 x.f4 (some adk) x.f5.length c5) (box6 x2.f0 x2.f1 x2.f2 x2.f3 x2.f4 A6 x2.f5.length c6) v3 (L ++ [x2.f0]) w') := by go_split_ands; assumption
      go_wp2
      go_roundw
      case rel =>
        refine ⟨j + 1, m', by omega, by go_num, rfl, HM1.out.1, by have := HM1.out.2; omega, HTs2, ?_⟩
        rw [HTk.out, List.map_append, List.map_cons, List.map_nil, ← HLL.out, ← HK2.out]
        exact Lib.hid HK3.out.wi
      case measure => simp [intOf]; omega
    · have e : j = x.f5.length := by omega
      subst e
      have hdone : cj = nx := by
        have h0 := hTj.out
        rw [List.drop_eq_nil_of_le (by have := HKL.out; omega)] at h0
        exact h0.2
      subst hdone
      have htk : ks.take x.f5.length = ks := List.take_of_length_le (by have := HKL.out; omega)
      obtain ⟨L, hL⟩ : ∃ L, L = ks.map Nd.kind := ⟨_, rfl⟩
      rw [htk, ← hL] at hWj
      have hLl : L.length ≤ 1000 := by rw [hL, List.length_map]; have := HKL.out; omega
      have hWE := hWj.out.below
      obtain ⟨A11, c11, rfl, hc11, hA11⟩ := hWj.out.iat
      obtain ⟨F, hlkF, hmemF⟩ := lookup_key (es := es) (HE.out.keys x.f0 (by rw [HX.out.1]; exact HOK.out.1) (by rw [HX.out.1]; exact HOK.out.2.1))
      have hB0 : Below W0.heap.size W0 wr := below_after HB.out hWE
      have hFV : FormV wr (tbl x.f0) F := (HE.out.forms (x.f0, F) hmemF).step hB0
      have hM := (HE.out.map).below hB0
      have hlk : (Instr.lookup 50 (.map (some m)) (.int .i64 x.f0) true).run Tryd.prog wr = .ok (.tuple #[F, .bool true]) wr := hM.run_lookup (P := Tryd.prog) (t := 50) (kt := 30) (et := 64) (d := .int .i64) (by kernel_rfl) (by kernel_rfl) .int x.f0 F hlkF true
      have htab := tab_below HE.out.tab hB0
      have q0 := hWj.out.k1.cell 0 _ rfl
      have q1 := hWj.out.k1.cell 1 _ rfl
      have q2 := hWj.out.k1.cell 2 _ rfl
      have q3 := hWj.out.k1.cell 3 _ rfl
      have q4 := hWj.out.k1.cell 4 _ rfl
      have q5 := hWj.out.k1.cell 5 _ rfl
      have hs1 := hWj.out.k1.lt
      obtain ⟨tx, lo, hi', Ak, nk, lv, rv, eF, htx, hlv, hrv⟩ := hFV.shape
      have hF34 : ∀ W, Below wr.heap.size wr W → Calls Tryd.prog 34 #[.agg #[tx, .int .i64 lo, .int .i64 hi', .slice Ak nk nk, lv, rv], .agg #[.int .i64 x.f0, .string x.f1, .int .i64 x.f2, .int .i64 x.f3, .int .i64 x.f4, .slice A5 x.f5.length c5], .slice A11 L.length c11] W
          fun e w' => e = .returned (.bool true) ∧ Below W.heap.size W w' := by
        intro W hW
        rw [← eF]
        refine form_fits (hFV.step hW) (tab_below htab hW) ?_ ?_ ?_ (hA11.below hW) hLl hc11
        · rw [HX.out.1, HX.out.2.1]; exact text_fit _ _ HOK.out.1 HOK.out.2.1 HOK.out.2.2.1
        · rw [HX.out.1, HX.out.2.2]; exact num_fit _ _ HOK.out.1 HOK.out.2.1 HOK.out.2.2.2.1
        · rw [HX.out.1, hL]; exact kids_fit _ _ HOK.out.1 HOK.out.2.1 HOK.out.2.2.2.2
      have HF34 := Lib.hid hF34
      have HWE := Lib.hid hWE
      rw [eF] at hlk
      clear hFV htab hM hB0 hWE hA11 hmemF hlkF htk eF hF34 hL hLl
      rcases htx with rfl | ⟨ft, ct, rfl⟩ <;> rcases hlv with rfl | ⟨fl, cl, rfl⟩ <;> rcases hrv with rfl | ⟨fr, cr, rfl⟩
      all_goals
        go_wp2_with fail
        refine (HF34.out _ ((Below.refl _ _).alloc (Nat.le_refl _) _)).mono ?_
        rintro e w4 ⟨rfl, hb4⟩
        have HB4 := Lib.hid (below_after (below_after HWE.out ((Below.refl _ _).alloc (Nat.le_refl _) _)) hb4)
        clear hb4 q0 q1 q2 q3 q4 q5 hlk
        go_wp2
        go_ret
        exact ⟨rfl, HB4.out⟩
theorem walk_ok (hDp : Deeper) (l : List S33) : ∀ d : Nd, WalkOk l d := Nd.ind (walk_mk hDp l)
end Go.Proofs.YtbpefmidgfmcaaaDoor
end
section
set_option linter.unusedVariables false
set_option linter.unusedSimpArgs false
namespace Go.Proofs.YtbpefmidgfmcaaaDoor
open Go.RowKit PTreeApart Go.Proofs.YtbpefmidgfmcaaaDoorW.PrintWords
/-- What stands in May's region. -/
structure MB (w : World) (b0 : Nat) (tv : Value) (ad : Addr) (w' : World) : Prop where
  k0 : Blk b0 #[tv] 24 w'
  eq : b0 = w.heap.size
  below : Below w.heap.size w w'
  one : w.cell? ad = some (.int .i64 1)
theorem MB.step {w : World} {b0 : Nat} {tv : Value} {ad : Addr} {w1 w' : World} (h : MB w b0 tv ad w1) (hb : Below w1.heap.size w1 w') : MB w b0 tv ad w' := ⟨h.k0.step hb, h.eq, below_after h.below hb, h.one⟩
theorem MB.cells {w : World} {b0 : Nat} {tv : Value} {ad : Addr} {w1 : World} (h : MB w b0 tv ad w1) : w1.cell? ⟨b0, 0, none⟩ = some tv ∧ w1.cell? ad = some (.int .i64 1) :=
  ⟨h.k0.cell 0 _ rfl, (h.below.cell (World.block_lt_of_cell? w _ h.one)).trans h.one⟩
theorem MB.drew {w : World} {b0 : Nat} {tv : Value} {ad : Addr} {w1 : World} (h : MB w b0 tv ad w1) : MB w b0 tv ad w1.drew := h.step ⟨rfl, rfl, rfl, Nat.le_refl _, fun _ _ => rfl⟩
set_option maxHeartbeats 8000000 in
set_option maxRecDepth 100000 in
theorem may_true (hDp : Deeper) {w0 : World} {l : List S33} {A : Option Addr} {c : Nat} {d : Nd} (E : Env w0 l A c) (htab : Lib.TabIs Tryd.prog w0 "strings.asciiSpace" .u8 Lib.asciiSpaceTab) (hT : Tr l d 0 l.length) (hO : Ok d 0) (hd1 : d.kind = 1) : MayTrue w0 l A c := by
  intro w hB
  obtain ⟨hk1, hk2, hk3, hk4⟩ := hT.kind
  obtain ⟨ad, A5, c5, rfl, hTw, h5, hr, hlt⟩ := E.twig 0 hk3 hk4
  generalize hx : rT l 0 = x at hk1 hTw h5 hr
  have e0 : ad.add (Int.toNat 0 * 6) = ad := rfl
  rw [e0] at hTw hlt
  have hTwB := hTw.below hB hlt
  have t0 := hTwB.c0
  rw [hk1, hd1] at t0
  have l0 : ad.block < w.heap.size := Nat.lt_of_lt_of_le hlt hB.size
  have hn0 : 0 < l.length := by omega
  have g0 : decide (0 < l.length) = true := decide_eq_true hn0
  have h17 : ∀ (m : Nat) (es : List (Int × Value)) (W1 W : World), Below w.heap.size w W1 → IMap encI m es W1 → (∀ k, 1 ≤ k → k ≤ 36 → k ∈ es.map (·.1)) → (∀ p ∈ es, FormV W1 (tbl p.1) p.2) → Below W1.heap.size W1 W →
      Calls Tryd.prog 17 #[.agg #[.slice (some ad) l.length c], .int .i64 0, .int .i64 0, .map (some m)] W fun e w' => e = .returned (.int .i64 l.length) ∧ Below W.heap.size W w' := by
    intro m es W1 W hW1 hm hkeys hforms hW
    have hB1 := below_after hB hW1
    exact walk_ok hDp l d W1 (some ad) c m es 0 l.length 0 W ⟨⟨Kd.C_below E.row hB1, E.cap, E.few, tab_below E.tab hB1⟩, tab_below htab hB1, hm, hkeys, hforms⟩ hT hO (Int.le_refl _) hW
  have H17 := Lib.hid h17
  clear h17 hTw hTwB h5 hr hx hk1 hk2 hd1 hB htab hT hO
  go_enter Tryd.func10, Tryd.ntmps10
  go_upto_region 1 with (fail)
  have hb0 : Below w.heap.size w (w.alloc (.cells #[.slice (some ad) l.length c] 24)) := (Below.refl _ _).alloc (Nat.le_refl _) _
  have hQ : Blk w.heap.size #[.slice (some ad) l.length c] 24 (w.alloc (.cells #[.slice (some ad) l.length c] 24)) := Blk.new w _ 24
  have hM : MB w w.heap.size (.slice (some ad) l.length c) ad (w.alloc (.cells #[.slice (some ad) l.length c] 24)) := ⟨hQ, rfl, hb0, t0⟩
  generalize w.alloc (.cells #[.slice (some ad) l.length c] 24) = w1 at *
  obtain ⟨b0, hg⟩ : ∃ b0, b0 = w.heap.size := ⟨_, rfl⟩
  rw [← hg] at hM
  rw [← hg]
  have HM := Lib.hid hM
  clear hM hb0 hQ t0 l0 hg hk3 hlt E e0
  first
    | (go_region_held3 (fun w' => (w'.cell? ⟨b0, 0, none⟩ = some (.slice (some ad) l.length c) ∧ w'.cell? ad = some (.int .i64 1)) ∧ Hid (MB w b0 (.slice (some ad) l.length c) ad w'))
        (first | exact ⟨HM.out.drew.cells, Lib.hid HM.out.drew⟩ | (go_split_ands; exact ⟨(MB.step (Hid.out (by assumption)) hb1).cells, Lib.hid (MB.step (Hid.out (by assumption)) hb1)⟩))
        (first | (go_at_call 18; refine (forms_any _).mono ?_; rintro e w' ⟨m, es, rfl, hm, hkeys, hforms, hb1⟩) | (go_at_call 17; refine (H17.out _ _ _ _ ?_ hm hkeys hforms (Below.refl _ _)).mono ?_; (go_split_ands; exact MB.below (Hid.out (by assumption))); rintro e w' ⟨rfl, hb1⟩)))
    | fail
  have HM3 : Hid (MB w b0 (.slice (some ad) l.length c) ad w') := by go_split_ands; assumption
  clear hm hkeys hforms
  go_wp2
  go_ret
  exact ⟨rfl, HM3.out.below⟩
theorem deeper_ok : Deeper := fun k t n ln cl A c kl i k2 t2 n2 ln2 cl2 A2 c2 kl2 w hr hc hr2 hc2 hi d h1 h2 => by
  rw [more_eq, h1, h2]
  exact deeper_any k t n ln cl A c kl i k2 t2 n2 ln2 cl2 A2 c2 kl2 w hr hc hr2 hc2 hi
/-- Print at a tree that may be. -/
theorem print_fine {w0 : World} {l : List S33} {A : Option Addr} {c : Nat} {d : Nd} (E : Env w0 l A c) (htab : Lib.TabIs Tryd.prog w0 "strings.asciiSpace" .u8 Lib.asciiSpaceTab) (hT : Tr l d 0 l.length) (hO : Ok d 0) (hd1 : d.kind = 1) :
    Calls Tryd.prog 7 #[.agg #[.slice A l.length c]] w0 fun e w' => e = .returned (.string ⟨(pr [] d).toArray⟩) ∧ Below w0.heap.size w0 w' :=
  print_ok E hT hO (may_true deeper_ok E htab hT hO hd1)
end Go.Proofs.YtbpefmidgfmcaaaDoor
end
