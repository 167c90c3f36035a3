import Derived.Test.YtbpefmidgfmcaaaDoorV6
import Derived.Test.YtbpefmidgfmcaaaDoorV9
import Derived.BigRegion
import Derived.BigQuiet
import Derived.Deep.QuietTactic
import Derived.Deep.RegionHeld3
import Derived.Lib.LaidTab
import Derived.Sort.Grow
section
set_option linter.unusedVariables false
namespace Go.Proofs.YtbpefmidgfmcaaaDoor
open Go.RowKit PTreeApart Go.Proofs.YtbpefmidgfmcaaaDoorW.PrintWords
/-- What is there when a tree is printed: its row, the table of powers. -/
structure Env (W0 : World) (l : List S33) (A : Option Addr) (c : Nat) : Prop where
  row : Kd.C k33 W0 A l.length l
  cap : l.length ≤ c
  few : l.length ≤ 300
  tab : Lib.TabIs Tryd.prog W0 "internal/strconv.uint64pow10" .u64 Lib.pow10Tab
/-- A twig of the row, in memory. -/
structure TwAt (W : World) (ad : Addr) (x : S33) (A5 : Option Addr) (c5 : Nat) : Prop where
  c0 : W.cell? ad = some (.int .i64 x.f0)
  c1 : W.cell? ⟨ad.block, ad.off + 1, none⟩ = some (.string x.f1)
  c2 : W.cell? ⟨ad.block, ad.off + 2, none⟩ = some (.int .i64 x.f2)
  c3 : W.cell? ⟨ad.block, ad.off + 3, none⟩ = some (.int .i64 x.f3)
  c4 : W.cell? ⟨ad.block, ad.off + 4, none⟩ = some (.int .i64 x.f4)
  c5 : W.cell? ⟨ad.block, ad.off + 5, none⟩ = some (.slice A5 x.f5.length c5)
theorem Env.twig {W0 : World} {l : List S33} {A : Option Addr} {c : Nat} (E : Env W0 l A c) (i : Int) (h0 : 0 ≤ i) (h1 : i < l.length) :
    ∃ ad A5 c5, A = some ad ∧ TwAt W0 (ad.add (i.toNat * 6)) (rT l i) A5 c5 ∧ (rT l i).f5.length ≤ c5 ∧ (Kd.int .i64).C W0 A5 (rT l i).f5.length (rT l i).f5 ∧ (ad.add (i.toNat * 6)).block < W0.heap.size := by
  obtain ⟨ad, A5, c5, e, h0, h1, h2, h3, h4, h5, h6, h7⟩ := at_T33 E.row i h0 h1
  exact ⟨ad, A5, c5, e, ⟨h0, h1, h2, h3, h4, h5⟩, h6, h7, World.block_lt_of_cell? W0 _ h0⟩
theorem TwAt.below {W W' : World} {ad : Addr} {x : S33} {A5 : Option Addr} {c5 B : Nat} (h : TwAt W ad x A5 c5) (hb : Below B W W') (hl : ad.block < B) : TwAt W' ad x A5 c5 :=
  ⟨(hb.cell hl).trans h.c0, (hb.cell (p := ⟨ad.block, ad.off + 1, none⟩) hl).trans h.c1, (hb.cell (p := ⟨ad.block, ad.off + 2, none⟩) hl).trans h.c2, (hb.cell (p := ⟨ad.block, ad.off + 3, none⟩) hl).trans h.c3, (hb.cell (p := ⟨ad.block, ad.off + 4, none⟩) hl).trans h.c4, (hb.cell (p := ⟨ad.block, ad.off + 5, none⟩) hl).trans h.c5⟩
/-- What 'twig' does at a tree. -/
def TwigOk (l : List S33) (d : Nd) : Prop :=
  ∀ (W0 : World) (b : Nat) (A : Option Addr) (c : Nat) (at_ nx ne : Int) (x : S33) (p v : Value) (bs : List UInt8) (ind : ByteArray) (w : World) (A5 : Option Addr) (c5 : Nat),
    Env W0 l A c → Tr l d at_ nx → Ok d ne → rT l at_ = x → St W0 b (.slice A l.length c) p v bs ind w → bs.length + (pr ind.data.toList d).length ≤ 140737488355328 →
    x.f5.length ≤ c5 → (Kd.int .i64).C W0 A5 x.f5.length x.f5 →
    Calls Tryd.prog 11 #[.pointer (some ⟨b, 0, none⟩), .agg #[.int .i64 x.f0, .string x.f1, .int .i64 x.f2, .int .i64 x.f3, .int .i64 x.f4, .slice A5 x.f5.length c5]] w
      fun e w' => e = .returned (.tuple #[]) ∧ After W0 b (.slice A l.length c) v bs (pr ind.data.toList d) ind w w'
/-- A new block beside the printer. -/
theorem St.alloc {W0 : World} {b : Nat} {tw p v : Value} {bs : List UInt8} {ind : ByteArray} {w : World} (h : St W0 b tw p v bs ind w) (o : Obj) : St W0 b tw p v bs ind (w.alloc o) :=
  ⟨h.below.alloc (Nat.le_trans h.base (Nat.le_of_lt h.lt)) o, h.base, (Below.heap_alloc w o b h.lt).trans h.cells, h.own.alloc o, h.ne, h.addr, h.nil⟩
theorem Mv.alloc (b : Nat) (v : Value) (w : World) (o : Obj) : Mv b v v w (w.alloc o) :=
  ⟨by simp, fun k hk _ _ => Below.heap_alloc w o k hk, fun _ h => .inl h⟩
theorem St.drewN {W0 : World} {b : Nat} {tw p v : Value} {bs : List UInt8} {ind : ByteArray} {w : World} (h : St W0 b tw p v bs ind w) (q : Nat) : St W0 b tw p v bs ind (w.drewN q) :=
  ⟨h.below.trans ⟨rfl, rfl, rfl, Nat.le_refl _, fun _ _ => rfl⟩, h.base, h.cells, h.own, h.ne, h.addr, h.nil⟩
theorem Mv.drewN (b : Nat) (v : Value) (w : World) (q : Nat) : Mv b v v w (w.drewN q) := ⟨Nat.le_refl _, fun _ _ _ _ => rfl, fun _ h => .inl h⟩
/-- A block that is known whole. -/
structure Blk (g : Nat) (cs : Array Value) (T : Nat) (w : World) : Prop where
  heap : w.heap[g]? = some (.cells cs T (0, 0))
theorem Blk.lt {g : Nat} {cs : Array Value} {T : Nat} {w : World} (h : Blk g cs T w) : g < w.heap.size := by
  rcases Nat.lt_or_ge g w.heap.size with h' | h'
  · exact h'
  · have := h.heap; simp [Array.getElem?_eq_none h'] at this
theorem Blk.new (w : World) (cs : Array Value) (T : Nat) : Blk w.heap.size cs T (w.alloc (.cells cs T)) := ⟨by show (w.heap.push _)[w.heap.size]? = _; simp⟩
theorem Blk.cell {g : Nat} {cs : Array Value} {T : Nat} {w : World} (h : Blk g cs T w) (j : Nat) (u : Value) (hj : cs[j]? = some u) : w.cell? ⟨g, j, none⟩ = some u := by
  rw [Lib.cell_of_heap h.heap]; exact hj
theorem Blk.mv {g : Nat} {cs : Array Value} {T b : Nat} {v v' : Value} {w w' : World} (h : Blk g cs T w) (hm : Mv b v v' w w') (hb : g ≠ b) (hv : v.ownBlock ≠ some g) : Blk g cs T w' :=
  ⟨(hm.keep g h.lt hb hv).trans h.heap⟩
/-- New blocks alone. -/
theorem St.step {W0 : World} {b : Nat} {tw p v : Value} {bs : List UInt8} {ind : ByteArray} {w w' : World} (h : St W0 b tw p v bs ind w) (hb : Below w.heap.size w w') : St W0 b tw p v bs ind w' :=
  ⟨h.below.trans (hb.mono (Nat.le_trans h.base (Nat.le_of_lt h.lt))), h.base, (hb.block b h.lt).trans h.cells, ownsRow_other h.own (fun k hk => hb.block k (h.own.lt k hk).2), h.ne, h.addr, h.nil⟩
theorem Mv.step (b : Nat) (v : Value) {w w' : World} (hb : Below w.heap.size w w') : Mv b v v w w' := ⟨hb.size, fun k hk _ _ => hb.block k hk, fun _ h => .inl h⟩
theorem Blk.step {g : Nat} {cs : Array Value} {T : Nat} {w w' : World} (h : Blk g cs T w) (hb : Below w.heap.size w w') : Blk g cs T w' := ⟨(hb.block g h.lt).trans h.heap⟩
theorem After.start {W0 : World} {b : Nat} {tw p v : Value} {bs : List UInt8} {ind : ByteArray} {w : World} (h : St W0 b tw p v bs ind w) : After W0 b tw v bs [] ind w w :=
  ⟨p, v, by simpa using h, Mv.refl _ _ _⟩
theorem After.alloc {W0 : World} {b : Nat} {tw v : Value} {bs out : List UInt8} {ind : ByteArray} {w0 w : World} (h : After W0 b tw v bs out ind w0 w) (o : Obj) : After W0 b tw v bs out ind w0 (w.alloc o) := by
  obtain ⟨p', v', h1, h2⟩ := h
  exact ⟨p', v', h1.alloc o, h2.trans (Mv.alloc _ _ _ _)⟩
theorem After.step {W0 : World} {b : Nat} {tw v : Value} {bs out : List UInt8} {ind : ByteArray} {w0 w w' : World} (h : After W0 b tw v bs out ind w0 w) (hb : Below w.heap.size w w') : After W0 b tw v bs out ind w0 w' := by
  obtain ⟨p', v', h1, h2⟩ := h
  exact ⟨p', v', h1.step hb, h2.trans (Mv.step _ _ hb)⟩
theorem After.then {W0 : World} {b : Nat} {tw v : Value} {bs out : List UInt8} {ind : ByteArray} {w w1 w' : World} (hm : Mv b v v w w1) (h : After W0 b tw v bs out ind w1 w') : After W0 b tw v bs out ind w w' := by
  obtain ⟨p', v', h1, h2⟩ := h
  exact ⟨p', v', h1, hm.trans h2⟩
theorem After.blk {W0 : World} {b g T : Nat} {cs : Array Value} {tw v : Value} {bs out : List UInt8} {ind : ByteArray} {w0 w : World} (h : After W0 b tw v bs out ind w0 w) (hB : Blk g cs T w0) (hb : g ≠ b) (hv : v.ownBlock ≠ some g) : Blk g cs T w := by
  obtain ⟨p', v', h1, h2⟩ := h
  exact hB.mv h2 hb hv
theorem After.c0 {W0 : World} {b : Nat} {tw v : Value} {bs out : List UInt8} {ind : ByteArray} {w0 w : World} (h : After W0 b tw v bs out ind w0 w) : w.cell? ⟨b, 0, none⟩ = some tw := by
  obtain ⟨p', v', h1, h2⟩ := h
  exact h1.c0
theorem After.c3 {W0 : World} {b : Nat} {tw v : Value} {bs out : List UInt8} {ind : ByteArray} {w0 w : World} (h : After W0 b tw v bs out ind w0 w) : w.cell? ⟨b, 3, none⟩ = some (.string ind) := by
  obtain ⟨p', v', h1, h2⟩ := h
  exact h1.c3
theorem After.below {W0 : World} {b : Nat} {tw v : Value} {bs out : List UInt8} {ind : ByteArray} {w0 w : World} (h : After W0 b tw v bs out ind w0 w) : Below W0.heap.size W0 w := by
  obtain ⟨p', v', h1, h2⟩ := h
  exact h1.below
theorem After.lt {W0 : World} {b : Nat} {tw v : Value} {bs out : List UInt8} {ind : ByteArray} {w0 w : World} (h : After W0 b tw v bs out ind w0 w) : b < w.heap.size := by
  obtain ⟨p', v', h1, h2⟩ := h
  exact h1.lt
/-- A call that goes on from what stands. -/
theorem After.calls {W0 : World} {b : Nat} {tw v : Value} {bs out new : List UInt8} {ind : ByteArray} {w0 w w1 : World} {f : Nat} {args : Array Value} (h : After W0 b tw v bs out ind w0 w) (hb : Below w.heap.size w w1)
    (hc : ∀ p' v', St W0 b tw p' v' (bs ++ out) ind w → Calls Tryd.prog f args w1 fun e w' => e = .returned (.tuple #[]) ∧ After W0 b tw v' (bs ++ out) new ind w1 w') :
    Calls Tryd.prog f args w1 fun e w' => e = .returned (.tuple #[]) ∧ After W0 b tw v bs (out ++ new) ind w0 w' := by
  obtain ⟨p', v', h1, h2⟩ := h
  refine (hc p' v' h1).mono ?_
  rintro e w' ⟨rfl, p2, v2, h3, h4⟩
  exact ⟨rfl, p2, v2, by rw [← List.append_assoc]; exact h3, (h2.trans (Mv.step b v' hb)).trans h4⟩
/-- put, of a row that is made for it. -/
theorem put_new {W0 : World} {b : Nat} {tw v : Value} {bs out : List UInt8} {ind : ByteArray} {w0 w : World} (ss : List ByteArray) (h : After W0 b tw v bs out ind w0 w) (hm : ss.length ≤ 1000)
    (hlen : bs.length + (out ++ cat ss).length ≤ 140737488355328) :
    Calls Tryd.prog 19 #[.pointer (some ⟨b, 0, none⟩), .slice (some ⟨w.heap.size, 0, none⟩) ss.length ss.length] (w.alloc (.cells (ss.map Value.string).toArray 9)) fun e w' => e = .returned (.tuple #[]) ∧ After W0 b tw v bs (out ++ cat ss) ind w0 w' := by
  refine h.calls ((Below.refl _ _).alloc (Nat.le_refl _) _) (fun p' v' hs => ?_)
  refine put_any ss (hs.alloc _) ⟨?_⟩ ?_ ?_ hm ?_
  · exact (Blk.new w _ 9).heap
  · have := hs.lt; omega
  · intro e; have := (hs.own.lt _ e).2; omega
  · simp only [List.length_append] at hlen ⊢; omega
theorem put1 {W0 : World} {b : Nat} {tw v : Value} {bs out : List UInt8} {ind : ByteArray} {w0 w : World} (x : ByteArray) (h : After W0 b tw v bs out ind w0 w) (hlen : bs.length + (out ++ x.data.toList).length ≤ 140737488355328) :
    Calls Tryd.prog 19 #[.pointer (some ⟨b, 0, none⟩), .slice (some ⟨w.heap.size, 0, none⟩) 1 1] (w.alloc (.cells #[.string x] 9)) fun e w' => e = .returned (.tuple #[]) ∧ After W0 b tw v bs (out ++ x.data.toList) ind w0 w' := by
  have e : cat [x] = x.data.toList := by simp [cat]
  rw [← e] at hlen ⊢
  exact put_new [x] h (by simp) hlen
theorem put2 {W0 : World} {b : Nat} {tw v : Value} {bs out : List UInt8} {ind : ByteArray} {w0 w : World} (x y : ByteArray) (h : After W0 b tw v bs out ind w0 w) (hlen : bs.length + (out ++ (x.data.toList ++ y.data.toList)).length ≤ 140737488355328) :
    Calls Tryd.prog 19 #[.pointer (some ⟨b, 0, none⟩), .slice (some ⟨w.heap.size, 0, none⟩) 2 2] (w.alloc (.cells #[.string x, .string y] 9)) fun e w' => e = .returned (.tuple #[]) ∧ After W0 b tw v bs (out ++ (x.data.toList ++ y.data.toList)) ind w0 w' := by
  have e : cat [x, y] = x.data.toList ++ y.data.toList := by simp [cat]
  rw [← e] at hlen ⊢
  exact put_new [x, y] h (by simp) hlen
theorem put3 {W0 : World} {b : Nat} {tw v : Value} {bs out : List UInt8} {ind : ByteArray} {w0 w : World} (x y z : ByteArray) (h : After W0 b tw v bs out ind w0 w) (hlen : bs.length + (out ++ (x.data.toList ++ (y.data.toList ++ z.data.toList))).length ≤ 140737488355328) :
    Calls Tryd.prog 19 #[.pointer (some ⟨b, 0, none⟩), .slice (some ⟨w.heap.size, 0, none⟩) 3 3] (w.alloc (.cells #[.string x, .string y, .string z] 9)) fun e w' => e = .returned (.tuple #[]) ∧ After W0 b tw v bs (out ++ (x.data.toList ++ (y.data.toList ++ z.data.toList))) ind w0 w' := by
  have e : cat [x, y, z] = x.data.toList ++ (y.data.toList ++ z.data.toList) := by simp [cat]
  rw [← e] at hlen ⊢
  exact put_new [x, y, z] h (by simp) hlen
/-- twig, from what stands. -/
theorem twig_then {W0 : World} {l : List S33} {b : Nat} {A : Option Addr} {c : Nat} {v : Value} {bs out : List UInt8} {ind : ByteArray} {w0 w : World} {A5 : Option Addr} {c5 : Nat} {at_ nx ne : Int} {x : S33} {d : Nd} (hT : TwigOk l d) (E : Env W0 l A c) (hTr : Tr l d at_ nx) (hO : Ok d ne) (hx : rT l at_ = x)
    (h : After W0 b (.slice A l.length c) v bs out ind w0 w) (hlen : bs.length + (out ++ pr ind.data.toList d).length ≤ 140737488355328) (h5 : x.f5.length ≤ c5) (hr : (Kd.int .i64).C W0 A5 x.f5.length x.f5) :
    Calls Tryd.prog 11 #[.pointer (some ⟨b, 0, none⟩), .agg #[.int .i64 x.f0, .string x.f1, .int .i64 x.f2, .int .i64 x.f3, .int .i64 x.f4, .slice A5 x.f5.length c5]] w
      fun e w' => e = .returned (.tuple #[]) ∧ After W0 b (.slice A l.length c) v bs (out ++ pr ind.data.toList d) ind w0 w' := by
  refine h.calls (Below.refl _ _) (fun p' v' hs => ?_)
  exact hT W0 b A c at_ nx ne x p' v' _ ind w A5 c5 E hTr hO hx hs (by simp only [List.length_append] at hlen ⊢; omega) h5 hr
/-- The cells of a twig's box. -/
abbrev box6 (k : Int) (t : ByteArray) (n ln cl : Int) (A : Option Addr) (m c : Nat) : Array Value := #[.int .i64 k, .string t, .int .i64 n, .int .i64 ln, .int .i64 cl, .slice A m c]
/-- What stands while a kid is looked at. -/
structure K2 (W0 : World) (b : Nat) (tw p v : Value) (bs : List UInt8) (ind : ByteArray) (w : World) (g1 g2 : Nat) (x1 x2 : Array Value) (w' : World) : Prop where
  st : St W0 b tw p v bs ind w'
  mv : Mv b v v w w'
  b1 : Blk g1 x1 33 w'
  b2 : Blk g2 x2 33 w'
theorem K2.step {W0 : World} {b : Nat} {tw p v : Value} {bs : List UInt8} {ind : ByteArray} {w : World} {g1 g2 : Nat} {x1 x2 : Array Value} {W w' : World} (h : K2 W0 b tw p v bs ind w g1 g2 x1 x2 W) (hb : Below W.heap.size W w') : K2 W0 b tw p v bs ind w g1 g2 x1 x2 w' :=
  ⟨h.st.step hb, h.mv.trans (Mv.step b v hb), h.b1.step hb, h.b2.step hb⟩
theorem K2.read {W0 : World} {b : Nat} {tw p v : Value} {bs : List UInt8} {ind : ByteArray} {w : World} {g1 g2 : Nat} {x1 x2 : Array Value} {W : World} {A : Option Addr} {xs : List Int} (hr : (Kd.int .i64).C W0 A xs.length xs) (h : Hid (K2 W0 b tw p v bs ind w g1 g2 x1 x2 W)) : (Kd.int .i64).C W A xs.length xs :=
  Kd.C_below hr h.out.st.below
theorem K2.drew {W0 : World} {b : Nat} {tw p v : Value} {bs : List UInt8} {ind : ByteArray} {w : World} {g1 g2 : Nat} {x1 x2 : Array Value} {W : World} (h : K2 W0 b tw p v bs ind w g1 g2 x1 x2 W) : K2 W0 b tw p v bs ind w g1 g2 x1 x2 W.drew :=
  h.step ⟨rfl, rfl, rfl, Nat.le_refl _, fun _ _ => rfl⟩
theorem K2.cells {W0 : World} {b : Nat} {tw p v : Value} {bs : List UInt8} {ind : ByteArray} {w : World} {g1 g2 : Nat} {k k' : Int} {t t' : ByteArray} {n ln cl n' ln' cl' : Int} {A A' : Option Addr} {m c m' c' : Nat} {W : World}
    (h : K2 W0 b tw p v bs ind w g1 g2 (box6 k t n ln cl A m c) (box6 k' t' n' ln' cl' A' m' c') W) :
    W.cell? ⟨g1, 0, none⟩ = some (.int .i64 k) ∧ W.cell? ⟨g1, 1, none⟩ = some (.string t) ∧ W.cell? ⟨g1, 2, none⟩ = some (.int .i64 n) ∧ W.cell? ⟨g1, 3, none⟩ = some (.int .i64 ln) ∧ W.cell? ⟨g1, 4, none⟩ = some (.int .i64 cl) ∧ W.cell? ⟨g1, 5, none⟩ = some (.slice A m c) ∧
    W.cell? ⟨g2, 0, none⟩ = some (.int .i64 k') ∧ W.cell? ⟨g2, 1, none⟩ = some (.string t') ∧ W.cell? ⟨g2, 2, none⟩ = some (.int .i64 n') ∧ W.cell? ⟨g2, 3, none⟩ = some (.int .i64 ln') ∧ W.cell? ⟨g2, 4, none⟩ = some (.int .i64 cl') ∧ W.cell? ⟨g2, 5, none⟩ = some (.slice A' m' c') :=
  ⟨h.b1.cell 0 _ rfl, h.b1.cell 1 _ rfl, h.b1.cell 2 _ rfl, h.b1.cell 3 _ rfl, h.b1.cell 4 _ rfl, h.b1.cell 5 _ rfl, h.b2.cell 0 _ rfl, h.b2.cell 1 _ rfl, h.b2.cell 2 _ rfl, h.b2.cell 3 _ rfl, h.b2.cell 4 _ rfl, h.b2.cell 5 _ rfl⟩
set_option maxHeartbeats 4000000 in
set_option maxRecDepth 100000 in
theorem kid_any {W0 : World} {l : List S33} {b : Nat} {A : Option Addr} {c : Nat} {p v : Value} {bs : List UInt8} {ind : ByteArray} {w : World} {k : Int} {t : ByteArray} {n ln cl : Int} {kl : List Int} {A5 : Option Addr} {c5 : Nat}
    (i : Nat) (d : Nd) (ne : Int) (hi6 : i < 1000000) (E : Env W0 l A c) (hK : KidAt l kl i d) (hO : Ok d ne) (hT : TwigOk l d) (h : St W0 b (.slice A l.length c) p v bs ind w)
    (hlen : bs.length + (parT (par k t i d.kind d.text) (pr ind.data.toList d)).length ≤ 140737488355328) (h5 : kl.length ≤ c5) (hr : (Kd.int .i64).C W0 A5 kl.length kl) :
    Calls Tryd.prog 43 #[.pointer (some ⟨b, 0, none⟩), .agg #[.int .i64 k, .string t, .int .i64 n, .int .i64 ln, .int .i64 cl, .slice A5 kl.length c5], .int .i64 (i : Int)] w
      fun e w' => e = .returned (.tuple #[]) ∧ After W0 b (.slice A l.length c) v bs (parT (par k t i d.kind d.text) (pr ind.data.toList d)) ind w w' := by
  obtain ⟨hi, m, hTr⟩ := hK
  have hx : kl.getD i 0 = rd kl (i : Int) := by simp [rd]
  rw [hx] at hTr
  obtain ⟨hk0, hk1, hx0, hxl⟩ := hTr.kind
  obtain ⟨adk, ek, hck⟩ := Kd.at_int hr (i : Int) (by omega) (by omega)
  obtain ⟨ad, A6, c6, ea, hTw, h6, hr6, hlt⟩ := E.twig (rd kl (i : Int)) hx0 hxl
  subst ek ea
  generalize hgx : rT l (rd kl (i : Int)) = x at *
  have HGX := Lib.hid hgx
  clear hgx
  have hb := h.lt
  have hi0 : (0 : Int) ≤ (i : Int) := by omega
  have hi1 : (i : Int) < (kl.length : Int) := by omega
  go_enter Tryd.func43, Tryd.ntmps43
  go_wp2
  obtain ⟨cs, hcs⟩ : ∃ cs : Array Value, cs = #[Value.int IntKind.i64 k, Value.string t, Value.int IntKind.i64 n, Value.int IntKind.i64 ln, Value.int IntKind.i64 cl, Value.slice (some adk) kl.length c5] := ⟨_, rfl⟩
  rw [← hcs]
  have hB := Blk.new w cs 33
  have hS := h.alloc (.cells cs 33)
  have hM := Mv.alloc b v w (.cells cs 33)
  have hgb : w.heap.size ≠ b := by omega
  have hgv : v.ownBlock ≠ some w.heap.size := fun e => by have := (h.own.lt _ e).2; omega
  generalize hW : w.alloc (.cells cs 33) = W1 at *
  generalize hG : w.heap.size = gb at *
  have q0 : W1.cell? ⟨gb, 0, none⟩ = some (.int .i64 k) := hB.cell 0 _ (by rw [hcs]; rfl)
  have q1 : W1.cell? ⟨gb, 1, none⟩ = some (.string t) := hB.cell 1 _ (by rw [hcs]; rfl)
  have q2 : W1.cell? ⟨gb, 2, none⟩ = some (.int .i64 n) := hB.cell 2 _ (by rw [hcs]; rfl)
  have q3 : W1.cell? ⟨gb, 3, none⟩ = some (.int .i64 ln) := hB.cell 3 _ (by rw [hcs]; rfl)
  have q4 : W1.cell? ⟨gb, 4, none⟩ = some (.int .i64 cl) := hB.cell 4 _ (by rw [hcs]; rfl)
  have q5 : W1.cell? ⟨gb, 5, none⟩ = some (.slice (some adk) kl.length c5) := hB.cell 5 _ (by rw [hcs]; rfl)
  have s0 := hS.c0
  have hTw1 := hTw.below hS.below hlt
  have e1 : W1.cell? (adk.add i) = some (.int .i64 (rd kl (i : Int))) := by
    have := (hS.below.cell (World.block_lt_of_cell? W0 _ hck)).trans hck
    rwa [show ((i : Int)).toNat = i from by omega] at this
  have l1 : gb < W1.heap.size := hB.lt
  have l2 : b < W1.heap.size := hS.lt
  have l3 : (adk.add i).block < W1.heap.size := World.block_lt_of_cell? W1 _ e1
  have l4 : (ad.add ((rd kl (i : Int)).toNat * 6)).block < W1.heap.size := Nat.lt_of_lt_of_le hlt hS.below.size
  obtain ⟨t0, t1, t2, t3, t4, t5⟩ := hTw1
  have HE := Lib.hid E
  have HX := Lib.hid (And.intro hk0 hk1)
  have HS := Lib.hid hS
  have HM := Lib.hid hM
  have HB := Lib.hid hB
  have HR := Lib.hid hr
  have HR6 := Lib.hid hr6
  have HTr := Lib.hid hTr
  have HO := Lib.hid hO
  have HT := Lib.hid hT
  have HL := Lib.hid hlen
  clear E hk0 hk1 hS hM hB hr hr6 hTr hO hT hlen hTw h hck hW hx
  go_region
  go_wp2_with fail
  have K : K2 W0 b (.slice (some ad) l.length c) p v bs ind w gb W1.heap.size (box6 k t n ln cl (some adk) kl.length c5) (box6 x.f0 x.f1 x.f2 x.f3 x.f4 A6 x.f5.length c6)
      (W1.alloc (.cells (box6 x.f0 x.f1 x.f2 x.f3 x.f4 A6 x.f5.length c6) 33)).drew := by
    have hd : ∀ W : World, W.drew = W.drewN 1 := fun _ => rfl
    refine ⟨?_, ?_, ?_, ?_⟩
    · rw [hd]; exact (HS.out.alloc _).drewN 1
    · rw [hd]; exact (HM.out.trans (Mv.alloc _ _ _ _)).trans (Mv.drewN _ _ _ _)
    · refine ⟨(Below.heap_alloc _ _ _ l1).trans ?_⟩
      exact HB.out.heap.trans (by rw [hcs])
    · exact ⟨(Blk.new W1 _ 33).heap⟩
  generalize hW2 : (W1.alloc (.cells (box6 x.f0 x.f1 x.f2 x.f3 x.f4 A6 x.f5.length c6) 33)).drew = W2 at *
  generalize hgk : W1.heap.size = gk at *
  have hgk1 : gk ≠ b := by omega
  have hgk2 : v.ownBlock ≠ some gk := fun e => by have := (HS.out.own.lt _ e).2; omega
  clear hW2 q0 q1 q2 q3 q4 q5 s0 e1 l1 l2 l3 l4 t0 t1 t2 t3 t4 t5 HS HM HB hgk hcs
  have KC := K.cells
  have HK := Lib.hid K
  clear K
  have HHi := Lib.hid hi
  by_cases hp : 0 < binds x.f0 x.f1 ∧ binds x.f0 x.f1 < must k t i
  · obtain ⟨hp1, hp2⟩ := hp
    go_region_held3 (fun w' => (w'.cell? ⟨gb, 0, none⟩ = some (.int .i64 k) ∧ w'.cell? ⟨gb, 1, none⟩ = some (.string t) ∧ w'.cell? ⟨gb, 2, none⟩ = some (.int .i64 n) ∧ w'.cell? ⟨gb, 3, none⟩ = some (.int .i64 ln) ∧ w'.cell? ⟨gb, 4, none⟩ = some (.int .i64 cl) ∧ w'.cell? ⟨gb, 5, none⟩ = some (.slice (some adk) kl.length c5) ∧
      w'.cell? ⟨gk, 0, none⟩ = some (.int .i64 x.f0) ∧ w'.cell? ⟨gk, 1, none⟩ = some (.string x.f1) ∧ w'.cell? ⟨gk, 2, none⟩ = some (.int .i64 x.f2) ∧ w'.cell? ⟨gk, 3, none⟩ = some (.int .i64 x.f3) ∧ w'.cell? ⟨gk, 4, none⟩ = some (.int .i64 x.f4) ∧ w'.cell? ⟨gk, 5, none⟩ = some (.slice A6 x.f5.length c6)) ∧
      Hid (K2 W0 b (.slice (some ad) l.length c) p v bs ind w gb gk (box6 k t n ln cl (some adk) kl.length c5) (box6 x.f0 x.f1 x.f2 x.f3 x.f4 A6 x.f5.length c6) w'))
      (first | exact ⟨HK.out.drew.cells, Lib.hid HK.out.drew⟩ | (go_split_ands; exact ⟨(K2.step (Hid.out (by assumption)) hb1).cells, Lib.hid (K2.step (Hid.out (by assumption)) hb1)⟩))
      (first | (go_at_call 55; refine (binds_any _ _ _ _ _ _ _ _ _ ?_ h6).mono ?_; (go_split_ands; exact K2.read HR6.out (by assumption)); rintro e w' ⟨rfl, hb1⟩) | (go_at_call 56; refine (must_any _ _ _ _ _ _ _ _ i _ ?_ h5 hi6).mono ?_; (go_split_ands; exact K2.read HR.out (by assumption)); rintro e w' ⟨rfl, hb1⟩))
    have HK3 : Hid (K2 W0 b (.slice (some ad) l.length c) p v bs ind w gb gk (box6 k t n ln cl (some adk) kl.length c5) (box6 x.f0 x.f1 x.f2 x.f3 x.f4 A6 x.f5.length c6) w') := by go_split_ands; assumption
    have HA := Lib.hid (After.start HK3.out.st)
    have HP := Lib.hid (show par k t i d.kind d.text = true from decide_eq_true (by rw [← HX.out.1, ← HX.out.2]; exact ⟨hp1, hp2⟩))
    go_wp2_with fail
    refine (put1 ⟨#[40]⟩ HA.out (by have := HL.out; rw [HP.out] at this; simp [parT] at this ⊢; omega)).mono ?_
    rintro e w3 ⟨rfl, hA3⟩
    have HA3 := Lib.hid hA3
    have hB3 := hA3.blk HK3.out.b2 hgk1 hgk2
    have q0 := hB3.cell 0 _ rfl
    have q1 := hB3.cell 1 _ rfl
    have q2 := hB3.cell 2 _ rfl
    have q3 := hB3.cell 3 _ rfl
    have q4 := hB3.cell 4 _ rfl
    have q5 := hB3.cell 5 _ rfl
    clear hA3 hB3
    go_wp2_with fail
    refine (twig_then HT.out HE.out HTr.out HO.out HGX.out HA3.out (by have := HL.out; rw [HP.out] at this; simp [parT] at this ⊢; omega) h6 HR6.out).mono ?_
    rintro e w4 ⟨rfl, hA4⟩
    have HA4 := Lib.hid hA4
    clear hA4 q0 q1 q2 q3 q4 q5
    go_wp2_with fail
    refine (put1 ⟨#[41]⟩ HA4.out (by have := HL.out; rw [HP.out] at this; simp [parT] at this ⊢; omega)).mono ?_
    rintro e w5 ⟨rfl, hA5⟩
    have HA5 := Lib.hid hA5
    clear hA5
    go_wp2
    (try simp only [Exit.inBlock, Exit.then])
    refine bodyPost_ret (results_none rfl _ _ _) rfl ?_
    refine ⟨rfl, ?_⟩
    rw [HP.out]
    have := After.then HK3.out.mv HA5.out
    simpa [parT] using this
  · have HP := Lib.hid (show par k t i d.kind d.text = false from decide_eq_false (by rw [← HX.out.1, ← HX.out.2]; exact hp))
    by_cases hp1 : 0 < binds x.f0 x.f1
    · have hp2 : must k t i ≤ binds x.f0 x.f1 := by
        rcases Int.lt_or_le (binds x.f0 x.f1) (must k t i) with h' | h'
        · exact absurd ⟨hp1, h'⟩ hp
        · exact h'
      clear hp
      go_region_held3 (fun w' => (w'.cell? ⟨gb, 0, none⟩ = some (.int .i64 k) ∧ w'.cell? ⟨gb, 1, none⟩ = some (.string t) ∧ w'.cell? ⟨gb, 2, none⟩ = some (.int .i64 n) ∧ w'.cell? ⟨gb, 3, none⟩ = some (.int .i64 ln) ∧ w'.cell? ⟨gb, 4, none⟩ = some (.int .i64 cl) ∧ w'.cell? ⟨gb, 5, none⟩ = some (.slice (some adk) kl.length c5) ∧
        w'.cell? ⟨gk, 0, none⟩ = some (.int .i64 x.f0) ∧ w'.cell? ⟨gk, 1, none⟩ = some (.string x.f1) ∧ w'.cell? ⟨gk, 2, none⟩ = some (.int .i64 x.f2) ∧ w'.cell? ⟨gk, 3, none⟩ = some (.int .i64 x.f3) ∧ w'.cell? ⟨gk, 4, none⟩ = some (.int .i64 x.f4) ∧ w'.cell? ⟨gk, 5, none⟩ = some (.slice A6 x.f5.length c6)) ∧
        Hid (K2 W0 b (.slice (some ad) l.length c) p v bs ind w gb gk (box6 k t n ln cl (some adk) kl.length c5) (box6 x.f0 x.f1 x.f2 x.f3 x.f4 A6 x.f5.length c6) w'))
        (first | exact ⟨HK.out.drew.cells, Lib.hid HK.out.drew⟩ | (go_split_ands; exact ⟨(K2.step (Hid.out (by assumption)) hb1).cells, Lib.hid (K2.step (Hid.out (by assumption)) hb1)⟩))
        (first | (go_at_call 55; refine (binds_any _ _ _ _ _ _ _ _ _ ?_ h6).mono ?_; (go_split_ands; exact K2.read HR6.out (by assumption)); rintro e w' ⟨rfl, hb1⟩) | (go_at_call 56; refine (must_any _ _ _ _ _ _ _ _ i _ ?_ h5 hi6).mono ?_; (go_split_ands; exact K2.read HR.out (by assumption)); rintro e w' ⟨rfl, hb1⟩))
      have HK3 : Hid (K2 W0 b (.slice (some ad) l.length c) p v bs ind w gb gk (box6 k t n ln cl (some adk) kl.length c5) (box6 x.f0 x.f1 x.f2 x.f3 x.f4 A6 x.f5.length c6) w') := by go_split_ands; assumption
      have HA := Lib.hid (After.start HK3.out.st)
      have q0 := HK3.out.b2.cell 0 _ rfl
      have q1 := HK3.out.b2.cell 1 _ rfl
      have q2 := HK3.out.b2.cell 2 _ rfl
      have q3 := HK3.out.b2.cell 3 _ rfl
      have q4 := HK3.out.b2.cell 4 _ rfl
      have q5 := HK3.out.b2.cell 5 _ rfl
      go_wp2_with fail
      refine (twig_then HT.out HE.out HTr.out HO.out HGX.out HA.out (by have := HL.out; rw [HP.out] at this; simp [parT] at this ⊢; omega) h6 HR6.out).mono ?_
      rintro e w4 ⟨rfl, hA4⟩
      have HA4 := Lib.hid hA4
      clear hA4 q0 q1 q2 q3 q4 q5
      go_wp2
      go_end0
      refine ⟨rfl, ?_⟩
      rw [HP.out]
      have := After.then HK3.out.mv HA4.out
      simpa [parT] using this
    · have hz : binds x.f0 x.f1 = 0 := by have := (binds_le x.f0 x.f1).1; omega
      have HZ := Lib.hid hz
      clear hp hp1 hz
      first
        | (go_region_with (first | (go_at_call 55; refine (binds_zero _ _ _ _ _ _ _ _ _ HZ.out ?_ h6).mono ?_; exact K2.read HR6.out (Lib.hid HK.out.drew); rintro e w' ⟨rfl, hb1⟩)))
        | fail
      all_goals
        have HK3 := Lib.hid (K2.step HK.out.drew hb1)
        have HA := Lib.hid (After.start HK3.out.st)
        have q0 := HK3.out.b2.cell 0 _ rfl
        have q1 := HK3.out.b2.cell 1 _ rfl
        have q2 := HK3.out.b2.cell 2 _ rfl
        have q3 := HK3.out.b2.cell 3 _ rfl
        have q4 := HK3.out.b2.cell 4 _ rfl
        have q5 := HK3.out.b2.cell 5 _ rfl
        go_wp2_with fail
        refine (twig_then HT.out HE.out HTr.out HO.out HGX.out HA.out (by have := HL.out; rw [HP.out] at this; simp [parT] at this ⊢; omega) h6 HR6.out).mono ?_
        rintro e w4 ⟨rfl, hA4⟩
        have HA4 := Lib.hid hA4
        clear hA4 q0 q1 q2 q3 q4 q5
        go_wp2
        go_end0
        refine ⟨rfl, ?_⟩
        rw [HP.out]
        have := After.then HK3.out.mv HA4.out
        simpa [parT] using this
end Go.Proofs.YtbpefmidgfmcaaaDoor
end
section
set_option linter.unusedVariables false
namespace Go.Proofs.YtbpefmidgfmcaaaDoor
open Go.RowKit PTreeApart Go.Proofs.YtbpefmidgfmcaaaDoorW.PrintWords
/-- The kids of a twig, each of which is printed as it should. -/
structure Kids (l : List S33) (kl : List Int) (k : Int) (t : ByteArray) (ds : List Nd) : Prop where
  place : ∀ j (h : j < ds.length), KidAt l kl j ds[j]
  ok : ∀ j (h : j < ds.length), ∃ ne, Ok ds[j] ne
  ih : ∀ j (h : j < ds.length), TwigOk l ds[j]
  len : kl.length = ds.length
  few : ds.length ≤ 300
/-- A method that has boxed the twig that it was handed. -/
structure Ent (W0 : World) (b : Nat) (tw v : Value) (bs : List UInt8) (ind : ByteArray) (w : World) (cs : Array Value) (g : Nat) (w1 : World) : Prop where
  after : After W0 b tw v bs [] ind w1 w1
  mv : Mv b v v w w1
  blk : Blk g cs 33 w1
  nb : g ≠ b
  nv : v.ownBlock ≠ some g
theorem Ent.mk' {W0 : World} {b : Nat} {tw p v : Value} {bs : List UInt8} {ind : ByteArray} {w : World} (h : St W0 b tw p v bs ind w) (cs : Array Value) : Ent W0 b tw v bs ind w cs w.heap.size (w.alloc (.cells cs 33)) :=
  ⟨After.start (h.alloc _), Mv.alloc _ _ _ _, Blk.new w cs 33, by have := h.lt; omega, fun e => by have := (h.own.lt _ e).2; omega⟩
section
variable {W0 : World} {b g : Nat} {tw v : Value} {bs out : List UInt8} {ind : ByteArray} {w w1 w' : World} {k n ln cl : Int} {t : ByteArray} {A : Option Addr} {m c : Nat}
theorem Ent.q (h : Ent W0 b tw v bs ind w (box6 k t n ln cl A m c) g w1) (ha : After W0 b tw v bs out ind w1 w') :
    w'.cell? ⟨g, 0, none⟩ = some (.int .i64 k) ∧ w'.cell? ⟨g, 1, none⟩ = some (.string t) ∧ w'.cell? ⟨g, 2, none⟩ = some (.int .i64 n) ∧ w'.cell? ⟨g, 3, none⟩ = some (.int .i64 ln) ∧ w'.cell? ⟨g, 4, none⟩ = some (.int .i64 cl) ∧ w'.cell? ⟨g, 5, none⟩ = some (.slice A m c) ∧ g < w'.heap.size := by
  have hB := ha.blk h.blk h.nb h.nv
  exact ⟨hB.cell 0 _ rfl, hB.cell 1 _ rfl, hB.cell 2 _ rfl, hB.cell 3 _ rfl, hB.cell 4 _ rfl, hB.cell 5 _ rfl, hB.lt⟩
end
/-- kid, from what stands. -/
theorem kid_then {W0 : World} {l : List S33} {b : Nat} {A : Option Addr} {c : Nat} {v : Value} {bs out : List UInt8} {ind : ByteArray} {w0 w : World} {k : Int} {t : ByteArray} {n ln cl : Int} {kl : List Int} {A5 : Option Addr} {c5 : Nat} {ds : List Nd}
    (hK : Kids l kl k t ds) (E : Env W0 l A c) (i : Nat) (iv : Int) (hiv : iv = i) (hi : i < ds.length) (h : After W0 b (.slice A l.length c) v bs out ind w0 w)
    (hlen : bs.length + (out ++ kidT ind.data.toList k t i ds[i]).length ≤ 140737488355328) (h5 : kl.length ≤ c5) (hr : (Kd.int .i64).C W0 A5 kl.length kl) :
    Calls Tryd.prog 43 #[.pointer (some ⟨b, 0, none⟩), .agg #[.int .i64 k, .string t, .int .i64 n, .int .i64 ln, .int .i64 cl, .slice A5 kl.length c5], .int .i64 iv] w
      fun e w' => e = .returned (.tuple #[]) ∧ After W0 b (.slice A l.length c) v bs (out ++ kidT ind.data.toList k t i ds[i]) ind w0 w' := by
  subst hiv
  obtain ⟨ne, hO⟩ := hK.ok i hi
  refine h.calls (Below.refl _ _) (fun p' v' hs => ?_)
  exact kid_any i ds[i] ne (by have := hK.few; omega) E (hK.place i hi) hO (hK.ih i hi) hs (by rw [List.length_append] at hlen ⊢; rw [kidT] at hlen; omega) h5 hr
theorem info3s : (Tryd.prog.info? 3).map (fun i => (i.zero, i.size, i.bytes)) = some (some (.int .i64 0), 1, 8) := by kernel_rfl
set_option maxHeartbeats 2000000 in
set_option maxRecDepth 100000 in
theorem row_core {W0 : World} {l : List S33} {b : Nat} {A : Option Addr} {c : Nat} {p v : Value} {bs : List UInt8} {ind : ByteArray} {w : World} {k : Int} {t : ByteArray} {n ln cl : Int} {kl : List Int} {A5 : Option Addr} {c5 : Nat} {ds : List Nd}
    (word : ByteArray) (from_ : Nat) (hK : Kids l kl k t ds) (E : Env W0 l A c) (hf : from_ ≤ ds.length) (h : St W0 b (.slice A l.length c) p v bs ind w)
    (hlen : bs.length + (rowT word.data.toList (prk ind.data.toList k t from_ (ds.drop from_))).length ≤ 140737488355328) (h5 : kl.length ≤ c5) (hr : (Kd.int .i64).C W0 A5 kl.length kl) :
    Calls Tryd.prog 47 #[.pointer (some ⟨b, 0, none⟩), .agg #[.int .i64 k, .string t, .int .i64 n, .int .i64 ln, .int .i64 cl, .slice A5 kl.length c5], .string word, .int .i64 (from_ : Int)] w
      fun e w' => e = .returned (.tuple #[]) ∧ After W0 b (.slice A l.length c) v bs (rowT word.data.toList (prk ind.data.toList k t from_ (ds.drop from_))) ind w w' := by
  obtain ⟨i0, hi0, hz0, hz1, hz2⟩ := info_parts info3s
  have hcut := cut_from (P := Tryd.prog) 31 3 .i64 Tryd.underlying31 hi0 1 hz1 A5 kl.length c5 (from_ : Int) (by omega) (by have := hK.len; omega)
  generalize (if c5 = ((from_ : Int)).toNat then A5 else A5.map (·.add (((from_ : Int)).toNat * 1))) = A7 at hcut
  rw [show ((from_ : Int)).toNat = from_ from by omega] at hcut
  have hfk : from_ ≤ kl.length := by have := hK.len; omega
  have hkl : kl.length ≤ 300 := by have := hK.len; have := hK.few; omega
  have HEnt := Lib.hid (Ent.mk' h (box6 k t n ln cl A5 kl.length c5))
  have HKi := Lib.hid hK
  have HL := Lib.hid hlen
  have HR := Lib.hid hr
  have HE := Lib.hid E
  clear hK hlen hr E
  go_enter Tryd.func47, Tryd.ntmps47
  go_upto_region 1 with (fail)
  generalize hW : w.alloc (.cells #[.int .i64 k, .string t, .int .i64 n, .int .i64 ln, .int .i64 cl, .slice A5 kl.length c5] 33) = w1 at *
  generalize hG : w.heap.size = gb at *
  clear hW hG h
  go_wp2_with fail
  refine (put1 word HEnt.out.after (by have := HL.out; have e := rowT_nil word.data.toList; simp [rowT] at this ⊢; omega)).mono ?_
  rintro e w2 ⟨rfl, hA2⟩
  obtain ⟨q0, q1, q2, q3, q4, q5, q6⟩ := HEnt.out.q hA2
  have HA2 := Lib.hid hA2
  clear hA2
  go_wp2_with fail
  generalize hm : kl.length - from_ = m at *
  have hm3 : m ≤ 300 := by omega
  have HM := Lib.hid hm
  clear hm q0 q1 q2 q3 q4 q5 q6
  go_loopw [18] (fun i wr => ∃ j : Nat, j ≤ m ∧ i = .int .i64 j ∧ Hid (After W0 b (.slice A l.length c) v bs (rowT word.data.toList (prk ind.data.toList k t from_ ((ds.drop from_).take j))) ind w1 wr)) (fun i _ => m - (intOf i).toNat)
  case atStart => exact ⟨0, Nat.zero_le _, rfl, by have := HA2.out; simpa [prk, rowT_nil] using Lib.hid this⟩
  case round =>
    obtain ⟨j, hj, rfl, hr⟩ := hrel
    by_cases hlt : j < m
    · have hd : j < (ds.drop from_).length := by rw [List.length_drop]; have := HKi.out.len; have := HM.out; omega
      have hj1 : from_ + j < ds.length := by rw [List.length_drop] at hd; omega
      have hd2 : (ds.drop from_)[j] = ds[from_ + j] := by simp
      have HS := Lib.hid (rowT_length_take ind.data.toList k t word.data.toList (ds.drop from_) from_ j hd)
      have HT := Lib.hid (prk_take ind.data.toList k t (ds.drop from_) from_ j hd)
      have HD := Lib.hid hd2
      clear hd2
      go_wp2_with fail
      refine (put1 ⟨#[32]⟩ hr.out (by have := HL.out; have h2 := HS.out; simp only [List.length_append, List.length_cons, List.length_nil] at this h2 ⊢; omega)).mono ?_
      rintro e w3 ⟨rfl, hA3⟩
      obtain ⟨q0, q1, q2, q3, q4, q5, q6⟩ := HEnt.out.q hA3
      have HA3 := Lib.hid hA3
      clear hA3
      go_wp2_with fail
      refine (kid_then HKi.out HE.out (from_ + j) _ (by omega) hj1 HA3.out (by have := HL.out; have h2 := HS.out; rw [HD.out] at h2; simp only [List.length_append, List.length_cons, List.length_nil] at this h2 ⊢; omega) h5 HR.out).mono ?_
      rintro e w4 ⟨rfl, hA4⟩
      have HA4 := Lib.hid hA4
      clear hA4 q0 q1 q2 q3 q4 q5 q6
      go_wp2
      go_roundw
      case rel =>
        refine ⟨j + 1, by omega, by go_num, ?_⟩
        have := HA4.out
        rw [HT.out, rowT_snoc, HD.out]
        exact Lib.hid (by simpa using this)
      case measure => simp [intOf]; omega
    · have e : j = m := by omega
      subst e
      go_wp2
      go_end0
      refine ⟨rfl, ?_⟩
      have h2 := hr.out
      rw [List.take_of_length_le (by rw [List.length_drop]; have := HKi.out.len; have := HM.out; omega)] at h2
      exact After.then HEnt.out.mv h2
theorem row_then {W0 : World} {l : List S33} {b : Nat} {A : Option Addr} {c : Nat} {v : Value} {bs out : List UInt8} {ind : ByteArray} {w0 w : World} {k : Int} {t : ByteArray} {n ln cl : Int} {kl : List Int} {A5 : Option Addr} {c5 : Nat} {ds : List Nd}
    (word : ByteArray) (from_ : Nat) (fv : Int) (hfv : fv = from_) (hK : Kids l kl k t ds) (E : Env W0 l A c) (hf : from_ ≤ ds.length) (h : After W0 b (.slice A l.length c) v bs out ind w0 w)
    (hlen : bs.length + (out ++ rowT word.data.toList (prk ind.data.toList k t from_ (ds.drop from_))).length ≤ 140737488355328) (h5 : kl.length ≤ c5) (hr : (Kd.int .i64).C W0 A5 kl.length kl) :
    Calls Tryd.prog 47 #[.pointer (some ⟨b, 0, none⟩), .agg #[.int .i64 k, .string t, .int .i64 n, .int .i64 ln, .int .i64 cl, .slice A5 kl.length c5], .string word, .int .i64 fv] w
      fun e w' => e = .returned (.tuple #[]) ∧ After W0 b (.slice A l.length c) v bs (out ++ rowT word.data.toList (prk ind.data.toList k t from_ (ds.drop from_))) ind w0 w' := by
  subst hfv
  refine h.calls (Below.refl _ _) (fun p' v' hs => ?_)
  exact row_core word from_ hK E hf hs (by rw [List.length_append] at hlen ⊢; omega) h5 hr
theorem prs_get' (ind : List UInt8) (k : Int) (t : ByteArray) (ds : List Nd) (j : Nat) (h : j < ds.length) (h12 : k ≠ 12) (h8 : k ≠ 8) : (prs ind k t 0 ds).getD j [] = kidT ind k t j ds[j] := by
  rw [prs_get ind k t ds 0 j h, Nat.zero_add]
  simp [deep, h12, h8, kidT]
set_option maxHeartbeats 2000000 in
set_option maxRecDepth 100000 in
/-- The variable to which something goes. -/
theorem to_core {W0 : World} {l : List S33} {b : Nat} {A : Option Addr} {c : Nat} {p v : Value} {bs : List UInt8} {ind : ByteArray} {w : World} {k : Int} {t : ByteArray} {n ln cl : Int} {kl : List Int} {A5 : Option Addr} {c5 : Nat} {ds : List Nd}
    (hK : Kids l kl k t ds) (E : Env W0 l A c) (h12 : k ≠ 12) (h8 : k ≠ 8) (h : St W0 b (.slice A l.length c) p v bs ind w)
    (hlen : bs.length + (toT (prs ind.data.toList k t 0 ds)).length ≤ 140737488355328) (h5 : kl.length ≤ c5) (hr : (Kd.int .i64).C W0 A5 kl.length kl) :
    Calls Tryd.prog 45 #[.pointer (some ⟨b, 0, none⟩), .agg #[.int .i64 k, .string t, .int .i64 n, .int .i64 ln, .int .i64 cl, .slice A5 kl.length c5]] w
      fun e w' => e = .returned (.tuple #[]) ∧ After W0 b (.slice A l.length c) v bs (toT (prs ind.data.toList k t 0 ds)) ind w w' := by
  have HEnt := Lib.hid (Ent.mk' h (box6 k t n ln cl A5 kl.length c5))
  have HKi := Lib.hid hK
  have HL := Lib.hid hlen
  have HR := Lib.hid hr
  have HE := Lib.hid E
  have hl := hK.len
  have hkl : kl.length ≤ 300 := by have := hK.few; omega
  have HT : Hid (toT (prs ind.data.toList k t 0 ds) = if h : 1 < ds.length then ([32, 116, 111, 32] : List UInt8) ++ kidT ind.data.toList k t 1 ds[1] else []) := by
    unfold toT Hid
    rw [prs_length]
    split
    · rename_i h1; rw [prs_get' _ _ _ _ 1 h1 h12 h8]
    · rfl
  have HLn := Lib.hid hl
  clear hK hlen hr E hl h12 h8
  go_enter Tryd.func45, Tryd.ntmps45
  go_upto_region 1 with (fail)
  generalize hW : w.alloc (.cells #[.int .i64 k, .string t, .int .i64 n, .int .i64 ln, .int .i64 cl, .slice A5 kl.length c5] 33) = w1 at *
  generalize hG : w.heap.size = gb at *
  clear hW hG h
  obtain ⟨q0, q1, q2, q3, q4, q5, q6⟩ := HEnt.out.q HEnt.out.after
  by_cases h1 : 1 < kl.length
  · have hd : 1 < ds.length := by have := HLn.out; omega
    go_wp2_with fail
    refine (put1 ⟨#[32, 116, 111, 32]⟩ HEnt.out.after (by have := HL.out; rw [HT.out, dif_pos hd] at this; simp only [List.length_append, List.length_cons, List.length_nil] at this ⊢; omega)).mono ?_
    rintro e w2 ⟨rfl, hA2⟩
    clear q0 q1 q2 q3 q4 q5 q6
    obtain ⟨q0, q1, q2, q3, q4, q5, q6⟩ := HEnt.out.q hA2
    have HA2 := Lib.hid hA2
    clear hA2
    go_wp2_with fail
    refine (kid_then HKi.out HE.out 1 _ rfl hd HA2.out (by have := HL.out; rw [HT.out, dif_pos hd] at this; simp only [List.length_append, List.length_cons, List.length_nil] at this ⊢; omega) h5 HR.out).mono ?_
    rintro e w3 ⟨rfl, hA3⟩
    have HA3 := Lib.hid hA3
    clear hA3 q0 q1 q2 q3 q4 q5 q6
    go_wp2
    go_end0
    refine ⟨rfl, ?_⟩
    rw [HT.out, dif_pos hd]
    exact After.then HEnt.out.mv (by simpa using HA3.out)
  · have hd : ¬ 1 < ds.length := by have := HLn.out; omega
    go_wp2
    go_end0
    refine ⟨rfl, ?_⟩
    rw [HT.out, dif_neg hd]
    exact After.then HEnt.out.mv HEnt.out.after
end Go.Proofs.YtbpefmidgfmcaaaDoor
end
section
set_option linter.unusedVariables false
namespace Go.Proofs.YtbpefmidgfmcaaaDoor
open Go.RowKit PTreeApart Go.Proofs.YtbpefmidgfmcaaaDoorW.PrintWords
theorem After.drewN {W0 : World} {b : Nat} {tw v : Value} {bs out : List UInt8} {ind : ByteArray} {w0 w : World} (h : After W0 b tw v bs out ind w0 w) (q : Nat) : After W0 b tw v bs out ind w0 (w.drewN q) :=
  h.step ⟨rfl, rfl, rfl, Nat.le_refl _, fun _ _ => rfl⟩
/-- kid, from what stands; the kid by its name. -/
theorem kid_d {W0 : World} {l : List S33} {b : Nat} {A : Option Addr} {c : Nat} {v : Value} {bs out : List UInt8} {ind : ByteArray} {w0 w : World} {k : Int} {t : ByteArray} {n ln cl : Int} {kl : List Int} {A5 : Option Addr} {c5 : Nat} {ds : List Nd}
    (hK : Kids l kl k t ds) (E : Env W0 l A c) (i : Nat) (iv : Int) (hiv : iv = i) (d : Nd) (hd : ds[i]? = some d) (h : After W0 b (.slice A l.length c) v bs out ind w0 w)
    (hlen : bs.length + (out ++ kidT ind.data.toList k t i d).length ≤ 140737488355328) (h5 : kl.length ≤ c5) (hr : (Kd.int .i64).C W0 A5 kl.length kl) :
    Calls Tryd.prog 43 #[.pointer (some ⟨b, 0, none⟩), .agg #[.int .i64 k, .string t, .int .i64 n, .int .i64 ln, .int .i64 cl, .slice A5 kl.length c5], .int .i64 iv] w
      fun e w' => e = .returned (.tuple #[]) ∧ After W0 b (.slice A l.length c) v bs (out ++ kidT ind.data.toList k t i d) ind w0 w' := by
  obtain ⟨hi, rfl⟩ := List.getElem?_eq_some_iff.1 hd
  exact kid_then hK E i iv hiv hi h hlen h5 hr
set_option maxHeartbeats 2000000 in
set_option maxRecDepth 100000 in
theorem while_core {W0 : World} {l : List S33} {b : Nat} {A : Option Addr} {c : Nat} {p v : Value} {bs : List UInt8} {ind : ByteArray} {w : World} {t : ByteArray} {n ln cl : Int} {kl : List Int} {A5 : Option Addr} {c5 : Nat} {d0 d1 : Nd}
    (hK : Kids l kl 24 t [d0, d1]) (E : Env W0 l A c) (h : St W0 b (.slice A l.length c) p v bs ind w)
    (hlen : bs.length + (([119, 104, 105, 108, 101, 32] : List UInt8) ++ (kidT ind.data.toList 24 t 0 d0 ++ (([32] : List UInt8) ++ kidT ind.data.toList 24 t 1 d1))).length ≤ 140737488355328) (h5 : kl.length ≤ c5) (hr : (Kd.int .i64).C W0 A5 kl.length kl) :
    Calls Tryd.prog 46 #[.pointer (some ⟨b, 0, none⟩), .agg #[.int .i64 24, .string t, .int .i64 n, .int .i64 ln, .int .i64 cl, .slice A5 kl.length c5]] w
      fun e w' => e = .returned (.tuple #[]) ∧ After W0 b (.slice A l.length c) v bs (([119, 104, 105, 108, 101, 32] : List UInt8) ++ (kidT ind.data.toList 24 t 0 d0 ++ (([32] : List UInt8) ++ kidT ind.data.toList 24 t 1 d1))) ind w w' := by
  have HEnt := Lib.hid (Ent.mk' h (box6 24 t n ln cl A5 kl.length c5))
  have HKi := Lib.hid hK
  have HL := Lib.hid hlen
  have HR := Lib.hid hr
  have HE := Lib.hid E
  have hl : kl.length ≤ 2 := Nat.le_of_eq hK.len
  have HLn := Lib.hid hK.len
  clear hK hlen hr E
  go_enter Tryd.func46, Tryd.ntmps46
  go_upto_region 1 with (fail)
  generalize hW : w.alloc (.cells #[.int .i64 24, .string t, .int .i64 n, .int .i64 ln, .int .i64 cl, .slice A5 kl.length c5] 33) = w1 at *
  generalize hG : w.heap.size = gb at *
  clear hW hG h
  obtain ⟨q0, q1, q2, q3, q4, q5, q6⟩ := HEnt.out.q HEnt.out.after
  go_wp2_with fail
  refine (put1 ⟨#[119, 104, 105, 108, 101, 32]⟩ HEnt.out.after (by have := HL.out; simp only [List.length_append, List.length_cons, List.length_nil] at this ⊢; omega)).mono ?_
  rintro e w2 ⟨rfl, hA2⟩
  clear q0 q1 q2 q3 q4 q5 q6
  obtain ⟨q0, q1, q2, q3, q4, q5, q6⟩ := HEnt.out.q hA2
  have HA2 := Lib.hid hA2
  clear hA2
  go_wp2_with fail
  refine (kid_d HKi.out HE.out 0 _ rfl d0 rfl HA2.out (by have := HL.out; simp only [List.length_append, List.length_cons, List.length_nil] at this ⊢; omega) h5 HR.out).mono ?_
  rintro e w3 ⟨rfl, hA3⟩
  clear q0 q1 q2 q3 q4 q5 q6
  have HA3 := Lib.hid hA3
  clear hA3
  go_wp2_with fail
  refine (put1 ⟨#[32]⟩ HA3.out (by have := HL.out; simp only [List.length_append, List.length_cons, List.length_nil] at this ⊢; omega)).mono ?_
  rintro e w4 ⟨rfl, hA4⟩
  obtain ⟨q0, q1, q2, q3, q4, q5, q6⟩ := HEnt.out.q hA4
  have HA4 := Lib.hid hA4
  clear hA4
  go_wp2_with fail
  refine (kid_d HKi.out HE.out 1 _ rfl d1 rfl HA4.out (by have := HL.out; simp only [List.length_append, List.length_cons, List.length_nil] at this ⊢; omega) h5 HR.out).mono ?_
  rintro e w5 ⟨rfl, hA5⟩
  clear q0 q1 q2 q3 q4 q5 q6
  obtain ⟨q0, q1, q2, q3, q4, q5, q6⟩ := HEnt.out.q hA5
  have HA5 := Lib.hid hA5
  clear hA5
  have hn2 : decide (2 < kl.length) = false := decide_eq_false (by omega)
  have hn3 : decide ((2 : Int) < (kl.length : Int)) = false := decide_eq_false (by omega)
  go_wp2_with fail
  go_quiet (fail)
  go_wp2_with fail
  go_end0
  refine ⟨rfl, ?_⟩
  exact After.then HEnt.out.mv (After.drewN (by simpa using HA5.out) _)
set_option maxHeartbeats 2000000 in
set_option maxRecDepth 100000 in
theorem if_core {W0 : World} {l : List S33} {b : Nat} {A : Option Addr} {c : Nat} {p v : Value} {bs : List UInt8} {ind : ByteArray} {w : World} {t : ByteArray} {n ln cl : Int} {kl : List Int} {A5 : Option Addr} {c5 : Nat} {d0 d1 d2 : Nd}
    (hK : Kids l kl 23 t [d0, d1, d2]) (E : Env W0 l A c) (h : St W0 b (.slice A l.length c) p v bs ind w)
    (hlen : bs.length + (([105, 102, 32] : List UInt8) ++ (kidT ind.data.toList 23 t 0 d0 ++ (([32] : List UInt8) ++ (kidT ind.data.toList 23 t 1 d1 ++ (if d2.kids.isEmpty then [] else ([32, 101, 108, 115, 101, 32] : List UInt8) ++ kidT ind.data.toList 23 t 2 d2))))).length ≤ 140737488355328) (h5 : kl.length ≤ c5) (hr : (Kd.int .i64).C W0 A5 kl.length kl) :
    Calls Tryd.prog 46 #[.pointer (some ⟨b, 0, none⟩), .agg #[.int .i64 23, .string t, .int .i64 n, .int .i64 ln, .int .i64 cl, .slice A5 kl.length c5]] w
      fun e w' => e = .returned (.tuple #[]) ∧ After W0 b (.slice A l.length c) v bs (([105, 102, 32] : List UInt8) ++ (kidT ind.data.toList 23 t 0 d0 ++ (([32] : List UInt8) ++ (kidT ind.data.toList 23 t 1 d1 ++ (if d2.kids.isEmpty then [] else ([32, 101, 108, 115, 101, 32] : List UInt8) ++ kidT ind.data.toList 23 t 2 d2))))) ind w w' := by
  have hl : kl.length = 3 := hK.len
  have hl2 : 2 < kl.length := by omega
  have hl3 : kl.length ≤ 3 := by omega
  obtain ⟨hi2, m2, hTr2⟩ := hK.place 2 (by simp)
  obtain ⟨hx0, hxl⟩ := hTr2.kind.2.2
  have hlen2 : (rT l (kl.getD 2 0)).f5.length = d2.kids.length := by
    cases d2 with
    | mk a b c ks => exact (Trs.len hTr2.2.2.2.2.2).trans (by simp [Nd.kids])
  have hgd : kl.getD 2 0 = rd kl 2 := by simp [rd]
  rw [hgd] at hx0 hxl hlen2
  obtain ⟨adk, ek, hck⟩ := Kd.at_int hr 2 (by omega) (by omega)
  obtain ⟨ad, A6, c6, ea, hTw, h6, hr6, hlt⟩ := E.twig (rd kl 2) hx0 hxl
  subst ek ea
  have HEnt := Lib.hid (Ent.mk' h (box6 23 t n ln cl (some adk) kl.length c5))
  have HKi := Lib.hid hK
  have HL := Lib.hid hlen
  have HR := Lib.hid hr
  have HE := Lib.hid E
  generalize hgx : rT l (rd kl 2) = x at *
  clear hgx hr6 hTr2 hgd hi2 hl
  have HEl := Lib.hid hlen2
  have HTw := Lib.hid hTw
  have HCk := Lib.hid hck
  clear hlen2 hTw hck
  clear hK hlen hr E
  go_enter Tryd.func46, Tryd.ntmps46
  go_upto_region 1 with (fail)
  generalize hW : w.alloc (.cells #[.int .i64 23, .string t, .int .i64 n, .int .i64 ln, .int .i64 cl, .slice (some adk) kl.length c5] 33) = w1 at *
  generalize hG : w.heap.size = gb at *
  clear hW hG h
  obtain ⟨q0, q1, q2, q3, q4, q5, q6⟩ := HEnt.out.q HEnt.out.after
  go_wp2_with fail
  refine (put1 ⟨#[105, 102, 32]⟩ HEnt.out.after (by have := HL.out; simp only [List.length_append, List.length_cons, List.length_nil] at this ⊢; omega)).mono ?_
  rintro e w2 ⟨rfl, hA2⟩
  clear q0 q1 q2 q3 q4 q5 q6
  obtain ⟨q0, q1, q2, q3, q4, q5, q6⟩ := HEnt.out.q hA2
  have HA2 := Lib.hid hA2
  clear hA2
  go_wp2_with fail
  refine (kid_d HKi.out HE.out 0 _ rfl d0 rfl HA2.out (by have := HL.out; simp only [List.length_append, List.length_cons, List.length_nil] at this ⊢; omega) h5 HR.out).mono ?_
  rintro e w3 ⟨rfl, hA3⟩
  clear q0 q1 q2 q3 q4 q5 q6
  have HA3 := Lib.hid hA3
  clear hA3
  go_wp2_with fail
  refine (put1 ⟨#[32]⟩ HA3.out (by have := HL.out; simp only [List.length_append, List.length_cons, List.length_nil] at this ⊢; omega)).mono ?_
  rintro e w4 ⟨rfl, hA4⟩
  obtain ⟨q0, q1, q2, q3, q4, q5, q6⟩ := HEnt.out.q hA4
  have HA4 := Lib.hid hA4
  clear hA4
  go_wp2_with fail
  refine (kid_d HKi.out HE.out 1 _ rfl d1 rfl HA4.out (by have := HL.out; simp only [List.length_append, List.length_cons, List.length_nil] at this ⊢; omega) h5 HR.out).mono ?_
  rintro e w5 ⟨rfl, hA5⟩
  clear q0 q1 q2 q3 q4 q5 q6
  obtain ⟨q0, q1, q2, q3, q4, q5, q6⟩ := HEnt.out.q hA5
  have HA5 := Lib.hid hA5
  clear hA5
  have t5 := (HTw.out.below HA5.out.below hlt).c5
  have e1 : w5.cell? ⟨adk.block, adk.off + 2, none⟩ = some (.int .i64 (rd kl 2)) := (HA5.out.below.cell (World.block_lt_of_cell? W0 _ HCk.out)).trans HCk.out
  have s0 := HA5.out.c0
  have hn3 : (2 : Int) < (kl.length : Int) := by omega
  by_cases hE : d2.kids.isEmpty = true
  · have hz : x.f5.length = 0 := by rw [HEl.out]; simpa using hE
    have hz2 : decide (0 < x.f5.length) = false := decide_eq_false (by omega)
    have hz3 : decide ((0 : Int) < (x.f5.length : Int)) = false := decide_eq_false (by omega)
    have HZ := Lib.hid hE
    clear hE hz
    go_wp2_with fail
    go_quiet (fail)
    go_wp2_with fail
    go_end0
    refine ⟨rfl, ?_⟩
    exact After.then HEnt.out.mv (After.drewN (by first | (simpa using HA5.out) | (rw [if_pos HZ.out]; simpa using HA5.out)) _)
  · have hz : 0 < x.f5.length := by rw [HEl.out]; cases hk : d2.kids with
      | nil => simp [hk] at hE
      | cons a r => simp
    have hz2 : (0 : Int) < (x.f5.length : Int) := by omega
    have HZ := Lib.hid hE
    clear hE
    go_wp2_with fail
    go_quiet (fail)
    rename_i nq
    generalize hWq : w5.drewN nq = w6
    have HA6 : Hid (After W0 b (.slice (some ad) l.length c) v bs (([105, 102, 32] : List UInt8) ++ (kidT ind.data.toList 23 t 0 d0 ++ (([32] : List UInt8) ++ kidT ind.data.toList 23 t 1 d1))) ind w1 w6) := by
      rw [← hWq]; exact (After.drewN (by simpa using HA5.out) _)
    clear hWq q0 q1 q2 q3 q4 q5 q6 t5 e1 s0
    go_wp2_with fail
    refine (put1 ⟨#[32, 101, 108, 115, 101, 32]⟩ HA6.out (by have := HL.out; rw [if_neg HZ.out] at this; simp only [List.length_append, List.length_cons, List.length_nil] at this ⊢; omega)).mono ?_
    rintro e w7 ⟨rfl, hA7⟩
    obtain ⟨q0, q1, q2, q3, q4, q5, q6⟩ := HEnt.out.q hA7
    have HA7 := Lib.hid hA7
    clear hA7
    go_wp2_with fail
    refine (kid_d HKi.out HE.out 2 _ rfl d2 rfl HA7.out (by have := HL.out; rw [if_neg HZ.out] at this; simp only [List.length_append, List.length_cons, List.length_nil] at this ⊢; omega) h5 HR.out).mono ?_
    rintro e w8 ⟨rfl, hA8⟩
    clear q0 q1 q2 q3 q4 q5 q6
    have HA8 := Lib.hid hA8
    clear hA8
    go_wp2
    go_end0
    refine ⟨rfl, ?_⟩
    first
      | exact After.then HEnt.out.mv (by simpa using HA8.out)
      | (rw [if_neg HZ.out]; exact After.then HEnt.out.mv (by simpa using HA8.out))
end Go.Proofs.YtbpefmidgfmcaaaDoor
end
section
set_option linter.unusedVariables false
namespace Go.Proofs.YtbpefmidgfmcaaaDoor
open Go.RowKit PTreeApart Go.Proofs.YtbpefmidgfmcaaaDoorW.PrintWords
/-- Kids that stand on lines of their own. -/
structure KidsB (l : List S33) (kl : List Int) (ds : List Nd) : Prop where
  place : ∀ j (h : j < ds.length), KidAt l kl j ds[j]
  ok : ∀ j (h : j < ds.length), ∃ ne, Ok ds[j] ne
  ih : ∀ j (h : j < ds.length), TwigOk l ds[j]
  len : kl.length = ds.length
  few : ds.length ≤ 300
theorem St.setInd {W0 : World} {b : Nat} {tw p v : Value} {bs : List UInt8} {ind : ByteArray} {w : World} (h : St W0 b tw p v bs ind w) (ind' : ByteArray) : St W0 b tw p v bs ind' (w.setCell ⟨b, 3, none⟩ (.string ind')) := by
  refine ⟨h.below.setCell (p := ⟨b, 3, none⟩) h.base _, h.base, ?_, ?_, h.ne, h.addr, h.nil⟩
  · simp only [World.setCell, Array.getElem?_modify, if_true, h.cells]
    rfl
  · exact ownsRow_other h.own (fun k hk => Below.heap_setCell _ _ _ _ (fun e => h.ne (by rw [hk, e])))
theorem Mv.setInd (b : Nat) (v : Value) (w : World) (u : Value) : Mv b v v w (w.setCell ⟨b, 3, none⟩ u) :=
  ⟨by simp [World.setCell], fun k _ hb _ => Below.heap_setCell _ _ _ _ hb, fun _ h => .inl h⟩
theorem After.setInd {W0 : World} {b : Nat} {tw v : Value} {bs out : List UInt8} {ind : ByteArray} {w0 w : World} (h : After W0 b tw v bs out ind w0 w) (ind' : ByteArray) : After W0 b tw v bs out ind' w0 (w.setCell ⟨b, 3, none⟩ (.string ind')) := by
  obtain ⟨p', v', h1, h2⟩ := h
  exact ⟨p', v', h1.setInd ind', h2.trans (Mv.setInd _ _ _ _)⟩
theorem After.fz {W0 : World} {b : Nat} {tw v : Value} {bs out : List UInt8} {ind : ByteArray} {w0 w : World} (h : After W0 b tw v bs out ind w0 w) (j : Nat) : w.frozen? ⟨b, j, none⟩ = false := by
  obtain ⟨p', v', h1, h2⟩ := h
  exact h1.fz j
theorem lines_snoc (i : List UInt8) (ks : List (List UInt8)) (s : List UInt8) : lines i (ks ++ [s]) = lines i ks ++ (i ++ s ++ [10]) := by simp [lines, List.map_append]
theorem lines_take (i : List UInt8) (f : Nd → List UInt8) (ds : List Nd) (j : Nat) (h : j < ds.length) : lines i ((ds.take (j + 1)).map f) = lines i ((ds.take j).map f) ++ (i ++ f ds[j] ++ [10]) := by
  rw [List.take_succ_eq_append_getElem h, List.map_append]
  exact lines_snoc _ _ _
theorem lines_length (i : List UInt8) (f : Nd → List UInt8) (ds : List Nd) (j : Nat) (h : j < ds.length) : (lines i ((ds.take j).map f)).length + (i.length + (f ds[j]).length + 1) ≤ (lines i (ds.map f)).length := by
  have e : ds.map f = (ds.take (j + 1)).map f ++ (ds.drop (j + 1)).map f := by rw [← List.map_append, List.take_append_drop]
  have e2 : lines i (ds.map f) = lines i ((ds.take (j + 1)).map f) ++ lines i ((ds.drop (j + 1)).map f) := by
    rw [e]
    unfold lines
    rw [List.map_append, List.flatten_append]
  rw [e2, lines_take i f ds j h]
  simp only [List.length_append, List.length_cons, List.length_nil]
  omega
set_option maxHeartbeats 2000000 in
set_option maxRecDepth 100000 in
theorem braces_core {W0 : World} {l : List S33} {b : Nat} {A : Option Addr} {c : Nat} {p v : Value} {bs : List UInt8} {ind : ByteArray} {w : World} {kl : List Int} {A5 : Option Addr} {c5 : Nat} {ds : List Nd}
    (hK : KidsB l kl ds) (E : Env W0 l A c) (h : St W0 b (.slice A l.length c) p v bs ind w)
    (hlen : bs.length + (bracesT ind.data.toList (ds.map (pr (ind.data.toList ++ [32, 32])))).length ≤ 140737488355328) (h5 : kl.length ≤ c5) (hr : (Kd.int .i64).C W0 A5 kl.length kl) :
    Calls Tryd.prog 20 #[.pointer (some ⟨b, 0, none⟩), .slice A5 kl.length c5] w
      fun e w' => e = .returned (.tuple #[]) ∧ After W0 b (.slice A l.length c) v bs (bracesT ind.data.toList (ds.map (pr (ind.data.toList ++ [32, 32])))) ind w w' := by
  have hkl : kl.length ≤ 300 := by have := hK.len; have := hK.few; omega
  by_cases h0 : kl.length = 0
  · have hd : ds = [] := List.eq_nil_of_length_eq_zero (by rw [← hK.len]; exact h0)
    subst hd
    have hz : ((kl.length : Int) == 0) = true := by rw [h0]; rfl
    have HA := Lib.hid (After.start h)
    have HL := Lib.hid hlen
    clear h h0 hlen
    go_enter Tryd.func20, Tryd.ntmps20
    go_wp2_with fail
    refine (put1 ⟨#[123, 32, 125]⟩ HA.out (by have := HL.out; simp [bracesT] at this ⊢; omega)).mono ?_
    rintro e w2 ⟨rfl, hA2⟩
    have HA2 := Lib.hid hA2
    clear hA2
    go_wp2
    (try simp only [Exit.inBlock, Exit.then])
    refine bodyPost_ret (results_none rfl _ _ _) rfl ?_
    exact ⟨rfl, by simpa [bracesT] using HA2.out⟩
  · have hz : ((kl.length : Int) == 0) = false := by simpa using h0
    have hT : bracesT ind.data.toList (ds.map (pr (ind.data.toList ++ [32, 32]))) = ([123, 10] : List UInt8) ++ lines (ind.data.toList ++ [32, 32]) (ds.map (pr (ind.data.toList ++ [32, 32]))) ++ ind.data.toList ++ [125] := by
      unfold bracesT
      rw [if_neg]
      intro e
      have := congrArg List.length e
      rw [List.length_map, ← hK.len] at this
      exact h0 this
    rw [hT] at hlen ⊢
    have hi2 : ind.size + 2 ≤ 140737488355330 := by
      have : ind.size = ind.data.toList.length := by rw [Array.length_toList]; rfl
      simp only [List.length_append, List.length_cons, List.length_nil] at hlen
      omega
    have c3 := h.c3
    have f3 := h.fz 3
    have HA := Lib.hid (After.start h)
    have HKi := Lib.hid hK
    have HL := Lib.hid hlen
    have HR := Lib.hid hr
    have HE := Lib.hid E
    clear h h0 hlen hT hK hr E
    go_enter Tryd.func20, Tryd.ntmps20
    go_upto_region 4 with (fail)
    have HA1 := Lib.hid (HA.out.setInd (ind ++ ⟨#[32, 32]⟩))
    generalize hW : w.setCell ⟨b, 3, none⟩ (.string (ind ++ ⟨#[32, 32]⟩)) = w1 at *
    generalize hI : ind ++ ⟨#[32, 32]⟩ = ind2 at *
    have hI2 : ind2.data.toList = ind.data.toList ++ [32, 32] := by rw [← hI]; simp
    rw [← hI2] at HL
    clear hW hI c3 f3 HA
    go_wp2_with fail
    refine (put1 ⟨#[123, 10]⟩ HA1.out (by have := HL.out; simp only [List.length_append, List.length_cons, List.length_nil] at this ⊢; omega)).mono ?_
    rintro e w2 ⟨rfl, hA2⟩
    have HA2 := Lib.hid hA2
    have HI := Lib.hid hI2
    clear hA2 hI2 HA1 hi2
    go_wp2_with fail
    go_loopw [29] (fun i wr => ∃ j : Nat, j ≤ kl.length ∧ i = .int .i64 j ∧ Hid (After W0 b (.slice A l.length c) v bs (([123, 10] : List UInt8) ++ lines ind2.data.toList ((ds.take j).map (pr ind2.data.toList))) ind2 w wr)) (fun i _ => kl.length - (intOf i).toNat)
    case atStart => exact ⟨0, Nat.zero_le _, rfl, by have := HA2.out; simpa [lines] using Lib.hid this⟩
    case round =>
      obtain ⟨j, hj, rfl, hr⟩ := hrel
      by_cases hlt : j < kl.length
      · have hd : j < ds.length := by rw [← HKi.out.len]; exact hlt
        obtain ⟨hi, m, hTr⟩ := HKi.out.place j hd
        obtain ⟨ne, hO⟩ := HKi.out.ok j hd
        obtain ⟨hx0, hxl⟩ := hTr.kind.2.2
        have hgd : kl.getD j 0 = rd kl (j : Int) := by simp [rd]
        rw [hgd] at hx0 hxl hTr
        obtain ⟨adk, ek, hck⟩ := Kd.at_int HR.out (j : Int) (by omega) (by omega)
        obtain ⟨ad, A6, c6, ea, hTw, h6, hr6, hbl⟩ := HE.out.twig (rd kl (j : Int)) hx0 hxl
        subst ek ea
        generalize hgx : rT l (rd kl (j : Int)) = x at *
        have HGX := Lib.hid hgx
        have HTr := Lib.hid hTr
        have HO := Lib.hid hO
        have HR6 := Lib.hid hr6
        have HTw := Lib.hid hTw
        have HCk := Lib.hid hck
        have HS := Lib.hid (lines_length ind2.data.toList (pr ind2.data.toList) ds j hd)
        have HT := Lib.hid (lines_take ind2.data.toList (pr ind2.data.toList) ds j hd)
        clear hgx hTr hO hr6 hTw hck hgd
        have e1 : wr.cell? (adk.add j) = some (.int .i64 (rd kl (j : Int))) := by
          have := (hr.out.below.cell (World.block_lt_of_cell? W0 _ HCk.out)).trans HCk.out
          rwa [show ((j : Int)).toNat = j from by omega] at this
        have c3 := hr.out.c3
        go_wp2_with fail
        refine (put1 ind2 hr.out (by have := HL.out; have h2 := HS.out; simp only [List.length_append, List.length_cons, List.length_nil] at this h2 ⊢; omega)).mono ?_
        rintro e w3 ⟨rfl, hA3⟩
        obtain ⟨t0, t1, t2, t3, t4, t5⟩ := HTw.out.below hA3.below hbl
        have s0 := hA3.c0
        have HA3 := Lib.hid hA3
        clear hA3 c3 e1
        go_wp2_with fail
        refine (twig_then (HKi.out.ih j hd) HE.out HTr.out HO.out HGX.out HA3.out (by have := HL.out; have h2 := HS.out; simp only [List.length_append, List.length_cons, List.length_nil] at this h2 ⊢; omega) h6 HR6.out).mono ?_
        rintro e w4 ⟨rfl, hA4⟩
        have HA4 := Lib.hid hA4
        clear hA4 t0 t1 t2 t3 t4 t5 s0
        go_wp2_with fail
        refine (put1 ⟨#[10]⟩ HA4.out (by have := HL.out; have h2 := HS.out; simp only [List.length_append, List.length_cons, List.length_nil] at this h2 ⊢; omega)).mono ?_
        rintro e w5 ⟨rfl, hA5⟩
        have HA5 := Lib.hid hA5
        clear hA5
        go_wp2
        go_roundw
        case rel =>
          refine ⟨j + 1, by omega, by go_num, ?_⟩
          have := HA5.out
          rw [HT.out]
          exact Lib.hid (by simpa using this)
        case measure => simp [intOf]; omega
      · have e : j = kl.length := by omega
        subst e
        have hA6 : After W0 b (.slice A l.length c) v bs (([123, 10] : List UInt8) ++ lines ind2.data.toList (ds.map (pr ind2.data.toList))) ind2 w wr := by
          have := hr.out
          rwa [List.take_of_length_le (by rw [HKi.out.len]; exact Nat.le_refl _)] at this
        have c3 := hA6.c3
        have f3 := hA6.fz 3
        have HA7 := Lib.hid (hA6.setInd ind)
        clear hA6
        go_upto_region 13 with (fail)
        generalize hW : wr.setCell ⟨b, 3, none⟩ (.string ind) = w6 at *
        clear hW c3 f3
        go_wp2_with fail
        refine (put2 ind ⟨#[125]⟩ HA7.out (by have := HL.out; simp only [List.length_append, List.length_cons, List.length_nil] at this ⊢; omega)).mono ?_
        rintro e w7 ⟨rfl, hA7⟩
        have HA8 := Lib.hid hA7
        clear hA7
        go_wp2
        go_end0
        refine ⟨rfl, ?_⟩
        have := HA8.out
        rw [HI.out] at this
        simpa using this
end Go.Proofs.YtbpefmidgfmcaaaDoor
end
section
set_option linter.unusedVariables false
set_option linter.unusedSimpArgs false
namespace Go.Proofs.YtbpefmidgfmcaaaDoor
open Go.RowKit PTreeApart Go.Proofs.YtbpefmidgfmcaaaDoorW.PrintWords
theorem tab_below {W0 w : World} {n : String} {k : IntKind} {zs : List Int} (h : Lib.TabIs Tryd.prog W0 n k zs) (hb : Below W0.heap.size W0 w) : Lib.TabIs Tryd.prog w n k zs := by
  unfold Lib.TabIs World.var? at h ⊢
  cases hg : Tryd.prog.globalNamed n with
  | none => rw [hg] at h; cases h
  | some g =>
    rw [hg] at h
    simp only [Option.bind_some] at h ⊢
    have hlt : g < W0.heap.size := by
      rcases Nat.lt_or_ge g W0.heap.size with h' | h'
      · exact h'
      · rw [Array.getElem?_eq_none h'] at h; cases h
    rw [hb.block g hlt]
    exact h
theorem below_grow (w : World) (k : Nat) (os : Array Obj) : Below w.heap.size w (Sort.grow (w.drewN k) os) :=
  ⟨rfl, rfl, rfl, by simp [Sort.grow, World.drewN], fun i hi => by
    show ((w.drewN k).heap ++ os)[i]? = _
    rw [Array.getElem?_append_left (by exact hi)]
    rfl⟩
/-- strconv.FormatInt, from what stands. -/
theorem fmt_then {W0 : World} {l : List S33} {b : Nat} {A : Option Addr} {c : Nat} {tw v : Value} {bs out : List UInt8} {ind : ByteArray} {w0 w : World} (n : Int) (E : Env W0 l A c) (h : After W0 b tw v bs out ind w0 w)
    (h0 : -9223372036854775808 ≤ n) (h1 : n ≤ 9223372036854775807) :
    Calls Tryd.prog 44 #[.int .i64 n, .int .i64 10] w fun e w' => e = .returned (.string ⟨(Lib.itoa n).toArray⟩) ∧ After W0 b tw v bs out ind w0 w' := by
  refine (Tryd.strconv_FormatInt_10 n h0 h1 w (tab_below E.tab h.below)).mono ?_
  rintro e w' ⟨rfl, k, os, rfl⟩
  exact ⟨rfl, h.step (below_grow w k os)⟩
theorem to_then {W0 : World} {l : List S33} {b : Nat} {A : Option Addr} {c : Nat} {v : Value} {bs out : List UInt8} {ind : ByteArray} {w0 w : World} {k : Int} {t : ByteArray} {n ln cl : Int} {kl : List Int} {A5 : Option Addr} {c5 : Nat} {ds : List Nd}
    (hK : Kids l kl k t ds) (E : Env W0 l A c) (h12 : k ≠ 12) (h8 : k ≠ 8) (h : After W0 b (.slice A l.length c) v bs out ind w0 w)
    (hlen : bs.length + (out ++ toT (prs ind.data.toList k t 0 ds)).length ≤ 140737488355328) (h5 : kl.length ≤ c5) (hr : (Kd.int .i64).C W0 A5 kl.length kl) :
    Calls Tryd.prog 45 #[.pointer (some ⟨b, 0, none⟩), .agg #[.int .i64 k, .string t, .int .i64 n, .int .i64 ln, .int .i64 cl, .slice A5 kl.length c5]] w
      fun e w' => e = .returned (.tuple #[]) ∧ After W0 b (.slice A l.length c) v bs (out ++ toT (prs ind.data.toList k t 0 ds)) ind w0 w' := by
  refine h.calls (Below.refl _ _) (fun p' v' hs => ?_)
  exact to_core hK E h12 h8 hs (by rw [List.length_append] at hlen ⊢; omega) h5 hr
theorem braces_then {W0 : World} {l : List S33} {b : Nat} {A : Option Addr} {c : Nat} {v : Value} {bs out : List UInt8} {ind : ByteArray} {w0 w : World} {kl : List Int} {A5 : Option Addr} {c5 : Nat} {ds : List Nd}
    (hK : KidsB l kl ds) (E : Env W0 l A c) (h : After W0 b (.slice A l.length c) v bs out ind w0 w)
    (hlen : bs.length + (out ++ bracesT ind.data.toList (ds.map (pr (ind.data.toList ++ [32, 32])))).length ≤ 140737488355328) (h5 : kl.length ≤ c5) (hr : (Kd.int .i64).C W0 A5 kl.length kl) :
    Calls Tryd.prog 20 #[.pointer (some ⟨b, 0, none⟩), .slice A5 kl.length c5] w
      fun e w' => e = .returned (.tuple #[]) ∧ After W0 b (.slice A l.length c) v bs (out ++ bracesT ind.data.toList (ds.map (pr (ind.data.toList ++ [32, 32])))) ind w0 w' := by
  refine h.calls (Below.refl _ _) (fun p' v' hs => ?_)
  exact braces_core hK E hs (by rw [List.length_append] at hlen ⊢; omega) h5 hr
theorem field77 (s : ByteArray) (w : World) : (Instr.field 77 (.agg #[.string s]) 0).run Tryd.prog w = .ok (.string s) w := by kernel_rfl
end Go.Proofs.YtbpefmidgfmcaaaDoor
end
