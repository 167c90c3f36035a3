import Derived.Test.YtbpefmidgfmcaaaDoorV17
import Derived.Test.YtbpefmidgfmcaaaDoorV7
import Derived.Test.YtbpefmidgfmcaaaDoorV8
section
set_option linter.unusedVariables false
set_option linter.unusedSimpArgs false
namespace Go.Proofs.YtbpefmidgfmcaaaDoor
open Go.RowKit PTreeApart Go.Proofs.YtbpefmidgfmcaaaDoorW.PrintWords
def eK : ByteArray := ⟨#[]⟩
def lK : List S33 := [⟨1, eK, 0, 0, 0, [1]⟩, ⟨11, eK, 0, 0, 0, [2]⟩, ⟨12, eK, 0, 0, 0, [3]⟩, ⟨14, eK, 0, 0, 0, [4, 5]⟩, ⟨29, ⟨#[103]⟩, 0, 0, 0, []⟩, ⟨32, ⟨#[42]⟩, 0, 0, 0, [6, 9]⟩, ⟨32, ⟨#[43]⟩, 0, 0, 0, [7, 8]⟩, ⟨26, eK, 1, 0, 0, []⟩, ⟨26, eK, 2, 0, 0, []⟩, ⟨29, ⟨#[120]⟩, 0, 0, 0, []⟩]
def dSum : Nd := .mk 32 ⟨#[43]⟩ 0 [.mk 26 eK 1 [], .mk 26 eK 2 []]
def dMul : Nd := .mk 32 ⟨#[42]⟩ 0 [dSum, .mk 29 ⟨#[120]⟩ 0 []]
def dK : Nd := .mk 1 eK 0 [.mk 11 eK 0 [.mk 12 eK 0 [.mk 14 eK 0 [.mk 29 ⟨#[103]⟩ 0 [], dMul]]]]
def tK : ByteArray := ⟨#[109, 97, 105, 110, 32, 123, 10, 32, 32, 103, 32, 61, 32, 40, 49, 32, 43, 32, 50, 41, 32, 42, 32, 120, 59, 10, 125, 10]⟩
theorem prK : (⟨(pr [] dK).toArray⟩ : ByteArray) = tK := by
  have e1 : Lib.itoa 1 = [49] := by rw [Lib.itoa, if_neg (by omega)]; exact Lib.decDigits_one (by decide)
  have e2 : Lib.itoa 2 = [50] := by rw [Lib.itoa, if_neg (by omega)]; exact Lib.decDigits_one (by decide)
  have h : pr [] dK = tK.data.toList := by
    simp (decide := true) only [dK, dMul, dSum, pr, prs, asm, ↓reduceIte, e1, e2, parT, par, binds, must, eK]
  rw [h]
theorem trK : Tr lK dK 0 lK.length :=
  ⟨by decide, by decide, rfl, rfl, rfl, by decide, by decide, 10, ⟨by decide, by decide, rfl, rfl, rfl, by decide, by decide, 10, ⟨by decide, by decide, rfl, rfl, rfl, by decide, by decide, 10, ⟨by decide, by decide, rfl, rfl, rfl, by decide, by decide, 5, ⟨by decide, by decide, rfl, rfl, rfl, rfl, rfl⟩, by decide, by decide, 10, ⟨by decide, by decide, rfl, rfl, rfl, by decide, by decide, 9, ⟨by decide, by decide, rfl, rfl, rfl, by decide, by decide, 8, ⟨by decide, by decide, rfl, rfl, rfl, rfl, rfl⟩, by decide, by decide, 9, ⟨by decide, by decide, rfl, rfl, rfl, rfl, rfl⟩, rfl, rfl⟩, by decide, by decide, 10, ⟨by decide, by decide, rfl, rfl, rfl, rfl, rfl⟩, rfl, rfl⟩, rfl, rfl⟩, rfl, rfl⟩, rfl, rfl⟩, rfl, rfl⟩
theorem okK : Ok dK 0 :=
  ⟨by decide +kernel, by decide, by decide, (by simp (decide := true) [textOk, eK]), (by simp (decide := true) [numOk]), (by simp (decide := true) [kidsOk, isVar, isTerm, isDecl, isStmt, Nd.kind]), ⟨by decide +kernel, by decide, by decide, (by simp (decide := true) [textOk, eK]), (by simp (decide := true) [numOk]), (by simp (decide := true) [kidsOk, isVar, isTerm, isDecl, isStmt, Nd.kind]), ⟨by decide +kernel, by decide, by decide, (by simp (decide := true) [textOk, eK]), (by simp (decide := true) [numOk]), (by simp (decide := true) [kidsOk, isVar, isTerm, isDecl, isStmt, Nd.kind]), ⟨by decide +kernel, by decide, by decide, (by simp (decide := true) [textOk, eK]), (by simp (decide := true) [numOk]), (by simp (decide := true) only [kidsOk, ↓reduceIte]; exact ⟨29, 32, rfl, .inl rfl, by unfold isTerm; omega⟩), ⟨by decide +kernel, by decide, by decide, (by simp (decide := true) [textOk, eK]), (by simp (decide := true) [numOk]), (by simp (decide := true) [kidsOk, isVar, isTerm, isDecl, isStmt, Nd.kind]), trivial⟩, ⟨by decide +kernel, by decide, by decide, (by simp (decide := true) [textOk, eK]), (by simp (decide := true) [numOk]), (by simp (decide := true) only [kidsOk, ↓reduceIte, or_true]; exact ⟨32, 29, rfl, by unfold isTerm; omega, by unfold isTerm; omega⟩), ⟨by decide +kernel, by decide, by decide, (by simp (decide := true) [textOk, eK]), (by simp (decide := true) [numOk]), (by simp (decide := true) only [kidsOk, ↓reduceIte, or_true]; exact ⟨26, 26, rfl, by unfold isTerm; omega, by unfold isTerm; omega⟩), ⟨by decide +kernel, by decide, by decide, (by simp (decide := true) [textOk, eK]), (by simp (decide := true) [numOk]), (by simp (decide := true) [kidsOk, isVar, isTerm, isDecl, isStmt, Nd.kind]), trivial⟩, ⟨by decide +kernel, by decide, by decide, (by simp (decide := true) [textOk, eK]), (by simp (decide := true) [numOk]), (by simp (decide := true) [kidsOk, isVar, isTerm, isDecl, isStmt, Nd.kind]), trivial⟩, trivial⟩, ⟨by decide +kernel, by decide, by decide, (by simp (decide := true) [textOk, eK]), (by simp (decide := true) [numOk]), (by simp (decide := true) [kidsOk, isVar, isTerm, isDecl, isStmt, Nd.kind]), trivial⟩, trivial⟩, trivial⟩, trivial⟩, trivial⟩, trivial⟩
theorem kindK : dK.kind = 1 := rfl
def csK (b1 b2 b3 b4 b5 b6 : Nat) : Array Value := #[.int .i64 1, .string ⟨#[]⟩, .int .i64 0, .int .i64 0, .int .i64 0, .slice (some ⟨b1, 0, none⟩) 1 1, .int .i64 11, .string ⟨#[]⟩, .int .i64 0, .int .i64 0, .int .i64 0, .slice (some ⟨b2, 0, none⟩) 1 1, .int .i64 12, .string ⟨#[]⟩, .int .i64 0, .int .i64 0, .int .i64 0, .slice (some ⟨b3, 0, none⟩) 1 1, .int .i64 14, .string ⟨#[]⟩, .int .i64 0, .int .i64 0, .int .i64 0, .slice (some ⟨b4, 0, none⟩) 2 2, .int .i64 29, .string ⟨#[103]⟩, .int .i64 0, .int .i64 0, .int .i64 0, .slice none 0 0, .int .i64 32, .string ⟨#[42]⟩, .int .i64 0, .int .i64 0, .int .i64 0, .slice (some ⟨b5, 0, none⟩) 2 2, .int .i64 32, .string ⟨#[43]⟩, .int .i64 0, .int .i64 0, .int .i64 0, .slice (some ⟨b6, 0, none⟩) 2 2, .int .i64 26, .string ⟨#[]⟩, .int .i64 1, .int .i64 0, .int .i64 0, .slice none 0 0, .int .i64 26, .string ⟨#[]⟩, .int .i64 2, .int .i64 0, .int .i64 0, .slice none 0 0, .int .i64 29, .string ⟨#[120]⟩, .int .i64 0, .int .i64 0, .int .i64 0, .slice none 0 0]
theorem kd_ints {g : Nat} {xs : List Int} {T : Nat} {w : World} (hg : Blk g (ints xs) T w) (hx : xs.length ≤ 1000) : (Kd.int .i64).C w (some ⟨g, 0, none⟩) xs.length xs := by
  refine ⟨rfl, by omega, fun _ => ⟨⟨g, 0, none⟩, rfl, fun j p hj => ⟨[.int .i64 p], rfl, rfl, fun i u hu => ?_⟩⟩⟩
  cases i with
  | zero =>
    obtain rfl : Value.int .i64 p = u := by simpa using hu
    have e : (⟨g, 0, none⟩ : Addr).add (j * (Kd.int .i64).sz + 0) = ⟨g, j, none⟩ := by
      rw [show (Kd.int .i64).sz = 1 from rfl]
      simp [Addr.add]
      try (intro h; exact h.symm)
    rw [e]
    exact hg.cell j _ (by simp [ints, hj])
  | succ i => simp at hu
theorem kd_nil (w : World) : (Kd.int .i64).C w none 0 [] := ⟨rfl, by omega, fun h => by omega⟩
theorem rowK {w : World} {b1 b2 b3 b4 b5 b6 b7 : Nat} (h1 : Blk b1 #[.int .i64 1] 3 w) (h2 : Blk b2 #[.int .i64 2] 3 w) (h3 : Blk b3 #[.int .i64 3] 3 w) (h4 : Blk b4 #[.int .i64 4, .int .i64 5] 3 w) (h5 : Blk b5 #[.int .i64 6, .int .i64 9] 3 w) (h6 : Blk b6 #[.int .i64 7, .int .i64 8] 3 w)
    (h7 : Blk b7 (csK b1 b2 b3 b4 b5 b6) 33 w) : Kd.C k33 w (some ⟨b7, 0, none⟩) lK.length lK := by
  refine ⟨rfl, by decide, fun _ => ⟨⟨b7, 0, none⟩, rfl, fun j p hj => ?_⟩⟩
  have key : ∀ (j : Nat) (x : S33) (vs : List Value), k33.K w x vs → vs.length = 6 → (∀ i u, vs[i]? = some u → (csK b1 b2 b3 b4 b5 b6)[j * 6 + i]? = some u) →
      ∃ cs, cs.length = k33.sz ∧ k33.K w x cs ∧ ∀ i u, cs[i]? = some u → w.cell? ((⟨b7, 0, none⟩ : Addr).add (j * k33.sz + i)) = some u := by
    intro j x vs hK hl hc
    refine ⟨vs, hl, hK, fun i u hu => ?_⟩
    have e : (⟨b7, 0, none⟩ : Addr).add (j * k33.sz + i) = ⟨b7, j * 6 + i, none⟩ := by
      rw [show k33.sz = 6 from rfl]
      simp [Addr.add]
      try (intro h h2; omega)
    rw [e]
    exact h7.cell _ _ (hc i u hu)
  match j, hj with
  | 0, hj =>
    obtain rfl := Option.some.inj hj
    refine key 0 _ [.int .i64 1, .string ⟨#[]⟩, .int .i64 0, .int .i64 0, .int .i64 0, .slice (some ⟨b1, 0, none⟩) 1 1] (k33_mk w (⟨1, eK, 0, 0, 0, [1]⟩ : S33) (by decide) (kd_ints h1 (by decide))) rfl (fun i u hu => ?_)
    match i, hu with
    | 0, hu => exact hu
    | 1, hu => exact hu
    | 2, hu => exact hu
    | 3, hu => exact hu
    | 4, hu => exact hu
    | 5, hu => exact hu
    | i + 6, hu => simp at hu
  | 1, hj =>
    obtain rfl := Option.some.inj hj
    refine key 1 _ [.int .i64 11, .string ⟨#[]⟩, .int .i64 0, .int .i64 0, .int .i64 0, .slice (some ⟨b2, 0, none⟩) 1 1] (k33_mk w (⟨11, eK, 0, 0, 0, [2]⟩ : S33) (by decide) (kd_ints h2 (by decide))) rfl (fun i u hu => ?_)
    match i, hu with
    | 0, hu => exact hu
    | 1, hu => exact hu
    | 2, hu => exact hu
    | 3, hu => exact hu
    | 4, hu => exact hu
    | 5, hu => exact hu
    | i + 6, hu => simp at hu
  | 2, hj =>
    obtain rfl := Option.some.inj hj
    refine key 2 _ [.int .i64 12, .string ⟨#[]⟩, .int .i64 0, .int .i64 0, .int .i64 0, .slice (some ⟨b3, 0, none⟩) 1 1] (k33_mk w (⟨12, eK, 0, 0, 0, [3]⟩ : S33) (by decide) (kd_ints h3 (by decide))) rfl (fun i u hu => ?_)
    match i, hu with
    | 0, hu => exact hu
    | 1, hu => exact hu
    | 2, hu => exact hu
    | 3, hu => exact hu
    | 4, hu => exact hu
    | 5, hu => exact hu
    | i + 6, hu => simp at hu
  | 3, hj =>
    obtain rfl := Option.some.inj hj
    refine key 3 _ [.int .i64 14, .string ⟨#[]⟩, .int .i64 0, .int .i64 0, .int .i64 0, .slice (some ⟨b4, 0, none⟩) 2 2] (k33_mk w (⟨14, eK, 0, 0, 0, [4, 5]⟩ : S33) (by decide) (kd_ints h4 (by decide))) rfl (fun i u hu => ?_)
    match i, hu with
    | 0, hu => exact hu
    | 1, hu => exact hu
    | 2, hu => exact hu
    | 3, hu => exact hu
    | 4, hu => exact hu
    | 5, hu => exact hu
    | i + 6, hu => simp at hu
  | 4, hj =>
    obtain rfl := Option.some.inj hj
    refine key 4 _ [.int .i64 29, .string ⟨#[103]⟩, .int .i64 0, .int .i64 0, .int .i64 0, .slice none 0 0] (k33_mk w (⟨29, ⟨#[103]⟩, 0, 0, 0, []⟩ : S33) (by decide) (kd_nil w)) rfl (fun i u hu => ?_)
    match i, hu with
    | 0, hu => exact hu
    | 1, hu => exact hu
    | 2, hu => exact hu
    | 3, hu => exact hu
    | 4, hu => exact hu
    | 5, hu => exact hu
    | i + 6, hu => simp at hu
  | 5, hj =>
    obtain rfl := Option.some.inj hj
    refine key 5 _ [.int .i64 32, .string ⟨#[42]⟩, .int .i64 0, .int .i64 0, .int .i64 0, .slice (some ⟨b5, 0, none⟩) 2 2] (k33_mk w (⟨32, ⟨#[42]⟩, 0, 0, 0, [6, 9]⟩ : S33) (by decide) (kd_ints h5 (by decide))) rfl (fun i u hu => ?_)
    match i, hu with
    | 0, hu => exact hu
    | 1, hu => exact hu
    | 2, hu => exact hu
    | 3, hu => exact hu
    | 4, hu => exact hu
    | 5, hu => exact hu
    | i + 6, hu => simp at hu
  | 6, hj =>
    obtain rfl := Option.some.inj hj
    refine key 6 _ [.int .i64 32, .string ⟨#[43]⟩, .int .i64 0, .int .i64 0, .int .i64 0, .slice (some ⟨b6, 0, none⟩) 2 2] (k33_mk w (⟨32, ⟨#[43]⟩, 0, 0, 0, [7, 8]⟩ : S33) (by decide) (kd_ints h6 (by decide))) rfl (fun i u hu => ?_)
    match i, hu with
    | 0, hu => exact hu
    | 1, hu => exact hu
    | 2, hu => exact hu
    | 3, hu => exact hu
    | 4, hu => exact hu
    | 5, hu => exact hu
    | i + 6, hu => simp at hu
  | 7, hj =>
    obtain rfl := Option.some.inj hj
    refine key 7 _ [.int .i64 26, .string ⟨#[]⟩, .int .i64 1, .int .i64 0, .int .i64 0, .slice none 0 0] (k33_mk w (⟨26, eK, 1, 0, 0, []⟩ : S33) (by decide) (kd_nil w)) rfl (fun i u hu => ?_)
    match i, hu with
    | 0, hu => exact hu
    | 1, hu => exact hu
    | 2, hu => exact hu
    | 3, hu => exact hu
    | 4, hu => exact hu
    | 5, hu => exact hu
    | i + 6, hu => simp at hu
  | 8, hj =>
    obtain rfl := Option.some.inj hj
    refine key 8 _ [.int .i64 26, .string ⟨#[]⟩, .int .i64 2, .int .i64 0, .int .i64 0, .slice none 0 0] (k33_mk w (⟨26, eK, 2, 0, 0, []⟩ : S33) (by decide) (kd_nil w)) rfl (fun i u hu => ?_)
    match i, hu with
    | 0, hu => exact hu
    | 1, hu => exact hu
    | 2, hu => exact hu
    | 3, hu => exact hu
    | 4, hu => exact hu
    | 5, hu => exact hu
    | i + 6, hu => simp at hu
  | 9, hj =>
    obtain rfl := Option.some.inj hj
    refine key 9 _ [.int .i64 29, .string ⟨#[120]⟩, .int .i64 0, .int .i64 0, .int .i64 0, .slice none 0 0] (k33_mk w (⟨29, ⟨#[120]⟩, 0, 0, 0, []⟩ : S33) (by decide) (kd_nil w)) rfl (fun i u hu => ?_)
    match i, hu with
    | 0, hu => exact hu
    | 1, hu => exact hu
    | 2, hu => exact hu
    | 3, hu => exact hu
    | 4, hu => exact hu
    | 5, hu => exact hu
    | i + 6, hu => simp at hu
  | j + 10, hj => simp [lK] at hj
theorem alloc_blk {w w1 : World} {cs : Array Value} {T : Nat} (h : w1 = w.alloc (.cells cs T)) : Blk w.heap.size cs T w1 ∧ w1.heap.size = w.heap.size + 1 ∧ Below w.heap.size w w1 := by
  subst h
  exact ⟨Blk.new w cs T, by show (w.heap.push _).size = _; simp, (Below.refl _ _).alloc (Nat.le_refl _) _⟩
def wK (w0 : World) : World := ((((((w0.alloc (.cells #[.int .i64 1] 3)).alloc (.cells #[.int .i64 2] 3)).alloc (.cells #[.int .i64 3] 3)).alloc (.cells #[.int .i64 4, .int .i64 5] 3)).alloc (.cells #[.int .i64 6, .int .i64 9] 3)).alloc (.cells #[.int .i64 7, .int .i64 8] 3)).alloc (.cells (csK (w0.heap.size) (w0.heap.size + 1) (w0.heap.size + 1 + 1) (w0.heap.size + 1 + 1 + 1) (w0.heap.size + 1 + 1 + 1 + 1) (w0.heap.size + 1 + 1 + 1 + 1 + 1)) 33)
theorem wK_env (w0 : World) (ht1 : Lib.TabIs Tryd.prog w0 "internal/strconv.uint64pow10" .u64 Lib.pow10Tab) : Env (wK w0) lK (some ⟨w0.heap.size + 1 + 1 + 1 + 1 + 1 + 1, 0, none⟩) 10 ∧ Below w0.heap.size w0 (wK w0) := by
  obtain ⟨w1, e1⟩ : ∃ w1, w1 = w0.alloc (.cells #[.int .i64 1] 3) := ⟨_, rfl⟩
  obtain ⟨k1, s1, c1⟩ := alloc_blk e1
  obtain ⟨w2, e2⟩ : ∃ w2, w2 = w1.alloc (.cells #[.int .i64 2] 3) := ⟨_, rfl⟩
  obtain ⟨k2, s2, c2⟩ := alloc_blk e2
  obtain ⟨w3, e3⟩ : ∃ w3, w3 = w2.alloc (.cells #[.int .i64 3] 3) := ⟨_, rfl⟩
  obtain ⟨k3, s3, c3⟩ := alloc_blk e3
  obtain ⟨w4, e4⟩ : ∃ w4, w4 = w3.alloc (.cells #[.int .i64 4, .int .i64 5] 3) := ⟨_, rfl⟩
  obtain ⟨k4, s4, c4⟩ := alloc_blk e4
  obtain ⟨w5, e5⟩ : ∃ w5, w5 = w4.alloc (.cells #[.int .i64 6, .int .i64 9] 3) := ⟨_, rfl⟩
  obtain ⟨k5, s5, c5⟩ := alloc_blk e5
  obtain ⟨w6, e6⟩ : ∃ w6, w6 = w5.alloc (.cells #[.int .i64 7, .int .i64 8] 3) := ⟨_, rfl⟩
  obtain ⟨k6, s6, c6⟩ := alloc_blk e6
  obtain ⟨w7, e7⟩ : ∃ w7, w7 = w6.alloc (.cells (csK (w0.heap.size) (w0.heap.size + 1) (w0.heap.size + 1 + 1) (w0.heap.size + 1 + 1 + 1) (w0.heap.size + 1 + 1 + 1 + 1) (w0.heap.size + 1 + 1 + 1 + 1 + 1)) 33) := ⟨_, rfl⟩
  obtain ⟨k7, s7, c7⟩ := alloc_blk e7
  have ew : wK w0 = w7 := by rw [e7, e6, e5, e4, e3, e2, e1]; rfl
  rw [ew]
  clear ew e1 e2 e3 e4 e5 e6 e7
  have hb : Below w0.heap.size w0 w7 := below_after (below_after (below_after (below_after (below_after (below_after c1 c2) c3) c4) c5) c6) c7
  have q1 := (Blk.step (Blk.step (Blk.step (Blk.step (Blk.step (Blk.step k1 c2) c3) c4) c5) c6) c7)
  have q2 := (Blk.step (Blk.step (Blk.step (Blk.step (Blk.step k2 c3) c4) c5) c6) c7)
  have q3 := (Blk.step (Blk.step (Blk.step (Blk.step k3 c4) c5) c6) c7)
  have q4 := (Blk.step (Blk.step (Blk.step k4 c5) c6) c7)
  have q5 := (Blk.step (Blk.step k5 c6) c7)
  have q6 := (Blk.step k6 c7)
  rw [s1] at s2 q2
  rw [s2] at s3 q3
  rw [s3] at s4 q4
  rw [s4] at s5 q5
  rw [s5] at s6 q6
  rw [s6] at k7
  exact ⟨⟨rowK q1 q2 q3 q4 q5 q6 k7, by decide, by decide, tab_below ht1 hb⟩, hb⟩
set_option maxHeartbeats 8000000 in
set_option maxRecDepth 100000 in
theorem known_any (w0 : World) (ht1 : Lib.TabIs Tryd.prog w0 "internal/strconv.uint64pow10" .u64 Lib.pow10Tab) (ht2 : Lib.TabIs Tryd.prog w0 "strings.asciiSpace" .u8 Lib.asciiSpaceTab) :
    Calls Tryd.prog 6 #[] w0 fun e w' => e = .returned (.bool true) ∧ Below w0.heap.size w0 w' := by
  go_enter Tryd.func6, Tryd.ntmps6
  go_wp2_with fail
  obtain ⟨hE, hB⟩ := wK_env w0 ht1
  have ht := tab_below ht2 hB
  have HB := Lib.hid hB
  clear hB
  change Calls Tryd.prog 7 #[.agg #[.slice (some ⟨w0.heap.size + 1 + 1 + 1 + 1 + 1 + 1, 0, none⟩) 10 10]] (wK w0) _
  refine (print_fine hE ht trK okK kindK).mono ?_
  rw [prK]
  rintro e w1 ⟨rfl, hb⟩
  have HB2 := Lib.hid (below_after HB.out hb)
  clear hb hE ht
  have htk : (tK.toList == [109, 97, 105, 110, 32, 123, 10, 32, 32, 103, 32, 61, 32, 40, 49, 32, 43, 32, 50, 41, 32, 42, 32, 120, 59, 10, 125, 10]) = true := by rw [Lib.toList_data]; rfl
  go_wp2
  go_ret
  exact ⟨rfl, HB2.out⟩
end Go.Proofs.YtbpefmidgfmcaaaDoor
end
section
set_option linter.unusedVariables false
set_option linter.unusedSimpArgs false
namespace Go.Proofs.YtbpefmidgfmcaaaDoor
open Go.RowKit PTreeApart Go.Proofs.YtbpefmidgfmcaaaDoorW.PrintWords
/-- What stands while the law runs. -/
structure LB (w : World) (b0 b1 : Nat) (t0 t1 : Value) (w' : World) : Prop where
  k0 : Blk b0 #[t0] 24 w'
  k1 : Blk b1 #[t1] 24 w'
  below : Below w.heap.size w w'
theorem LB.step {w : World} {b0 b1 : Nat} {t0 t1 : Value} {w1 w' : World} (h : LB w b0 b1 t0 t1 w1) (hb : Below w1.heap.size w1 w') : LB w b0 b1 t0 t1 w' := ⟨h.k0.step hb, h.k1.step hb, below_after h.below hb⟩
theorem LB.drew {w : World} {b0 b1 : Nat} {t0 t1 : Value} {w1 : World} (h : LB w b0 b1 t0 t1 w1) : LB w b0 b1 t0 t1 w1.drew := h.step ⟨rfl, rfl, rfl, Nat.le_refl _, fun _ _ => rfl⟩
theorem LB.cells {w : World} {b0 b1 : Nat} {t0 t1 : Value} {w1 : World} (h : LB w b0 b1 t0 t1 w1) : w1.cell? ⟨b0, 0, none⟩ = some t0 ∧ w1.cell? ⟨b1, 0, none⟩ = some t1 := ⟨h.k0.cell 0 _ rfl, h.k1.cell 0 _ rfl⟩
set_option maxHeartbeats 16000000 in
set_option maxRecDepth 100000 in
theorem law_any (A : Option Addr) (c : Nat) (l : List S33) (A' : Option Addr) (c' : Nat) (l' : List S33) (w0 : World) (hr : Kd.C k33 w0 A l.length l) (hc : l.length ≤ c) (hr' : Kd.C k33 w0 A' l'.length l') (hc' : l'.length ≤ c')
    (ht1 : Lib.TabIs Tryd.prog w0 "internal/strconv.uint64pow10" .u64 Lib.pow10Tab) (ht2 : Lib.TabIs Tryd.prog w0 "strings.asciiSpace" .u8 Lib.asciiSpaceTab) :
    Calls Tryd.prog 3 #[.agg #[.slice A l.length c], .agg #[.slice A' l'.length c']] w0 fun e w' => e = .returned (.bool true) ∧ Below w0.heap.size w0 w' := by
  obtain ⟨r1, e1, p1⟩ := much_evx l
  obtain ⟨r2, e2, p2⟩ := much_evx l'
  obtain ⟨n1, e1⟩ := e1.rounds
  obtain ⟨n2, e2⟩ := e2.rounds
  have h4a : ∀ W, Below w0.heap.size w0 W → Calls Tryd.prog 4 #[.agg #[.slice A l.length c], .int .i64 300] W fun e w' => e = .returned (.bool r1) ∧ Below W.heap.size W w' := fun W hW => rmh.calls n1 A c l 300 r1 W (Kd.C_below hr hW) hc e1
  have h4b : ∀ W, Below w0.heap.size w0 W → Calls Tryd.prog 4 #[.agg #[.slice A' l'.length c'], .int .i64 300] W fun e w' => e = .returned (.bool r2) ∧ Below W.heap.size W w' := fun W hW => rmh.calls n2 A' c' l' 300 r2 W (Kd.C_below hr' hW) hc' e2
  have h6 : ∀ W, Below w0.heap.size w0 W → Calls Tryd.prog 6 #[] W fun e w' => e = .returned (.bool true) ∧ Below W.heap.size W w' := fun W hW => known_any W (tab_below ht1 hW) (tab_below ht2 hW)
  obtain ⟨r3, r4, h5⟩ : ∃ r3 r4 : Bool, r1 = false → r2 = false →
      (∀ W, Below w0.heap.size w0 W → Calls Tryd.prog 5 #[.agg #[.slice A l.length c]] W fun e w' => e = .returned (.bool r3) ∧ Below W.heap.size W w') ∧
      (∀ W, Below w0.heap.size w0 W → Calls Tryd.prog 5 #[.agg #[.slice A' l'.length c']] W fun e w' => e = .returned (.bool r4) ∧ Below W.heap.size W w') ∧
      (r3 = true → r4 = true → ∃ (s s' : ByteArray) (r5 : Bool), (s.toList == s'.toList) = r5 ∧
        (∀ W, Below w0.heap.size w0 W → Calls Tryd.prog 7 #[.agg #[.slice A l.length c]] W fun e w' => e = .returned (.string s) ∧ Below W.heap.size W w') ∧
        (∀ W, Below w0.heap.size w0 W → Calls Tryd.prog 7 #[.agg #[.slice A' l'.length c']] W fun e w' => e = .returned (.string s') ∧ Below W.heap.size W w') ∧
        (∀ W, Below w0.heap.size w0 W → Calls Tryd.prog 8 #[.agg #[.slice A l.length c], .agg #[.slice A' l'.length c']] W fun e w' => e = .returned (.bool r5) ∧ Below W.heap.size W w')) := by
    by_cases hq : r1 = false ∧ r2 = false
    · obtain ⟨f1, f2⟩ := p1 hq.1
      obtain ⟨f1', f2'⟩ := p2 hq.2
      obtain ⟨r3, m3, q3⟩ := may_evx l f1 f2
      obtain ⟨r4, m4, q4⟩ := may_evx l' f1' f2'
      obtain ⟨n3, m3⟩ := m3.rounds
      obtain ⟨n4, m4⟩ := m4.rounds
      refine ⟨r3, r4, fun _ _ => ⟨fun W hW => detentref02_May.calls n3 A c l r3 W (Kd.C_below hr hW) hc m3, fun W hW => detentref02_May.calls n4 A' c' l' r4 W (Kd.C_below hr' hW) hc' m4, fun h3 h4 => ?_⟩⟩
      obtain ⟨d, hT, hO, hd⟩ := q3 h3
      obtain ⟨d', hT', hO', hd'⟩ := q4 h4
      obtain ⟨r5, m5, q5⟩ := same_evx l l' f1 (hT.kidsLen f1)
      obtain ⟨n5, m5⟩ := m5.rounds
      have q6 : r5 = true ↔ d = d' := Iff.trans q5 (same_iff hT hT')
      refine ⟨⟨(pr [] d).toArray⟩, ⟨(pr [] d').toArray⟩, r5, ?_, fun W hW => ?_, fun W hW => ?_, fun W hW => rsa.calls n5 A c l A' c' l' r5 W (Kd.C_below hr hW) hc (Kd.C_below hr' hW) hc' m5⟩
      · rw [Bool.eq_iff_iff, beq_iff_eq, q6, Lib.toList_data, Lib.toList_data]
        constructor
        · intro h; exact pr_inj hd hd' hO hO' h
        · rintro rfl; rfl
      · exact print_fine ⟨Kd.C_below hr hW, hc, f1, tab_below ht1 hW⟩ (tab_below ht2 hW) hT hO hd
      · exact print_fine ⟨Kd.C_below hr' hW, hc', f1', tab_below ht1 hW⟩ (tab_below ht2 hW) hT' hO' hd'
    · exact ⟨false, false, fun a b => absurd ⟨a, b⟩ hq⟩
  have H4a := Lib.hid h4a
  have H4b := Lib.hid h4b
  have H6 := Lib.hid h6
  have H5 := Lib.hid h5
  clear h4a h4b h6 h5 p1 p2 e1 e2 hr hr' ht1 ht2 hc hc'
  go_enter Tryd.func3, Tryd.ntmps3
  go_upto_region 1 with (fail)
  have hL : LB w0 w0.heap.size (w0.heap.size + 1) (.slice A l.length c) (.slice A' l'.length c') ((w0.alloc (.cells #[.slice A l.length c] 24)).alloc (.cells #[.slice A' l'.length c'] 24)) := by
    obtain ⟨k1, s1, c1⟩ := alloc_blk (w := w0) (w1 := w0.alloc (.cells #[.slice A l.length c] 24)) rfl
    obtain ⟨k2, s2, c2⟩ := alloc_blk (w := w0.alloc (.cells #[.slice A l.length c] 24)) (w1 := (w0.alloc (.cells #[.slice A l.length c] 24)).alloc (.cells #[.slice A' l'.length c'] 24)) rfl
    rw [s1] at k2
    exact ⟨k1.step c2, k2, below_after c1 c2⟩
  generalize (w0.alloc (.cells #[.slice A l.length c] 24)).alloc (.cells #[.slice A' l'.length c'] 24) = w1 at *
  obtain ⟨b1, hb1⟩ : ∃ b1, b1 = w0.heap.size + 1 := ⟨_, rfl⟩
  obtain ⟨b0, hb0⟩ : ∃ b0, b0 = w0.heap.size := ⟨_, rfl⟩
  rw [← hb1, ← hb0] at hL
  rw [← hb1, ← hb0]
  clear hb1 hb0
  obtain ⟨q0, q1⟩ := hL.cells
  have HL := Lib.hid hL
  clear hL
  go_wp2_with fail
  refine (H4a.out w1 HL.out.below).mono ?_
  rintro e w2 ⟨rfl, hb⟩
  have HL2 := Lib.hid (HL.out.step hb)
  clear hb q0 q1 HL
  obtain ⟨q0, q1⟩ := HL2.out.cells
  cases r1 with
  | true =>
    go_wp2_with fail
    refine (H6.out w2 HL2.out.below).mono ?_
    rintro e w3 ⟨rfl, hb⟩
    have HB := Lib.hid (below_after HL2.out.below hb)
    clear hb q0 q1
    go_wp2
    go_ret
    exact ⟨rfl, HB.out⟩
  | false =>
    go_wp2_with fail
    refine (H4b.out w2 HL2.out.below).mono ?_
    rintro e w3 ⟨rfl, hb⟩
    have HL3 := Lib.hid (HL2.out.step hb)
    clear hb q0 q1 HL2
    obtain ⟨q0, q1⟩ := HL3.out.cells
    cases r2 with
    | true =>
      go_wp2_with fail
      refine (H6.out w3 HL3.out.below).mono ?_
      rintro e w4 ⟨rfl, hb⟩
      have HB := Lib.hid (below_after HL3.out.below hb)
      clear hb q0 q1
      go_wp2
      go_ret
      exact ⟨rfl, HB.out⟩
    | false =>
      obtain ⟨h5a, h5b, h7⟩ := H5.out (by first | trivial | rfl) (by first | trivial | rfl)
      have H5a := Lib.hid h5a
      have H5b := Lib.hid h5b
      have H7 := Lib.hid h7
      clear h5a h5b h7 H5
      go_wp2_with fail
      refine (H5a.out w3 HL3.out.below).mono ?_
      rintro e w4 ⟨rfl, hb⟩
      have HL4 := Lib.hid (HL3.out.step hb)
      clear hb q0 q1 HL3
      obtain ⟨q0, q1⟩ := HL4.out.cells
      cases r3 with
      | false =>
        go_wp2_with fail
        refine (H6.out w4 HL4.out.below).mono ?_
        rintro e w5 ⟨rfl, hb⟩
        have HB := Lib.hid (below_after HL4.out.below hb)
        clear hb q0 q1
        go_wp2
        go_ret
        exact ⟨rfl, HB.out⟩
      | true =>
        go_wp2_with fail
        refine (H5b.out w4 HL4.out.below).mono ?_
        rintro e w5 ⟨rfl, hb⟩
        have HL5 := Lib.hid (HL4.out.step hb)
        clear hb q0 q1 HL4
        obtain ⟨q0, q1⟩ := HL5.out.cells
        cases r4 with
        | false =>
          go_wp2_with fail
          refine (H6.out w5 HL5.out.below).mono ?_
          rintro e w6 ⟨rfl, hb⟩
          have HB := Lib.hid (below_after HL5.out.below hb)
          clear hb q0 q1
          go_wp2
          go_ret
          exact ⟨rfl, HB.out⟩
        | true =>
          obtain ⟨s, s', r5, hs, h7a, h7b, h8⟩ := H7.out (by first | trivial | rfl) (by first | trivial | rfl)
          have H7a := Lib.hid h7a
          have H7b := Lib.hid h7b
          have H8 := Lib.hid h8
          clear h7a h7b h8 H7 q0 q1
          go_wp2_with fail
          have hr5 : (r5 == r5) = true := by cases r5 <;> rfl
          first
            | (go_region_held3 (fun w' => (w'.cell? ⟨b0, 0, none⟩ = some (.slice A l.length c) ∧ w'.cell? ⟨b1, 0, none⟩ = some (.slice A' l'.length c')) ∧ Hid (LB w0 b0 b1 (.slice A l.length c) (.slice A' l'.length c') w'))
                (first | exact ⟨HL5.out.drew.cells, Lib.hid HL5.out.drew⟩ | (go_split_ands; exact ⟨(LB.step (Hid.out (by assumption)) hb1).cells, Lib.hid (LB.step (Hid.out (by assumption)) hb1)⟩))
                (first
                  | (go_at_call 7; with_reducible refine (H7a.out _ ?_).mono ?_; (go_split_ands; exact LB.below (Hid.out (by assumption))); rintro e w' ⟨rfl, hb1⟩)
                  | (go_at_call 7; with_reducible refine (H7b.out _ ?_).mono ?_; (go_split_ands; exact LB.below (Hid.out (by assumption))); rintro e w' ⟨rfl, hb1⟩)
                  | (go_at_call 8; with_reducible refine (H8.out _ ?_).mono ?_; (go_split_ands; exact LB.below (Hid.out (by assumption))); rintro e w' ⟨rfl, hb1⟩)
                  | (go_at_call 6; with_reducible refine (H6.out _ ?_).mono ?_; (go_split_ands; exact LB.below (Hid.out (by assumption))); rintro e w' ⟨rfl, hb1⟩)))
            | fail
          all_goals
            have HB : Hid (LB w0 b0 b1 (.slice A l.length c) (.slice A' l'.length c') w') := by go_split_ands; assumption
            go_wp2
            go_ret
            exact ⟨rfl, HB.out.below⟩
end Go.Proofs.YtbpefmidgfmcaaaDoor
end
