import Derived.Test.YtbpefmidgfmcaaaDoorV2
import Derived.Test.YtbpefmidgfmcaaaDoorV20
import Derived.Lib.ItoaNum
import Derived.Lib.Strings
import Derived.Lib.Builder
section
set_option linter.unusedVariables false
namespace Go.Proofs.YtbpefmidgfmcaaaDoor
/-- A twig and all below it: kind, text, number, kids. -/
inductive Nd where
  | mk (kind : Int) (text : ByteArray) (num : Int) (kids : List Nd)
def Nd.kind : Nd → Int | .mk k _ _ _ => k
def Nd.text : Nd → ByteArray | .mk _ t _ _ => t
def Nd.num : Nd → Int | .mk _ _ n _ => n
def Nd.kids : Nd → List Nd | .mk _ _ _ ks => ks
theorem Nd.ind {P : Nd → Prop} (h : ∀ k t n ks, (∀ d ∈ ks, P d) → P (.mk k t n ks)) : ∀ d, P d := by
  intro d
  refine Nd.rec (motive_1 := P) (motive_2 := fun ks => ∀ d ∈ ks, P d) ?_ ?_ ?_ d
  · intro k t n ks ih; exact h k t n ks ih
  · intro d hd; cases hd
  · intro x xs hx hxs d hd
    rcases List.mem_cons.1 hd with e | e
    · rw [e]; exact hx
    · exact hxs d e
/-- How tightly a twig binds. -/
def binds (k : Int) (t : ByteArray) : Int :=
  if k = 32 then (if t.data.toList = [60] ∨ t.data.toList = [61, 61] then 1 else if t.data.toList = [43] ∨ t.data.toList = [45] then 2 else 3)
  else if k = 34 ∨ k = 35 then 4 else if 26 ≤ k ∧ k ≤ 36 then 5 else 0
/-- How tightly a twig's i-th kid must bind. -/
def must (k : Int) (t : ByteArray) (i : Nat) : Int :=
  if k = 32 then (if binds k t = 1 then 2 else binds k t + i)
  else if k = 34 ∨ k = 35 then 4 else if k = 30 ∨ k = 31 ∧ i = 0 then 5 else 0
/-- Is a kid in parentheses? -/
def par (k : Int) (t : ByteArray) (i : Nat) (kk : Int) (kt : ByteArray) : Bool := decide (0 < binds kk kt ∧ binds kk kt < must k t i)
def parT (p : Bool) (s : List UInt8) : List UInt8 := if p then 40 :: (s ++ [41]) else s
/-- The blanks ahead of a kid's lines. -/
def deep (ind : List UInt8) (k : Int) (i : Nat) : List UInt8 := if k = 12 ∨ k = 8 ∧ 0 < i then ind ++ [32, 32] else ind
def lines (ind : List UInt8) (ks : List (List UInt8)) : List UInt8 := (ks.map fun s => ind ++ s ++ [10]).flatten
def bracesT (ind : List UInt8) (ks : List (List UInt8)) : List UInt8 :=
  if ks = [] then [123, 32, 125] else [123, 10] ++ lines (ind ++ [32, 32]) ks ++ ind ++ [125]
def rowT (word : List UInt8) (ks : List (List UInt8)) : List UInt8 := word ++ (ks.map fun s => 32 :: s).flatten
def toT (ks : List (List UInt8)) : List UInt8 := if 1 < ks.length then [32, 116, 111, 32] ++ ks.getD 1 [] else []
def whenT (n : Int) : List UInt8 := if n < 0 then [32, 102, 114, 111, 110, 116] else if 0 < n then [32, 97, 102, 116, 101, 114, 32] ++ Lib.itoa n else []
/-- 'el': the third kid has kids. -/
def elseT (el : Bool) (ks : List (List UInt8)) : List UInt8 := if el then [32, 101, 108, 115, 101, 32] ++ ks.getD 2 [] else []
def lifeT (n : Int) : List UInt8 := if n = 0 then [99, 114, 101, 97, 116, 101] else if n = 1 then [115, 116, 97, 114, 116] else if n = 2 then [115, 116, 111, 112] else [100, 101, 115, 116, 114, 111, 121]
def onT (n : Int) : List UInt8 := if n = 0 then [32, 111, 102, 102] else [32, 111, 110]
/-- The text of a twig, of its kids' texts (k: its kind, t: its text, n: its number). -/
def asm (k : Int) (t : List UInt8) (n : Int) (el : Bool) (ind : List UInt8) (ks : List (List UInt8)) : List UInt8 :=
  if k = 1 then lines [] ks
  else if k = 2 then [108, 111, 111, 112, 101, 114, 32] ++ t ++ [59]
  else if k = 3 then (rowT ([99, 108, 97, 115, 115, 32] ++ t ++ [32, 123]) ks) ++ [32, 125]
  else if k = 4 then (rowT t ks) ++ [59]
  else if k = 5 then t
  else if k = 6 then (rowT ([118, 97, 114, 32] ++ t) ks) ++ [59]
  else if k = 7 then (rowT ([102, 110, 32] ++ t) ks)
  else if k = 8 then [99, 111, 109, 112, 32] ++ t ++ [32, 111, 110, 32] ++ (ks.getD 0 []) ++ [32] ++ (bracesT ind (ks.drop 1))
  else if k = 9 then (rowT (lifeT n) ks)
  else if k = 10 then [101, 118, 101, 110, 116, 32] ++ t ++ [32, 111, 110, 32] ++ (ks.getD 0 []) ++ (rowT (onT n) (ks.drop 1))
  else if k = 11 then (rowT ([109, 97, 105, 110]) ks)
  else if k = 12 then (bracesT ind ks)
  else if k = 13 then [118, 97, 114, 32] ++ t ++ [32] ++ (ks.getD 0 []) ++ [32, 61, 32] ++ (ks.getD 1 []) ++ [59]
  else if k = 14 then (ks.getD 0 []) ++ [32, 61, 32] ++ (ks.getD 1 []) ++ [59]
  else if k = 15 then (rowT ([99, 97, 108, 108]) ks) ++ [59]
  else if k = 16 then (rowT ([99, 97, 110, 99, 101, 108]) ks) ++ [59]
  else if k = 17 then (rowT ([106, 111, 105, 110]) ks) ++ [59]
  else if k = 18 then (rowT ([108, 111, 103]) ks) ++ [59]
  else if k = 19 then [112, 111, 115, 116, 32] ++ t ++ [32] ++ (ks.getD 0 []) ++ (whenT n) ++ (toT ks) ++ [59]
  else if k = 20 then [115, 112, 97, 119, 110, 32] ++ (ks.getD 0 []) ++ (toT ks) ++ [59]
  else if k = 21 then [101, 110, 97, 98, 108, 101, 32] ++ t ++ [59]
  else if k = 22 then [100, 105, 115, 97, 98, 108, 101, 32] ++ t ++ [59]
  else if k = 23 then [105, 102, 32] ++ (ks.getD 0 []) ++ [32] ++ (ks.getD 1 []) ++ (elseT el ks)
  else if k = 24 then [119, 104, 105, 108, 101, 32] ++ (ks.getD 0 []) ++ [32] ++ (ks.getD 1 []) ++ (elseT el ks)
  else if k = 25 then [114, 101, 116, 117, 114, 110] ++ [59]
  else if k = 26 then (Lib.itoa n)
  else if k = 27 then [110, 117, 108, 108]
  else if k = 28 then [105, 116]
  else if k = 29 then t
  else if k = 30 then (ks.getD 0 []) ++ [46] ++ t
  else if k = 31 then (ks.getD 0 []) ++ [91] ++ (ks.getD 1 []) ++ [93]
  else if k = 32 then (ks.getD 0 []) ++ [32] ++ t ++ [32] ++ (ks.getD 1 [])
  else if k = 33 then [110, 101, 119, 32] ++ t
  else if k = 34 then (rowT ([97, 114, 114]) ks)
  else if k = 35 then (rowT ([108, 101, 110]) ks)
  else if k = 36 then (rowT ([102, 110]) ks)
  else []
/-- Has a twig's third kid kids? -/
def third (ks : List Nd) : Bool := match ks with
  | _ :: _ :: d :: _ => !d.kids.isEmpty
  | _ => false
mutual
def pr (ind : List UInt8) : Nd → List UInt8
  | .mk k t n ks => asm k t.data.toList n (third ks) ind (prs ind k t 0 ks)
def prs (ind : List UInt8) (k : Int) (t : ByteArray) (i : Nat) : List Nd → List (List UInt8)
  | [] => []
  | d :: ds => parT (par k t i d.kind d.text) (pr (deep ind k i) d) :: prs ind k t (i + 1) ds
end
theorem prs_length (ind : List UInt8) (k : Int) (t : ByteArray) : ∀ (ks : List Nd) (i : Nat), (prs ind k t i ks).length = ks.length
  | [], i => by simp [prs]
  | d :: ds, i => by simp [prs, prs_length ind k t ds (i + 1)]
theorem prs_get (ind : List UInt8) (k : Int) (t : ByteArray) : ∀ (ks : List Nd) (i j : Nat) (h : j < ks.length), (prs ind k t i ks).getD j [] = parT (par k t (i + j) ks[j].kind ks[j].text) (pr (deep ind k (i + j)) ks[j])
  | d :: ds, i, 0, h => by simp [prs]
  | d :: ds, i, j + 1, h => by
    have := prs_get ind k t ds (i + 1) j (by simpa using h)
    simp only [prs, List.getD_cons_succ, this, List.getElem_cons_succ]
    rw [show i + 1 + j = i + (j + 1) from by omega]
end Go.Proofs.YtbpefmidgfmcaaaDoor
end
section
set_option linter.unusedVariables false
namespace Go.Proofs.YtbpefmidgfmcaaaDoor
open Go.RowKit PTreeApart Go.Proofs.YtbpefmidgfmcaaaDoorW.PrintWords
mutual
/-- From the place 'at' on the row has the tree; 'nx' is the place behind it. -/
def Tr (l : List S33) : Nd → Int → Int → Prop
  | .mk k t n ks, at_, nx => 0 ≤ at_ ∧ at_ < l.length ∧ (rT l at_).f0 = k ∧ (rT l at_).f1 = t ∧ (rT l at_).f2 = n ∧ Trs l (rT l at_).f5 0 ks (at_ + 1) nx
def Trs (l : List S33) (kl : List Int) (i : Nat) : List Nd → Int → Int → Prop
  | [], c, nx => kl.length = i ∧ c = nx
  | d :: ds, c, nx => i < kl.length ∧ kl.getD i 0 = c ∧ ∃ m, Tr l d c m ∧ Trs l kl (i + 1) ds m nx
end
/-- How much more nest a kid has. -/
def more (k : Int) (t : ByteArray) (i : Nat) (d : Nd) : Int :=
  (if d.kind = 12 then 1 else 0) + (if par k t i d.kind d.text then 1 else 0) + (if k = 31 ∧ i = 1 ∨ k = 34 ∨ k = 35 then 1 else 0)
def isDecl (x : Int) : Prop := x = 2 ∨ x = 3 ∨ x = 6 ∨ x = 7 ∨ x = 8 ∨ x = 10 ∨ x = 11
def isStmt (x : Int) : Prop := 13 ≤ x ∧ x ≤ 25
def isTerm (x : Int) : Prop := 26 ≤ x ∧ x ≤ 36
def isVar (x : Int) : Prop := x = 29 ∨ x = 30 ∨ x = 31
/-- What a kind's kids must be. -/
def kidsOk (k : Int) (l : List Int) : Prop :=
  if k = 1 then ∀ x ∈ l, isDecl x
  else if k = 3 then ∀ x ∈ l, x = 4
  else if k = 4 ∨ k = 6 then l = [5]
  else if k = 7 ∨ k = 9 ∨ k = 11 ∨ k = 36 then l = [12]
  else if k = 8 then ∃ r, l = 29 :: r ∧ ∀ x ∈ r, x = 9
  else if k = 10 then l = [29, 12]
  else if k = 12 then ∀ x ∈ l, isStmt x
  else if k = 13 then ∃ e, l = [5, e] ∧ isTerm e
  else if k = 14 then ∃ v e, l = [v, e] ∧ isVar v ∧ isTerm e
  else if k = 15 ∨ k = 16 ∨ k = 17 ∨ k = 18 ∨ k = 30 ∨ k = 34 ∨ k = 35 then ∃ e, l = [e] ∧ isTerm e
  else if k = 19 ∨ k = 20 then ∃ e, isTerm e ∧ (l = [e] ∨ ∃ v, l = [e, v] ∧ isVar v)
  else if k = 23 then ∃ e, l = [e, 12, 12] ∧ isTerm e
  else if k = 24 then ∃ e, l = [e, 12] ∧ isTerm e
  else if k = 31 ∨ k = 32 then ∃ a e, l = [a, e] ∧ isTerm a ∧ isTerm e
  else l = []
def letterB (c : UInt8) : Bool := c == 95 || (65 ≤ c && c ≤ 90) || (97 ≤ c && c ≤ 122)
def digitB (c : UInt8) : Bool := 48 ≤ c && c ≤ 57
def words : List (List UInt8) := [[97, 102, 116, 101, 114], [97, 114, 114], [99, 97, 108, 108], [99, 97, 110, 99, 101, 108], [99, 108, 97, 115, 115], [99, 111, 109, 112], [99, 114, 101, 97, 116, 101], [100, 101, 115, 116, 114, 111, 121], [100, 105, 115, 97, 98, 108, 101], [101, 108, 115, 101], [101, 110, 97, 98, 108, 101], [101, 118, 101, 110, 116], [102, 110], [102, 114, 111, 110, 116], [104, 97, 110, 100], [105, 102], [105, 110, 116], [105, 116], [106, 111, 105, 110], [108, 101, 110], [108, 111, 103], [108, 111, 111, 112, 101, 114], [109, 97, 105, 110], [110, 101, 119], [110, 117, 108, 108], [111, 102, 102], [111, 110], [112, 111, 115, 116], [114, 101, 116, 117, 114, 110], [115, 112, 97, 119, 110], [115, 116, 97, 114, 116], [115, 116, 111, 112], [116, 111], [116, 111, 107], [118, 97, 114], [119, 104, 105, 108, 101]]
/-- Is it a name? -/
def nameB (s : List UInt8) : Bool := !s.isEmpty && decide (s.length ≤ 32) && !(digitB (s.headD 0)) && !(words.contains s) && s.all fun c => letterB c || digitB c
def typeB (s : List UInt8) : Bool := nameB s || s == [105, 110, 116] || s == [102, 110] || s == [116, 111, 107] || s == [104, 97, 110, 100] || s == [97, 114, 114]
def opB (s : List UInt8) : Bool := s == [43] || s == [45] || s == [42] || s == [60] || s == [61, 61]
def textOk (k : Int) (t : List UInt8) : Prop :=
  if k = 5 then typeB t = true
  else if k = 32 then opB t = true
  else if k = 2 ∨ k = 3 ∨ k = 4 ∨ k = 6 ∨ k = 7 ∨ k = 8 ∨ k = 10 ∨ k = 13 ∨ k = 19 ∨ k = 21 ∨ k = 22 ∨ k = 29 ∨ k = 30 ∨ k = 33 then nameB t = true
  else t = []
def numOk (k : Int) (n : Int) : Prop :=
  if k = 9 then 0 ≤ n ∧ n ≤ 3 else if k = 10 then n = 0 ∨ n = 1 else if k = 19 then -1 ≤ n ∧ n ≤ 2147483647 else if k = 26 then 0 ≤ n ∧ n ≤ 2147483647 else n = 0
mutual
/-- Is a tree as it is said, in so much nest? -/
def Ok : Nd → Int → Prop
  | .mk k t n ks, ne => ne ≤ 64 ∧ 1 ≤ k ∧ k ≤ 36 ∧ textOk k t.data.toList ∧ numOk k n ∧ kidsOk k (ks.map Nd.kind) ∧ Oks k t 0 ks ne
def Oks (k : Int) (t : ByteArray) (i : Nat) : List Nd → Int → Prop
  | [], _ => True
  | d :: ds, ne => Ok d (ne + more k t i d) ∧ Oks k t (i + 1) ds ne
end
theorem Tr.kind {l : List S33} {d : Nd} {a nx : Int} (h : Tr l d a nx) : (rT l a).f0 = d.kind ∧ (rT l a).f1 = d.text ∧ 0 ≤ a ∧ a < l.length := by
  cases d with
  | mk k t n ks => exact ⟨h.2.2.1, h.2.2.2.1, h.1, h.2.1⟩
/-- A kid's place. -/
def KidAt (l : List S33) (kl : List Int) (i : Nat) (d : Nd) : Prop := i < kl.length ∧ ∃ m, Tr l d (kl.getD i 0) m
theorem Trs.kid {l : List S33} {kl : List Int} : ∀ {ds : List Nd} {i : Nat} {c nx : Int}, Trs l kl i ds c nx → ∀ (j : Nat) (h : j < ds.length), KidAt l kl (i + j) ds[j]
  | d :: ds, i, c, nx, hT, 0, h => by
    obtain ⟨h1, h2, m, h3, _⟩ := hT
    exact ⟨h1, m, by rw [Nat.add_zero, h2]; exact h3⟩
  | d :: ds, i, c, nx, hT, j + 1, h => by
    obtain ⟨_, _, m, _, h4⟩ := hT
    have := Trs.kid h4 j (by simpa using h)
    rw [show i + (j + 1) = i + 1 + j from by omega]
    exact this
theorem Trs.len {l : List S33} {kl : List Int} : ∀ {ds : List Nd} {i : Nat} {c nx : Int}, Trs l kl i ds c nx → kl.length = i + ds.length
  | [], i, c, nx, hT => by have := hT.1; simpa using this
  | d :: ds, i, c, nx, hT => by
    obtain ⟨_, _, m, _, h4⟩ := hT
    have := Trs.len h4
    simp only [List.length_cons]; omega
theorem Oks.kid {k : Int} {t : ByteArray} {ne : Int} : ∀ {ds : List Nd} {i : Nat}, Oks k t i ds ne → ∀ (j : Nat) (h : j < ds.length), Ok ds[j] (ne + more k t (i + j) ds[j])
  | d :: ds, i, hO, 0, h => hO.1
  | d :: ds, i, hO, j + 1, h => by
    have := Oks.kid hO.2 j (by simpa using h)
    rw [show i + (j + 1) = i + 1 + j from by omega]
    exact this
end Go.Proofs.YtbpefmidgfmcaaaDoor
end
section
set_option linter.unusedVariables false
namespace Go.Proofs.YtbpefmidgfmcaaaDoor
open Go.RowKit PTreeApart Go.Proofs.YtbpefmidgfmcaaaDoorW.PrintWords
/-- A kid's text. -/
def kidT (ind : List UInt8) (k : Int) (t : ByteArray) (i : Nat) (d : Nd) : List UInt8 := parT (par k t i d.kind d.text) (pr ind d)
def prk (ind : List UInt8) (k : Int) (t : ByteArray) (i : Nat) : List Nd → List (List UInt8)
  | [] => []
  | d :: ds => kidT ind k t i d :: prk ind k t (i + 1) ds
theorem prs_prk (ind : List UInt8) (k : Int) (t : ByteArray) (h12 : k ≠ 12) (h8 : k ≠ 8) : ∀ (ds : List Nd) (i : Nat), prs ind k t i ds = prk ind k t i ds
  | [], i => by simp [prs, prk]
  | d :: ds, i => by
    have : deep ind k i = ind := by simp [deep, h12, h8]
    simp [prs, prk, kidT, this, prs_prk ind k t h12 h8 ds (i + 1)]
theorem prk_append (ind : List UInt8) (k : Int) (t : ByteArray) : ∀ (a b : List Nd) (i : Nat), prk ind k t i (a ++ b) = prk ind k t i a ++ prk ind k t (i + a.length) b
  | [], b, i => by simp [prk]
  | d :: a, b, i => by
    simp only [List.cons_append, prk, prk_append ind k t a b (i + 1), List.length_cons]
    rw [show i + 1 + a.length = i + (a.length + 1) from by omega]
theorem prk_take (ind : List UInt8) (k : Int) (t : ByteArray) (ds : List Nd) (i j : Nat) (h : j < ds.length) : prk ind k t i (ds.take (j + 1)) = prk ind k t i (ds.take j) ++ [kidT ind k t (i + j) ds[j]] := by
  rw [List.take_succ_eq_append_getElem h, prk_append, List.length_take, Nat.min_eq_left (by omega)]
  simp [prk]
theorem rowT_snoc (w : List UInt8) (ks : List (List UInt8)) (s : List UInt8) : rowT w (ks ++ [s]) = rowT w ks ++ (32 :: s) := by
  simp [rowT, List.map_append]
theorem rowT_nil (w : List UInt8) : rowT w [] = w := by simp [rowT]
theorem rowT_length_take (ind : List UInt8) (k : Int) (t : ByteArray) (w : List UInt8) (ds : List Nd) (i j : Nat) (h : j < ds.length) :
    (rowT w (prk ind k t i (ds.take j))).length + (kidT ind k t (i + j) ds[j]).length + 1 ≤ (rowT w (prk ind k t i ds)).length := by
  have e : ds = ds.take (j + 1) ++ ds.drop (j + 1) := (List.take_append_drop _ _).symm
  have e2 : prk ind k t i ds = prk ind k t i (ds.take j) ++ [kidT ind k t (i + j) ds[j]] ++ prk ind k t (i + (ds.take (j + 1)).length) (ds.drop (j + 1)) := by
    rw [← prk_take ind k t ds i j h, ← prk_append, ← e]
  rw [e2]
  simp only [rowT, List.map_append, List.flatten_append, List.length_append, List.map_cons, List.map_nil, List.flatten_cons, List.flatten_nil, List.length_cons, List.append_nil]
  omega
theorem par_must (k : Int) (t : ByteArray) (i : Nat) (kk : Int) (kt : ByteArray) (h : must k t i = 0) : par k t i kk kt = false := by
  unfold par
  rw [h]
  exact decide_eq_false (by omega)
theorem must_zero (k : Int) (t : ByteArray) (i : Nat) (h : k ≠ 30 ∧ k ≠ 31 ∧ k ≠ 32 ∧ k ≠ 34 ∧ k ≠ 35) : must k t i = 0 := by
  simp [must, h.1, h.2.1, h.2.2.1, h.2.2.2.1, h.2.2.2.2]
theorem prs_block (ind : List UInt8) (t : ByteArray) : ∀ (ds : List Nd) (i : Nat), prs ind 12 t i ds = ds.map (pr (ind ++ [32, 32]))
  | [], i => by simp [prs]
  | d :: ds, i => by
    have h : par 12 t i d.kind d.text = false := par_must _ _ _ _ _ (must_zero _ _ _ (by decide))
    simp [prs, deep, h, parT, prs_block ind t ds (i + 1)]
theorem prs_comp (ind : List UInt8) (t : ByteArray) : ∀ (ds : List Nd) (i : Nat), prs ind 8 t (i + 1) ds = ds.map (pr (ind ++ [32, 32]))
  | [], i => by simp [prs]
  | d :: ds, i => by
    have h : par 8 t (i + 1) d.kind d.text = false := par_must _ _ _ _ _ (must_zero _ _ _ (by decide))
    simp [prs, deep, h, parT, prs_comp ind t ds (i + 1)]
mutual
/-- How many twigs a tree has. -/
def cnt : Nd → Nat
  | .mk _ _ _ ks => cnts ks + 1
def cnts : List Nd → Nat
  | [] => 0
  | d :: ds => cnt d + cnts ds
end
theorem cnt_pos (d : Nd) : 1 ≤ cnt d := by cases d; simp [cnt]
mutual
theorem Tr.next {l : List S33} : ∀ (d : Nd) {a nx : Int}, Tr l d a nx → nx = a + cnt d ∧ nx ≤ l.length
  | .mk k t n ks, a, nx, h => by
    obtain ⟨h0, h1, _, _, _, h2⟩ := h
    have := Trs.next ks h2
    simp only [cnt]
    exact ⟨by omega, this.2 (by omega)⟩
theorem Trs.next {l : List S33} {kl : List Int} : ∀ (ds : List Nd) {i : Nat} {c nx : Int}, Trs l kl i ds c nx → nx = c + cnts ds ∧ (c ≤ l.length → nx ≤ l.length)
  | [], i, c, nx, h => by have := h.2; simp only [cnts]; exact ⟨by omega, fun h' => by omega⟩
  | d :: ds, i, c, nx, h => by
    obtain ⟨_, _, m, h3, h4⟩ := h
    have e1 := Tr.next d h3
    have e2 := Trs.next ds h4
    simp only [cnts]
    exact ⟨by omega, fun _ => e2.2 e1.2⟩
end
theorem length_cnts : ∀ ds : List Nd, ds.length ≤ cnts ds
  | [] => by simp [cnts]
  | d :: ds => by have := length_cnts ds; have := cnt_pos d; simp only [cnts, List.length_cons]; omega
end Go.Proofs.YtbpefmidgfmcaaaDoor
end
section
set_option linter.unusedVariables false
namespace Go.Proofs.YtbpefmidgfmcaaaDoor
open Go.RowKit PTreeApart Go.Proofs.YtbpefmidgfmcaaaDoorW.PrintWords
theorem bt_get (s : ByteArray) (i : Nat) (h : i < s.data.toList.length) : bt s (i : Int) = ((s.data.toList[i]).toNat : Int) := by
  have h' : i < s.size := by rw [Array.length_toList] at h; exact h
  unfold bt
  simp only [Int.toNat_natCast]
  rw [dif_pos h']
  simp only [Array.getElem_toList]
  rfl
theorem size_data (s : ByteArray) : s.size = s.data.toList.length := by rw [Array.length_toList]; rfl
theorem letter_fn (c : UInt8) : detentref01_Letter.f (c.toNat : Int) = some (letterB c) := by
  have e : letterB c = decide (c.toNat = 95 ∨ (65 ≤ c.toNat ∧ c.toNat ≤ 90) ∨ (97 ≤ c.toNat ∧ c.toNat ≤ 122)) := by
    rw [Bool.eq_iff_iff]
    simp [letterB, UInt8.le_iff_toNat_le, ← UInt8.toNat_inj, or_assoc]
  rw [e]
  unfold detentref01_Letter.f
  split
  · split
    · congr 1; symm; exact decide_eq_true (by omega)
    · split
      · split
        · omega
        · congr 1; rw [Bool.eq_iff_iff]; simp; omega
      · omega
  · split
    · split
      · congr 1; symm; exact decide_eq_true (by omega)
      · congr 1; rw [Bool.eq_iff_iff]; simp; omega
    · congr 1; rw [Bool.eq_iff_iff]; simp; omega
theorem digit_fn (c : UInt8) : detentref01_Digit.f (c.toNat : Int) = some (digitB c) := by
  have e : digitB c = decide (48 ≤ c.toNat ∧ c.toNat ≤ 57) := by
    rw [Bool.eq_iff_iff]
    simp [digitB, UInt8.le_iff_toNat_le]
  rw [e]
  unfold detentref01_Digit.f
  split
  · congr 1; rw [Bool.eq_iff_iff]; simp; omega
  · congr 1; symm; exact decide_eq_false (by omega)
theorem w64 (i : Int) (h0 : -1000000 ≤ i) (h : i ≤ 1000000) : wrap64 i = i := by unfold wrap64; omega
/-- The words, one by one. -/
theorem word_ev (s : ByteArray) (ws : List ByteArray) (hw : ws.length ≤ 1000) : ∀ (d i : Nat), ws.length - i = d → i ≤ ws.length → Ev (fun k => riw.l0 k s ws (i : Int)) ((ws.drop i).any fun x => x.data.toList == s.data.toList) := by
  intro d
  induction d with
  | zero =>
    intro i hd hi
    refine Ev.step (f := fun _ => some _) (fun k => ?_) (Ev.now _)
    simp only [riw.l0]
    rw [if_neg (by omega), List.drop_eq_nil_of_le (by omega)]
    rfl
  | succ d ih =>
    intro i hd hi
    have hlt : i < ws.length := by omega
    have hg : (rdOf ByteArray.empty ws (i : Int)) = ws[i] := by simp [rdOf, List.getD, hlt]
    rw [List.drop_eq_getElem_cons hlt]
    by_cases e : ws[i].data.toList = s.data.toList
    · refine Ev.step (f := fun _ => some _) (fun k => ?_) (Ev.now _)
      simp only [riw.l0]
      rw [if_pos (by omega), if_pos (by omega), hg, Lib.toList_data, Lib.toList_data, if_pos e]
      rw [List.any_cons, show (ws[i].data.toList == s.data.toList) = true from by simpa using e]; rfl
    · have h2 := ih (i + 1) (by omega) (by omega)
      refine Ev.step (f := fun k => riw.l0 k s ws ((i + 1 : Nat) : Int)) (fun k => ?_) ?_
      · simp only [riw.l0]
        rw [if_pos (by omega), if_pos (by omega), hg, Lib.toList_data, Lib.toList_data, if_neg e, w64 _ (by omega) (by omega)]
        rfl
      · have e2 : (ws[i].data.toList == s.data.toList) = false := by simpa using e
        rw [List.any_cons, e2, Bool.false_or]; exact h2
theorem words_fn : ∃ ws : List ByteArray, detentref01_Words.f = some ws ∧ ws.length ≤ 1000 ∧ ws.map (fun x => x.data.toList) = words := ⟨_, rfl, by decide, by decide⟩
theorem isword_ev (s : ByteArray) : Ev (fun k => riw.f k s) (words.contains s.data.toList) := by
  obtain ⟨ws, h1, h2, h3⟩ := words_fn
  have := word_ev s ws h2 ws.length 0 (by omega) (by omega)
  refine Ev.congr (f := fun k => riw.l0 k s ws 0) (fun k => ?_) ?_
  · simp only [riw.f, h1, Option.bind_some]
  · have e : words.contains s.data.toList = ws.any fun x => x.data.toList == s.data.toList := by
      rw [← h3, List.contains_eq_any_beq, List.any_map]
      congr 1
      funext x
      simp only [Function.comp]
      rw [Bool.eq_iff_iff]; simp only [beq_iff_eq]; exact eq_comm
    rw [e]
    simpa using this
/-- What is asked at a name's end. -/
def endB (s : List UInt8) : Bool := !s.isEmpty && decide (s.length ≤ 32) && !(words.contains s)
theorem name_from (s : ByteArray) (hs : s.size ≤ 100) : ∀ (d i : Nat), s.size - i = d → i ≤ s.size → 1 ≤ i ∨ s.size = 0 → Ev (fun k => rin.l0 k s (i : Int)) (endB s.data.toList && (s.data.toList.drop i).all fun c => letterB c || digitB c) := by
  intro d
  have hl := size_data s
  induction d with
  | zero =>
    intro i hd hi h1
    rw [List.drop_eq_nil_of_le (by omega), List.all_nil, Bool.and_true]
    by_cases e : s.data.toList = []
    · refine Ev.step (f := fun _ => some _) (fun k => ?_) (Ev.now _)
      simp only [rin.l0]
      rw [if_neg (by omega), Lib.toList_data, if_pos e]
      simp [endB, e]
    · have hne : s.data.toList.isEmpty = false := by simpa using e
      by_cases h32 : s.size ≤ 32
      · have hw := isword_ev s
        refine Ev.step (f := fun k => (riw.f k s).bind fun t => some (!t)) (fun k => ?_) ?_
        · simp only [rin.l0]
          rw [if_neg (by omega), Lib.toList_data, if_neg e, if_pos (by omega)]
        · have := Ev.bind (f := fun _ t => some (!t)) hw (Ev.now _)
          have e3 : endB s.data.toList = !(words.contains s.data.toList) := by
            simp only [endB, hne, Bool.not_false, Bool.true_and]
            rw [decide_eq_true (by omega), Bool.true_and]
          rw [e3]
          exact this
      · refine Ev.step (f := fun _ => some _) (fun k => ?_) (Ev.now _)
        simp only [rin.l0]
        rw [if_neg (by omega), Lib.toList_data, if_neg e, if_neg (by omega)]
        have : decide (s.data.toList.length ≤ 32) = false := decide_eq_false (by omega)
        rw [show endB s.data.toList = false from by unfold endB; rw [this]; simp]
  | succ d ih =>
    intro i hd hi h1
    have hlt : i < s.data.toList.length := by omega
    have hb := bt_get s i hlt
    rw [List.drop_eq_getElem_cons hlt, List.all_cons]
    have h2 := ih (i + 1) (by omega) (by omega) (by omega)
    have hstep : Ev (fun k => rin.l0 k s (wrap64 ((i : Int) + 1))) (endB s.data.toList && (s.data.toList.drop (i + 1)).all fun c => letterB c || digitB c) := by
      rw [w64 _ (by omega) (by omega)]; exact h2
    cases hL : letterB s.data.toList[i] with
    | true =>
      refine Ev.step (f := fun k => rin.l0 k s (wrap64 ((i : Int) + 1))) (fun k => ?_) ?_
      · simp only [rin.l0]
        rw [if_pos (by omega), if_pos (by omega), hb, letter_fn, hL]
        simp
      · simpa using hstep
    | false =>
      cases hD : digitB s.data.toList[i] with
      | true =>
        refine Ev.step (f := fun k => rin.l0 k s (wrap64 ((i : Int) + 1))) (fun k => ?_) ?_
        · simp only [rin.l0]
          rw [if_pos (by omega), if_pos (by omega), hb, letter_fn, hL, digit_fn, hD]
          simp only [Option.bind_some, Bool.false_eq_true, if_false, if_true]
          rw [if_neg (by omega)]
        · simpa using hstep
      | false =>
        refine Ev.step (f := fun _ => some _) (fun k => ?_) (Ev.now _)
        simp only [rin.l0]
        rw [if_pos (by omega), if_pos (by omega), hb, letter_fn, hL, digit_fn, hD]
        simp only [Option.bind_some, Bool.false_eq_true, if_false]
        rw [if_neg (by omega)]
        simp
theorem name_ev (s : ByteArray) (hs : s.size ≤ 100) : Ev (fun k => rin.f k s) (nameB s.data.toList) := by
  have hl := size_data s
  by_cases e : s.size = 0
  · have h := name_from s hs 0 0 (by omega) (by omega) (.inr e)
    have e2 : s.data.toList = [] := List.eq_nil_of_length_eq_zero (by omega)
    have e3 : nameB s.data.toList = (endB s.data.toList && (s.data.toList.drop 0).all fun c => letterB c || digitB c) := by rw [e2]; rfl
    rw [e3]
    exact h
  · have hlt : 0 < s.data.toList.length := by omega
    have hb := bt_get s 0 hlt
    have h2 := name_from s hs (s.size - 1) 1 (by omega) (by omega) (.inl (by omega))
    obtain ⟨c, r, hc⟩ : ∃ c r, s.data.toList = c :: r := by
      cases h : s.data.toList with
      | nil => rw [h] at hlt; simp at hlt
      | cons c r => exact ⟨c, r, rfl⟩
    have hc0 : s.data.toList[0] = c := by simp [hc]
    rw [hc0] at hb
    have hDL : letterB c = true → digitB c = false := by
      intro h
      rw [Bool.eq_false_iff]
      intro h'
      simp [letterB, digitB, UInt8.le_iff_toNat_le, ← UInt8.toNat_inj] at h h'
      omega
    cases hL : letterB c with
    | true =>
      refine Ev.step (f := fun k => rin.l0 k s ((1 : Nat) : Int)) (g := fun k => rin.f k s) (fun k => ?_) ?_
      · simp only [rin.f, rin.l0]
        rw [if_pos (by omega), if_pos (by omega), show (0 : Int) = ((0 : Nat) : Int) from rfl, hb, letter_fn, hL, w64 _ (by omega) (by omega)]
        simp
      · have e3 : nameB s.data.toList = (endB s.data.toList && (s.data.toList.drop 1).all fun c => letterB c || digitB c) := by
          rw [hc]
          simp [nameB, endB, hDL hL, hL]
        rw [e3]
        exact h2
    | false =>
      refine Ev.step (f := fun _ => some false) (g := fun k => rin.f k s) (fun k => ?_) ?_
      · simp only [rin.f, rin.l0]
        rw [if_pos (by omega), if_pos (by omega), show (0 : Int) = ((0 : Nat) : Int) from rfl, hb, letter_fn, hL]
        simp
      · have e3 : nameB s.data.toList = false := by
          rw [hc]
          cases hD : digitB c <;> simp [nameB, hD, hL]
        rw [e3]
        exact Ev.now _
end Go.Proofs.YtbpefmidgfmcaaaDoor
end
section
set_option linter.unusedVariables false
namespace Go.Proofs.YtbpefmidgfmcaaaDoor
open Go.RowKit PTreeApart Go.Proofs.YtbpefmidgfmcaaaDoorW.PrintWords
/-- It comes to an answer, of which something is so. -/
def Evx {α : Type} (g : Nat → Option α) (Q : α → Prop) : Prop := ∃ r, Ev g r ∧ Q r
theorem Evx.ite {α : Type} {c : Prop} [Decidable c] {f g : Nat → Option α} {Q : α → Prop} (h1 : c → Evx f Q) (h2 : ¬ c → Evx g Q) : Evx (fun k => if c then f k else g k) Q := by
  by_cases h : c
  · obtain ⟨r, h3, h4⟩ := h1 h; exact ⟨r, by simpa [h] using h3, h4⟩
  · obtain ⟨r, h3, h4⟩ := h2 h; exact ⟨r, by simpa [h] using h3, h4⟩
theorem Evx.now {α : Type} {Q : α → Prop} (r : α) (h : Q r) : Evx (fun _ => some r) Q := ⟨r, Ev.now r, h⟩
theorem Evx.bindSome {α : Type} {g : Nat → Option α} {Q : α → Prop} (h : Evx g Q) : Evx (fun k => (g k).bind fun t => some t) Q := by
  obtain ⟨r, h1, h2⟩ := h
  exact ⟨r, Ev.bind (f := fun _ t => some t) h1 (Ev.now r), h2⟩
theorem Evx.step {α : Type} {g f : Nat → Option α} {Q : α → Prop} (h : ∀ k, g (k + 1) = f k) (h2 : Evx f Q) : Evx g Q := by
  obtain ⟨r, h3, h4⟩ := h2
  exact ⟨r, Ev.step h h3, h4⟩
theorem name_evx (s : ByteArray) (hs : s.size ≤ 100) : Evx (fun k => rin.f k s) (fun b => b = true → nameB s.data.toList = true) := ⟨_, name_ev s hs, fun h => h⟩
theorem type_evx (s : ByteArray) (hs : s.size ≤ 100) : Evx (fun k => detentref02_Type.f k s) (fun b => b = true → typeB s.data.toList = true) := by
  simp only [detentref02_Type.f, Lib.toList_data]
  refine Evx.ite (fun h => Evx.now _ fun _ => by simp [typeB, h]) fun _ => ?_
  refine Evx.ite (fun h => Evx.now _ fun _ => by simp [typeB, h]) fun _ => ?_
  refine Evx.ite (fun h => Evx.now _ fun _ => by simp [typeB, h]) fun _ => ?_
  refine Evx.ite (fun h => Evx.now _ fun _ => by simp [typeB, h]) fun _ => ?_
  refine Evx.ite (fun h => Evx.now _ fun _ => by simp [typeB, h]) fun _ => ?_
  refine Evx.bindSome ?_
  obtain ⟨b, h1, h2⟩ := name_evx s hs
  exact ⟨b, h1, fun h => by simp [typeB, h2 h]⟩
theorem op_fn (s : ByteArray) : ∃ b, detentref02_Op.f s = some b ∧ (b = true → opB s.data.toList = true) := by
  simp only [detentref02_Op.f, Lib.toList_data]
  by_cases h1 : s.data.toList = [43]
  · exact ⟨true, by rw [if_pos h1], fun _ => by simp [opB, h1]⟩
  rw [if_neg h1]
  by_cases h2 : s.data.toList = [45]
  · exact ⟨true, by rw [if_pos h2], fun _ => by simp [opB, h2]⟩
  rw [if_neg h2]
  by_cases h3 : s.data.toList = [42]
  · exact ⟨true, by rw [if_pos h3], fun _ => by simp [opB, h3]⟩
  rw [if_neg h3]
  by_cases h4 : s.data.toList = [60]
  · exact ⟨true, by rw [if_pos h4], fun _ => by simp [opB, h4]⟩
  rw [if_neg h4]
  exact ⟨_, rfl, fun h => by simp [opB, beq_iff_eq.1 h]⟩
theorem text_evx (k : Int) (s : ByteArray) (hs : s.size ≤ 100) : Evx (fun n => detentref02_text.f n k s) (fun b => b = true → textOk k s.data.toList) := by
  have hn : ∀ j : Int, (j = 2 ∨ j = 3 ∨ j = 4 ∨ j = 6 ∨ j = 7 ∨ j = 8 ∨ j = 10 ∨ j = 13 ∨ j = 19 ∨ j = 21 ∨ j = 22 ∨ j = 29 ∨ j = 30 ∨ j = 33) → k = j →
      Evx (fun n => (rin.f n s).bind fun t => some t) (fun b => b = true → textOk k s.data.toList) := by
    intro j hj e
    refine Evx.bindSome ?_
    obtain ⟨b, h1, h2⟩ := name_evx s hs
    refine ⟨b, h1, fun h => ?_⟩
    subst e
    unfold textOk
    rw [if_neg (by omega), if_neg (by omega), if_pos hj]
    exact h2 h
  simp only [detentref02_text.f]
  refine Evx.ite (fun h => ?_) fun h5 => ?_
  · refine Evx.bindSome ?_
    obtain ⟨b, h1, h2⟩ := type_evx s hs
    exact ⟨b, h1, fun h' => by unfold textOk; rw [if_pos h]; exact h2 h'⟩
  refine Evx.ite (fun h => ?_) fun h32 => ?_
  · obtain ⟨b, h1, h2⟩ := op_fn s
    refine ⟨b, ?_, fun h' => by unfold textOk; rw [if_neg h5, if_pos h]; exact h2 h'⟩
    simp only [h1, Option.bind_some]
    exact Ev.now b
  refine Evx.ite (hn 2 (by decide)) fun h2 => ?_
  refine Evx.ite (hn 3 (by decide)) fun h3 => ?_
  refine Evx.ite (hn 4 (by decide)) fun h4 => ?_
  refine Evx.ite (hn 6 (by decide)) fun h6 => ?_
  refine Evx.ite (hn 7 (by decide)) fun h7 => ?_
  refine Evx.ite (hn 8 (by decide)) fun h8 => ?_
  refine Evx.ite (hn 10 (by decide)) fun h10 => ?_
  refine Evx.ite (hn 13 (by decide)) fun h13 => ?_
  refine Evx.ite (hn 19 (by decide)) fun h19 => ?_
  refine Evx.ite (hn 21 (by decide)) fun h21 => ?_
  refine Evx.ite (hn 22 (by decide)) fun h22 => ?_
  refine Evx.ite (hn 29 (by decide)) fun h29 => ?_
  refine Evx.ite (hn 30 (by decide)) fun h30 => ?_
  refine Evx.ite (hn 33 (by decide)) fun h33 => ?_
  refine Evx.now _ fun h => ?_
  unfold textOk
  rw [if_neg h5, if_neg h32, if_neg (by omega)]
  simpa [Lib.toList_data] using h
theorem number_fn (k n : Int) : ∃ b, detentref02_number.f k n = some b ∧ (b = true → numOk k n) := by
  unfold detentref02_number.f numOk
  by_cases h9 : k = 9
  · rw [if_pos h9, if_pos h9]
    by_cases h : n ≥ 0
    · rw [if_pos h]; exact ⟨_, rfl, fun h' => ⟨h, of_decide_eq_true h'⟩⟩
    · rw [if_neg h]; exact ⟨_, rfl, fun h' => by cases h'⟩
  rw [if_neg h9, if_neg h9]
  by_cases h10 : k = 10
  · rw [if_pos h10, if_pos h10]
    by_cases h : n = 0
    · rw [if_pos h]; exact ⟨_, rfl, fun _ => .inl h⟩
    · rw [if_neg h]; exact ⟨_, rfl, fun h' => .inr (by simpa using h')⟩
  rw [if_neg h10, if_neg h10]
  by_cases h19 : k = 19
  · rw [if_pos h19, if_pos h19]
    by_cases h : n ≥ -1
    · rw [if_pos h]; exact ⟨_, rfl, fun h' => ⟨h, of_decide_eq_true h'⟩⟩
    · rw [if_neg h]; exact ⟨_, rfl, fun h' => by cases h'⟩
  rw [if_neg h19, if_neg h19]
  by_cases h26 : k = 26
  · rw [if_pos h26, if_pos h26]
    by_cases h : n ≥ 0
    · rw [if_pos h]; exact ⟨_, rfl, fun h' => ⟨h, of_decide_eq_true h'⟩⟩
    · rw [if_neg h]; exact ⟨_, rfl, fun h' => by cases h'⟩
  rw [if_neg h26, if_neg h26]
  exact ⟨_, rfl, fun h => by simpa using h⟩
theorem rbinds_fn (j : Nat) (k : Int) (t : ByteArray) (n ln cl : Int) (kl : List Int) : rbi.f (j + 1) k t n ln cl kl = some (binds k t) := by
  simp only [rbi.f, rbi.j0, detentref02_Term.f, binds, Lib.toList_data]
  by_cases h26 : 26 ≤ k
  · by_cases h36 : k ≤ 36
    · by_cases h32 : k = 32
      · subst h32
        by_cases a : t.data.toList = [60]
        · simp [a]
        · by_cases b : t.data.toList = [61, 61]
          · simp [b]
          · by_cases c : t.data.toList = [43]
            · simp [c]
            · by_cases d : t.data.toList = [45]
              · simp [d]
              · simp [a, b, c, d]
      · by_cases h34 : k = 34
        · simp [h34]
        · by_cases h35 : k = 35
          · simp [h35]
          · simp [h26, h36, h32, h34, h35]
    · have : k ≠ 32 ∧ k ≠ 34 ∧ k ≠ 35 := by omega
      simp [h26, h36, this.1, this.2.1, this.2.2]
  · have : k ≠ 32 ∧ k ≠ 34 ∧ k ≠ 35 := by omega
    simp [h26, this.1, this.2.1, this.2.2]
theorem rmust_evx (k : Int) (t : ByteArray) (n ln cl : Int) (kl : List Int) (i : Nat) (hi : i ≤ 300) :
    ∃ m, (∀ j, rmu.f (j + 1) k t n ln cl kl (i : Int) = some m) ∧ ∀ bb : Int, 0 < bb → (bb < m ↔ bb < must k t i) := by
  by_cases h32 : k = 32
  · subst h32
    have hb : binds 32 t = 1 ∨ binds 32 t = 2 ∨ binds 32 t = 3 := by
      unfold binds
      rw [if_pos rfl]
      split
      · exact .inl rfl
      · split
        · exact .inr (.inl rfl)
        · exact .inr (.inr rfl)
    rcases hb with h | h | h
    · exact ⟨2, fun j => by simp [rmu.f, rbinds_fn, h, rd, wrap64], fun bb _ => by simp [must, h]⟩
    · refine ⟨2 + i, fun j => ?_, fun bb _ => by simp [must, h]⟩
      simp [rmu.f, rbinds_fn, h, rd]
      unfold wrap64; omega
    · refine ⟨3 + i, fun j => ?_, fun bb _ => by simp [must, h]⟩
      simp [rmu.f, rbinds_fn, h, rd]
      unfold wrap64; omega
  · by_cases h34 : k = 34
    · exact ⟨4, fun j => by simp [rmu.f, rmu.j0, h34], fun bb _ => by simp [must, h34]⟩
    · by_cases h35 : k = 35
      · exact ⟨4, fun j => by simp [rmu.f, rmu.j0, h35], fun bb _ => by simp [must, h35]⟩
      · by_cases h30 : k = 30
        · exact ⟨5, fun j => by simp [rmu.f, rmu.j0, h30], fun bb _ => by simp [must, h30]⟩
        · by_cases h31 : k = 31
          · refine ⟨5 - 5 * i, fun j => ?_, fun bb hbb => ?_⟩
            · simp [rmu.f, rmu.j0, h31]
              unfold wrap64; omega
            · by_cases h0 : i = 0
              · simp [must, h31, h0]
              · simp [must, h31, h0]; omega
          · exact ⟨0, fun j => by simp [rmu.f, rmu.j0, h32, h34, h35, h30, h31], fun bb _ => by simp [must, h32, h34, h35, h30, h31]⟩
theorem paren_ev (l : List S33) (k : Int) (t : ByteArray) (n ln cl : Int) (kl : List Int) (i : Nat) (hi : i < kl.length) (hi3 : i ≤ 300) (h0 : 0 ≤ rd kl (i : Int)) (h1 : rd kl (i : Int) < l.length) :
    Ev (fun j => detentref02_Paren.f j l k t n ln cl kl (i : Int)) (par k t i (rT l (rd kl (i : Int))).f0 (rT l (rd kl (i : Int))).f1) := by
  obtain ⟨m, hm1, hm2⟩ := rmust_evx k t n ln cl kl i hi3
  refine Ev.step (f := fun _ => some (par k t i (rT l (rd kl (i : Int))).f0 (rT l (rd kl (i : Int))).f1)) (fun j => ?_) (Ev.now _)
  simp only [detentref02_Paren.f]
  rw [if_pos (by omega), if_pos (by omega), if_pos h0, if_pos h1, rbinds_fn]
  simp only [Option.bind_some, hm1]
  unfold par
  generalize binds (rT l (rd kl (i : Int))).f0 (rT l (rd kl (i : Int))).f1 = bb at *
  by_cases hb : bb > 0
  · rw [if_pos hb]
    congr 1
    rw [Bool.eq_iff_iff]
    simp only [decide_eq_true_eq]
    exact ⟨fun h => ⟨hb, (hm2 bb hb).1 h⟩, fun h => (hm2 bb hb).2 h.2⟩
  · rw [if_neg hb]
    congr 1
    symm
    exact decide_eq_false (fun h => hb h.1)
def isB (c : Int) (x : Int) : Bool :=
  if c = 121 then x == 5 else if c = 98 then x == 12 else if c = 117 then x == 29 else if c = 101 then decide (26 ≤ x ∧ x ≤ 36)
  else if c = 118 then (x == 29 || x == 30 || x == 31) else if c = 115 then decide (13 ≤ x ∧ x ≤ 25)
  else if c = 100 then (x == 2 || x == 3 || x == 6 || x == 7 || x == 8 || x == 10 || x == 11) else if c = 109 then x == 4 else x == 9
theorem is_fn (x c : Int) : detentref02_is.f x c = some (isB c x) := by
  unfold detentref02_is.f isB
  by_cases h1 : c = 121
  · simp [h1]
  by_cases h2 : c = 98
  · simp [h2]
  by_cases h3 : c = 117
  · simp [h3]
  by_cases h4 : c = 101
  · rw [if_neg h1, if_neg h2, if_neg h3, if_pos h4, if_neg h1, if_neg h2, if_neg h3, if_pos h4]
    unfold detentref02_Term.f
    by_cases h : x ≥ 26
    · rw [if_pos h]; simp only [Option.bind_some]; congr 1; rw [Bool.eq_iff_iff]; simp; omega
    · rw [if_neg h]; simp only [Option.bind_some]; congr 1; symm; exact decide_eq_false (by omega)
  by_cases h5 : c = 118
  · rw [if_neg h1, if_neg h2, if_neg h3, if_neg h4, if_pos h5, if_neg h1, if_neg h2, if_neg h3, if_neg h4, if_pos h5]
    unfold detentref02_Variable.f
    by_cases a : x = 29
    · simp [a]
    · by_cases b : x = 30
      · simp [b]
      · have a' : (x == 29) = false := by simpa using a
        have b' : (x == 30) = false := by simpa using b
        rw [if_neg a, if_neg b, a', b']; rfl
  by_cases h6 : c = 115
  · rw [if_neg h1, if_neg h2, if_neg h3, if_neg h4, if_neg h5, if_pos h6, if_neg h1, if_neg h2, if_neg h3, if_neg h4, if_neg h5, if_pos h6]
    unfold detentref02_Statement.f
    by_cases h : x ≥ 13
    · rw [if_pos h]; simp only [Option.bind_some]; congr 1; rw [Bool.eq_iff_iff]; simp; omega
    · rw [if_neg h]; simp only [Option.bind_some]; congr 1; symm; exact decide_eq_false (by omega)
  by_cases h7 : c = 100
  · rw [if_neg h1, if_neg h2, if_neg h3, if_neg h4, if_neg h5, if_neg h6, if_pos h7, if_neg h1, if_neg h2, if_neg h3, if_neg h4, if_neg h5, if_neg h6, if_pos h7]
    unfold detentref02_Declaration.f
    by_cases a2 : x = 2
    · simp [a2]
    by_cases a3 : x = 3
    · simp [a3]
    by_cases a6 : x = 6
    · simp [a6]
    by_cases a7 : x = 7
    · simp [a7]
    by_cases a8 : x = 8
    · simp [a8]
    by_cases a10 : x = 10
    · simp [a10]
    by_cases a11 : x = 11
    · simp [a11]
    simp [a2, a3, a6, a7, a8, a10, a11]
  by_cases h8 : c = 109
  · simp [h8]
  · simp [h1, h2, h3, h4, h5, h6, h7, h8]
def matchB : List UInt8 → List Int → Bool
  | [], xs => xs.isEmpty
  | 42 :: c :: p, xs => matchB p (xs.dropWhile (isB (c.toNat : Int)))
  | 63 :: c :: p, x :: xs => if isB (c.toNat : Int) x then matchB p xs else matchB p (x :: xs)
  | 63 :: _ :: p, [] => matchB p []
  | c :: p, x :: xs => isB (c.toNat : Int) x && matchB p xs
  | _ :: _, [] => false
end Go.Proofs.YtbpefmidgfmcaaaDoor
end
section
set_option linter.unusedVariables false
namespace Go.Proofs.YtbpefmidgfmcaaaDoor
open Go.RowKit PTreeApart Go.Proofs.YtbpefmidgfmcaaaDoorW.PrintWords
/-- A pattern that the loop can go through. -/
inductive WfP : List UInt8 → Prop where
  | nil : WfP []
  | star (c : UInt8) {p : List UInt8} : WfP p → WfP (42 :: c :: p)
  | may (c : UInt8) {p : List UInt8} : WfP p → WfP (63 :: c :: p)
  | one {c : UInt8} {p : List UInt8} : c ≠ 42 → c ≠ 63 → WfP p → WfP (c :: p)
theorem drop_next {l : List UInt8} {p : Nat} {c : UInt8} {r : List UInt8} (h : l.drop p = c :: r) : ∃ hp : p < l.length, l[p] = c ∧ l.drop (p + 1) = r := by
  have hp : p < l.length := by
    rcases Nat.lt_or_ge p l.length with h' | h'
    · exact h'
    · rw [List.drop_eq_nil_of_le h'] at h; cases h
  rw [List.drop_eq_getElem_cons hp] at h
  injection h with h1 h2
  exact ⟨hp, h1, h2⟩
theorem toNat_ne {c : UInt8} {n : UInt8} (h : c ≠ n) : ¬ ((c.toNat : Int) = (n.toNat : Int)) := fun e => h (UInt8.toNat_inj.1 (by omega))
theorem matchB_one {c : UInt8} {p : List UInt8} (h1 : c ≠ 42) (h2 : c ≠ 63) (x : Int) (xs : List Int) : matchB (c :: p) (x :: xs) = (isB (c.toNat : Int) x && matchB p xs) := by
  rw [matchB]
  all_goals (intros; simp_all)
theorem matchB_none {c : UInt8} {p : List UInt8} (h1 : c ≠ 42) (h2 : c ≠ 63) : matchB (c :: p) [] = false := by
  rw [matchB]
  all_goals (intros; simp_all)
theorem kids_star (xs : List Int) (hx : xs.length ≤ 300) (s : ByteArray) (hs : s.size ≤ 10) (c : UInt8) (q : Nat) (hq : q < s.data.toList.length) (hc : s.data.toList[q] = c) (pat : List UInt8)
    (hl : ∀ i : Nat, i ≤ xs.length → Ev (fun k => rki.l0 k xs s (i : Int) ((q + 1 : Nat) : Int)) (matchB pat (xs.drop i))) :
    ∀ (m i : Nat), xs.length - i = m → i ≤ xs.length → Ev (fun k => rki.l1 k xs s (i : Int) (q : Int)) (matchB pat ((xs.drop i).dropWhile (isB (c.toNat : Int)))) := by
  intro m
  have hsz := size_data s
  have hb := bt_get s q hq
  rw [hc] at hb
  induction m with
  | zero =>
    intro i hm hi
    have h0 := hl i hi
    refine Ev.step (f := fun k => rki.l0 k xs s (i : Int) ((q + 1 : Nat) : Int)) (fun k => ?_) ?_
    · simp only [rki.l1]
      rw [if_neg (by omega), w64 _ (by omega) (by omega)]; rfl
    · rw [List.drop_eq_nil_of_le (by omega)] at h0 ⊢
      exact h0
  | succ m ih =>
    intro i hm hi
    have hlt : i < xs.length := by omega
    have hr : rd xs (i : Int) = xs[i] := by simp [rd, List.getD, hlt]
    cases hB : isB (c.toNat : Int) xs[i] with
    | true =>
      refine Ev.step (f := fun k => rki.l1 k xs s ((i + 1 : Nat) : Int) (q : Int)) (fun k => ?_) ?_
      · simp only [rki.l1]
        rw [if_pos (by omega), if_pos (by omega), if_pos (by omega), if_pos (by omega), hr, hb, is_fn, hB]
        simp only [Option.bind_some, if_true]
        rw [w64 _ (by omega) (by omega)]; rfl
      · have := ih (i + 1) (by omega) (by omega)
        rw [List.drop_eq_getElem_cons hlt, List.dropWhile_cons, hB]
        exact this
    | false =>
      have h0 := hl i hi
      refine Ev.step (f := fun k => rki.l0 k xs s (i : Int) ((q + 1 : Nat) : Int)) (fun k => ?_) ?_
      · simp only [rki.l1]
        rw [if_pos (by omega), if_pos (by omega), if_pos (by omega), if_pos (by omega), hr, hb, is_fn, hB]
        simp only [Option.bind_some, Bool.false_eq_true, if_false]
        rw [w64 _ (by omega) (by omega)]; rfl
      · rw [List.drop_eq_getElem_cons hlt] at h0 ⊢
        rw [List.dropWhile_cons, hB]
        exact h0
theorem kids_pat (xs : List Int) (hx : xs.length ≤ 300) (s : ByteArray) (hs : s.size ≤ 10) {pat : List UInt8} (hw : WfP pat) :
    ∀ (p i : Nat), s.data.toList.drop p = pat → p ≤ s.size → i ≤ xs.length → Ev (fun k => rki.l0 k xs s (i : Int) (p : Int)) (matchB pat (xs.drop i)) := by
  have hsz := size_data s
  induction hw with
  | nil =>
    intro p i hd hp hi
    have hpe : p = s.size := by
      have := congrArg List.length hd
      rw [List.length_drop] at this
      simp at this; omega
    refine Ev.step (f := fun _ => some _) (fun k => ?_) (Ev.now _)
    simp only [rki.l0]
    rw [if_neg (by omega)]
    congr 1
    rw [matchB, Bool.eq_iff_iff]
    simp only [beq_iff_eq, List.isEmpty_iff, List.drop_eq_nil_iff]
    omega
  | star c hw ih =>
    intro p i hd hp hi
    obtain ⟨hp1, h1, h2⟩ := drop_next hd
    obtain ⟨hp2, h3, h4⟩ := drop_next h2
    have hb : bt s (p : Int) = 42 := by rw [bt_get s p hp1, h1]; rfl
    have hst := kids_star xs hx s hs c (p + 1) hp2 h3 _ (fun i' hi' => ih (p + 1 + 1) i' h4 (by omega) hi') _ i rfl hi
    refine Ev.step (f := fun k => rki.l1 k xs s (i : Int) ((p + 1 : Nat) : Int)) (fun k => ?_) ?_
    · simp only [rki.l0]
      rw [if_pos (by omega), if_pos (by omega), hb, if_pos rfl, w64 _ (by omega) (by omega)]; rfl
    · rw [matchB]; exact hst
  | may c hw ih =>
    intro p i hd hp hi
    obtain ⟨hp1, h1, h2⟩ := drop_next hd
    obtain ⟨hp2, h3, h4⟩ := drop_next h2
    have hb : bt s (p : Int) = 63 := by rw [bt_get s p hp1, h1]; rfl
    have hb2 := bt_get s (p + 1) hp2
    rw [h3] at hb2
    have e1 : wrap64 ((p : Int) + 1) = ((p + 1 : Nat) : Int) := by rw [w64 _ (by omega) (by omega)]; rfl
    have e2 : wrap64 (((p + 1 : Nat) : Int) + 1) = ((p + 1 + 1 : Nat) : Int) := by rw [w64 _ (by omega) (by omega)]; rfl
    by_cases hlt : i < xs.length
    · have hr : rd xs (i : Int) = xs[i] := by simp [rd, List.getD, hlt]
      cases hB : isB (c.toNat : Int) xs[i] with
      | true =>
        refine Ev.step (f := fun k => rki.l0 k xs s ((i + 1 : Nat) : Int) ((p + 1 + 1 : Nat) : Int)) (fun k => ?_) ?_
        · simp only [rki.l0]
          rw [if_pos (by omega), if_pos (by omega), hb, if_neg (by decide), if_pos rfl, if_pos (by omega), if_pos (by omega), e1, if_pos (by omega), if_pos (by omega), hr, hb2, is_fn, hB, e2]
          simp only [Option.bind_some, if_true]
          rw [w64 _ (by omega) (by omega)]; rfl
        · rw [List.drop_eq_getElem_cons hlt, matchB, if_pos hB]
          exact ih (p + 1 + 1) (i + 1) h4 (by omega) (by omega)
      | false =>
        have h0 := ih (p + 1 + 1) i h4 (by omega) hi
        refine Ev.step (f := fun k => rki.l0 k xs s (i : Int) ((p + 1 + 1 : Nat) : Int)) (fun k => ?_) ?_
        · simp only [rki.l0]
          rw [if_pos (by omega), if_pos (by omega), hb, if_neg (by decide), if_pos rfl, if_pos (by omega), if_pos (by omega), e1, if_pos (by omega), if_pos (by omega), hr, hb2, is_fn, hB, e2]
          simp only [Option.bind_some, Bool.false_eq_true, if_false]
        · rw [List.drop_eq_getElem_cons hlt] at h0 ⊢
          rw [matchB, if_neg (by rw [hB]; decide)]
          exact h0
    · have h0 := ih (p + 1 + 1) i h4 (by omega) hi
      refine Ev.step (f := fun k => rki.l0 k xs s (i : Int) ((p + 1 + 1 : Nat) : Int)) (fun k => ?_) ?_
      · simp only [rki.l0]
        rw [if_pos (by omega), if_pos (by omega), hb, if_neg (by decide), if_pos rfl, if_neg (by omega), e1, e2]
      · rw [List.drop_eq_nil_of_le (by omega)] at h0 ⊢
        rw [matchB]
        exact h0
  | @one c pat n42 n63 hw ih =>
    intro p i hd hp hi
    obtain ⟨hp1, h1, h2⟩ := drop_next hd
    have hb := bt_get s p hp1
    rw [h1] at hb
    have hn1 : ¬ ((c.toNat : Int) = 42) := toNat_ne (n := 42) n42
    have hn2 : ¬ ((c.toNat : Int) = 63) := toNat_ne (n := 63) n63
    by_cases hlt : i < xs.length
    · have hr : rd xs (i : Int) = xs[i] := by simp [rd, List.getD, hlt]
      rw [List.drop_eq_getElem_cons hlt, matchB_one n42 n63]
      cases hB : isB (c.toNat : Int) xs[i] with
      | true =>
        refine Ev.step (f := fun k => rki.l0 k xs s ((i + 1 : Nat) : Int) ((p + 1 : Nat) : Int)) (fun k => ?_) ?_
        · simp only [rki.l0]
          rw [if_pos (by omega), if_pos (by omega), hb, if_neg hn1, if_neg hn2, if_neg (by omega), if_pos (by omega), if_pos (by omega), hr, is_fn, hB]
          simp only [Option.bind_some, if_true]
          rw [w64 _ (by omega) (by omega), w64 _ (by omega) (by omega)]; rfl
        · simpa using ih (p + 1) (i + 1) h2 (by omega) (by omega)
      | false =>
        refine Ev.step (f := fun _ => some false) (fun k => ?_) (Ev.now _)
        simp only [rki.l0]
        rw [if_pos (by omega), if_pos (by omega), hb, if_neg hn1, if_neg hn2, if_neg (by omega), if_pos (by omega), if_pos (by omega), hr, is_fn, hB]
        simp
    · rw [List.drop_eq_nil_of_le (by omega), matchB_none n42 n63]
      refine Ev.step (f := fun _ => some false) (fun k => ?_) (Ev.now _)
      simp only [rki.l0]
      rw [if_pos (by omega), if_pos (by omega), hb, if_neg hn1, if_neg hn2, if_pos (by omega)]
end Go.Proofs.YtbpefmidgfmcaaaDoor
end
section
set_option linter.unusedVariables false
namespace Go.Proofs.YtbpefmidgfmcaaaDoor
open Go.RowKit PTreeApart Go.Proofs.YtbpefmidgfmcaaaDoorW.PrintWords
theorem m_nil {xs : List Int} (h : matchB [] xs = true) : xs = [] := by simpa [matchB] using h
theorem m_one {c : UInt8} {p : List UInt8} {xs : List Int} (h1 : c ≠ 42) (h2 : c ≠ 63) (h : matchB (c :: p) xs = true) : ∃ x r, xs = x :: r ∧ isB (c.toNat : Int) x = true ∧ matchB p r = true := by
  cases xs with
  | nil => rw [matchB_none h1 h2] at h; cases h
  | cons x r =>
    rw [matchB_one h1 h2, Bool.and_eq_true] at h
    exact ⟨x, r, rfl, h.1, h.2⟩
theorem mem_tw {p : Int → Bool} : ∀ (l : List Int) (x : Int), x ∈ l.takeWhile p → p x = true
  | [], x, h => by simp at h
  | a :: l, x, h => by
    rw [List.takeWhile_cons] at h
    cases hp : p a with
    | false => rw [hp] at h; simp at h
    | true =>
      rw [hp] at h
      rcases List.mem_cons.1 h with e | e
      · rw [e]; exact hp
      · exact mem_tw l x e
theorem m_star {c : UInt8} {xs : List Int} (h : matchB [42, c] xs = true) : ∀ x ∈ xs, isB (c.toNat : Int) x = true := by
  rw [matchB] at h
  have h := m_nil h
  intro x hx
  have := List.takeWhile_append_dropWhile (p := isB (c.toNat : Int)) (l := xs)
  rw [h, List.append_nil] at this
  rw [← this] at hx
  exact mem_tw _ _ hx
theorem m_may {c : UInt8} {xs : List Int} (h : matchB [63, c] xs = true) : xs = [] ∨ ∃ v, xs = [v] ∧ isB (c.toNat : Int) v = true := by
  cases xs with
  | nil => exact .inl rfl
  | cons x r =>
    rw [matchB] at h
    split at h
    · rename_i hb
      exact .inr ⟨x, by rw [m_nil h], hb⟩
    · have := m_nil h; cases this
theorem b_y {x : Int} (h : isB ((121 : UInt8).toNat : Int) x = true) : x = 5 := by simpa [isB] using h
theorem b_b {x : Int} (h : isB ((98 : UInt8).toNat : Int) x = true) : x = 12 := by simpa [isB] using h
theorem b_u {x : Int} (h : isB ((117 : UInt8).toNat : Int) x = true) : x = 29 := by simpa [isB] using h
theorem b_e {x : Int} (h : isB ((101 : UInt8).toNat : Int) x = true) : isTerm x := by simpa [isB, isTerm] using h
theorem b_v {x : Int} (h : isB ((118 : UInt8).toNat : Int) x = true) : isVar x := by
  have : (x = 29 ∨ x = 30) ∨ x = 31 := by simpa [isB] using h
  unfold isVar; omega
theorem b_s {x : Int} (h : isB ((115 : UInt8).toNat : Int) x = true) : isStmt x := by simpa [isB, isStmt] using h
theorem b_d {x : Int} (h : isB ((100 : UInt8).toNat : Int) x = true) : isDecl x := by
  have : (((((x = 2 ∨ x = 3) ∨ x = 6) ∨ x = 7) ∨ x = 8) ∨ x = 10) ∨ x = 11 := by simpa [isB] using h
  unfold isDecl; omega
theorem b_m {x : Int} (h : isB ((109 : UInt8).toNat : Int) x = true) : x = 4 := by simpa [isB] using h
theorem b_l {x : Int} (h : isB ((108 : UInt8).toNat : Int) x = true) : x = 9 := by simpa [isB] using h
/-- The pattern of a kind. -/
def pat (k : Int) : List UInt8 :=
  if k = 1 then [42, 100] else if k = 3 then [42, 109] else if k = 4 ∨ k = 6 then [121]
  else if k = 7 ∨ k = 9 ∨ k = 11 ∨ k = 36 then [98] else if k = 8 then [117, 42, 108] else if k = 10 then [117, 98]
  else if k = 12 then [42, 115] else if k = 13 then [121, 101] else if k = 14 then [118, 101]
  else if k = 15 ∨ k = 16 ∨ k = 17 ∨ k = 18 ∨ k = 30 ∨ k = 34 ∨ k = 35 then [101]
  else if k = 19 ∨ k = 20 then [101, 63, 118] else if k = 23 then [101, 98, 98] else if k = 24 then [101, 98]
  else if k = 31 ∨ k = 32 then [101, 101] else []
theorem ite_P {P : List UInt8 → Prop} {c : Prop} [Decidable c] {a b : List UInt8} (h1 : P a) (h2 : P b) : P (if c then a else b) := by
  split
  · exact h1
  · exact h2
theorem pat_ok (k : Int) (xs : List Int) (h : matchB (pat k) xs = true) : kidsOk k xs := by
  unfold pat at h
  unfold kidsOk
  by_cases e1 : k = 1
  · rw [if_pos e1] at h; rw [if_pos e1]; exact fun x hx => b_d (m_star h x hx)
  rw [if_neg e1] at h; rw [if_neg e1]
  by_cases e2 : k = 3
  · rw [if_pos e2] at h; rw [if_pos e2]; exact fun x hx => b_m (m_star h x hx)
  rw [if_neg e2] at h; rw [if_neg e2]
  by_cases e3 : k = 4 ∨ k = 6
  · rw [if_pos e3] at h; rw [if_pos e3]
    obtain ⟨x, r, rfl, h1, h2⟩ := m_one (by decide) (by decide) h
    rw [b_y h1, m_nil h2]
  rw [if_neg e3] at h; rw [if_neg e3]
  by_cases e4 : k = 7 ∨ k = 9 ∨ k = 11 ∨ k = 36
  · rw [if_pos e4] at h; rw [if_pos e4]
    obtain ⟨x, r, rfl, h1, h2⟩ := m_one (by decide) (by decide) h
    rw [b_b h1, m_nil h2]
  rw [if_neg e4] at h; rw [if_neg e4]
  by_cases e5 : k = 8
  · rw [if_pos e5] at h; rw [if_pos e5]
    obtain ⟨x, r, rfl, h1, h2⟩ := m_one (by decide) (by decide) h
    exact ⟨r, by rw [b_u h1], fun y hy => b_l (m_star h2 y hy)⟩
  rw [if_neg e5] at h; rw [if_neg e5]
  by_cases e6 : k = 10
  · rw [if_pos e6] at h; rw [if_pos e6]
    obtain ⟨x, r, rfl, h1, h2⟩ := m_one (by decide) (by decide) h
    obtain ⟨y, r2, rfl, h3, h4⟩ := m_one (by decide) (by decide) h2
    rw [b_u h1, b_b h3, m_nil h4]
  rw [if_neg e6] at h; rw [if_neg e6]
  by_cases e7 : k = 12
  · rw [if_pos e7] at h; rw [if_pos e7]; exact fun x hx => b_s (m_star h x hx)
  rw [if_neg e7] at h; rw [if_neg e7]
  by_cases e8 : k = 13
  · rw [if_pos e8] at h; rw [if_pos e8]
    obtain ⟨x, r, rfl, h1, h2⟩ := m_one (by decide) (by decide) h
    obtain ⟨y, r2, rfl, h3, h4⟩ := m_one (by decide) (by decide) h2
    exact ⟨y, by rw [b_y h1, m_nil h4], b_e h3⟩
  rw [if_neg e8] at h; rw [if_neg e8]
  by_cases e9 : k = 14
  · rw [if_pos e9] at h; rw [if_pos e9]
    obtain ⟨x, r, rfl, h1, h2⟩ := m_one (by decide) (by decide) h
    obtain ⟨y, r2, rfl, h3, h4⟩ := m_one (by decide) (by decide) h2
    exact ⟨x, y, by rw [m_nil h4], b_v h1, b_e h3⟩
  rw [if_neg e9] at h; rw [if_neg e9]
  by_cases e10 : k = 15 ∨ k = 16 ∨ k = 17 ∨ k = 18 ∨ k = 30 ∨ k = 34 ∨ k = 35
  · rw [if_pos e10] at h; rw [if_pos e10]
    obtain ⟨x, r, rfl, h1, h2⟩ := m_one (by decide) (by decide) h
    exact ⟨x, by rw [m_nil h2], b_e h1⟩
  rw [if_neg e10] at h; rw [if_neg e10]
  by_cases e11 : k = 19 ∨ k = 20
  · rw [if_pos e11] at h; rw [if_pos e11]
    obtain ⟨x, r, rfl, h1, h2⟩ := m_one (by decide) (by decide) h
    refine ⟨x, b_e h1, ?_⟩
    rcases m_may h2 with h3 | ⟨v, h3, h4⟩
    · exact .inl (by rw [h3])
    · exact .inr ⟨v, by rw [h3], b_v h4⟩
  rw [if_neg e11] at h; rw [if_neg e11]
  by_cases e12 : k = 23
  · rw [if_pos e12] at h; rw [if_pos e12]
    obtain ⟨x, r, rfl, h1, h2⟩ := m_one (by decide) (by decide) h
    obtain ⟨y, r2, rfl, h3, h4⟩ := m_one (by decide) (by decide) h2
    obtain ⟨z, r3, rfl, h5, h6⟩ := m_one (by decide) (by decide) h4
    exact ⟨x, by rw [b_b h3, b_b h5, m_nil h6], b_e h1⟩
  rw [if_neg e12] at h; rw [if_neg e12]
  by_cases e13 : k = 24
  · rw [if_pos e13] at h; rw [if_pos e13]
    obtain ⟨x, r, rfl, h1, h2⟩ := m_one (by decide) (by decide) h
    obtain ⟨y, r2, rfl, h3, h4⟩ := m_one (by decide) (by decide) h2
    exact ⟨x, by rw [b_b h3, m_nil h4], b_e h1⟩
  rw [if_neg e13] at h; rw [if_neg e13]
  by_cases e14 : k = 31 ∨ k = 32
  · rw [if_pos e14] at h; rw [if_pos e14]
    obtain ⟨x, r, rfl, h1, h2⟩ := m_one (by decide) (by decide) h
    obtain ⟨y, r2, rfl, h3, h4⟩ := m_one (by decide) (by decide) h2
    exact ⟨x, y, by rw [m_nil h4], b_e h1, b_e h3⟩
  rw [if_neg e14] at h; rw [if_neg e14]
  exact m_nil h
theorem pat_wf (k : Int) : WfP (pat k) ∧ (pat k).length ≤ 3 := by
  unfold pat
  refine ite_P (P := fun l => WfP l ∧ l.length ≤ 3) ⟨WfP.star _ WfP.nil, by decide⟩ ?_
  refine ite_P (P := fun l => WfP l ∧ l.length ≤ 3) ⟨WfP.star _ WfP.nil, by decide⟩ ?_
  refine ite_P (P := fun l => WfP l ∧ l.length ≤ 3) ⟨WfP.one (by decide) (by decide) WfP.nil, by decide⟩ ?_
  refine ite_P (P := fun l => WfP l ∧ l.length ≤ 3) ⟨WfP.one (by decide) (by decide) WfP.nil, by decide⟩ ?_
  refine ite_P (P := fun l => WfP l ∧ l.length ≤ 3) ⟨WfP.one (by decide) (by decide) (WfP.star _ WfP.nil), by decide⟩ ?_
  refine ite_P (P := fun l => WfP l ∧ l.length ≤ 3) ⟨WfP.one (by decide) (by decide) (WfP.one (by decide) (by decide) WfP.nil), by decide⟩ ?_
  refine ite_P (P := fun l => WfP l ∧ l.length ≤ 3) ⟨WfP.star _ WfP.nil, by decide⟩ ?_
  refine ite_P (P := fun l => WfP l ∧ l.length ≤ 3) ⟨WfP.one (by decide) (by decide) (WfP.one (by decide) (by decide) WfP.nil), by decide⟩ ?_
  refine ite_P (P := fun l => WfP l ∧ l.length ≤ 3) ⟨WfP.one (by decide) (by decide) (WfP.one (by decide) (by decide) WfP.nil), by decide⟩ ?_
  refine ite_P (P := fun l => WfP l ∧ l.length ≤ 3) ⟨WfP.one (by decide) (by decide) WfP.nil, by decide⟩ ?_
  refine ite_P (P := fun l => WfP l ∧ l.length ≤ 3) ⟨WfP.one (by decide) (by decide) (WfP.may _ WfP.nil), by decide⟩ ?_
  refine ite_P (P := fun l => WfP l ∧ l.length ≤ 3) ⟨WfP.one (by decide) (by decide) (WfP.one (by decide) (by decide) (WfP.one (by decide) (by decide) WfP.nil)), by decide⟩ ?_
  refine ite_P (P := fun l => WfP l ∧ l.length ≤ 3) ⟨WfP.one (by decide) (by decide) (WfP.one (by decide) (by decide) WfP.nil), by decide⟩ ?_
  exact ite_P (P := fun l => WfP l ∧ l.length ≤ 3) ⟨WfP.one (by decide) (by decide) (WfP.one (by decide) (by decide) WfP.nil), by decide⟩ ⟨WfP.nil, by decide⟩
theorem letters_fn (k : Int) (h1 : 1 ≤ k) (h2 : k ≤ 36) : ∃ s : ByteArray, rle.f 5 k = some s ∧ s.data.toList = pat k := by
  have hk : k = 1 ∨ k = 2 ∨ k = 3 ∨ k = 4 ∨ k = 5 ∨ k = 6 ∨ k = 7 ∨ k = 8 ∨ k = 9 ∨ k = 10 ∨ k = 11 ∨ k = 12 ∨ k = 13 ∨ k = 14 ∨ k = 15 ∨ k = 16 ∨ k = 17 ∨ k = 18 ∨ k = 19 ∨ k = 20 ∨ k = 21 ∨ k = 22 ∨ k = 23 ∨ k = 24 ∨ k = 25 ∨ k = 26 ∨ k = 27 ∨ k = 28 ∨ k = 29 ∨ k = 30 ∨ k = 31 ∨ k = 32 ∨ k = 33 ∨ k = 34 ∨ k = 35 ∨ k = 36 := by omega
  repeat' (rcases hk with rfl | hk)
  all_goals first | exact ⟨_, rfl, by decide⟩ | (subst hk; exact ⟨_, rfl, by decide⟩)
theorem kids_evx (k : Int) (h1 : 1 ≤ k) (h2 : k ≤ 36) (xs : List Int) (hx : xs.length ≤ 300) : Evx (fun j => rki.f j k xs) (fun b => b = true → kidsOk k xs) := by
  obtain ⟨s, hs, hp⟩ := letters_fn k h1 h2
  obtain ⟨hw, hl⟩ := pat_wf k
  have hsz := size_data s
  rw [hp] at hsz
  have h := kids_pat xs hx s (by omega) hw 0 0 hp (by omega) (by omega)
  refine ⟨_, ?_, fun hb => pat_ok k xs hb⟩
  have hle : Ev (fun j => rle.f j k) s := Ev.of (fun j => rle.mono k j) hs
  exact Ev.bind (f := fun j t => rki.l0 j xs t 0 0) hle h
end Go.Proofs.YtbpefmidgfmcaaaDoor
end
section
set_option linter.unusedVariables false
namespace Go.Proofs.YtbpefmidgfmcaaaDoor
open Go.RowKit PTreeApart Go.Proofs.YtbpefmidgfmcaaaDoorW.PrintWords
/-- What is known of an answer of 'goes'. -/
def GoesQ (l : List S33) (a : Int) (ne : Int) (r : Int) : Prop := r = 0 ∨ (a < r ∧ r ≤ l.length ∧ ∃ d, Tr l d a r ∧ Ok d ne)
/-- What is known of an answer of its loop. -/
def LoopQ (l : List S33) (k : Int) (t : ByteArray) (kl : List Int) (ne : Int) (done : List Int) (i : Nat) (c : Int) (r : Int) : Prop :=
  r = 0 ∨ (c ≤ r ∧ r ≤ l.length ∧ ∃ ds, Trs l kl i ds c r ∧ Oks k t i ds ne ∧ kidsOk k (done ++ ds.map Nd.kind))
theorem Evx.mono {α : Type} {g : Nat → Option α} {Q R : α → Prop} (h : Evx g Q) (k : ∀ r, Q r → R r) : Evx g R := by
  obtain ⟨r, h1, h2⟩ := h
  exact ⟨r, h1, k r h2⟩
theorem Evx.bind {α β : Type} {g : Nat → Option α} {f : Nat → α → Option β} {Q : α → Prop} {R : β → Prop} (h : Evx g Q) (k : ∀ a, Q a → Evx (fun n => f n a) R) : Evx (fun n => (g n).bind (f n)) R := by
  obtain ⟨a, h1, h2⟩ := h
  obtain ⟨r, h3, h4⟩ := k a h2
  exact ⟨r, Ev.bind (f := f) h1 h3, h4⟩
section
variable (l : List S33)
/-- One kid: its nest, then the loop goes on. -/
theorem j6_evx (k : Int) (t : ByteArray) (n ln cl : Int) (kl : List Int) (ne : Int) (hne : 0 ≤ ne) (hne2 : ne ≤ 64) (done : List Int) (c : Int) (i : Nat) (x11 : Int) (h11 : 0 ≤ x11) (h112 : x11 ≤ 2) (fl : Bool)
    (hc0 : 0 ≤ c) (hc1 : c < l.length) (hi : i < kl.length) (hi3 : i < 300) (hdl : done.length = i) (hkc : kl.getD i 0 = c)
    (hm : ∀ d : Nd, d.kind = (rT l c).f0 → d.text = (rT l c).f1 → more k t i d = x11 + (if fl then 1 else 0))
    (hgo : Evx (fun j => rgo.f j l c (ne + (x11 + (if fl then 1 else 0)))) (GoesQ l c (ne + (x11 + (if fl then 1 else 0)))))
    (hloop : ∀ c' : Int, c < c' → c' ≤ l.length → Evx (fun j => rgo.l0 j ne (done ++ [(rT l c).f0]) c' ((i + 1 : Nat) : Int) l k t n ln cl kl) (LoopQ l k t kl ne (done ++ [(rT l c).f0]) (i + 1) c')) :
    Evx (fun j => rgo.j6 j ne done c (i : Int) x11 fl l k t n ln cl kl) (LoopQ l k t kl ne done i c) := by
  have hw : wrap64 ((i : Int) + 1) = ((i + 1 : Nat) : Int) := by rw [w64 _ (by omega) (by omega)]; rfl
  have hcont : Evx (fun j => (rgo.f j l c (ne + (x11 + (if fl then 1 else 0)))).bind fun r => if r = 0 then some 0 else rgo.l0 j ne (done ++ [(rT l c).f0]) r ((i + 1 : Nat) : Int) l k t n ln cl kl) (LoopQ l k t kl ne done i c) := by
    refine Evx.bind hgo fun r hr => ?_
    refine Evx.ite (fun h => Evx.now _ (.inl rfl)) fun h => ?_
    rcases hr with hr | ⟨h1, h2, d, hT, hO⟩
    · exact absurd hr h
    · refine (hloop r h1 h2).mono fun q hq => ?_
      rcases hq with hq | ⟨g1, g2, ds, g3, g4, g5⟩
      · exact .inl hq
      · have hk := hT.kind
        refine .inr ⟨by omega, g2, d :: ds, ⟨hi, hkc, r, hT, g3⟩, ⟨?_, g4⟩, ?_⟩
        · rw [hm d hk.1.symm hk.2.1.symm]; exact hO
        · rw [List.map_cons, ← hk.1]
          simpa using g5
  cases fl with
  | true =>
    refine Evx.step (fun j => ?_) hcont
    simp only [rgo.j6, if_true]
    rw [if_pos hc0, if_pos hc1, if_pos (by omega), w64 (x11 + 1) (by omega) (by omega), w64 (ne + (x11 + 1)) (by omega) (by omega), hw]
  | false =>
    refine Evx.step (fun j => ?_) hcont
    simp only [rgo.j6, Bool.false_eq_true, if_false, Int.add_zero]
    rw [if_pos hc0, if_pos hc1, if_pos (by omega), w64 (ne + x11) (by omega) (by omega), hw]
/-- The loop, from the i-th kid on. -/
theorem loop_evx (hl : l.length ≤ 300) (k : Int) (hk1 : 1 ≤ k) (hk2 : k ≤ 36) (t : ByteArray) (n ln cl : Int) (kl : List Int) (ne : Int) (hne : 0 ≤ ne) (hne2 : ne ≤ 64) (lo : Int)
    (hgo : ∀ (c : Int) (ne' : Int), lo ≤ c → c < l.length → 0 ≤ ne' → ne' ≤ 67 → Evx (fun j => rgo.f j l c ne') (GoesQ l c ne')) :
    ∀ (m : Nat) (i : Nat) (c : Int) (done : List Int), kl.length - i = m → i ≤ kl.length → lo ≤ c → 0 ≤ c → (i : Int) ≤ c → c ≤ l.length → done.length = i →
      Evx (fun j => rgo.l0 j ne done c (i : Int) l k t n ln cl kl) (LoopQ l k t kl ne done i c) := by
  intro m
  induction m with
  | zero =>
    intro i c done hm hi hlo hc0 hic hcl hdl
    refine Evx.step (f := fun j => (rki.f j k done).bind fun b => if b = true then some c else some 0) (fun j => ?_) ?_
    · simp only [rgo.l0]
      rw [if_neg (by omega)]
    · refine Evx.bind (kids_evx k hk1 hk2 done (by omega)) fun b hb => ?_
      refine Evx.ite (fun h => Evx.now _ (.inr ⟨by omega, hcl, [], ⟨by omega, rfl⟩, trivial, ?_⟩)) fun h => Evx.now _ (.inl rfl)
      simpa using hb h
  | succ m ih =>
    intro i c done hm hi hlo hc0 hic hcl hdl
    have hlt : i < kl.length := by omega
    have hg : rd kl (i : Int) = kl.getD i 0 := by simp [rd]
    have hz : ∀ j, rgo.j3 (j + 1) ne done c (i : Int) true l k t n ln cl kl = some 0 := fun j => by simp only [rgo.j3, if_true]
    by_cases hkc : kl.getD i 0 = c
    · by_cases hcl2 : c < l.length
      · -- the kid is looked at
        have hpar := paren_ev l k t n ln cl kl i hlt (by omega) (by rw [hg, hkc]; exact hc0) (by rw [hg, hkc]; exact hcl2)
        rw [hg, hkc] at hpar
        generalize hbl : (if (rT l c).f0 = 12 then (1 : Int) else 0) = x0 at *
        have hx0 : 0 ≤ x0 ∧ x0 ≤ 1 := by rw [← hbl]; split <;> omega
        generalize hp : par k t i (rT l c).f0 (rT l c).f1 = pp at *
        have hx1 : wrap64 (x0 + 1) = x0 + 1 := w64 _ (by omega) (by omega)
        -- behind the parentheses
        have h5 : Evx (fun j => rgo.j5 j ne done c (i : Int) (x0 + (if pp then 1 else 0)) l k t n ln cl kl) (LoopQ l k t kl ne done i c) := by
          have hx2 : 0 ≤ x0 + (if pp then (1 : Int) else 0) ∧ x0 + (if pp then (1 : Int) else 0) ≤ 2 := by cases pp <;> simp <;> omega
          have h6 : ∀ fl : Bool, (fl = true ↔ (k = 31 ∧ i = 1 ∨ k = 34 ∨ k = 35)) → Evx (fun j => rgo.j6 j ne done c (i : Int) (x0 + (if pp then 1 else 0)) fl l k t n ln cl kl) (LoopQ l k t kl ne done i c) := by
            intro fl hfl
            refine j6_evx l k t n ln cl kl ne hne hne2 done c i _ hx2.1 hx2.2 fl hc0 hcl2 hlt (by omega) hdl hkc ?_ ?_ ?_
            · intro d hd1 hd2
              unfold more
              rw [hd1, hd2, hbl, hp]
              congr 1
              by_cases hf : k = 31 ∧ i = 1 ∨ k = 34 ∨ k = 35
              · rw [if_pos hf, if_pos (hfl.2 hf)]
              · rw [if_neg hf, if_neg (fun h => hf (hfl.1 h))]
            · refine hgo c _ hlo hcl2 ?_ ?_
              · cases fl <;> simp <;> omega
              · cases fl <;> simp <;> omega
            · intro c' h1 h2
              exact ih (i + 1) c' (done ++ [(rT l c).f0]) (by omega) (by omega) (by omega) (by omega) (by omega) h2 (by simp [hdl])
          by_cases h31 : k = 31
          · by_cases hi1 : i = 1
            · refine Evx.step (fun j => ?_) (h6 true ⟨fun _ => .inl ⟨h31, hi1⟩, fun _ => rfl⟩)
              simp only [rgo.j5]
              rw [if_pos h31, if_pos (by omega)]
            · refine Evx.step (fun j => ?_) (h6 false ⟨fun h => (by cases h), fun h => (by omega)⟩)
              simp only [rgo.j5]
              have e : (k == 35) = false := by rw [h31]; rfl
              rw [if_pos h31, if_neg (by omega), if_neg (by omega), e]
          · by_cases h34 : k = 34
            · refine Evx.step (fun j => ?_) (h6 true ⟨fun _ => .inr (.inl h34), fun _ => rfl⟩)
              simp only [rgo.j5]
              rw [if_neg h31, if_pos h34]
            · refine Evx.step (fun j => ?_) (h6 (k == 35) ⟨fun h => .inr (.inr (by simpa using h)), fun h => by simp; omega⟩)
              simp only [rgo.j5]
              rw [if_neg h31, if_neg h34]
        have h4 : Evx (fun j => rgo.j4 j ne done c (i : Int) x0 l k t n ln cl kl) (LoopQ l k t kl ne done i c) := by
          refine Evx.step (f := fun j => (detentref02_Paren.f j l k t n ln cl kl (i : Int)).bind fun b => if b = true then rgo.j5 j ne done c (i : Int) (x0 + 1) l k t n ln cl kl else rgo.j5 j ne done c (i : Int) x0 l k t n ln cl kl) (fun j => ?_) ?_
          · simp only [rgo.j4, hx1]
          · refine Evx.bind (Q := fun b => b = pp) ⟨pp, hpar, rfl⟩ fun b hb => ?_
            subst hb
            cases b with
            | true => simpa using h5
            | false => simpa using h5
        refine Evx.step (f := fun j => rgo.j3 j ne done c (i : Int) false l k t n ln cl kl) (fun j => ?_) ?_
        · simp only [rgo.l0]
          rw [if_pos (by omega), if_pos (by omega), if_pos (hg.trans hkc), show decide (c ≥ (l.length : Int)) = false from decide_eq_false (by omega)]
        · refine Evx.step (fun j => ?_) h4
          simp only [rgo.j3, Bool.false_eq_true, if_false]
          rw [if_pos hc0, if_pos hcl2]
          by_cases hb : (rT l c).f0 = 12
          · rw [if_pos hb] at hbl ⊢; rw [← hbl]; rfl
          · rw [if_neg hb] at hbl ⊢; rw [← hbl]
      · refine Evx.step (f := fun j => rgo.j3 j ne done c (i : Int) true l k t n ln cl kl) (fun j => ?_) (Evx.step hz (Evx.now 0 (.inl rfl)))
        simp only [rgo.l0]
        rw [if_pos (by omega), if_pos (by omega), if_pos (hg.trans hkc), show decide (c ≥ (l.length : Int)) = true from decide_eq_true (by omega)]
    · refine Evx.step (f := fun j => rgo.j3 j ne done c (i : Int) true l k t n ln cl kl) (fun j => ?_) (Evx.step hz (Evx.now 0 (.inl rfl)))
      simp only [rgo.l0]
      rw [if_pos (by omega), if_pos (by omega), if_neg (fun h => hkc (hg.symm.trans h))]
/-- goes comes to an answer. -/
theorem goes_evx (hl : l.length ≤ 300) (htx : ∀ c : Int, 0 ≤ c → c < l.length → (rT l c).f1.size ≤ 100) : ∀ (m : Nat) (a ne : Int), l.length - a.toNat = m → 0 ≤ a → 0 ≤ ne → ne ≤ 67 → Evx (fun j => rgo.f j l a ne) (GoesQ l a ne) := by
  intro m
  induction m using Nat.strongRecOn with
  | ind m ih =>
  intro a ne hm ha h0 h67
  have hj0 : ∀ j, rgo.j0 (j + 1) a ne true l = some 0 := fun j => by simp only [rgo.j0, if_true]
  by_cases hal : a ≥ (l.length : Int)
  · refine Evx.step (f := fun j => rgo.j0 j a ne true l) (fun j => ?_) (Evx.step hj0 (Evx.now 0 (.inl rfl)))
    simp only [rgo.f]
    rw [if_pos hal]
  by_cases hn : ne > 64
  · refine Evx.step (f := fun j => rgo.j0 j a ne true l) (fun j => ?_) (Evx.step hj0 (Evx.now 0 (.inl rfl)))
    simp only [rgo.f]
    rw [if_neg hal, show decide (ne > 64) = true from decide_eq_true hn]
  have hbig : ∀ (c : Int) (ne' : Int), a + 1 ≤ c → c < l.length → 0 ≤ ne' → ne' ≤ 67 → Evx (fun j => rgo.f j l c ne') (GoesQ l c ne') := fun c ne' h1 h2 h3 h4 => ih (l.length - c.toNat) (by omega) c ne' rfl (by omega) h3 h4
  generalize hx : rT l a = x at *
  have hj1 : ∀ j, rgo.j1 (j + 1) a ne true l x.f0 x.f1 x.f2 x.f3 x.f4 x.f5 = some 0 := fun j => by simp only [rgo.j1, if_true]
  refine Evx.step (f := fun j => rgo.j0 j a ne false l) (fun j => ?_) ?_
  · simp only [rgo.f]
    rw [if_neg hal, show decide (ne > 64) = false from decide_eq_false hn]
  by_cases hk1 : x.f0 < 1
  · refine Evx.step (f := fun j => rgo.j1 j a ne true l x.f0 x.f1 x.f2 x.f3 x.f4 x.f5) (fun j => ?_) (Evx.step hj1 (Evx.now 0 (.inl rfl)))
    simp only [rgo.j0, Bool.false_eq_true, if_false, hx]
    rw [if_pos ha, if_pos (by omega), if_pos hk1]
  by_cases hk36 : x.f0 > 36
  · refine Evx.step (f := fun j => rgo.j1 j a ne true l x.f0 x.f1 x.f2 x.f3 x.f4 x.f5) (fun j => ?_) (Evx.step hj1 (Evx.now 0 (.inl rfl)))
    simp only [rgo.j0, Bool.false_eq_true, if_false, hx]
    rw [if_pos ha, if_pos (by omega), if_neg hk1, if_pos hk36]
  have hs : x.f1.size ≤ 100 := by have := htx a ha (by omega); rwa [hx] at this
  obtain ⟨bn, hbn1, hbn2⟩ := number_fn x.f0 x.f2
  refine Evx.step (f := fun j => (detentref02_text.f j x.f0 x.f1).bind fun b => if b = true then rgo.j1 j a ne (!bn) l x.f0 x.f1 x.f2 x.f3 x.f4 x.f5 else rgo.j1 j a ne true l x.f0 x.f1 x.f2 x.f3 x.f4 x.f5) (fun j => ?_) ?_
  · simp only [rgo.j0, Bool.false_eq_true, if_false, hx]
    rw [if_pos ha, if_pos (by omega), if_neg hk1, if_neg hk36, hbn1]
    simp only [Option.bind_some]
  refine Evx.bind (text_evx x.f0 x.f1 hs) fun bt_ hbt => ?_
  refine Evx.ite (fun htrue => ?_) fun _ => Evx.step hj1 (Evx.now 0 (.inl rfl))
  cases hbb : bn with
  | false => exact Evx.step hj1 (Evx.now 0 (.inl rfl))
  | true =>
    have hlp := loop_evx l hl x.f0 (by omega) (by omega) x.f1 x.f2 x.f3 x.f4 x.f5 ne h0 (by omega) (a + 1) hbig x.f5.length 0 (a + 1) [] (by omega) (by omega) (by omega) (by omega) (by omega) (by omega) rfl
    refine Evx.step (f := fun j => rgo.l0 j ne [] (a + 1) ((0 : Nat) : Int) l x.f0 x.f1 x.f2 x.f3 x.f4 x.f5) (fun j => ?_) (hlp.mono fun r hr => ?_)
    · simp only [rgo.j1, Bool.not_true, Bool.false_eq_true, if_false]
      rw [w64 (a + 1) (by omega) (by omega)]; rfl
    · rcases hr with hr | ⟨g1, g2, ds, g3, g4, g5⟩
      · exact .inl hr
      · refine .inr ⟨by omega, g2, .mk x.f0 x.f1 x.f2 ds, ⟨ha, by omega, by rw [hx], by rw [hx], by rw [hx], by rw [hx]; exact g3⟩, by omega, by omega, by omega, hbt htrue, hbn2 (by rw [hbn1] at *; rw [hbb]), by simpa using g5, g4⟩
/-- May comes to an answer; where it is yes, there is a tree. -/
theorem may_evx (hl : l.length ≤ 300) (htx : ∀ c : Int, 0 ≤ c → c < l.length → (rT l c).f1.size ≤ 100) : Evx (fun j => detentref02_May.f j l) (fun b => b = true → ∃ d, Tr l d 0 l.length ∧ Ok d 0 ∧ d.kind = 1) := by
  simp only [detentref02_May.f]
  refine Evx.ite (fun h => ?_) fun _ => Evx.now _ (fun h => by cases h)
  refine Evx.ite (fun _ => ?_) fun h' => absurd h h'
  refine Evx.ite (fun h1 => ?_) fun _ => Evx.now _ (fun h => by cases h)
  refine Evx.bind (goes_evx l hl htx _ 0 0 rfl (by omega) (by omega) (by omega)) fun r hr => Evx.now _ fun hb => ?_
  have hb : r = l.length := by simpa using hb
  rcases hr with hr | ⟨_, _, d, hT, hO⟩
  · omega
  · rw [hb] at hT
    exact ⟨d, hT, hO, by rw [← hT.kind.1]; exact h1⟩
end
end Go.Proofs.YtbpefmidgfmcaaaDoor
end
section
set_option linter.unusedVariables false
set_option linter.unusedSimpArgs false
namespace Go.Proofs.YtbpefmidgfmcaaaDoor
open Go.RowKit PTreeApart Go.Proofs.YtbpefmidgfmcaaaDoorW.PrintWords
theorem binds_le (k : Int) (t : ByteArray) : 0 ≤ binds k t ∧ binds k t ≤ 5 := by
  unfold binds
  split <;> (try split) <;> (try split) <;> (try split) <;> omega
theorem text_ne {t : ByteArray} {w : List UInt8} (h : ¬ t.data.toList = w) : (t.toList == w) = false := by
  rw [Lib.toList_data]; simpa using h
theorem text_eq {t : ByteArray} {w : List UInt8} (h : t.data.toList = w) : (t.toList == w) = true := by
  rw [Lib.toList_data]; simpa using h
set_option maxHeartbeats 4000000 in
set_option maxRecDepth 100000 in
theorem binds_any (k : Int) (t : ByteArray) (n ln cl : Int) (A : Option Addr) (c : Nat) (kl : List Int) (w : World) (hr : Kd.C (Kd.int .i64) w A kl.length kl) (hc : kl.length ≤ c) :
    Calls Tryd.prog 55 #[.agg #[.int .i64 k, .string t, .int .i64 n, .int .i64 ln, .int .i64 cl, .slice A kl.length c]] w fun e w' => e = .returned (.int .i64 (binds k t)) ∧ Below w.heap.size w w' := by
  clear hr hc
  have hB : ∀ o, Below w.heap.size w (w.alloc o) := fun o => (Below.refl _ _).alloc (Nat.le_refl _) o
  have HB := As.mk hB
  clear hB
  by_cases h32 : k = 32
  · subst h32
    by_cases a : t.data.toList = [60]
    · have e : binds 32 t = 1 := by unfold binds; rw [if_pos rfl, if_pos (.inl a)]
      have a1 := text_eq a
      rw [e]
      clear e a
      go_enter Tryd.func55, Tryd.ntmps55
      go_wp2
      go_ret
      exact ⟨rfl, HB.out _⟩
    · have a1 := text_ne a
      by_cases b : t.data.toList = [61, 61]
      · have e : binds 32 t = 1 := by unfold binds; rw [if_pos rfl, if_pos (.inr b)]
        have b1 := text_eq b
        rw [e]
        clear e a b
        go_enter Tryd.func55, Tryd.ntmps55
        go_wp2
        go_ret
        exact ⟨rfl, HB.out _⟩
      · have b1 := text_ne b
        have ab : ¬ (t.data.toList = [60] ∨ t.data.toList = [61, 61]) := fun h => h.elim a b
        by_cases p : t.data.toList = [43]
        · have e : binds 32 t = 2 := by unfold binds; rw [if_pos rfl, if_neg ab, if_pos (.inl p)]
          have p1 := text_eq p
          rw [e]
          clear e a b ab p
          go_enter Tryd.func55, Tryd.ntmps55
          go_wp2
          go_ret
          exact ⟨rfl, HB.out _⟩
        · have p1 := text_ne p
          by_cases q : t.data.toList = [45]
          · have e : binds 32 t = 2 := by unfold binds; rw [if_pos rfl, if_neg ab, if_pos (.inr q)]
            have q1 := text_eq q
            rw [e]
            clear e a b ab p q
            go_enter Tryd.func55, Tryd.ntmps55
            go_wp2
            go_ret
            exact ⟨rfl, HB.out _⟩
          · have e : binds 32 t = 3 := by unfold binds; rw [if_pos rfl, if_neg ab, if_neg (fun h => h.elim p q)]
            have q1 := text_ne q
            rw [e]
            clear e a b ab p q
            go_enter Tryd.func55, Tryd.ntmps55
            go_wp2
            go_ret
            exact ⟨rfl, HB.out _⟩
  · have k32 : (k == 32) = false := by simpa using h32
    by_cases h34 : k = 34
    · subst h34
      rw [show binds 34 t = 4 from rfl]
      go_enter Tryd.func55, Tryd.ntmps55
      go_wp2
      go_ret
      exact ⟨rfl, HB.out _⟩
    · have k34 : (k == 34) = false := by simpa using h34
      by_cases h35 : k = 35
      · subst h35
        rw [show binds 35 t = 4 from rfl]
        go_enter Tryd.func55, Tryd.ntmps55
        go_wp2
        go_ret
        exact ⟨rfl, HB.out _⟩
      · have k35 : (k == 35) = false := by simpa using h35
        by_cases ht : 26 ≤ k ∧ k ≤ 36
        · have e : binds k t = 5 := by unfold binds; rw [if_neg h32, if_neg (fun h => h.elim h34 h35), if_pos ht]
          have hf : tree_Term.f k = some true := by unfold tree_Term.f; rw [if_pos ht.1, decide_eq_true ht.2]
          have HF := As.mk hf
          rw [e]
          clear e ht hf h32 h34 h35
          go_enter Tryd.func55, Tryd.ntmps55
          go_wp2_with fail
          refine (tree_Term.calls k true _ HF.out).mono ?_
          rintro e w' ⟨rfl, hd⟩
          have HB2 := As.mk (Below.trans (HB.out _) (hd.below.mono (HB.out _).size))
          clear hd
          go_wp2
          go_ret
          exact ⟨rfl, HB2.out⟩
        · have e : binds k t = 0 := by unfold binds; rw [if_neg h32, if_neg (fun h => h.elim h34 h35), if_neg ht]
          have hf : tree_Term.f k = some false := by
            unfold tree_Term.f
            by_cases h1 : 26 ≤ k
            · rw [if_pos h1, decide_eq_false (fun h2 => ht ⟨h1, h2⟩)]
            · rw [if_neg h1]
          have HF := As.mk hf
          rw [e]
          clear e ht hf h32 h34 h35
          go_enter Tryd.func55, Tryd.ntmps55
          go_wp2_with fail
          refine (tree_Term.calls k false _ HF.out).mono ?_
          rintro e w' ⟨rfl, hd⟩
          have HB2 := As.mk (Below.trans (HB.out _) (hd.below.mono (HB.out _).size))
          clear hd
          go_wp2
          go_ret
          exact ⟨rfl, HB2.out⟩
theorem binds_zero (k : Int) (t : ByteArray) (n ln cl : Int) (A : Option Addr) (c : Nat) (kl : List Int) (w : World) (hz : binds k t = 0) (hr : Kd.C (Kd.int .i64) w A kl.length kl) (hc : kl.length ≤ c) :
    Calls Tryd.prog 55 #[.agg #[.int .i64 k, .string t, .int .i64 n, .int .i64 ln, .int .i64 cl, .slice A kl.length c]] w fun e w' => e = .returned (.int .i64 0) ∧ Below w.heap.size w w' := by
  have := binds_any k t n ln cl A c kl w hr hc
  rw [hz] at this
  exact this
set_option maxHeartbeats 4000000 in
set_option maxRecDepth 100000 in
theorem must_any (k : Int) (t : ByteArray) (n ln cl : Int) (A : Option Addr) (c : Nat) (kl : List Int) (i : Nat) (w : World) (hr : Kd.C (Kd.int .i64) w A kl.length kl) (hc : kl.length ≤ c) (hi : i < 1000000) :
    Calls Tryd.prog 56 #[.agg #[.int .i64 k, .string t, .int .i64 n, .int .i64 ln, .int .i64 cl, .slice A kl.length c], .int .i64 (i : Int)] w fun e w' => e = .returned (.int .i64 (must k t i)) ∧ Below w.heap.size w w' := by
  have hB : ∀ o, Below w.heap.size w (w.alloc o) := fun o => (Below.refl _ _).alloc (Nat.le_refl _) o
  have HB := As.mk hB
  have HH := As.mk (And.intro hr hc)
  clear hB hr hc
  by_cases h32 : k = 32
  · subst h32
    have hle := binds_le 32 t
    by_cases h1 : binds 32 t = 1
    · rw [show must 32 t i = 2 by unfold must; rw [if_pos rfl, if_pos h1]]
      have H1 := As.mk h1
      clear h1 hle
      go_enter Tryd.func56, Tryd.ntmps56
      go_wp2_with fail
      refine (binds_any 32 t n ln cl A c kl _ (Kd.C_below HH.out.1 (HB.out _)) HH.out.2).mono ?_
      rw [H1.out]
      rintro e w' ⟨rfl, hb⟩
      have HB2 := As.mk (Below.trans (HB.out _) (hb.mono (HB.out _).size))
      clear hb
      go_wp2
      go_ret
      exact ⟨rfl, HB2.out⟩
    · rw [show must 32 t i = binds 32 t + i by unfold must; rw [if_pos rfl, if_neg h1]]
      have hne : (binds 32 t == 1) = false := by simpa using h1
      go_enter Tryd.func56, Tryd.ntmps56
      go_upto_region 1 with (fail)
      have hQ : (w.alloc (.cells #[.int .i64 32, .string t, .int .i64 n, .int .i64 ln, .int .i64 cl, .slice A kl.length c] 33)).heap[w.heap.size]? = some (.cells #[.int .i64 32, .string t, .int .i64 n, .int .i64 ln, .int .i64 cl, .slice A kl.length c] 33 (0, 0)) := by show (w.heap.push _)[w.heap.size]? = _; simp
      have hlt : w.heap.size < (w.alloc (.cells #[.int .i64 32, .string t, .int .i64 n, .int .i64 ln, .int .i64 cl, .slice A kl.length c] 33)).heap.size := by show w.heap.size < (w.heap.push _).size; simp
      have hb1 := HB.out (.cells #[.int .i64 32, .string t, .int .i64 n, .int .i64 ln, .int .i64 cl, .slice A kl.length c] 33)
      generalize w.alloc (.cells #[.int .i64 32, .string t, .int .i64 n, .int .i64 ln, .int .i64 cl, .slice A kl.length c] 33) = w1 at *
      obtain ⟨g, hg⟩ : ∃ g, g = w.heap.size := ⟨_, rfl⟩
      rw [← hg] at hQ hlt ⊢
      clear hg
      have q0 : w1.cell? ⟨g, 0, none⟩ = some (.int .i64 32) := by rw [Lib.cell_of_heap hQ]; rfl
      have q1 : w1.cell? ⟨g, 1, none⟩ = some (.string t) := by rw [Lib.cell_of_heap hQ]; rfl
      have q2 : w1.cell? ⟨g, 2, none⟩ = some (.int .i64 n) := by rw [Lib.cell_of_heap hQ]; rfl
      have q3 : w1.cell? ⟨g, 3, none⟩ = some (.int .i64 ln) := by rw [Lib.cell_of_heap hQ]; rfl
      have q4 : w1.cell? ⟨g, 4, none⟩ = some (.int .i64 cl) := by rw [Lib.cell_of_heap hQ]; rfl
      have q5 : w1.cell? ⟨g, 5, none⟩ = some (.slice A kl.length c) := by rw [Lib.cell_of_heap hQ]; rfl
      have HQ := As.mk hQ
      have HB1 := As.mk hb1
      have HLT := As.mk hlt
      clear hQ hb1 hlt
      go_wp2_with fail
      refine (binds_any 32 t n ln cl A c kl _ (Kd.C_below HH.out.1 HB1.out) HH.out.2).mono ?_
      rintro e w2 ⟨rfl, hb⟩
      have hQ2 := (hb.block g HLT.out).trans HQ.out
      have HB2 := As.mk (Below.trans HB1.out (hb.mono HB1.out.size))
      clear hb q0 q1 q2 q3 q4 q5
      have q0 : w2.cell? ⟨g, 0, none⟩ = some (.int .i64 32) := by rw [Lib.cell_of_heap hQ2]; rfl
      have q1 : w2.cell? ⟨g, 1, none⟩ = some (.string t) := by rw [Lib.cell_of_heap hQ2]; rfl
      have q2 : w2.cell? ⟨g, 2, none⟩ = some (.int .i64 n) := by rw [Lib.cell_of_heap hQ2]; rfl
      have q3 : w2.cell? ⟨g, 3, none⟩ = some (.int .i64 ln) := by rw [Lib.cell_of_heap hQ2]; rfl
      have q4 : w2.cell? ⟨g, 4, none⟩ = some (.int .i64 cl) := by rw [Lib.cell_of_heap hQ2]; rfl
      have q5 : w2.cell? ⟨g, 5, none⟩ = some (.slice A kl.length c) := by rw [Lib.cell_of_heap hQ2]; rfl
      have HQ2 := As.mk hQ2
      clear hQ2
      go_wp2_with fail
      refine (binds_any 32 t n ln cl A c kl _ (Kd.C_below HH.out.1 HB2.out) HH.out.2).mono ?_
      rintro e w3 ⟨rfl, hb⟩
      have HB3 := As.mk (Below.trans HB2.out (hb.mono HB2.out.size))
      clear hb q0 q1 q2 q3 q4 q5
      go_wp2
      go_ret
      exact ⟨rfl, HB3.out⟩
  · have k32 : (k == 32) = false := by simpa using h32
    by_cases h34 : k = 34
    · subst h34
      rw [show must 34 t i = 4 from rfl]
      go_enter Tryd.func56, Tryd.ntmps56
      go_wp2
      go_ret
      exact ⟨rfl, HB.out _⟩
    · have k34 : (k == 34) = false := by simpa using h34
      by_cases h35 : k = 35
      · subst h35
        rw [show must 35 t i = 4 from rfl]
        go_enter Tryd.func56, Tryd.ntmps56
        go_wp2
        go_ret
        exact ⟨rfl, HB.out _⟩
      · have k35 : (k == 35) = false := by simpa using h35
        by_cases h30 : k = 30
        · subst h30
          rw [show must 30 t i = 5 by simp [must]]
          go_enter Tryd.func56, Tryd.ntmps56
          go_wp2
          go_ret
          exact ⟨rfl, HB.out _⟩
        · have k30 : (k == 30) = false := by simpa using h30
          by_cases h31 : k = 31
          · subst h31
            by_cases hz : i = 0
            · subst hz
              rw [show must 31 t 0 = 5 by simp [must]]
              go_enter Tryd.func56, Tryd.ntmps56
              go_wp2
              go_ret
              exact ⟨rfl, HB.out _⟩
            · rw [show must 31 t i = 0 by simp [must, hz]]
              have hz2 : ((i : Int) == 0) = false := by simp; omega
              have hz3 : decide (i = 0) = false := decide_eq_false hz
              go_enter Tryd.func56, Tryd.ntmps56
              go_wp2
              go_ret
              exact ⟨rfl, HB.out _⟩
          · have k31 : (k == 31) = false := by simpa using h31
            rw [show must k t i = 0 by simp [must, h32, h34, h35, h30, h31]]
            go_enter Tryd.func56, Tryd.ntmps56
            go_wp2
            go_ret
            exact ⟨rfl, HB.out _⟩
end Go.Proofs.YtbpefmidgfmcaaaDoor
end
section
namespace Go.Proofs.YtbpefmidgfmcaaaDoor.PTreeApart
open Go.RowKit Go.Proofs.YtbpefmidgfmcaaaDoorW.PrintWords Go.Proofs.YtbpefmidgfmcaaaDoorW.PrintLast Go.Proofs.YtbpefmidgfmcaaaDoorW.PrintMore
set_option linter.unusedVariables false
set_option linter.unusedSimpArgs false
def tree_statement.f (a0 : Int) : Option (Bool) := if a0 ≥ 13 then (some (decide (a0 ≤ 25))) else (some false)
set_option maxHeartbeats 8000000 in
set_option maxRecDepth 100000 in
theorem tree_statement.calls (a0 : Int) (r : Bool) (w : World) (h : tree_statement.f a0 = some r) :
    Calls Tryd.prog 21 #[.int .i64 a0] w fun e w' => e = .returned (.bool r) ∧ D0w w w' := by
  have H : (if a0 ≥ 13 then (some (decide (a0 ≤ 25))) else (some false)) = some r := h
  clear h
  by_cases c2 : a0 ≥ 13
  · rw [if_pos c2] at H
    have c2b0 : decide (13 ≤ a0) = true := decide_eq_true c2
    clear c2
    obtain rfl := Option.some.inj H
    go_enter Tryd.func21, Tryd.ntmps21
    go_wp2
    go_ret
    exact ⟨by first | rfl | (simp; done) | (simp [*]; done), by repeat (first | exact D0w.refl _ | apply D0w.step)⟩
  · rw [if_neg c2] at H
    have c2b0 : decide (13 ≤ a0) = false := decide_eq_false c2
    clear c2
    obtain rfl := Option.some.inj H
    go_enter Tryd.func21, Tryd.ntmps21
    go_wp2
    go_ret
    exact ⟨by first | rfl | (simp; done) | (simp [*]; done), by repeat (first | exact D0w.refl _ | apply D0w.step)⟩
def token_digit.f (a0 : Int) : Option (Bool) := if a0 ≥ 48 then (some (decide (a0 ≤ 57))) else (some false)
set_option maxHeartbeats 8000000 in
set_option maxRecDepth 100000 in
theorem token_digit.calls (a0 : Int) (r : Bool) (w : World) (h : token_digit.f a0 = some r) :
    Calls Tryd.prog 68 #[.int .u8 a0] w fun e w' => e = .returned (.bool r) ∧ D0w w w' := by
  have H : (if a0 ≥ 48 then (some (decide (a0 ≤ 57))) else (some false)) = some r := h
  clear h
  by_cases c2 : a0 ≥ 48
  · rw [if_pos c2] at H
    have c2b0 : decide (48 ≤ a0) = true := decide_eq_true c2
    clear c2
    obtain rfl := Option.some.inj H
    go_enter Tryd.func68, Tryd.ntmps68
    go_wp2
    go_ret
    exact ⟨by first | rfl | (simp; done) | (simp [*]; done), by repeat (first | exact D0w.refl _ | apply D0w.step)⟩
  · rw [if_neg c2] at H
    have c2b0 : decide (48 ≤ a0) = false := decide_eq_false c2
    clear c2
    obtain rfl := Option.some.inj H
    go_enter Tryd.func68, Tryd.ntmps68
    go_wp2
    go_ret
    exact ⟨by first | rfl | (simp; done) | (simp [*]; done), by repeat (first | exact D0w.refl _ | apply D0w.step)⟩
def token_letter.f (a0 : Int) : Option (Bool) := if a0 = 95 then (some true) else (if (Go.bits .or .u8 a0 32) ≥ 97 then (some (decide ((Go.bits .or .u8 a0 32) ≤ 122))) else (some false))
set_option maxHeartbeats 8000000 in
set_option maxRecDepth 100000 in
theorem token_letter.calls (a0 : Int) (r : Bool) (w : World) (h : token_letter.f a0 = some r) :
    Calls Tryd.prog 70 #[.int .u8 a0] w fun e w' => e = .returned (.bool r) ∧ D0w w w' := by
  have H : (if a0 = 95 then (some true) else (if (Go.bits .or .u8 a0 32) ≥ 97 then (some (decide ((Go.bits .or .u8 a0 32) ≤ 122))) else (some false))) = some r := h
  clear h
  by_cases c2 : a0 = 95
  · rw [if_pos c2] at H
    have c2b0 : (a0 == 95) = true := beq_iff_eq.mpr c2
    have c2b1 : (a0 != 95) = false := bne_eq_false_iff_eq.mpr c2
    clear c2
    obtain rfl := Option.some.inj H
    go_enter Tryd.func70, Tryd.ntmps70
    go_wp2
    go_ret
    exact ⟨by first | rfl | (simp; done) | (simp [*]; done), by repeat (first | exact D0w.refl _ | apply D0w.step)⟩
  · rw [if_neg c2] at H
    have c2b0 : (a0 == 95) = false := beq_eq_false_iff_ne.mpr c2
    have c2b1 : (a0 != 95) = true := bne_iff_ne.mpr c2
    by_cases c3 : (Go.bits .or .u8 a0 32) ≥ 97
    · rw [if_pos c3] at H
      have c3b0 : decide (97 ≤ (Go.bits .or .u8 a0 32)) = true := decide_eq_true c3
      clear c3
      obtain rfl := Option.some.inj H
      go_enter Tryd.func70, Tryd.ntmps70
      go_wp2
      go_ret
      exact ⟨by first | rfl | (simp; done) | (simp [*]; done), by repeat (first | exact D0w.refl _ | apply D0w.step)⟩
    · rw [if_neg c3] at H
      have c3b0 : decide (97 ≤ (Go.bits .or .u8 a0 32)) = false := decide_eq_false c3
      clear c3
      obtain rfl := Option.some.inj H
      go_enter Tryd.func70, Tryd.ntmps70
      go_wp2
      go_ret
      exact ⟨by first | rfl | (simp; done) | (simp [*]; done), by repeat (first | exact D0w.refl _ | apply D0w.step)⟩
def slices_Index_string_string.l0 : Nat → List ByteArray → ByteArray → Int → Int → Option (Int)
  | 0, _, _, _, _ => none
  | k + 1, x0, x1, x7, x8 => if x8 < x7 then (if 0 ≤ x8 then (if x8 < (x0.length : Int) then (if x1.toList = (rdOf ByteArray.empty x0 x8).toList then (some x8) else (slices_Index_string_string.l0 k x0 x1 x7 (wrap64 (x8 + 1)))) else (none)) else (none)) else (some (-1))
def slices_Index_string_string.f (k : Nat) (l0 : List ByteArray) (a1 : ByteArray) : Option (Int) := slices_Index_string_string.l0 k l0 a1 (l0.length : Int) 0
set_option maxHeartbeats 8000000 in
set_option maxRecDepth 100000 in
theorem slices_Index_string_string.calls (k : Nat) (A0 : Option Addr) (c0 : Nat) (l0 : List ByteArray) (a1 : ByteArray) (r : Int) (w : World) (hr0 : Kd.C Kd.string w A0 l0.length l0) (hc0 : l0.length ≤ c0) (h : slices_Index_string_string.f k l0 a1 = some r) :
    Calls Tryd.prog 71 #[.slice A0 l0.length c0, .string a1] w fun e w' => e = .returned (.int .i64 r) ∧ D0w w w' := by
  have HR0 := As.mk hr0
  have HC0 := As.mk hc0
  clear hr0 hc0
  have H : (slices_Index_string_string.l0 k l0 a1 (l0.length : Int) 0) = some r := h
  clear h
  have H' := As.mk H
  clear H
  go_enter Tryd.func71, Tryd.ntmps71
  go_wp2
  go_loopg [8] k (fun kq v8 w' => ∃ (x8_1 : Int), v8 = .int .i64 x8_1 ∧ As (slices_Index_string_string.l0 kq l0 a1 (l0.length : Int) x8_1 = some r) ∧ As (kq ≤ k) ∧ D0w w w')
  case atStart => exact ⟨(0), (by first | rfl | (simp; done) | (simp [*]; done)), H', ⟨Nat.le_refl _⟩, by repeat (first | exact D0w.refl _ | apply D0w.step)⟩
  case round =>
    clear H'
    try clear p2
    obtain ⟨x8_1, rfl, HA, HK1, ⟨m1, rfl⟩⟩ := hrel
    cases gk with
    | zero => exact absurd HA.out (by simp [slices_Index_string_string.l0])
    | succ k1 =>
      have H := HA.out
      clear HA
      simp only [slices_Index_string_string.l0] at H
      by_cases c3 : x8_1 < (l0.length : Int)
      · rw [if_pos c3] at H
        have c3b0 : decide (x8_1 < (l0.length : Int)) = true := decide_eq_true c3
        clear c3
        by_cases c4 : 0 ≤ x8_1
        · rw [if_pos c4] at H
          have c4b0 : decide (0 ≤ x8_1) = true := decide_eq_true c4
          clear c4
          by_cases c5 : x8_1 < (l0.length : Int)
          · rw [if_pos c5] at H
            have c5b0 : decide (x8_1 < (l0.length : Int)) = true := decide_eq_true c5
            clear c5
            by_cases c6 : a1.toList = (rdOf ByteArray.empty l0 x8_1).toList
            · rw [if_pos c6] at H
              have c6b0 : (a1.toList == (rdOf ByteArray.empty l0 x8_1).toList) = true := beq_iff_eq.mpr c6
              have c6b1 : (a1.toList != (rdOf ByteArray.empty l0 x8_1).toList) = false := bne_eq_false_iff_eq.mpr c6
              clear c6
              obtain rfl := Option.some.inj H
              have p224 : 0 ≤ (x8_1 : Int) := of_decide_eq_true (by first | (with_reducible assumption) | assumption)
              have q224 : x8_1 < (l0.length : Int) := of_decide_eq_true (by first | (with_reducible assumption) | assumption)
              obtain ⟨ad224, e224, hx224_0⟩ := Kd.at_string HR0.out x8_1 p224 q224
              cases e224
              replace p224 := eq_true p224
              replace q224 := eq_true q224
              go_wp2
              go_ret
              exact ⟨by first | rfl | (simp; done) | (simp [*]; done), by repeat (first | exact D0w.refl _ | apply D0w.step)⟩
            · rw [if_neg c6] at H
              have c6b0 : (a1.toList == (rdOf ByteArray.empty l0 x8_1).toList) = false := beq_eq_false_iff_ne.mpr c6
              have c6b1 : (a1.toList != (rdOf ByteArray.empty l0 x8_1).toList) = true := bne_iff_ne.mpr c6
              have H' := As.mk H
              clear H
              have p224 : 0 ≤ (x8_1 : Int) := of_decide_eq_true (by first | (with_reducible assumption) | assumption)
              have q224 : x8_1 < (l0.length : Int) := of_decide_eq_true (by first | (with_reducible assumption) | assumption)
              obtain ⟨ad224, e224, hx224_0⟩ := Kd.at_string HR0.out x8_1 p224 q224
              cases e224
              replace p224 := eq_true p224
              replace q224 := eq_true q224
              go_wp2
              go_roundg k1
              case measure => have := HK1.out; omega
              case rel => exact ⟨(wrap64 (x8_1 + 1)), (by first | rfl | (simp; done) | (simp [*]; done)), H', ⟨by have := HK1.out; omega⟩, by repeat (first | exact D0w.refl _ | apply D0w.step)⟩
          · rw [if_neg c5] at H
            exact absurd H (by simp)
        · rw [if_neg c4] at H
          exact absurd H (by simp)
      · rw [if_neg c3] at H
        have c3b0 : decide (x8_1 < (l0.length : Int)) = false := decide_eq_false c3
        clear c3
        obtain rfl := Option.some.inj H
        go_wp2
        go_ret
        exact ⟨by first | rfl | (simp; done) | (simp [*]; done), by repeat (first | exact D0w.refl _ | apply D0w.step)⟩
def slices_Contains_string_string.f (k : Nat) (l0 : List ByteArray) (a1 : ByteArray) : Option (Bool) := (slices_Index_string_string.f k l0 a1).bind fun t225 => (some (decide (t225 ≥ 0)))
set_option maxHeartbeats 8000000 in
set_option maxRecDepth 100000 in
theorem slices_Contains_string_string.calls (k : Nat) (A0 : Option Addr) (c0 : Nat) (l0 : List ByteArray) (a1 : ByteArray) (r : Bool) (w : World) (hr0 : Kd.C Kd.string w A0 l0.length l0) (hc0 : l0.length ≤ c0) (h : slices_Contains_string_string.f k l0 a1 = some r) :
    Calls Tryd.prog 62 #[.slice A0 l0.length c0, .string a1] w fun e w' => e = .returned (.bool r) ∧ D0w w w' := by
  have HR0 := As.mk hr0
  have HC0 := As.mk hc0
  clear hr0 hc0
  have H : ((slices_Index_string_string.f k l0 a1).bind fun t225 => (some (decide (t225 ≥ 0)))) = some r := h
  clear h
  replace H := Option.bind_eq_some_iff.mp H
  obtain ⟨t225, A30, H⟩ := H
  replace H : (some (decide (t225 ≥ 0))) = some r := H
  have A3 := As.mk A30
  clear A30
  obtain rfl := Option.some.inj H
  go_enter Tryd.func62, Tryd.ntmps62
  go_wp2_with (first | ((with_reducible refine gate_callee (f := 71) rfl ?_); refine goesL_ (some 7) rfl rfl Tryd.func71 (by kernel_rfl) rfl #[.slice A0 l0.length c0, .string a1] rfl (by (try simp only [List.map_toArray, List.map_cons, List.map_nil]); first | done | rfl | (simp only [List.length_drop, List.length_take]; rfl)) ?_; (with_reducible refine (slices_Index_string_string.calls k _ _ l0 a1 t225 _ ?side1 ?side2 A3.out).mono ?_); (case side1 => repeat (first | exact HR0.out | (with_reducible refine Kd.C_alloc ?_ _) | (with_reducible refine Kd.C_drewN ?_ _) | (with_reducible refine Kd.C_drew ?_))); (case side2 => exact HC0.out); rintro e w' ⟨rfl, ⟨nd, rfl⟩⟩; refine ⟨_, rfl, ?_⟩))
  go_ret
  exact ⟨by first | rfl | (simp; done) | (simp [*]; done), by repeat (first | exact D0w.refl _ | apply D0w.step)⟩
def tree_op.f (k : Nat) (a0 : ByteArray) : Option (Bool) := (slices_Contains_string_string.f k (([(⟨#[43]⟩ : ByteArray), (⟨#[45]⟩ : ByteArray), (⟨#[42]⟩ : ByteArray), (⟨#[60]⟩ : ByteArray), (⟨#[61, 61]⟩ : ByteArray)] : List ByteArray)) a0).bind fun t232 => (some t232)
set_option maxHeartbeats 8000000 in
set_option maxRecDepth 100000 in
theorem tree_op.calls (k : Nat) (a0 : ByteArray) (r : Bool) (w : World) (h : tree_op.f k a0 = some r) :
    Calls Tryd.prog 41 #[.string a0] w fun e w' => e = .returned (.bool r) ∧ Below w.heap.size w w' := by
  have HB := As.mk (Below.refl w.heap.size w)
  have H : ((slices_Contains_string_string.f k (([(⟨#[43]⟩ : ByteArray), (⟨#[45]⟩ : ByteArray), (⟨#[42]⟩ : ByteArray), (⟨#[60]⟩ : ByteArray), (⟨#[61, 61]⟩ : ByteArray)] : List ByteArray)) a0).bind fun t232 => (some t232)) = some r := h
  clear h
  obtain ⟨y229, hy229⟩ : ∃ y_ : List ByteArray, y_ = (([(⟨#[43]⟩ : ByteArray), (⟨#[45]⟩ : ByteArray), (⟨#[42]⟩ : ByteArray), (⟨#[60]⟩ : ByteArray), (⟨#[61, 61]⟩ : ByteArray)] : List ByteArray)) := ⟨_, rfl⟩
  replace H : ((slices_Contains_string_string.f k y229 a0).bind fun t232 => (some t232)) = some r := by first | (rw [hy229]; with_reducible exact H) | (have H2_ := (Option.bind_some _ _).symm.trans H; rw [hy229]; with_reducible exact H2_) | (have H2_ := (Option.bind_some _ _).symm.trans H; with_reducible exact H2_) | with_reducible exact H | (rw [hy229]; exact H) | exact H
  have Ny229 := As.mk hy229
  clear hy229
  replace H := Option.bind_eq_some_iff.mp H
  obtain ⟨t232, A20, H⟩ := H
  replace H : (some t232) = some r := H
  have A2 := As.mk A20
  clear A20
  obtain rfl := Option.some.inj H
  go_enter Tryd.func41, Tryd.ntmps41
  go_wp2_with (first | ((with_reducible refine gate_dst (N := 3) rfl ?_); refine Kd.R_lit Kd.string _ 9 ?hg (N := 3) ?hd (xs := ([(⟨#[43]⟩ : ByteArray), (⟨#[45]⟩ : ByteArray), (⟨#[42]⟩ : ByteArray), (⟨#[60]⟩ : ByteArray), (⟨#[61, 61]⟩ : ByteArray)] : List ByteArray)) (inner := [.string (⟨#[43]⟩ : ByteArray), .string (⟨#[45]⟩ : ByteArray), .string (⟨#[42]⟩ : ByteArray), .string (⟨#[60]⟩ : ByteArray), .string (⟨#[61, 61]⟩ : ByteArray)]) (ok := fun _ => True) (okp := fun _ => True) ?hr ?hp (fun _ hk => hk) trivial (Below.refl _ _) (Nat.le_refl _) (by simp) ?_; (case hd => rfl); (case hg => rfl); (case hr => first | (go_simp; done) | (go_simp; rfl)); (case hp => exact (Reps.one (show Kd.M Kd.string _ _ _ (⟨#[43]⟩ : ByteArray) [.string (⟨#[43]⟩ : ByteArray)] from rfl) (Reps.one (show Kd.M Kd.string _ _ _ (⟨#[45]⟩ : ByteArray) [.string (⟨#[45]⟩ : ByteArray)] from rfl) (Reps.one (show Kd.M Kd.string _ _ _ (⟨#[42]⟩ : ByteArray) [.string (⟨#[42]⟩ : ByteArray)] from rfl) (Reps.one (show Kd.M Kd.string _ _ _ (⟨#[60]⟩ : ByteArray) [.string (⟨#[60]⟩ : ByteArray)] from rfl) (Reps.one (show Kd.M Kd.string _ _ _ (⟨#[61, 61]⟩ : ByteArray) [.string (⟨#[61, 61]⟩ : ByteArray)] from rfl) (Reps.none _ _))))))); intro v230 w3 ho4 hb hg_ hnew_; clear hg_ hnew_; (first | rw [← Ny229.out] at ho4 | (simp only [Int.reduceToNat] at ho4; rw [← Ny229.out] at ho4)); have n0_ := As.mk (Kd.R_lower ho4 (bwz (by repeat (first | (with_reducible first | exact HB.out | apply bwa | apply bwn | apply bw1) | exact HB.out)))); have n1_ := As.mk (bwp (by repeat (first | (with_reducible first | exact HB.out | apply bwa | apply bwn | apply bw1) | exact HB.out)) hb); clear HB; have HO231 := n0_; have HB := n1_; clear n0_ n1_; clear hb ho4; obtain ⟨Ao5, co5, eo5⟩ := Kd.R_slice HO231.out; subst eo5) | ((with_reducible refine gate_callee (f := 62) rfl ?_); refine goesL_ (some 5) rfl rfl Tryd.func62 (by kernel_rfl) rfl #[.slice Ao5 y229.length co5, .string a0] rfl (by (try simp only [List.map_toArray, List.map_cons, List.map_nil]); first | done | rfl | (simp only [List.length_drop, List.length_take]; rfl)) ?_; (with_reducible refine (slices_Contains_string_string.calls k _ _ y229 a0 t232 _ ?side1 ?side2 A2.out).mono ?_); (case side1 => repeat (first | exact (Kd.R_reads' HO231.out).2.2 | (with_reducible refine Kd.C_alloc ?_ _) | (with_reducible refine Kd.C_drewN ?_ _) | (with_reducible refine Kd.C_drew ?_))); (case side2 => exact (Kd.R_reads' HO231.out).2.1); rintro e w' ⟨rfl, ⟨nd, rfl⟩⟩; refine ⟨_, rfl, ?_⟩))
  go_ret
  exact ⟨by first | rfl | (simp [errW_none, errW_some] <;> rfl) | (simp [*, errW_none, errW_some] <;> rfl), by repeat (first | (with_reducible first | exact HB.out | apply bwa | apply bwn | apply bw1) | exact HB.out)⟩
end Go.Proofs.YtbpefmidgfmcaaaDoor.PTreeApart
end
