import Derived.Test.YtbpefmidgfmcaaaDoorV6
import Derived.Lib.ItoaNum
section
set_option linter.unusedVariables false
set_option linter.unusedSimpArgs false
namespace Go.Proofs.YtbpefmidgfmcaaaDoor
open Go.RowKit PTreeApart Go.Proofs.YtbpefmidgfmcaaaDoorW.PrintWords
def wordc (c : UInt8) : Bool := letterB c || digitB c
def blankc (c : UInt8) : Bool := c == 32 || c == 10
/-- Does it begin with a word's letter; its words. -/
def tokR : List UInt8 → Bool × List (List UInt8)
  | [] => (false, [])
  | c :: cs => if wordc c then (true, if (tokR cs).1 then (c :: (tokR cs).2.headD []) :: (tokR cs).2.tail else [c] :: (tokR cs).2) else if blankc c then (false, (tokR cs).2) else (false, [c] :: (tokR cs).2)
abbrev Wd (s : List UInt8) : Bool := (tokR s).1
abbrev Tk (s : List UInt8) : List (List UInt8) := (tokR s).2
theorem wd_cons (c : UInt8) (s : List UInt8) (h : wordc c = false) : Wd (c :: s) = false := by
  simp only [Wd, tokR, h]
  by_cases hb : blankc c = true <;> simp [hb]
theorem tk_blank (c : UInt8) (s : List UInt8) (h : wordc c = false) (hb : blankc c = true) : Tk (c :: s) = Tk s := by
  simp [Tk, tokR, h, hb]
theorem tk_punct (c : UInt8) (s : List UInt8) (h : wordc c = false) (hb : blankc c = false) : Tk (c :: s) = [c] :: Tk s := by
  simp [Tk, tokR, h, hb]
theorem tk_word : ∀ (w s : List UInt8), w ≠ [] → w.all wordc = true → Wd s = false → Wd (w ++ s) = true ∧ Tk (w ++ s) = w :: Tk s
  | [c], s, _, h, hs => by
    have hc : wordc c = true := by simpa using h
    have hs' : (tokR s).1 = false := hs
    simp [Wd, Tk, tokR, hc, hs']
  | c :: d :: w, s, _, h, hs => by
    simp only [List.all_cons, Bool.and_eq_true] at h
    have ih := tk_word (d :: w) s (by simp) (by simp only [List.all_cons, Bool.and_eq_true]; exact h.2) hs
    obtain ⟨i1, i2⟩ := ih
    have i1' : (tokR ((d :: w) ++ s)).1 = true := i1
    have i2' : (tokR ((d :: w) ++ s)).2 = (d :: w) :: (tokR s).2 := i2
    constructor
    · show (tokR (c :: ((d :: w) ++ s))).1 = true
      rw [tokR]; simp [h.1]
    · show (tokR (c :: ((d :: w) ++ s))).2 = _
      rw [tokR]; simp only [h.1, if_true, i1', i2']; rfl
theorem tk_blanks : ∀ (ind s : List UInt8), (∀ c ∈ ind, c = 32) → Tk (ind ++ s) = Tk s
  | [], s, _ => rfl
  | c :: ind, s, h => by
    obtain rfl := h c List.mem_cons_self
    rw [List.cons_append, tk_blank _ _ (by decide) (by decide)]
    exact tk_blanks ind s fun x hx => h x (List.mem_cons_of_mem _ hx)
/-- A text that is one word. -/
def Word (w : List UInt8) : Prop := w ≠ [] ∧ w.all wordc = true
theorem Word.tk {w s : List UInt8} (h : Word w) (hs : Wd s = false) : Tk (w ++ s) = w :: Tk s := (tk_word w s h.1 h.2 hs).2
theorem name_word {s : List UInt8} (h : nameB s = true) : Word s := by
  simp only [nameB, Bool.and_eq_true, Bool.not_eq_true', List.isEmpty_eq_false_iff] at h
  exact ⟨h.1.1.1.1, h.2⟩
theorem type_word {s : List UInt8} (h : typeB s = true) : Word s := by
  simp only [typeB, Bool.or_eq_true, beq_iff_eq] at h
  rcases h with ((((h | h) | h) | h) | h) | h
  · exact name_word h
  all_goals (subst h; exact ⟨by decide, by decide⟩)
theorem dec_word (u : Nat) : Word (Lib.decDigits u) := by
  induction u using Nat.strongRecOn with
  | _ u ih =>
    rw [Lib.decDigits]
    have hd : ∀ i : Fin 10, wordc (UInt8.ofNat (48 + i.val)) = true := by decide
    split
    · rename_i h
      exact ⟨by simp, by rw [List.all_cons, hd ⟨u, h⟩]; rfl⟩
    · rename_i h
      have := ih (u / 10) (by omega)
      refine ⟨by simp, ?_⟩
      rw [List.all_append, this.2, List.all_cons, hd ⟨u % 10, by omega⟩]
      rfl
theorem itoa_word (n : Int) (h : 0 ≤ n) : Word (Lib.itoa n) := by
  rw [Lib.itoa, if_neg (by omega)]
  exact dec_word _
/-- Texts and their words, a kid each. -/
def Ws (X : List (List UInt8)) (Y : List (List (List UInt8))) : Prop :=
  X.length = Y.length ∧ ∀ j s, Wd s = false → Tk (X.getD j [] ++ s) = Y.getD j [] ++ Tk s
theorem Ws.nil : Ws [] [] := ⟨rfl, fun j s _ => by simp⟩
theorem Ws.cons {x : List UInt8} {y : List (List UInt8)} {X : List (List UInt8)} {Y : List (List (List UInt8))} (h : ∀ s, Wd s = false → Tk (x ++ s) = y ++ Tk s) (hX : Ws X Y) : Ws (x :: X) (y :: Y) :=
  ⟨by simp [hX.1], fun j s hs => by
    cases j with
    | zero => simpa using h s hs
    | succ j => simpa using hX.2 j s hs⟩
theorem Ws.drop1 {X : List (List UInt8)} {Y : List (List (List UInt8))} (h : Ws X Y) : Ws (X.drop 1) (Y.drop 1) := by
  obtain ⟨h1, h2⟩ := h
  refine ⟨by simp [h1], fun j s hs => ?_⟩
  have := h2 (1 + j) s hs
  simp only [List.getD_eq_getElem?_getD, List.getElem?_drop] at this ⊢
  exact this
theorem Ws.tail {x : List UInt8} {y : List (List UInt8)} {X : List (List UInt8)} {Y : List (List (List UInt8))} (h : Ws (x :: X) (y :: Y)) : (∀ s, Wd s = false → Tk (x ++ s) = y ++ Tk s) ∧ Ws X Y :=
  ⟨fun s hs => by simpa using h.2 0 s hs, by simpa using h.drop1⟩
theorem Ws.row : ∀ {X : List (List UInt8)} {Y : List (List (List UInt8))}, Ws X Y → ∀ s, Wd s = false → Wd ((X.map fun x => (32 : UInt8) :: x).flatten ++ s) = false ∧ Tk ((X.map fun x => (32 : UInt8) :: x).flatten ++ s) = Y.flatten ++ Tk s
  | [], [], _, s, hs => ⟨hs, rfl⟩
  | x :: X, y :: Y, h, s, hs => by
    obtain ⟨h1, h2⟩ := h.tail
    obtain ⟨r1, r2⟩ := Ws.row h2 s hs
    refine ⟨wd_cons _ _ (by decide), ?_⟩
    simp only [List.map_cons, List.flatten_cons, List.cons_append, List.append_assoc]
    rw [tk_blank _ _ (by decide) (by decide), h1 _ r1, r2]
  | [], y :: Y, h, _, _ => by have := h.1; simp at this
  | x :: X, [], h, _, _ => by have := h.1; simp at this
theorem Ws.lines {ind : List UInt8} (hi : ∀ c ∈ ind, c = 32) : ∀ {X : List (List UInt8)} {Y : List (List (List UInt8))}, Ws X Y → ∀ s, Tk (lines ind X ++ s) = Y.flatten ++ Tk s
  | [], [], _, s => rfl
  | x :: X, y :: Y, h, s => by
    obtain ⟨h1, h2⟩ := h.tail
    have r := Ws.lines hi h2 s
    have e : Go.Proofs.YtbpefmidgfmcaaaDoor.lines ind (x :: X) ++ s = ind ++ (x ++ (10 :: (Go.Proofs.YtbpefmidgfmcaaaDoor.lines ind X ++ s))) := by simp [Go.Proofs.YtbpefmidgfmcaaaDoor.lines]
    rw [e, tk_blanks _ _ hi, h1 _ (wd_cons _ _ (by decide)), tk_blank _ _ (by decide) (by decide), r]
    simp
  | [], y :: Y, h, _ => by have := h.1; simp at this
  | x :: X, [], h, _ => by have := h.1; simp at this
theorem Ws.braces {ind : List UInt8} (hi : ∀ c ∈ ind, c = 32) {X : List (List UInt8)} {Y : List (List (List UInt8))} (h : Ws X Y) (s : List UInt8) : Tk (bracesT ind X ++ s) = [123] :: (Y.flatten ++ ([125] :: Tk s)) := by
  unfold bracesT
  split
  · rename_i e
    subst e
    have : Y = [] := by have := h.1; simpa using this.symm
    subst this
    rw [List.cons_append, List.cons_append, List.cons_append, List.nil_append, tk_punct _ _ (by decide) (by decide), tk_blank _ _ (by decide) (by decide), tk_punct _ _ (by decide) (by decide)]
    rfl
  · have e : [123, 10] ++ Go.Proofs.YtbpefmidgfmcaaaDoor.lines (ind ++ [32, 32]) X ++ ind ++ [125] ++ s = 123 :: 10 :: (Go.Proofs.YtbpefmidgfmcaaaDoor.lines (ind ++ [32, 32]) X ++ (ind ++ (125 :: s))) := by simp
    rw [e, tk_punct _ _ (by decide) (by decide), tk_blank _ _ (by decide) (by decide), h.lines (fun c hc => by
      rcases List.mem_append.1 hc with h1 | h1
      · exact hi c h1
      · simpa using h1), tk_blanks _ _ hi, tk_punct _ _ (by decide) (by decide)]
end Go.Proofs.YtbpefmidgfmcaaaDoor
end
section
set_option linter.unusedVariables false
set_option linter.unusedSimpArgs false
namespace Go.Proofs.YtbpefmidgfmcaaaDoor
open Go.RowKit PTreeApart Go.Proofs.YtbpefmidgfmcaaaDoorW.PrintWords
def toY (Y : List (List (List UInt8))) : List (List UInt8) := if 1 < Y.length then [116, 111] :: Y.getD 1 [] else []
def whenY (n : Int) : List (List UInt8) := if n < 0 then [[102, 114, 111, 110, 116]] else if 0 < n then [[97, 102, 116, 101, 114], Lib.itoa n] else []
def elseY (el : Bool) (Y : List (List (List UInt8))) : List (List UInt8) := if el then [101, 108, 115, 101] :: Y.getD 2 [] else []
def onW (n : Int) : List UInt8 := if n = 0 then [111, 102, 102] else [111, 110]
/-- The words of a twig, of its kids' words. -/
def asmY (k : Int) (t : List UInt8) (n : Int) (el : Bool) (Y : List (List (List UInt8))) : List (List UInt8) :=
  if k = 1 then Y.flatten
  else if k = 2 then [[108, 111, 111, 112, 101, 114], t, [59]]
  else if k = 3 then [99, 108, 97, 115, 115] :: t :: [123] :: (Y.flatten ++ [[125]])
  else if k = 4 then t :: (Y.flatten ++ [[59]])
  else if k = 5 then [t]
  else if k = 6 then [118, 97, 114] :: t :: (Y.flatten ++ [[59]])
  else if k = 7 then [102, 110] :: t :: Y.flatten
  else if k = 8 then [99, 111, 109, 112] :: t :: [111, 110] :: (Y.getD 0 [] ++ ([123] :: ((Y.drop 1).flatten ++ [[125]])))
  else if k = 9 then lifeT n :: Y.flatten
  else if k = 10 then [101, 118, 101, 110, 116] :: t :: [111, 110] :: (Y.getD 0 [] ++ (onW n :: (Y.drop 1).flatten))
  else if k = 11 then [109, 97, 105, 110] :: Y.flatten
  else if k = 12 then [123] :: (Y.flatten ++ [[125]])
  else if k = 13 then [118, 97, 114] :: t :: (Y.getD 0 [] ++ ([61] :: (Y.getD 1 [] ++ [[59]])))
  else if k = 14 then Y.getD 0 [] ++ ([61] :: (Y.getD 1 [] ++ [[59]]))
  else if k = 15 then [99, 97, 108, 108] :: (Y.flatten ++ [[59]])
  else if k = 16 then [99, 97, 110, 99, 101, 108] :: (Y.flatten ++ [[59]])
  else if k = 17 then [106, 111, 105, 110] :: (Y.flatten ++ [[59]])
  else if k = 18 then [108, 111, 103] :: (Y.flatten ++ [[59]])
  else if k = 19 then [112, 111, 115, 116] :: t :: (Y.getD 0 [] ++ (whenY n ++ (toY Y ++ [[59]])))
  else if k = 20 then [115, 112, 97, 119, 110] :: (Y.getD 0 [] ++ (toY Y ++ [[59]]))
  else if k = 21 then [[101, 110, 97, 98, 108, 101], t, [59]]
  else if k = 22 then [[100, 105, 115, 97, 98, 108, 101], t, [59]]
  else if k = 23 then [105, 102] :: (Y.getD 0 [] ++ (Y.getD 1 [] ++ elseY el Y))
  else if k = 24 then [119, 104, 105, 108, 101] :: (Y.getD 0 [] ++ (Y.getD 1 [] ++ elseY el Y))
  else if k = 25 then [[114, 101, 116, 117, 114, 110], [59]]
  else if k = 26 then [Lib.itoa n]
  else if k = 27 then [[110, 117, 108, 108]]
  else if k = 28 then [[105, 116]]
  else if k = 29 then [t]
  else if k = 30 then Y.getD 0 [] ++ [[46], t]
  else if k = 31 then Y.getD 0 [] ++ ([91] :: (Y.getD 1 [] ++ [[93]]))
  else if k = 32 then Y.getD 0 [] ++ (t.map (fun c => [c]) ++ Y.getD 1 [])
  else if k = 33 then [[110, 101, 119], t]
  else if k = 34 then [97, 114, 114] :: Y.flatten
  else if k = 35 then [108, 101, 110] :: Y.flatten
  else if k = 36 then [102, 110] :: Y.flatten
  else []
def parY (p : Bool) (y : List (List UInt8)) : List (List UInt8) := if p then [40] :: (y ++ [[41]]) else y
mutual
/-- The words of a tree. -/
def tkd : Nd → List (List UInt8)
  | .mk k t n ks => asmY k t.data.toList n (third ks) (tks k t 0 ks)
def tks (k : Int) (t : ByteArray) (i : Nat) : List Nd → List (List (List UInt8))
  | [] => []
  | d :: ds => parY (par k t i d.kind d.text) (tkd d) :: tks k t (i + 1) ds
end
theorem word_lit {w : List UInt8} (h : (!w.isEmpty && w.all wordc) = true) : Word w := by
  simp only [Bool.and_eq_true, Bool.not_eq_true', List.isEmpty_eq_false_iff] at h
  exact h
theorem tkw {w : List UInt8} (s : List UInt8) (h : (!w.isEmpty && w.all wordc) = true) (hs : Wd s = false) : Tk (w ++ s) = w :: Tk s := (word_lit h).tk hs
theorem tk_op {t : List UInt8} (h : opB t = true) (s : List UInt8) : Tk (t ++ s) = t.map (fun c => [c]) ++ Tk s := by
  simp only [opB, Bool.or_eq_true, beq_iff_eq] at h
  rcases h with (((h | h) | h) | h) | h
  all_goals (subst h; simp only [List.cons_append, List.nil_append, List.map_cons, List.map_nil])
  all_goals (repeat rw [tk_punct _ _ (by decide) (by decide)])
theorem when_tk (n : Int) (s : List UInt8) (hs : Wd s = false) : Wd (whenT n ++ s) = false ∧ Tk (whenT n ++ s) = whenY n ++ Tk s := by
  unfold whenT whenY
  by_cases h : n < 0
  · rw [if_pos h, if_pos h]
    refine ⟨wd_cons _ _ (by decide), ?_⟩
    show Tk (32 :: ([102, 114, 111, 110, 116] ++ s)) = _
    rw [tk_blank _ _ (by decide) (by decide), tkw _ (by decide) hs]; rfl
  · rw [if_neg h, if_neg h]
    by_cases h0 : 0 < n
    · rw [if_pos h0, if_pos h0]
      refine ⟨wd_cons _ _ (by decide), ?_⟩
      show Tk (32 :: ([97, 102, 116, 101, 114] ++ (32 :: (Lib.itoa n ++ s)))) = _
      rw [tk_blank _ _ (by decide) (by decide), tkw _ (by decide) (wd_cons _ _ (by decide)), tk_blank _ _ (by decide) (by decide), (itoa_word n (by omega)).tk hs]; rfl
    · rw [if_neg h0, if_neg h0]
      exact ⟨hs, rfl⟩
theorem to_tk {X : List (List UInt8)} {Y : List (List (List UInt8))} (h : Ws X Y) (s : List UInt8) (hs : Wd s = false) : Wd (toT X ++ s) = false ∧ Tk (toT X ++ s) = toY Y ++ Tk s := by
  unfold toT toY
  rw [← h.1]
  by_cases h1 : 1 < X.length
  · rw [if_pos h1, if_pos h1]
    refine ⟨wd_cons _ _ (by decide), ?_⟩
    have e : [32, 116, 111, 32] ++ X.getD 1 [] ++ s = 32 :: ([116, 111] ++ (32 :: (X.getD 1 [] ++ s))) := by simp
    rw [e, tk_blank _ _ (by decide) (by decide), tkw _ (by decide) (wd_cons _ _ (by decide)), tk_blank _ _ (by decide) (by decide), h.2 1 _ hs]; rfl
  · rw [if_neg h1, if_neg h1]
    exact ⟨hs, rfl⟩
theorem else_tk {X : List (List UInt8)} {Y : List (List (List UInt8))} (el : Bool) (h : Ws X Y) (s : List UInt8) (hs : Wd s = false) : Wd (elseT el X ++ s) = false ∧ Tk (elseT el X ++ s) = elseY el Y ++ Tk s := by
  unfold elseT elseY
  by_cases h1 : el = true
  · rw [if_pos h1, if_pos h1]
    refine ⟨wd_cons _ _ (by decide), ?_⟩
    have e : [32, 101, 108, 115, 101, 32] ++ X.getD 2 [] ++ s = 32 :: ([101, 108, 115, 101] ++ (32 :: (X.getD 2 [] ++ s))) := by simp
    rw [e, tk_blank _ _ (by decide) (by decide), tkw _ (by decide) (wd_cons _ _ (by decide)), tk_blank _ _ (by decide) (by decide), h.2 2 _ hs]; rfl
  · rw [if_neg h1, if_neg h1]
    exact ⟨hs, rfl⟩
theorem life_word (n : Int) : Word (lifeT n) := by
  unfold lifeT
  repeat' split
  all_goals exact word_lit (by decide)
theorem on_row (n : Int) {X : List (List UInt8)} {Y : List (List (List UInt8))} (h : Ws X Y) (s : List UInt8) (hs : Wd s = false) : Wd (rowT (onT n) X ++ s) = false ∧ Tk (rowT (onT n) X ++ s) = onW n :: Y.flatten ++ Tk s := by
  unfold rowT onT onW
  by_cases h1 : n = 0
  · rw [if_pos h1, if_pos h1]
    refine ⟨wd_cons _ _ (by decide), ?_⟩
    have e : [32, 111, 102, 102] ++ (X.map fun s => (32 : UInt8) :: s).flatten ++ s = 32 :: ([111, 102, 102] ++ ((X.map fun s => (32 : UInt8) :: s).flatten ++ s)) := by simp
    rw [e, tk_blank _ _ (by decide) (by decide), tkw _ (by decide) (h.row s hs).1, (h.row s hs).2]; rfl
  · rw [if_neg h1, if_neg h1]
    refine ⟨wd_cons _ _ (by decide), ?_⟩
    have e : [32, 111, 110] ++ (X.map fun s => (32 : UInt8) :: s).flatten ++ s = 32 :: ([111, 110] ++ ((X.map fun s => (32 : UInt8) :: s).flatten ++ s)) := by simp
    rw [e, tk_blank _ _ (by decide) (by decide), tkw _ (by decide) (h.row s hs).1, (h.row s hs).2]; rfl
theorem braces_wd (ind : List UInt8) (X : List (List UInt8)) (s : List UInt8) : Wd (bracesT ind X ++ s) = false := by
  unfold bracesT
  split
  · exact wd_cons _ _ (by decide)
  · simp only [List.append_assoc, List.cons_append]
    exact wd_cons _ _ (by decide)
theorem wd_c (c : UInt8) (s : List UInt8) (h : wordc c = true) : (tokR (c :: s)).1 = true := by rw [tokR]; simp [h]
theorem tk_cw (c : UInt8) (s : List UInt8) (h : wordc c = true) (hs : (tokR s).1 = true) : (tokR (c :: s)).2 = (c :: (tokR s).2.headD []) :: (tokR s).2.tail := by rw [tokR]; simp [h, hs]
theorem tk_cn (c : UInt8) (s : List UInt8) (h : wordc c = true) (hs : (tokR s).1 = false) : (tokR (c :: s)).2 = [c] :: (tokR s).2 := by rw [tokR]; simp [h, hs]
theorem asm_tk (k : Int) (t : List UInt8) (n : Int) (el : Bool) (ind : List UInt8) (hi : ∀ c ∈ ind, c = 32) {X : List (List UInt8)} {Y : List (List (List UInt8))} (h : Ws X Y) (h1 : 1 ≤ k) (h36 : k ≤ 36) (ht : textOk k t) (hn : numOk k n)
    (s : List UInt8) (hs : Wd s = false) : Tk (asm k t n el ind X ++ s) = asmY k t n el Y ++ Tk s := by
  have hs' : (tokR s).1 = false := hs
  have g0 := fun j s (hs : Wd s = false) => h.2 j s hs
  have r1 := fun s (hs : Wd s = false) => (h.row s hs).1
  have r2 := fun s (hs : Wd s = false) => (h.row s hs).2
  have q1 := fun s (hs : Wd s = false) => (h.drop1.row s hs).1
  have q2 := fun s (hs : Wd s = false) => (h.drop1.row s hs).2
  have b1 := fun s => braces_wd ind X s
  have b2 := fun s => h.braces hi s
  have c1 := fun s => braces_wd ind (X.drop 1) s
  have c2 := fun s => h.drop1.braces hi s
  have l1 := fun s => h.lines (ind := []) (fun c hc => by cases hc) s
  have o1 := fun s hs => (on_row n h.drop1 s hs).1
  have o2 := fun s hs => (on_row n h.drop1 s hs).2
  have w1 := fun s hs => (when_tk n s hs).1
  have w2 := fun s hs => (when_tk n s hs).2
  have t1 := fun s hs => (to_tk h s hs).1
  have t2 := fun s hs => (to_tk h s hs).2
  have e1 := fun s hs => (else_tk el h s hs).1
  have e2 := fun s hs => (else_tk el h s hs).2
  have f2 := fun s hs => (life_word n).tk (s := s) hs
  have hk : k = 1 ∨ k = 2 ∨ k = 3 ∨ k = 4 ∨ k = 5 ∨ k = 6 ∨ k = 7 ∨ k = 8 ∨ k = 9 ∨ k = 10 ∨ k = 11 ∨ k = 12 ∨ k = 13 ∨ k = 14 ∨ k = 15 ∨ k = 16 ∨ k = 17 ∨ k = 18 ∨ k = 19 ∨ k = 20 ∨ k = 21 ∨ k = 22 ∨ k = 23 ∨ k = 24 ∨ k = 25 ∨ k = 26 ∨ k = 27 ∨ k = 28 ∨ k = 29 ∨ k = 30 ∨ k = 31 ∨ k = 32 ∨ k = 33 ∨ k = 34 ∨ k = 35 ∨ k = 36 := by omega
  rcases hk with rfl | rfl | rfl | rfl | rfl | rfl | rfl | rfl | rfl | rfl | rfl | rfl | rfl | rfl | rfl | rfl | rfl | rfl | rfl | rfl | rfl | rfl | rfl | rfl | rfl | rfl | rfl | rfl | rfl | rfl | rfl | rfl | rfl | rfl | rfl | rfl <;>
    simp (decide := true) only [textOk, ↓reduceIte, or_true, true_or, or_self] at ht <;> simp (decide := true) only [asm, asmY, ↓reduceIte]
  all_goals try have hw := fun s hs => (name_word ht).tk (s := s) hs
  all_goals try have hw := fun s hs => (type_word ht).tk (s := s) hs
  all_goals try have hop := fun s => tk_op ht s
  all_goals try (
    have hnn : 0 ≤ n := by simpa [numOk] using hn.1
    have hiw := fun s hs => (itoa_word n hnn).tk (s := s) hs)
  all_goals first
    | (simp (decide := true) (maxDischargeDepth := 12) only [List.append_assoc, List.cons_append, List.nil_append, Wd, Tk, wd_c, tk_cw, tk_cn, wd_cons, tk_blank, tk_punct, *, List.headD_cons, List.tail_cons]; done)
    | (simp (decide := true) (maxDischargeDepth := 12) only [rowT, List.append_assoc, List.cons_append, List.nil_append, Wd, Tk, wd_c, tk_cw, tk_cn, wd_cons, tk_blank, tk_punct, *, List.headD_cons, List.tail_cons]; done)
end Go.Proofs.YtbpefmidgfmcaaaDoor
end
section
set_option linter.unusedVariables false
set_option linter.unusedSimpArgs false
namespace Go.Proofs.YtbpefmidgfmcaaaDoor
open Go.RowKit PTreeApart Go.Proofs.YtbpefmidgfmcaaaDoorW.PrintWords
theorem deep_blank {ind : List UInt8} (k : Int) (i : Nat) (h : ∀ c ∈ ind, c = 32) : ∀ c ∈ deep ind k i, c = 32 := by
  unfold deep
  split
  · intro c hc
    rcases List.mem_append.1 hc with h1 | h1
    · exact h c h1
    · simpa using h1
  · exact h
mutual
theorem pr_tk : ∀ (d : Nd) (ne : Int) (ind : List UInt8), Ok d ne → (∀ c ∈ ind, c = 32) → ∀ s, Wd s = false → Tk (pr ind d ++ s) = tkd d ++ Tk s
  | .mk k t n ks, ne, ind, h, hi, s, hs => by
    obtain ⟨_, h1, h36, htx, hnum, _, hOs⟩ := h
    rw [pr, tkd]
    exact asm_tk k _ n _ ind hi (prs_ws ks k t 0 ne ind hOs hi) h1 h36 htx hnum s hs
theorem prs_ws : ∀ (ks : List Nd) (k : Int) (t : ByteArray) (i : Nat) (ne : Int) (ind : List UInt8), Oks k t i ks ne → (∀ c ∈ ind, c = 32) → Ws (prs ind k t i ks) (tks k t i ks)
  | [], k, t, i, ne, ind, _, _ => by rw [prs, tks]; exact Ws.nil
  | d :: ds, k, t, i, ne, ind, h, hi => by
    rw [prs, tks]
    refine Ws.cons (fun s hs => ?_) (prs_ws ds k t (i + 1) ne ind h.2 hi)
    unfold parT parY
    split
    · rw [List.cons_append, List.append_assoc, tk_punct _ _ (by decide) (by decide), show ([41] ++ s : List UInt8) = 41 :: s from rfl, pr_tk d _ _ h.1 (deep_blank k i hi) _ (wd_cons _ _ (by decide)), tk_punct _ _ (by decide) (by decide)]
      simp
    · exact pr_tk d _ _ h.1 (deep_blank k i hi) s hs
end
abbrev Tok := List UInt8
def bs (w : Tok) : ByteArray := ⟨w.toArray⟩
theorem bs_data (t : ByteArray) : bs t.data.toList = t := rfl
def e0 : ByteArray := ⟨#[]⟩
def num (w : Tok) : Int := w.foldl (fun a c => a * 10 + ((c.toNat : Int) - 48)) 0
theorem num_dec (u : Nat) : num (Lib.decDigits u) = u := by
  induction u using Nat.strongRecOn with
  | _ u ih =>
    rw [Lib.decDigits]
    have hd : ∀ i : Fin 10, ((UInt8.ofNat (48 + i.val)).toNat : Int) - 48 = i.val := by decide
    split
    · rename_i h
      have := hd ⟨u, h⟩
      simp only [num, List.foldl_cons, List.foldl_nil]
      rw [this]; simp
    · rename_i h
      have i1 := ih (u / 10) (by omega)
      have := hd ⟨u % 10, by omega⟩
      unfold num at i1 ⊢
      rw [List.foldl_append, i1, List.foldl_cons, List.foldl_nil, this]
      simp only
      omega
theorem num_itoa (n : Int) (h : 0 ≤ n) : num (Lib.itoa n) = n := by
  rw [Lib.itoa, if_neg (by omega), num_dec]
  omega
def numL (w : Tok) : Int := if w = [99, 114, 101, 97, 116, 101] then 0 else if w = [115, 116, 97, 114, 116] then 1 else if w = [115, 116, 111, 112] then 2 else 3
def blk (ks : List Nd) : Nd := .mk 12 e0 0 ks
def whenP (ts : List Tok) : Int × List Tok := if ts.headD [] = [102, 114, 111, 110, 116] then (-1, ts.tail) else if ts.headD [] = [97, 102, 116, 101, 114] then (num (ts.tail.headD []), ts.tail.tail) else (0, ts)
mutual
def pE : Nat → Int → List Tok → Option (Nd × List Tok)
  | 0, _, _ => none
  | n + 1, p, ts =>
    if ts.headD [] = [40] then (pE n 0 ts.tail).bind fun x => pL n p x.1 x.2.tail
    else if ts.headD [] = [110, 117, 108, 108] then pL n p (.mk 27 e0 0 []) ts.tail
    else if ts.headD [] = [105, 116] then pL n p (.mk 28 e0 0 []) ts.tail
    else if ts.headD [] = [110, 101, 119] then pL n p (.mk 33 (bs (ts.tail.headD [])) 0 []) ts.tail.tail
    else if ts.headD [] = [97, 114, 114] then (pE n 4 ts.tail).bind fun x => pL n p (.mk 34 e0 0 [x.1]) x.2
    else if ts.headD [] = [108, 101, 110] then (pE n 4 ts.tail).bind fun x => pL n p (.mk 35 e0 0 [x.1]) x.2
    else if ts.headD [] = [102, 110] then (pB n ts.tail.tail).bind fun x => pL n p (.mk 36 e0 0 [blk x.1]) x.2
    else if digitB ((ts.headD []).headD 0) = true then pL n p (.mk 26 e0 (num (ts.headD [])) []) ts.tail
    else pL n p (.mk 29 (bs (ts.headD [])) 0 []) ts.tail
def pL : Nat → Int → Nd → List Tok → Option (Nd × List Tok)
  | 0, _, _, _ => none
  | n + 1, p, d, ts =>
    if ts.headD [] = [46] ∧ p ≤ 5 then pL n p (.mk 30 (bs (ts.tail.headD [])) 0 [d]) ts.tail.tail
    else if ts.headD [] = [91] ∧ p ≤ 5 then (pE n 0 ts.tail).bind fun x => pL n p (.mk 31 e0 0 [d, x.1]) x.2.tail
    else if ts.headD [] = [42] ∧ p ≤ 3 then (pE n 4 ts.tail).bind fun x => pL n p (.mk 32 (bs [42]) 0 [d, x.1]) x.2
    else if ts.headD [] = [43] ∧ p ≤ 2 then (pE n 3 ts.tail).bind fun x => pL n p (.mk 32 (bs [43]) 0 [d, x.1]) x.2
    else if ts.headD [] = [45] ∧ p ≤ 2 then (pE n 3 ts.tail).bind fun x => pL n p (.mk 32 (bs [45]) 0 [d, x.1]) x.2
    else if ts.headD [] = [60] ∧ p ≤ 1 then (pE n 2 ts.tail).bind fun x => pL n p (.mk 32 (bs [60]) 0 [d, x.1]) x.2
    else if ts.headD [] = [61] ∧ p ≤ 1 then (pE n 2 ts.tail.tail).bind fun x => pL n p (.mk 32 (bs [61, 61]) 0 [d, x.1]) x.2
    else some (d, ts)
def pB : Nat → List Tok → Option (List Nd × List Tok)
  | 0, _ => none
  | n + 1, ts => if ts.headD [] = [125] then some ([], ts.tail) else (pS n ts).bind fun x => (pB n x.2).bind fun y => some (x.1 :: y.1, y.2)
def pT : Nat → List Tok → Option (List Nd × List Tok)
  | 0, _ => none
  | n + 1, ts => if ts.headD [] = [116, 111] then (pE n 5 ts.tail).bind fun x => some ([x.1], x.2) else some ([], ts)
def pS : Nat → List Tok → Option (Nd × List Tok)
  | 0, _ => none
  | n + 1, ts =>
    if ts.headD [] = [118, 97, 114] then (pE n 0 ts.tail.tail.tail.tail).bind fun x => some (.mk 13 (bs (ts.tail.headD [])) 0 [.mk 5 (bs (ts.tail.tail.headD [])) 0 [], x.1], x.2.tail)
    else if ts.headD [] = [99, 97, 108, 108] then (pE n 0 ts.tail).bind fun x => some (.mk 15 e0 0 [x.1], x.2.tail)
    else if ts.headD [] = [99, 97, 110, 99, 101, 108] then (pE n 0 ts.tail).bind fun x => some (.mk 16 e0 0 [x.1], x.2.tail)
    else if ts.headD [] = [106, 111, 105, 110] then (pE n 0 ts.tail).bind fun x => some (.mk 17 e0 0 [x.1], x.2.tail)
    else if ts.headD [] = [108, 111, 103] then (pE n 0 ts.tail).bind fun x => some (.mk 18 e0 0 [x.1], x.2.tail)
    else if ts.headD [] = [112, 111, 115, 116] then (pE n 0 ts.tail.tail).bind fun x => (pT n (whenP x.2).2).bind fun y => some (.mk 19 (bs (ts.tail.headD [])) (whenP x.2).1 (x.1 :: y.1), y.2.tail)
    else if ts.headD [] = [115, 112, 97, 119, 110] then (pE n 0 ts.tail).bind fun x => (pT n x.2).bind fun y => some (.mk 20 e0 0 (x.1 :: y.1), y.2.tail)
    else if ts.headD [] = [101, 110, 97, 98, 108, 101] then some (.mk 21 (bs (ts.tail.headD [])) 0 [], ts.tail.tail.tail)
    else if ts.headD [] = [100, 105, 115, 97, 98, 108, 101] then some (.mk 22 (bs (ts.tail.headD [])) 0 [], ts.tail.tail.tail)
    else if ts.headD [] = [105, 102] then (pE n 0 ts.tail).bind fun x => (pB n x.2.tail).bind fun y => if y.2.headD [] = [101, 108, 115, 101] then (pB n y.2.tail.tail).bind fun z => some (.mk 23 e0 0 [x.1, blk y.1, blk z.1], z.2) else some (.mk 23 e0 0 [x.1, blk y.1, blk []], y.2)
    else if ts.headD [] = [119, 104, 105, 108, 101] then (pE n 0 ts.tail).bind fun x => (pB n x.2.tail).bind fun y => some (.mk 24 e0 0 [x.1, blk y.1], y.2)
    else if ts.headD [] = [114, 101, 116, 117, 114, 110] then some (.mk 25 e0 0 [], ts.tail.tail)
    else (pE n 5 ts).bind fun x => (pE n 0 x.2.tail).bind fun y => some (.mk 14 e0 0 [x.1, y.1], y.2.tail)
end
def pM : Nat → List Tok → Option (List Nd × List Tok)
  | 0, _ => none
  | n + 1, ts => if ts.headD [] = [125] then some ([], ts.tail) else (pM n ts.tail.tail.tail).bind fun y => some (.mk 4 (bs (ts.headD [])) 0 [.mk 5 (bs (ts.tail.headD [])) 0 []] :: y.1, y.2)
def pV : Nat → List Tok → Option (List Nd × List Tok)
  | 0, _ => none
  | n + 1, ts => if ts.headD [] = [125] then some ([], ts.tail) else (pB n ts.tail.tail).bind fun x => (pV n x.2).bind fun y => some (.mk 9 e0 (numL (ts.headD [])) [blk x.1] :: y.1, y.2)
def pD : Nat → List Tok → Option (Nd × List Tok)
  | n, ts =>
    if ts.headD [] = [108, 111, 111, 112, 101, 114] then some (.mk 2 (bs (ts.tail.headD [])) 0 [], ts.tail.tail.tail)
    else if ts.headD [] = [99, 108, 97, 115, 115] then (pM n ts.tail.tail.tail).bind fun x => some (.mk 3 (bs (ts.tail.headD [])) 0 x.1, x.2)
    else if ts.headD [] = [118, 97, 114] then some (.mk 6 (bs (ts.tail.headD [])) 0 [.mk 5 (bs (ts.tail.tail.headD [])) 0 []], ts.tail.tail.tail.tail)
    else if ts.headD [] = [102, 110] then (pB n ts.tail.tail.tail).bind fun x => some (.mk 7 (bs (ts.tail.headD [])) 0 [blk x.1], x.2)
    else if ts.headD [] = [99, 111, 109, 112] then (pV n ts.tail.tail.tail.tail.tail).bind fun x => some (.mk 8 (bs (ts.tail.headD [])) 0 (.mk 29 (bs (ts.tail.tail.tail.headD [])) 0 [] :: x.1), x.2)
    else if ts.headD [] = [101, 118, 101, 110, 116] then (pB n ts.tail.tail.tail.tail.tail.tail).bind fun x => some (.mk 10 (bs (ts.tail.headD [])) (if ts.tail.tail.tail.tail.headD [] = [111, 102, 102] then 0 else 1) [.mk 29 (bs (ts.tail.tail.tail.headD [])) 0 [], blk x.1], x.2)
    else (pB n ts.tail.tail).bind fun x => some (.mk 11 e0 0 [blk x.1], x.2)
def pP : Nat → List Tok → Option (List Nd)
  | 0, _ => none
  | n + 1, ts => if ts = [] then some [] else (pD n ts).bind fun x => (pP n x.2).bind fun y => some (x.1 :: y)
end Go.Proofs.YtbpefmidgfmcaaaDoor
end
section
set_option linter.unusedVariables false
set_option linter.unusedSimpArgs false
namespace Go.Proofs.YtbpefmidgfmcaaaDoor
open Go.RowKit PTreeApart Go.Proofs.YtbpefmidgfmcaaaDoorW.PrintWords
def EvE (p : Int) (ts : List Tok) (res : Nd × List Tok) : Prop := ∃ N, ∀ n, N ≤ n → pE n p ts = some res
def EvL (p : Int) (d : Nd) (ts : List Tok) (res : Nd × List Tok) : Prop := ∃ N, ∀ n, N ≤ n → pL n p d ts = some res
def EvB (ts : List Tok) (res : List Nd × List Tok) : Prop := ∃ N, ∀ n, N ≤ n → pB n ts = some res
def EvT (ts : List Tok) (res : List Nd × List Tok) : Prop := ∃ N, ∀ n, N ≤ n → pT n ts = some res
def EvS (ts : List Tok) (res : Nd × List Tok) : Prop := ∃ N, ∀ n, N ≤ n → pS n ts = some res
def EvM (ts : List Tok) (res : List Nd × List Tok) : Prop := ∃ N, ∀ n, N ≤ n → pM n ts = some res
def EvV (ts : List Tok) (res : List Nd × List Tok) : Prop := ∃ N, ∀ n, N ≤ n → pV n ts = some res
def EvD (ts : List Tok) (res : Nd × List Tok) : Prop := ∃ N, ∀ n, N ≤ n → pD n ts = some res
def EvP (ts : List Tok) (res : List Nd) : Prop := ∃ N, ∀ n, N ≤ n → pP n ts = some res
/-- The words that are no names. -/
def keys : List Tok := [[110, 117, 108, 108], [105, 116], [110, 101, 119], [97, 114, 114], [108, 101, 110], [102, 110], [99, 97, 108, 108], [99, 97, 110, 99, 101, 108], [106, 111, 105, 110], [108, 111, 103], [112, 111, 115, 116], [115, 112, 97, 119, 110], [101, 110, 97, 98, 108, 101], [100, 105, 115, 97, 98, 108, 101], [105, 102], [119, 104, 105, 108, 101], [114, 101, 116, 117, 114, 110], [118, 97, 114], [116, 111], [102, 114, 111, 110, 116], [97, 102, 116, 101, 114], [101, 108, 115, 101], [108, 111, 111, 112, 101, 114], [99, 108, 97, 115, 115], [99, 111, 109, 112], [101, 118, 101, 110, 116], [109, 97, 105, 110], [40], [41], [46], [91], [93], [42], [43], [45], [60], [61], [123], [125], [59], []]
theorem name_key {s : Tok} (h : nameB s = true) : ∀ w ∈ keys, s ≠ w := by
  intro w hw e
  subst e
  revert h
  simp only [keys, List.mem_cons, List.not_mem_nil, or_false] at hw
  rcases hw with rfl | rfl | rfl | rfl | rfl | rfl | rfl | rfl | rfl | rfl | rfl | rfl | rfl | rfl | rfl | rfl | rfl | rfl | rfl | rfl | rfl | rfl | rfl | rfl | rfl | rfl | rfl | rfl | rfl | rfl | rfl | rfl | rfl | rfl | rfl | rfl | rfl | rfl | rfl | rfl | rfl | rfl <;> decide
theorem name_digit {s : Tok} (h : nameB s = true) : digitB (s.headD 0) = false := by
  simp only [nameB, Bool.and_eq_true, Bool.not_eq_true'] at h
  exact h.1.1.2
def follow (r : List Tok) : Int :=
  if r.headD [] = [46] ∨ r.headD [] = [91] then 5 else if r.headD [] = [42] then 3 else if r.headD [] = [43] ∨ r.headD [] = [45] then 2 else if r.headD [] = [60] ∨ r.headD [] = [61] then 1 else 0
theorem EvL.stop {p : Int} {d : Nd} {r : List Tok} (h : follow r < p ∨ follow r ≤ 0) : EvL p d r (d, r) := by
  refine ⟨1, fun n hn => ?_⟩
  obtain ⟨m, rfl⟩ : ∃ m, n = m + 1 := ⟨n - 1, by omega⟩
  rw [pL]
  unfold follow at h
  by_cases h1 : r.headD [] = [46] ∨ r.headD [] = [91]
  · rw [if_pos h1] at h
    rw [if_neg (by omega), if_neg (by omega), if_neg (by omega), if_neg (by omega), if_neg (by omega), if_neg (by omega), if_neg (by omega)]
  · rw [if_neg h1] at h
    rw [if_neg (fun h' => h1 (.inl h'.1)), if_neg (fun h' => h1 (.inr h'.1))]
    by_cases h2 : r.headD [] = [42]
    · rw [if_pos h2] at h
      rw [if_neg (by omega), if_neg (by omega), if_neg (by omega), if_neg (by omega), if_neg (by omega)]
    · rw [if_neg h2] at h
      rw [if_neg (fun h' => h2 h'.1)]
      by_cases h3 : r.headD [] = [43] ∨ r.headD [] = [45]
      · rw [if_pos h3] at h
        rw [if_neg (by omega), if_neg (by omega), if_neg (by omega), if_neg (by omega)]
      · rw [if_neg h3] at h
        rw [if_neg (fun h' => h3 (.inl h'.1)), if_neg (fun h' => h3 (.inr h'.1))]
        by_cases h4 : r.headD [] = [60] ∨ r.headD [] = [61]
        · rw [if_pos h4] at h
          rw [if_neg (by omega), if_neg (by omega)]
        · rw [if_neg (fun h' => h4 (.inl h'.1)), if_neg (fun h' => h4 (.inr h'.1))]
theorem EvE.paren {p : Int} {r : List Tok} {res : Nd × List Tok} {x : Nd × List Tok} (h1 : EvE 0 r x) (h2 : EvL p x.1 x.2.tail res) : EvE p ([40] :: r) res := by
  obtain ⟨N0, h1⟩ := h1
  obtain ⟨N1, h2⟩ := h2
  refine ⟨(max (max 0 N0) N1) + 1, fun n hn => ?_⟩
  obtain ⟨m, rfl⟩ : ∃ m, n = m + 1 := ⟨n - 1, by omega⟩
  have g0 := h1 m (by omega)
  have g1 := h2 m (by omega)
  rw [pE]
  simp (decide := true) only [g0, g1, List.headD_cons, List.tail_cons, Option.bind_some, ↓reduceIte, and_true, true_and, and_self, false_and, if_false, if_true]
theorem EvE.null {p : Int} {r : List Tok} {res : Nd × List Tok} (h1 : EvL p (.mk 27 e0 0 []) r res) : EvE p ([110, 117, 108, 108] :: r) res := by
  obtain ⟨N0, h1⟩ := h1
  refine ⟨(max 0 N0) + 1, fun n hn => ?_⟩
  obtain ⟨m, rfl⟩ : ∃ m, n = m + 1 := ⟨n - 1, by omega⟩
  have g0 := h1 m (by omega)
  rw [pE]
  simp (decide := true) only [g0, List.headD_cons, List.tail_cons, Option.bind_some, ↓reduceIte, and_true, true_and, and_self, false_and, if_false, if_true]
theorem EvE.it {p : Int} {r : List Tok} {res : Nd × List Tok} (h1 : EvL p (.mk 28 e0 0 []) r res) : EvE p ([105, 116] :: r) res := by
  obtain ⟨N0, h1⟩ := h1
  refine ⟨(max 0 N0) + 1, fun n hn => ?_⟩
  obtain ⟨m, rfl⟩ : ∃ m, n = m + 1 := ⟨n - 1, by omega⟩
  have g0 := h1 m (by omega)
  rw [pE]
  simp (decide := true) only [g0, List.headD_cons, List.tail_cons, Option.bind_some, ↓reduceIte, and_true, true_and, and_self, false_and, if_false, if_true]
theorem EvE.new {p : Int} {r : List Tok} {res : Nd × List Tok} {t : Tok} (h1 : EvL p (.mk 33 (bs t) 0 []) r res) : EvE p ([110, 101, 119] :: t :: r) res := by
  obtain ⟨N0, h1⟩ := h1
  refine ⟨(max 0 N0) + 1, fun n hn => ?_⟩
  obtain ⟨m, rfl⟩ : ∃ m, n = m + 1 := ⟨n - 1, by omega⟩
  have g0 := h1 m (by omega)
  rw [pE]
  simp (decide := true) only [g0, List.headD_cons, List.tail_cons, Option.bind_some, ↓reduceIte, and_true, true_and, and_self, false_and, if_false, if_true]
theorem EvE.arr {p : Int} {r : List Tok} {res : Nd × List Tok} {x : Nd × List Tok} (h1 : EvE 4 r x) (h2 : EvL p (.mk 34 e0 0 [x.1]) x.2 res) : EvE p ([97, 114, 114] :: r) res := by
  obtain ⟨N0, h1⟩ := h1
  obtain ⟨N1, h2⟩ := h2
  refine ⟨(max (max 0 N0) N1) + 1, fun n hn => ?_⟩
  obtain ⟨m, rfl⟩ : ∃ m, n = m + 1 := ⟨n - 1, by omega⟩
  have g0 := h1 m (by omega)
  have g1 := h2 m (by omega)
  rw [pE]
  simp (decide := true) only [g0, g1, List.headD_cons, List.tail_cons, Option.bind_some, ↓reduceIte, and_true, true_and, and_self, false_and, if_false, if_true]
theorem EvE.len {p : Int} {r : List Tok} {res : Nd × List Tok} {x : Nd × List Tok} (h1 : EvE 4 r x) (h2 : EvL p (.mk 35 e0 0 [x.1]) x.2 res) : EvE p ([108, 101, 110] :: r) res := by
  obtain ⟨N0, h1⟩ := h1
  obtain ⟨N1, h2⟩ := h2
  refine ⟨(max (max 0 N0) N1) + 1, fun n hn => ?_⟩
  obtain ⟨m, rfl⟩ : ∃ m, n = m + 1 := ⟨n - 1, by omega⟩
  have g0 := h1 m (by omega)
  have g1 := h2 m (by omega)
  rw [pE]
  simp (decide := true) only [g0, g1, List.headD_cons, List.tail_cons, Option.bind_some, ↓reduceIte, and_true, true_and, and_self, false_and, if_false, if_true]
theorem EvE.fn {p : Int} {r : List Tok} {res : Nd × List Tok} {x : List Nd × List Tok} (h1 : EvB r x) (h2 : EvL p (.mk 36 e0 0 [blk x.1]) x.2 res) : EvE p ([102, 110] :: [123] :: r) res := by
  obtain ⟨N0, h1⟩ := h1
  obtain ⟨N1, h2⟩ := h2
  refine ⟨(max (max 0 N0) N1) + 1, fun n hn => ?_⟩
  obtain ⟨m, rfl⟩ : ∃ m, n = m + 1 := ⟨n - 1, by omega⟩
  have g0 := h1 m (by omega)
  have g1 := h2 m (by omega)
  rw [pE]
  simp (decide := true) only [g0, g1, List.headD_cons, List.tail_cons, Option.bind_some, ↓reduceIte, and_true, true_and, and_self, false_and, if_false, if_true]
theorem EvE.name {p : Int} {r : List Tok} {res : Nd × List Tok} {t : Tok} (ht : nameB t = true) (h1 : EvL p (.mk 29 (bs t) 0 []) r res) : EvE p (t :: r) res := by
  obtain ⟨N0, h1⟩ := h1
  refine ⟨N0 + 1, fun n hn => ?_⟩
  obtain ⟨m, rfl⟩ : ∃ m, n = m + 1 := ⟨n - 1, by omega⟩
  have hk := name_key ht
  rw [pE, if_neg (show ¬ (t :: r).headD [] = [40] from hk [40] (by decide)), if_neg (show ¬ (t :: r).headD [] = [110, 117, 108, 108] from hk [110, 117, 108, 108] (by decide)), if_neg (show ¬ (t :: r).headD [] = [105, 116] from hk [105, 116] (by decide)), if_neg (show ¬ (t :: r).headD [] = [110, 101, 119] from hk [110, 101, 119] (by decide)), if_neg (show ¬ (t :: r).headD [] = [97, 114, 114] from hk [97, 114, 114] (by decide)), if_neg (show ¬ (t :: r).headD [] = [108, 101, 110] from hk [108, 101, 110] (by decide)), if_neg (show ¬ (t :: r).headD [] = [102, 110] from hk [102, 110] (by decide)), if_neg (show ¬ digitB (((t :: r).headD []).headD 0) = true from by rw [show (t :: r).headD [] = t from rfl, name_digit ht]; exact Bool.false_ne_true)]
  exact h1 m (by omega)
theorem EvE.number {p : Int} {r : List Tok} {res : Nd × List Tok} {t : Tok} (ht : digitB (t.headD 0) = true) (h1 : EvL p (.mk 26 e0 (num t) []) r res) : EvE p (t :: r) res := by
  obtain ⟨N0, h1⟩ := h1
  refine ⟨N0 + 1, fun n hn => ?_⟩
  obtain ⟨m, rfl⟩ : ∃ m, n = m + 1 := ⟨n - 1, by omega⟩
  have hk : ∀ w : Tok, digitB (w.headD 0) = false → t ≠ w := fun w hw e => by rw [e, hw] at ht; cases ht
  rw [pE, if_neg (show ¬ (t :: r).headD [] = [40] from hk [40] (by decide)), if_neg (show ¬ (t :: r).headD [] = [110, 117, 108, 108] from hk [110, 117, 108, 108] (by decide)), if_neg (show ¬ (t :: r).headD [] = [105, 116] from hk [105, 116] (by decide)), if_neg (show ¬ (t :: r).headD [] = [110, 101, 119] from hk [110, 101, 119] (by decide)), if_neg (show ¬ (t :: r).headD [] = [97, 114, 114] from hk [97, 114, 114] (by decide)), if_neg (show ¬ (t :: r).headD [] = [108, 101, 110] from hk [108, 101, 110] (by decide)), if_neg (show ¬ (t :: r).headD [] = [102, 110] from hk [102, 110] (by decide)), if_pos (show digitB (((t :: r).headD []).headD 0) = true from ht)]
  exact h1 m (by omega)
theorem EvL.dot {p : Int} {d : Nd} {r : List Tok} {res : Nd × List Tok} {t : Tok} (hp : p ≤ 5) (h1 : EvL p (.mk 30 (bs t) 0 [d]) r res) : EvL p d ([46] :: t :: r) res := by
  obtain ⟨N0, h1⟩ := h1
  refine ⟨(max 0 N0) + 1, fun n hn => ?_⟩
  obtain ⟨m, rfl⟩ : ∃ m, n = m + 1 := ⟨n - 1, by omega⟩
  have g0 := h1 m (by omega)
  rw [pL]
  simp (decide := true) only [g0, hp, List.headD_cons, List.tail_cons, Option.bind_some, ↓reduceIte, and_true, true_and, and_self, false_and, if_false, if_true]
theorem EvL.idx {p : Int} {d : Nd} {r : List Tok} {res : Nd × List Tok} {x : Nd × List Tok} (hp : p ≤ 5) (h1 : EvE 0 r x) (h2 : EvL p (.mk 31 e0 0 [d, x.1]) x.2.tail res) : EvL p d ([91] :: r) res := by
  obtain ⟨N0, h1⟩ := h1
  obtain ⟨N1, h2⟩ := h2
  refine ⟨(max (max 0 N0) N1) + 1, fun n hn => ?_⟩
  obtain ⟨m, rfl⟩ : ∃ m, n = m + 1 := ⟨n - 1, by omega⟩
  have g0 := h1 m (by omega)
  have g1 := h2 m (by omega)
  rw [pL]
  simp (decide := true) only [g0, g1, hp, List.headD_cons, List.tail_cons, Option.bind_some, ↓reduceIte, and_true, true_and, and_self, false_and, if_false, if_true]
theorem EvL.mul {p : Int} {d : Nd} {r : List Tok} {res : Nd × List Tok} {x : Nd × List Tok} (hp : p ≤ 3) (h1 : EvE 4 r x) (h2 : EvL p (.mk 32 (bs [42]) 0 [d, x.1]) x.2 res) : EvL p d ([42] :: r) res := by
  obtain ⟨N0, h1⟩ := h1
  obtain ⟨N1, h2⟩ := h2
  refine ⟨(max (max 0 N0) N1) + 1, fun n hn => ?_⟩
  obtain ⟨m, rfl⟩ : ∃ m, n = m + 1 := ⟨n - 1, by omega⟩
  have g0 := h1 m (by omega)
  have g1 := h2 m (by omega)
  rw [pL]
  simp (decide := true) only [g0, g1, hp, List.headD_cons, List.tail_cons, Option.bind_some, ↓reduceIte, and_true, true_and, and_self, false_and, if_false, if_true]
theorem EvL.add {p : Int} {d : Nd} {r : List Tok} {res : Nd × List Tok} {x : Nd × List Tok} (hp : p ≤ 2) (h1 : EvE 3 r x) (h2 : EvL p (.mk 32 (bs [43]) 0 [d, x.1]) x.2 res) : EvL p d ([43] :: r) res := by
  obtain ⟨N0, h1⟩ := h1
  obtain ⟨N1, h2⟩ := h2
  refine ⟨(max (max 0 N0) N1) + 1, fun n hn => ?_⟩
  obtain ⟨m, rfl⟩ : ∃ m, n = m + 1 := ⟨n - 1, by omega⟩
  have g0 := h1 m (by omega)
  have g1 := h2 m (by omega)
  rw [pL]
  simp (decide := true) only [g0, g1, hp, List.headD_cons, List.tail_cons, Option.bind_some, ↓reduceIte, and_true, true_and, and_self, false_and, if_false, if_true]
theorem EvL.sub {p : Int} {d : Nd} {r : List Tok} {res : Nd × List Tok} {x : Nd × List Tok} (hp : p ≤ 2) (h1 : EvE 3 r x) (h2 : EvL p (.mk 32 (bs [45]) 0 [d, x.1]) x.2 res) : EvL p d ([45] :: r) res := by
  obtain ⟨N0, h1⟩ := h1
  obtain ⟨N1, h2⟩ := h2
  refine ⟨(max (max 0 N0) N1) + 1, fun n hn => ?_⟩
  obtain ⟨m, rfl⟩ : ∃ m, n = m + 1 := ⟨n - 1, by omega⟩
  have g0 := h1 m (by omega)
  have g1 := h2 m (by omega)
  rw [pL]
  simp (decide := true) only [g0, g1, hp, List.headD_cons, List.tail_cons, Option.bind_some, ↓reduceIte, and_true, true_and, and_self, false_and, if_false, if_true]
theorem EvL.lss {p : Int} {d : Nd} {r : List Tok} {res : Nd × List Tok} {x : Nd × List Tok} (hp : p ≤ 1) (h1 : EvE 2 r x) (h2 : EvL p (.mk 32 (bs [60]) 0 [d, x.1]) x.2 res) : EvL p d ([60] :: r) res := by
  obtain ⟨N0, h1⟩ := h1
  obtain ⟨N1, h2⟩ := h2
  refine ⟨(max (max 0 N0) N1) + 1, fun n hn => ?_⟩
  obtain ⟨m, rfl⟩ : ∃ m, n = m + 1 := ⟨n - 1, by omega⟩
  have g0 := h1 m (by omega)
  have g1 := h2 m (by omega)
  rw [pL]
  simp (decide := true) only [g0, g1, hp, List.headD_cons, List.tail_cons, Option.bind_some, ↓reduceIte, and_true, true_and, and_self, false_and, if_false, if_true]
theorem EvL.eql {p : Int} {d : Nd} {r : List Tok} {res : Nd × List Tok} {x : Nd × List Tok} (hp : p ≤ 1) (h1 : EvE 2 r x) (h2 : EvL p (.mk 32 (bs [61, 61]) 0 [d, x.1]) x.2 res) : EvL p d ([61] :: [61] :: r) res := by
  obtain ⟨N0, h1⟩ := h1
  obtain ⟨N1, h2⟩ := h2
  refine ⟨(max (max 0 N0) N1) + 1, fun n hn => ?_⟩
  obtain ⟨m, rfl⟩ : ∃ m, n = m + 1 := ⟨n - 1, by omega⟩
  have g0 := h1 m (by omega)
  have g1 := h2 m (by omega)
  rw [pL]
  simp (decide := true) only [g0, g1, hp, List.headD_cons, List.tail_cons, Option.bind_some, ↓reduceIte, and_true, true_and, and_self, false_and, if_false, if_true]
theorem EvB.done {r : List Tok}  : EvB ([125] :: r) ([], r) := by
  refine ⟨0 + 1, fun n hn => ?_⟩
  obtain ⟨m, rfl⟩ : ∃ m, n = m + 1 := ⟨n - 1, by omega⟩
  rw [pB]
  simp (decide := true) only [List.headD_cons, List.tail_cons, Option.bind_some, ↓reduceIte, and_true, true_and, and_self, false_and, if_false, if_true]
theorem EvB.more {ts : List Tok} {x : Nd × List Tok} {y : List Nd × List Tok} (hn : ts.headD [] ≠ [125]) (h1 : EvS ts x) (h2 : EvB x.2 y) : EvB ts (x.1 :: y.1, y.2) := by
  obtain ⟨N0, h1⟩ := h1
  obtain ⟨N1, h2⟩ := h2
  refine ⟨max N0 N1 + 1, fun n hn' => ?_⟩
  obtain ⟨m, rfl⟩ : ∃ m, n = m + 1 := ⟨n - 1, by omega⟩
  rw [pB, if_neg hn, h1 m (by omega), Option.bind_some, h2 m (by omega), Option.bind_some]
theorem EvT.to {r : List Tok} {x : Nd × List Tok} (h1 : EvE 5 r x) : EvT ([116, 111] :: r) ([x.1], x.2) := by
  obtain ⟨N0, h1⟩ := h1
  refine ⟨(max 0 N0) + 1, fun n hn => ?_⟩
  obtain ⟨m, rfl⟩ : ∃ m, n = m + 1 := ⟨n - 1, by omega⟩
  have g0 := h1 m (by omega)
  rw [pT]
  simp (decide := true) only [g0, List.headD_cons, List.tail_cons, Option.bind_some, ↓reduceIte, and_true, true_and, and_self, false_and, if_false, if_true]
theorem EvT.none {r : List Tok}  : EvT ([59] :: r) ([], [59] :: r) := by
  refine ⟨0 + 1, fun n hn => ?_⟩
  obtain ⟨m, rfl⟩ : ∃ m, n = m + 1 := ⟨n - 1, by omega⟩
  rw [pT]
  simp (decide := true) only [List.headD_cons, List.tail_cons, Option.bind_some, ↓reduceIte, and_true, true_and, and_self, false_and, if_false, if_true]
theorem EvS.var {r : List Tok} {t u : Tok} {x : Nd × List Tok} (h1 : EvE 0 r x) : EvS ([118, 97, 114] :: t :: u :: [61] :: r) (.mk 13 (bs t) 0 [.mk 5 (bs u) 0 [], x.1], x.2.tail) := by
  obtain ⟨N0, h1⟩ := h1
  refine ⟨(max 0 N0) + 1, fun n hn => ?_⟩
  obtain ⟨m, rfl⟩ : ∃ m, n = m + 1 := ⟨n - 1, by omega⟩
  have g0 := h1 m (by omega)
  rw [pS]
  simp (decide := true) only [g0, List.headD_cons, List.tail_cons, Option.bind_some, ↓reduceIte, and_true, true_and, and_self, false_and, if_false, if_true]
theorem EvS.call {r : List Tok} {x : Nd × List Tok} (h1 : EvE 0 r x) : EvS ([99, 97, 108, 108] :: r) (.mk 15 e0 0 [x.1], x.2.tail) := by
  obtain ⟨N0, h1⟩ := h1
  refine ⟨(max 0 N0) + 1, fun n hn => ?_⟩
  obtain ⟨m, rfl⟩ : ∃ m, n = m + 1 := ⟨n - 1, by omega⟩
  have g0 := h1 m (by omega)
  rw [pS]
  simp (decide := true) only [g0, List.headD_cons, List.tail_cons, Option.bind_some, ↓reduceIte, and_true, true_and, and_self, false_and, if_false, if_true]
theorem EvS.cancel {r : List Tok} {x : Nd × List Tok} (h1 : EvE 0 r x) : EvS ([99, 97, 110, 99, 101, 108] :: r) (.mk 16 e0 0 [x.1], x.2.tail) := by
  obtain ⟨N0, h1⟩ := h1
  refine ⟨(max 0 N0) + 1, fun n hn => ?_⟩
  obtain ⟨m, rfl⟩ : ∃ m, n = m + 1 := ⟨n - 1, by omega⟩
  have g0 := h1 m (by omega)
  rw [pS]
  simp (decide := true) only [g0, List.headD_cons, List.tail_cons, Option.bind_some, ↓reduceIte, and_true, true_and, and_self, false_and, if_false, if_true]
theorem EvS.join {r : List Tok} {x : Nd × List Tok} (h1 : EvE 0 r x) : EvS ([106, 111, 105, 110] :: r) (.mk 17 e0 0 [x.1], x.2.tail) := by
  obtain ⟨N0, h1⟩ := h1
  refine ⟨(max 0 N0) + 1, fun n hn => ?_⟩
  obtain ⟨m, rfl⟩ : ∃ m, n = m + 1 := ⟨n - 1, by omega⟩
  have g0 := h1 m (by omega)
  rw [pS]
  simp (decide := true) only [g0, List.headD_cons, List.tail_cons, Option.bind_some, ↓reduceIte, and_true, true_and, and_self, false_and, if_false, if_true]
theorem EvS.log {r : List Tok} {x : Nd × List Tok} (h1 : EvE 0 r x) : EvS ([108, 111, 103] :: r) (.mk 18 e0 0 [x.1], x.2.tail) := by
  obtain ⟨N0, h1⟩ := h1
  refine ⟨(max 0 N0) + 1, fun n hn => ?_⟩
  obtain ⟨m, rfl⟩ : ∃ m, n = m + 1 := ⟨n - 1, by omega⟩
  have g0 := h1 m (by omega)
  rw [pS]
  simp (decide := true) only [g0, List.headD_cons, List.tail_cons, Option.bind_some, ↓reduceIte, and_true, true_and, and_self, false_and, if_false, if_true]
theorem EvS.post {r : List Tok} {t : Tok} {x : Nd × List Tok} {y : List Nd × List Tok} (h1 : EvE 0 r x) (h2 : EvT (whenP x.2).2 y) : EvS ([112, 111, 115, 116] :: t :: r) (.mk 19 (bs t) (whenP x.2).1 (x.1 :: y.1), y.2.tail) := by
  obtain ⟨N0, h1⟩ := h1
  obtain ⟨N1, h2⟩ := h2
  refine ⟨(max (max 0 N0) N1) + 1, fun n hn => ?_⟩
  obtain ⟨m, rfl⟩ : ∃ m, n = m + 1 := ⟨n - 1, by omega⟩
  have g0 := h1 m (by omega)
  have g1 := h2 m (by omega)
  rw [pS]
  simp (decide := true) only [g0, g1, List.headD_cons, List.tail_cons, Option.bind_some, ↓reduceIte, and_true, true_and, and_self, false_and, if_false, if_true]
theorem EvS.spawn {r : List Tok} {x : Nd × List Tok} {y : List Nd × List Tok} (h1 : EvE 0 r x) (h2 : EvT x.2 y) : EvS ([115, 112, 97, 119, 110] :: r) (.mk 20 e0 0 (x.1 :: y.1), y.2.tail) := by
  obtain ⟨N0, h1⟩ := h1
  obtain ⟨N1, h2⟩ := h2
  refine ⟨(max (max 0 N0) N1) + 1, fun n hn => ?_⟩
  obtain ⟨m, rfl⟩ : ∃ m, n = m + 1 := ⟨n - 1, by omega⟩
  have g0 := h1 m (by omega)
  have g1 := h2 m (by omega)
  rw [pS]
  simp (decide := true) only [g0, g1, List.headD_cons, List.tail_cons, Option.bind_some, ↓reduceIte, and_true, true_and, and_self, false_and, if_false, if_true]
theorem EvS.enable {r : List Tok} {t : Tok}  : EvS ([101, 110, 97, 98, 108, 101] :: t :: [59] :: r) (.mk 21 (bs t) 0 [], r) := by
  refine ⟨0 + 1, fun n hn => ?_⟩
  obtain ⟨m, rfl⟩ : ∃ m, n = m + 1 := ⟨n - 1, by omega⟩
  rw [pS]
  simp (decide := true) only [List.headD_cons, List.tail_cons, Option.bind_some, ↓reduceIte, and_true, true_and, and_self, false_and, if_false, if_true]
theorem EvS.disable {r : List Tok} {t : Tok}  : EvS ([100, 105, 115, 97, 98, 108, 101] :: t :: [59] :: r) (.mk 22 (bs t) 0 [], r) := by
  refine ⟨0 + 1, fun n hn => ?_⟩
  obtain ⟨m, rfl⟩ : ∃ m, n = m + 1 := ⟨n - 1, by omega⟩
  rw [pS]
  simp (decide := true) only [List.headD_cons, List.tail_cons, Option.bind_some, ↓reduceIte, and_true, true_and, and_self, false_and, if_false, if_true]
theorem EvS.ret {r : List Tok}  : EvS ([114, 101, 116, 117, 114, 110] :: [59] :: r) (.mk 25 e0 0 [], r) := by
  refine ⟨0 + 1, fun n hn => ?_⟩
  obtain ⟨m, rfl⟩ : ∃ m, n = m + 1 := ⟨n - 1, by omega⟩
  rw [pS]
  simp (decide := true) only [List.headD_cons, List.tail_cons, Option.bind_some, ↓reduceIte, and_true, true_and, and_self, false_and, if_false, if_true]
theorem EvS.ifno {r : List Tok} {x : Nd × List Tok} {y : List Nd × List Tok} (h1 : EvE 0 r x) (h2 : EvB x.2.tail y) (hne : ¬ y.2.headD [] = [101, 108, 115, 101]) : EvS ([105, 102] :: r) (.mk 23 e0 0 [x.1, blk y.1, blk []], y.2) := by
  obtain ⟨N0, h1⟩ := h1
  obtain ⟨N1, h2⟩ := h2
  refine ⟨(max (max 0 N0) N1) + 1, fun n hn => ?_⟩
  obtain ⟨m, rfl⟩ : ∃ m, n = m + 1 := ⟨n - 1, by omega⟩
  have g0 := h1 m (by omega)
  have g1 := h2 m (by omega)
  rw [pS]
  simp (decide := true) only [g0, g1, hne, List.headD_cons, List.tail_cons, Option.bind_some, ↓reduceIte, and_true, true_and, and_self, false_and, if_false, if_true]
theorem EvS.ifel {r : List Tok} {x : Nd × List Tok} {y z : List Nd × List Tok} (h1 : EvE 0 r x) (h2 : EvB x.2.tail y) (he : y.2.headD [] = [101, 108, 115, 101]) (h3 : EvB y.2.tail.tail z) : EvS ([105, 102] :: r) (.mk 23 e0 0 [x.1, blk y.1, blk z.1], z.2) := by
  obtain ⟨N0, h1⟩ := h1
  obtain ⟨N1, h2⟩ := h2
  obtain ⟨N2, h3⟩ := h3
  refine ⟨(max (max (max 0 N0) N1) N2) + 1, fun n hn => ?_⟩
  obtain ⟨m, rfl⟩ : ∃ m, n = m + 1 := ⟨n - 1, by omega⟩
  have g0 := h1 m (by omega)
  have g1 := h2 m (by omega)
  have g2 := h3 m (by omega)
  rw [pS]
  simp (decide := true) only [g0, g1, g2, he, List.headD_cons, List.tail_cons, Option.bind_some, ↓reduceIte, and_true, true_and, and_self, false_and, if_false, if_true]
theorem EvS.while {r : List Tok} {x : Nd × List Tok} {y : List Nd × List Tok} (h1 : EvE 0 r x) (h2 : EvB x.2.tail y) : EvS ([119, 104, 105, 108, 101] :: r) (.mk 24 e0 0 [x.1, blk y.1], y.2) := by
  obtain ⟨N0, h1⟩ := h1
  obtain ⟨N1, h2⟩ := h2
  refine ⟨(max (max 0 N0) N1) + 1, fun n hn => ?_⟩
  obtain ⟨m, rfl⟩ : ∃ m, n = m + 1 := ⟨n - 1, by omega⟩
  have g0 := h1 m (by omega)
  have g1 := h2 m (by omega)
  rw [pS]
  simp (decide := true) only [g0, g1, List.headD_cons, List.tail_cons, Option.bind_some, ↓reduceIte, and_true, true_and, and_self, false_and, if_false, if_true]
/-- The words that begin a statement. -/
def skeys : List Tok := [[118, 97, 114], [99, 97, 108, 108], [99, 97, 110, 99, 101, 108], [106, 111, 105, 110], [108, 111, 103], [112, 111, 115, 116], [115, 112, 97, 119, 110], [101, 110, 97, 98, 108, 101], [100, 105, 115, 97, 98, 108, 101], [105, 102], [119, 104, 105, 108, 101], [114, 101, 116, 117, 114, 110]]
theorem EvS.set {ts : List Tok} {x y : Nd × List Tok} (hn : ∀ w ∈ skeys, ts.headD [] ≠ w) (h1 : EvE 5 ts x) (h2 : EvE 0 x.2.tail y) : EvS ts (.mk 14 e0 0 [x.1, y.1], y.2.tail) := by
  obtain ⟨N0, h1⟩ := h1
  obtain ⟨N1, h2⟩ := h2
  refine ⟨max N0 N1 + 1, fun n hn' => ?_⟩
  obtain ⟨m, rfl⟩ : ∃ m, n = m + 1 := ⟨n - 1, by omega⟩
  rw [pS, if_neg (hn _ (by decide)), if_neg (hn _ (by decide)), if_neg (hn _ (by decide)), if_neg (hn _ (by decide)), if_neg (hn _ (by decide)), if_neg (hn _ (by decide)), if_neg (hn _ (by decide)), if_neg (hn _ (by decide)), if_neg (hn _ (by decide)), if_neg (hn _ (by decide)), if_neg (hn _ (by decide)), if_neg (hn _ (by decide)), h1 m (by omega), Option.bind_some, h2 m (by omega), Option.bind_some]
theorem EvM.done {r : List Tok}  : EvM ([125] :: r) ([], r) := by
  refine ⟨0 + 1, fun n hn => ?_⟩
  obtain ⟨m, rfl⟩ : ∃ m, n = m + 1 := ⟨n - 1, by omega⟩
  rw [pM]
  simp (decide := true) only [List.headD_cons, List.tail_cons, Option.bind_some, ↓reduceIte, and_true, true_and, and_self, false_and, if_false, if_true]
theorem EvM.more {r : List Tok} {t u : Tok} {y : List Nd × List Tok} (hq : ¬ t = [125]) (h1 : EvM r y) : EvM (t :: u :: [59] :: r) (.mk 4 (bs t) 0 [.mk 5 (bs u) 0 []] :: y.1, y.2) := by
  obtain ⟨N0, h1⟩ := h1
  refine ⟨(max 0 N0) + 1, fun n hn => ?_⟩
  obtain ⟨m, rfl⟩ : ∃ m, n = m + 1 := ⟨n - 1, by omega⟩
  have g0 := h1 m (by omega)
  rw [pM]
  simp (decide := true) only [g0, hq, List.headD_cons, List.tail_cons, Option.bind_some, ↓reduceIte, and_true, true_and, and_self, false_and, if_false, if_true]
theorem EvV.done {r : List Tok}  : EvV ([125] :: r) ([], r) := by
  refine ⟨0 + 1, fun n hn => ?_⟩
  obtain ⟨m, rfl⟩ : ∃ m, n = m + 1 := ⟨n - 1, by omega⟩
  rw [pV]
  simp (decide := true) only [List.headD_cons, List.tail_cons, Option.bind_some, ↓reduceIte, and_true, true_and, and_self, false_and, if_false, if_true]
theorem EvV.more {r : List Tok} {t : Tok} {x y : List Nd × List Tok} (hq : ¬ t = [125]) (h1 : EvB r x) (h2 : EvV x.2 y) : EvV (t :: [123] :: r) (.mk 9 e0 (numL t) [blk x.1] :: y.1, y.2) := by
  obtain ⟨N0, h1⟩ := h1
  obtain ⟨N1, h2⟩ := h2
  refine ⟨(max (max 0 N0) N1) + 1, fun n hn => ?_⟩
  obtain ⟨m, rfl⟩ : ∃ m, n = m + 1 := ⟨n - 1, by omega⟩
  have g0 := h1 m (by omega)
  have g1 := h2 m (by omega)
  rw [pV]
  simp (decide := true) only [g0, g1, hq, List.headD_cons, List.tail_cons, Option.bind_some, ↓reduceIte, and_true, true_and, and_self, false_and, if_false, if_true]
theorem EvD.looper {r : List Tok} {t : Tok}  : EvD ([108, 111, 111, 112, 101, 114] :: t :: [59] :: r) (.mk 2 (bs t) 0 [], r) := by
  refine ⟨0, fun n hn => ?_⟩
  unfold pD
  simp (decide := true) only [List.headD_cons, List.tail_cons, Option.bind_some, ↓reduceIte]
theorem EvD.class {r : List Tok} {t : Tok} {x : List Nd × List Tok} (h1 : EvM r x) : EvD ([99, 108, 97, 115, 115] :: t :: [123] :: r) (.mk 3 (bs t) 0 x.1, x.2) := by
  obtain ⟨N0, h1⟩ := h1
  refine ⟨N0, fun n hn => ?_⟩
  have g0 := h1 n (by omega)
  unfold pD
  simp (decide := true) only [g0, List.headD_cons, List.tail_cons, Option.bind_some, ↓reduceIte]
theorem EvD.var {r : List Tok} {t u : Tok}  : EvD ([118, 97, 114] :: t :: u :: [59] :: r) (.mk 6 (bs t) 0 [.mk 5 (bs u) 0 []], r) := by
  refine ⟨0, fun n hn => ?_⟩
  unfold pD
  simp (decide := true) only [List.headD_cons, List.tail_cons, Option.bind_some, ↓reduceIte]
theorem EvD.fn {r : List Tok} {t : Tok} {x : List Nd × List Tok} (h1 : EvB r x) : EvD ([102, 110] :: t :: [123] :: r) (.mk 7 (bs t) 0 [blk x.1], x.2) := by
  obtain ⟨N0, h1⟩ := h1
  refine ⟨N0, fun n hn => ?_⟩
  have g0 := h1 n (by omega)
  unfold pD
  simp (decide := true) only [g0, List.headD_cons, List.tail_cons, Option.bind_some, ↓reduceIte]
theorem EvD.comp {r : List Tok} {t u : Tok} {x : List Nd × List Tok} (h1 : EvV r x) : EvD ([99, 111, 109, 112] :: t :: [111, 110] :: u :: [123] :: r) (.mk 8 (bs t) 0 (.mk 29 (bs u) 0 [] :: x.1), x.2) := by
  obtain ⟨N0, h1⟩ := h1
  refine ⟨N0, fun n hn => ?_⟩
  have g0 := h1 n (by omega)
  unfold pD
  simp (decide := true) only [g0, List.headD_cons, List.tail_cons, Option.bind_some, ↓reduceIte]
theorem EvD.off {r : List Tok} {t u : Tok} {x : List Nd × List Tok} (h1 : EvB r x) : EvD ([101, 118, 101, 110, 116] :: t :: [111, 110] :: u :: [111, 102, 102] :: [123] :: r) (.mk 10 (bs t) 0 [.mk 29 (bs u) 0 [], blk x.1], x.2) := by
  obtain ⟨N0, h1⟩ := h1
  refine ⟨N0, fun n hn => ?_⟩
  have g0 := h1 n (by omega)
  unfold pD
  simp (decide := true) only [g0, List.headD_cons, List.tail_cons, Option.bind_some, ↓reduceIte]
theorem EvD.on {r : List Tok} {t u : Tok} {x : List Nd × List Tok} (h1 : EvB r x) : EvD ([101, 118, 101, 110, 116] :: t :: [111, 110] :: u :: [111, 110] :: [123] :: r) (.mk 10 (bs t) 1 [.mk 29 (bs u) 0 [], blk x.1], x.2) := by
  obtain ⟨N0, h1⟩ := h1
  refine ⟨N0, fun n hn => ?_⟩
  have g0 := h1 n (by omega)
  unfold pD
  simp (decide := true) only [g0, List.headD_cons, List.tail_cons, Option.bind_some, ↓reduceIte]
theorem EvD.main {r : List Tok} {x : List Nd × List Tok} (h1 : EvB r x) : EvD ([109, 97, 105, 110] :: [123] :: r) (.mk 11 e0 0 [blk x.1], x.2) := by
  obtain ⟨N0, h1⟩ := h1
  refine ⟨N0, fun n hn => ?_⟩
  have g0 := h1 n (by omega)
  unfold pD
  simp (decide := true) only [g0, List.headD_cons, List.tail_cons, Option.bind_some, ↓reduceIte]
theorem EvP.done : EvP [] [] := ⟨1, fun n hn => by obtain ⟨m, rfl⟩ : ∃ m, n = m + 1 := ⟨n - 1, by omega⟩; rw [pP, if_pos rfl]⟩
theorem EvP.more {ts : List Tok} {x : Nd × List Tok} {y : List Nd} (hn : ts ≠ []) (h1 : EvD ts x) (h2 : EvP x.2 y) : EvP ts (x.1 :: y) := by
  obtain ⟨N0, h1⟩ := h1
  obtain ⟨N1, h2⟩ := h2
  refine ⟨max N0 N1 + 1, fun n hn' => ?_⟩
  obtain ⟨m, rfl⟩ : ∃ m, n = m + 1 := ⟨n - 1, by omega⟩
  rw [pP, if_neg hn, h1 m (by omega), Option.bind_some, h2 m (by omega), Option.bind_some]
end Go.Proofs.YtbpefmidgfmcaaaDoor
end
section
set_option linter.unusedVariables false
set_option linter.unusedSimpArgs false
namespace Go.Proofs.YtbpefmidgfmcaaaDoor
open Go.RowKit PTreeApart Go.Proofs.YtbpefmidgfmcaaaDoorW.PrintWords
def bad : List Tok := skeys ++ [[125], [101, 108, 115, 101]]
structure Rd (d : Nd) : Prop where
  ge : isTerm d.kind → ∀ ne, Ok d ne → ∀ p r res, p ≤ binds d.kind d.text → follow r ≤ binds d.kind d.text → EvL p d r res → EvE p (tkd d ++ r) res
  gs : isStmt d.kind → ∀ ne, Ok d ne → ∀ r : List Tok, ¬ r.headD [] = [101, 108, 115, 101] → EvS (tkd d ++ r) (d, r)
  gb : d.kind = 12 → ∀ ne, Ok d ne → d = blk d.kids ∧ ∃ ts, tkd d = [123] :: ts ∧ ∀ r, EvB (ts ++ r) (d.kids, r)
  hd : isTerm d.kind → ∀ ne, Ok d ne → ∃ w rest, tkd d = w :: rest ∧ ∀ x ∈ bad, w ≠ x
theorem term_b {k : Int} {t : ByteArray} (h : isTerm k) : 0 < binds k t := by
  unfold isTerm at h
  unfold binds
  repeat' split
  all_goals first | decide | omega
theorem follow_0 {c : Tok} {r : List Tok} (h : follow [c] = 0) : follow (c :: r) ≤ 0 := by
  have : follow (c :: r) = follow [c] := rfl
  omega
theorem follow_4 (r : List Tok) (h : follow r ≤ 4) : follow r < 4 := by
  unfold follow at h ⊢
  repeat' split
  all_goals first | decide | (split at h <;> omega) | skip
  all_goals simp_all
theorem kidE {k : Int} {t : ByteArray} {i : Nat} {e : Nd} {ne p : Int} {r : List Tok} {res : Nd × List Tok} (h : Rd e) (ht : isTerm e.kind) (hO : Ok e ne) (hp : p ≤ must k t i ∨ p ≤ 0) (hf : follow r ≤ must k t i ∨ follow r ≤ 0) (hl : EvL p e r res) :
    EvE p (parY (par k t i e.kind e.text) (tkd e) ++ r) res := by
  have hb := term_b (t := e.text) ht
  unfold parY
  by_cases hpar : par k t i e.kind e.text = true
  · rw [if_pos hpar, show ([40] :: (tkd e ++ [[41]])) ++ r = [40] :: (tkd e ++ ([41] :: r)) from by simp]
    exact EvE.paren (h.ge ht ne hO 0 ([41] :: r) (e, [41] :: r) (by omega) (by have := follow_0 (c := [41]) (r := r) (by decide); omega) (EvL.stop (.inr (follow_0 (by decide))))) hl
  · rw [if_neg hpar]
    have hm : must k t i ≤ binds e.kind e.text := by
      unfold par at hpar
      have h2 : ¬ (0 < binds e.kind e.text ∧ binds e.kind e.text < must k t i) := fun h' => hpar (decide_eq_true h')
      omega
    exact h.ge ht ne hO p r res (by omega) (by omega) hl
theorem kidH {k : Int} {t : ByteArray} {i : Nat} {e : Nd} {ne : Int} (h : Rd e) (ht : isTerm e.kind) (hO : Ok e ne) : ∃ w rest, parY (par k t i e.kind e.text) (tkd e) = w :: rest ∧ ∀ x ∈ bad, w ≠ x := by
  unfold parY
  split
  · exact ⟨_, _, rfl, by decide⟩
  · exact h.hd ht ne hO
theorem shape1 {ks : List Nd} {x : Int} (h : ks.map Nd.kind = [x]) : ∃ d, ks = [d] ∧ d.kind = x := by
  match ks, h with
  | [d], h => exact ⟨d, rfl, by simpa using h⟩
theorem shape2 {ks : List Nd} {x y : Int} (h : ks.map Nd.kind = [x, y]) : ∃ d e, ks = [d, e] ∧ d.kind = x ∧ e.kind = y := by
  match ks, h with
  | [d, e], h => exact ⟨d, e, rfl, by simpa using h⟩
theorem shape3 {ks : List Nd} {x y z : Int} (h : ks.map Nd.kind = [x, y, z]) : ∃ d e f, ks = [d, e, f] ∧ d.kind = x ∧ e.kind = y ∧ f.kind = z := by
  match ks, h with
  | [d, e, f], h => exact ⟨d, e, f, rfl, by simpa using h⟩
theorem nopar {k : Int} {t : ByteArray} {i : Nat} {kk : Int} {kt : ByteArray} (h : must k t i = 0) (y : List Tok) : parY (par k t i kk kt) y = y := by
  rw [par_must k t i kk kt h]; rfl
theorem nopar12 {k : Int} {t : ByteArray} {i : Nat} {kt : ByteArray} (y : List Tok) : parY (par k t i 12 kt) y = y := by
  have : par k t i 12 kt = false := by unfold par; rw [show binds 12 kt = 0 from rfl]; rfl
  rw [this]; rfl
theorem dec_head (u : Nat) : digitB ((Lib.decDigits u).headD 0) = true := by
  induction u using Nat.strongRecOn with
  | _ u ih =>
    rw [Lib.decDigits]
    have hd : ∀ i : Fin 10, digitB (UInt8.ofNat (48 + i.val)) = true := by decide
    split
    · rename_i h
      exact hd ⟨u, h⟩
    · rename_i h
      have := ih (u / 10) (by omega)
      cases hl : Lib.decDigits (u / 10) with
      | nil => rw [hl] at this; cases this
      | cons c l => rw [hl] at this; exact this
theorem itoa_head (n : Int) (h : 0 ≤ n) : digitB ((Lib.itoa n).headD 0) = true := by
  rw [Lib.itoa, if_neg (by omega)]; exact dec_head _
theorem text_e0 {t : ByteArray} (h : t.data.toList = []) : t = e0 := by
  cases t with
  | mk d => unfold e0; congr 1; simpa using h
theorem digit_bad {w : Tok} (h : digitB (w.headD 0) = true) : ∀ x ∈ bad, w ≠ x := by
  intro x hx e
  subst e
  revert h
  revert hx
  revert w
  decide
theorem name_bad {w : Tok} (h : nameB w = true) : ∀ x ∈ bad, w ≠ x := fun x hx => name_key h x (by revert hx; revert x; decide)
theorem must30 (t : ByteArray) (i : Nat) : must 30 t i = 5 := by simp [must]
theorem must31 (t : ByteArray) : must 31 t 0 = 5 ∧ must 31 t 1 = 0 := by simp [must]
theorem must34 (t : ByteArray) (i : Nat) : must 34 t i = 4 := by simp [must]
theorem must35 (t : ByteArray) (i : Nat) : must 35 t i = 4 := by simp [must]
theorem must32 (t : ByteArray) : binds 32 t ≤ must 32 t 0 ∧ binds 32 t + 1 ≤ must 32 t 1 ∧ 1 ≤ binds 32 t := by
  have : 1 ≤ binds 32 t := by unfold binds; repeat' split
                              all_goals first | decide | omega
  unfold must
  rw [if_pos rfl, if_pos rfl]
  by_cases h : binds 32 t = 1
  · rw [if_pos h, if_pos h]; omega
  · rw [if_neg h, if_neg h]; omega
theorem op_binds {t : ByteArray} (h : opB t.data.toList = true) : (t = bs [42] ∧ binds 32 t = 3) ∨ (t = bs [43] ∧ binds 32 t = 2) ∨ (t = bs [45] ∧ binds 32 t = 2) ∨ (t = bs [60] ∧ binds 32 t = 1) ∨ (t = bs [61, 61] ∧ binds 32 t = 1) := by
  have e : ∀ w, t.data.toList = w → t = bs w := fun w hw => by rw [← hw, bs_data]
  simp only [opB, Bool.or_eq_true, beq_iff_eq] at h
  rcases h with (((h | h) | h) | h) | h
  · exact .inr (.inl ⟨e _ h, by rw [e _ h]; decide⟩)
  · exact .inr (.inr (.inl ⟨e _ h, by rw [e _ h]; decide⟩))
  · exact .inl ⟨e _ h, by rw [e _ h]; decide⟩
  · exact .inr (.inr (.inr (.inl ⟨e _ h, by rw [e _ h]; decide⟩)))
  · exact .inr (.inr (.inr (.inr ⟨e _ h, by rw [e _ h]; decide⟩)))
theorem rd_ge {k : Int} {t : ByteArray} {n : Int} {ks : List Nd} (ih : ∀ d ∈ ks, Rd d) (hk : isTerm k) (ne : Int) (hO : Ok (.mk k t n ks) ne) (p : Int) (r : List Tok) (res : Nd × List Tok)
    (hp : p ≤ binds k t) (hf : follow r ≤ binds k t) (hl : EvL p (.mk k t n ks) r res) : EvE p (tkd (.mk k t n ks) ++ r) res := by
  obtain ⟨_, h1, h36, htx, hnum, hkids, hOs⟩ := hO
  have hk' : k = 26 ∨ k = 27 ∨ k = 28 ∨ k = 29 ∨ k = 30 ∨ k = 31 ∨ k = 32 ∨ k = 33 ∨ k = 34 ∨ k = 35 ∨ k = 36 := by unfold isTerm at hk; omega
  rcases hk' with rfl | rfl | rfl | rfl | rfl | rfl | rfl | rfl | rfl | rfl | rfl <;>
    simp (decide := true) only [textOk, ↓reduceIte, or_true, true_or, or_self] at htx <;>
    simp (decide := true) only [kidsOk, ↓reduceIte, or_true, true_or, or_self] at hkids <;>
    simp (decide := true) only [numOk, ↓reduceIte] at hnum
  · obtain rfl := text_e0 htx
    obtain rfl : ks = [] := by simpa using hkids
    rw [show tkd (.mk 26 e0 n []) ++ r = Lib.itoa n :: r from rfl]
    refine EvE.number (itoa_head n hnum.1) ?_
    rw [num_itoa n hnum.1]; exact hl
  · obtain rfl := text_e0 htx
    obtain rfl : ks = [] := by simpa using hkids
    obtain rfl := hnum
    exact EvE.null hl
  · obtain rfl := text_e0 htx
    obtain rfl : ks = [] := by simpa using hkids
    obtain rfl := hnum
    exact EvE.it hl
  · obtain rfl : ks = [] := by simpa using hkids
    obtain rfl := hnum
    exact EvE.name htx hl
  · obtain ⟨x, hx, hxt⟩ := hkids
    obtain ⟨d, rfl, rfl⟩ := shape1 hx
    obtain rfl := hnum
    rw [show tkd (.mk 30 t 0 [d]) ++ r = parY (par 30 t 0 d.kind d.text) (tkd d) ++ ([46] :: t.data.toList :: r) from by simp (decide := true) only [tkd, asmY, tks, ↓reduceIte, List.getD_cons_zero, List.append_assoc, List.cons_append, List.nil_append]]
    have hp5 : p ≤ 5 := hp
    refine kidE (ih d List.mem_cons_self) hxt hOs.1 (.inl (by rw [must30]; exact hp5)) (.inl (by rw [must30]; exact Int.le_refl _)) (EvL.dot hp5 hl)
  · obtain ⟨x, y, hx, hxt, hyt⟩ := hkids
    obtain ⟨d, e, rfl, rfl, rfl⟩ := shape2 hx
    obtain rfl := hnum
    obtain rfl := text_e0 htx
    rw [show tkd (.mk 31 e0 0 [d, e]) ++ r = parY (par 31 e0 0 d.kind d.text) (tkd d) ++ ([91] :: (parY (par 31 e0 1 e.kind e.text) (tkd e) ++ ([93] :: r))) from by simp (decide := true) only [tkd, asmY, tks, ↓reduceIte, List.getD_cons_zero, List.getD_cons_succ, List.append_assoc, List.cons_append, List.nil_append, Nat.zero_add]]
    have hp5 : p ≤ 5 := hp
    refine kidE (ih d List.mem_cons_self) hxt hOs.1 (.inl (by rw [(must31 _).1]; exact hp5)) (.inl (by rw [(must31 _).1]; exact Int.le_refl _)) ?_
    exact EvL.idx (x := (e, [93] :: r)) hp5 (kidE (ih e (by simp)) hyt hOs.2.1 (.inr (by omega)) (.inr (follow_0 (by decide))) (EvL.stop (.inr (follow_0 (by decide))))) hl
  · obtain ⟨x, y, hx, hxt, hyt⟩ := hkids
    obtain ⟨d, e, rfl, rfl, rfl⟩ := shape2 hx
    obtain rfl := hnum
    rw [show tkd (.mk 32 t 0 [d, e]) ++ r = parY (par 32 t 0 d.kind d.text) (tkd d) ++ (t.data.toList.map (fun c => [c]) ++ (parY (par 32 t 1 e.kind e.text) (tkd e) ++ r)) from by simp (decide := true) only [tkd, asmY, tks, ↓reduceIte, List.getD_cons_zero, List.getD_cons_succ, List.append_assoc, List.cons_append, List.nil_append, Nat.zero_add]]
    obtain ⟨hm0, hm1, hb1⟩ := must32 t
    have hE : EvE (binds 32 t + 1) (parY (par 32 t 1 e.kind e.text) (tkd e) ++ r) (e, r) := kidE (ih e (by simp)) hyt hOs.2.1 (.inl hm1) (.inl (by omega)) (EvL.stop (.inl (by omega)))
    have hfo : follow (t.data.toList.map (fun c => [c]) ++ (parY (par 32 t 1 e.kind e.text) (tkd e) ++ r)) ≤ must 32 t 0 := by
      refine Int.le_trans ?_ hm0
      rcases op_binds htx with ⟨rfl, hb⟩ | ⟨rfl, hb⟩ | ⟨rfl, hb⟩ | ⟨rfl, hb⟩ | ⟨rfl, hb⟩ <;> (rw [hb]; exact Int.le_refl _)
    refine kidE (ih d List.mem_cons_self) hxt hOs.1 (.inl (by omega)) (.inl hfo) ?_
    rcases op_binds htx with ⟨rfl, hb⟩ | ⟨rfl, hb⟩ | ⟨rfl, hb⟩ | ⟨rfl, hb⟩ | ⟨rfl, hb⟩ <;> rw [hb] at hE hp
    · exact EvL.mul hp hE hl
    · exact EvL.add hp hE hl
    · exact EvL.sub hp hE hl
    · exact EvL.lss hp hE hl
    · exact EvL.eql hp hE hl
  · obtain rfl : ks = [] := by simpa using hkids
    obtain rfl := hnum
    exact EvE.new hl
  · obtain ⟨x, hx, hxt⟩ := hkids
    obtain ⟨d, rfl, rfl⟩ := shape1 hx
    obtain rfl := hnum
    obtain rfl := text_e0 htx
    rw [show tkd (.mk 34 e0 0 [d]) ++ r = [97, 114, 114] :: (parY (par 34 e0 0 d.kind d.text) (tkd d) ++ r) from by simp (decide := true) only [tkd, asmY, tks, ↓reduceIte, List.flatten_cons, List.flatten_nil, List.append_nil, List.cons_append]]
    have hf4 : follow r ≤ 4 := hf
    exact EvE.arr (x := (d, r)) (kidE (ih d List.mem_cons_self) hxt hOs.1 (.inl (by rw [must34]; exact Int.le_refl _)) (.inl (by rw [must34]; exact hf4)) (EvL.stop (.inl (follow_4 r hf4)))) hl
  · obtain ⟨x, hx, hxt⟩ := hkids
    obtain ⟨d, rfl, rfl⟩ := shape1 hx
    obtain rfl := hnum
    obtain rfl := text_e0 htx
    rw [show tkd (.mk 35 e0 0 [d]) ++ r = [108, 101, 110] :: (parY (par 35 e0 0 d.kind d.text) (tkd d) ++ r) from by simp (decide := true) only [tkd, asmY, tks, ↓reduceIte, List.flatten_cons, List.flatten_nil, List.append_nil, List.cons_append]]
    have hf4 : follow r ≤ 4 := hf
    exact EvE.len (x := (d, r)) (kidE (ih d List.mem_cons_self) hxt hOs.1 (.inl (by rw [must35]; exact Int.le_refl _)) (.inl (by rw [must35]; exact hf4)) (EvL.stop (.inl (follow_4 r hf4)))) hl
  · obtain ⟨d, rfl, hd⟩ := shape1 hkids
    obtain rfl := hnum
    obtain rfl := text_e0 htx
    obtain ⟨e1, ts, e2, e3⟩ := (ih d List.mem_cons_self).gb hd _ hOs.1
    rw [show tkd (.mk 36 e0 0 [d]) ++ r = [102, 110] :: (parY (par 36 e0 0 d.kind d.text) (tkd d) ++ r) from by simp (decide := true) only [tkd, asmY, tks, ↓reduceIte, List.flatten_cons, List.flatten_nil, List.append_nil, List.cons_append]]
    rw [hd, nopar12, e2, List.cons_append]
    refine EvE.fn (x := (d.kids, r)) (e3 r) ?_
    rw [← e1]; exact hl
end Go.Proofs.YtbpefmidgfmcaaaDoor
end
section
set_option linter.unusedVariables false
set_option linter.unusedSimpArgs false
namespace Go.Proofs.YtbpefmidgfmcaaaDoor
open Go.RowKit PTreeApart Go.Proofs.YtbpefmidgfmcaaaDoorW.PrintWords
theorem rd_hd {k : Int} {t : ByteArray} {n : Int} {ks : List Nd} (ih : ∀ d ∈ ks, Rd d) (hk : isTerm k) (ne : Int) (hO : Ok (.mk k t n ks) ne) : ∃ w rest, tkd (.mk k t n ks) = w :: rest ∧ ∀ x ∈ bad, w ≠ x := by
  obtain ⟨_, h1, h36, htx, hnum, hkids, hOs⟩ := hO
  have hk' : k = 26 ∨ k = 27 ∨ k = 28 ∨ k = 29 ∨ k = 30 ∨ k = 31 ∨ k = 32 ∨ k = 33 ∨ k = 34 ∨ k = 35 ∨ k = 36 := by unfold isTerm at hk; omega
  rcases hk' with rfl | rfl | rfl | rfl | rfl | rfl | rfl | rfl | rfl | rfl | rfl <;>
    simp (decide := true) only [textOk, ↓reduceIte, or_true, true_or, or_self] at htx <;>
    simp (decide := true) only [kidsOk, ↓reduceIte, or_true, true_or, or_self] at hkids <;>
    simp (decide := true) only [numOk, ↓reduceIte] at hnum
  · exact ⟨_, _, rfl, digit_bad (itoa_head n hnum.1)⟩
  · exact ⟨_, _, rfl, by decide⟩
  · exact ⟨_, _, rfl, by decide⟩
  · exact ⟨_, _, rfl, name_bad htx⟩
  · obtain ⟨x, hx, hxt⟩ := hkids
    obtain ⟨d, rfl, rfl⟩ := shape1 hx
    obtain ⟨w, rest, h3, h4⟩ := kidH (k := 30) (t := t) (i := 0) (ih d List.mem_cons_self) hxt hOs.1
    refine ⟨w, rest ++ [[46], t.data.toList], ?_, h4⟩
    simp (decide := true) only [tkd, asmY, tks, ↓reduceIte, List.getD_cons_zero, List.append_assoc, List.cons_append, List.nil_append, h3]
  · obtain ⟨x, y, hx, hxt, hyt⟩ := hkids
    obtain ⟨d, e, rfl, rfl, rfl⟩ := shape2 hx
    obtain ⟨w, rest, h3, h4⟩ := kidH (k := 31) (t := t) (i := 0) (ih d List.mem_cons_self) hxt hOs.1
    refine ⟨w, rest ++ (asmY 31 t.data.toList n false [[], parY (par 31 t 1 e.kind e.text) (tkd e)]), ?_, h4⟩
    simp (decide := true) only [tkd, asmY, tks, ↓reduceIte, List.getD_cons_zero, List.getD_cons_succ, List.append_assoc, List.cons_append, List.nil_append, Nat.zero_add, h3]
  · obtain ⟨x, y, hx, hxt, hyt⟩ := hkids
    obtain ⟨d, e, rfl, rfl, rfl⟩ := shape2 hx
    obtain ⟨w, rest, h3, h4⟩ := kidH (k := 32) (t := t) (i := 0) (ih d List.mem_cons_self) hxt hOs.1
    refine ⟨w, rest ++ (asmY 32 t.data.toList n false [[], parY (par 32 t 1 e.kind e.text) (tkd e)]), ?_, h4⟩
    simp (decide := true) only [tkd, asmY, tks, ↓reduceIte, List.getD_cons_zero, List.getD_cons_succ, List.append_assoc, List.cons_append, List.nil_append, Nat.zero_add, h3]
  · exact ⟨_, _, rfl, by decide⟩
  · exact ⟨_, _, rfl, by decide⟩
  · exact ⟨_, _, rfl, by decide⟩
  · exact ⟨_, _, rfl, by decide⟩
theorem must0 {k : Int} (t : ByteArray) (i : Nat) (h : k ≠ 30 ∧ k ≠ 31 ∧ k ≠ 32 ∧ k ≠ 34 ∧ k ≠ 35) : must k t i = 0 := must_zero k t i h
/-- A statement's term. -/
theorem exprE {k : Int} {t : ByteArray} {i : Nat} {e : Nd} {ne : Int} {r : List Tok} (h : Rd e) (ht : isTerm e.kind) (hO : Ok e ne) (hf : follow r ≤ 0) : EvE 0 (parY (par k t i e.kind e.text) (tkd e) ++ r) (e, r) :=
  kidE h ht hO (.inr (Int.le_refl _)) (.inr hf) (EvL.stop (.inr hf))
theorem var_term {x : Int} (h : isVar x) : isTerm x ∧ ∀ t, binds x t = 5 := by
  rcases h with rfl | rfl | rfl
  · exact ⟨by unfold isTerm; omega, fun t => rfl⟩
  · exact ⟨by unfold isTerm; omega, fun t => rfl⟩
  · exact ⟨by unfold isTerm; omega, fun t => rfl⟩
/-- A variable. -/
theorem varE {k : Int} {t : ByteArray} {i : Nat} {e : Nd} {ne : Int} {r : List Tok} (h : Rd e) (hv : isVar e.kind) (hm : must k t i = 0) (hO : Ok e ne) (hf : follow r < 5) : EvE 5 (parY (par k t i e.kind e.text) (tkd e) ++ r) (e, r) := by
  obtain ⟨h1, h2⟩ := var_term hv
  rw [nopar hm]
  exact h.ge h1 ne hO 5 r (e, r) (by rw [h2]; exact Int.le_refl _) (by rw [h2]; omega) (EvL.stop (.inl hf))
/-- The words behind a post's term. -/
theorem when_read (n : Int) (hn : -1 ≤ n) (r : List Tok) (h1 : ¬ r.headD [] = [102, 114, 111, 110, 116]) (h2 : ¬ r.headD [] = [97, 102, 116, 101, 114]) : whenP (whenY n ++ r) = (n, r) ∧ follow (whenY n ++ r) ≤ max 0 (follow r) := by
  unfold whenY
  by_cases h : n < 0
  · rw [if_pos h]
    obtain rfl : n = -1 := by omega
    exact ⟨rfl, Int.le_trans (follow_0 (by decide)) (Int.le_max_left _ _)⟩
  · rw [if_neg h]
    by_cases h0 : 0 < n
    · rw [if_pos h0]
      refine ⟨?_, Int.le_trans (follow_0 (by decide)) (Int.le_max_left _ _)⟩
      show (num (Lib.itoa n), r) = (n, r)
      rw [num_itoa n (by omega)]
    · rw [if_neg h0]
      obtain rfl : n = 0 := by omega
      refine ⟨?_, Int.le_max_right _ _⟩
      rw [List.nil_append]
      unfold whenP
      rw [if_neg h1, if_neg h2]
/-- The third of a post's kids. -/
theorem to_read {k : Int} {t : ByteArray} {ks : List Nd} {ne : Int} (ih : ∀ d ∈ ks, Rd d) (hk : k = 19 ∨ k = 20) (hkids : ∃ e, isTerm e ∧ (ks.map Nd.kind = [e] ∨ ∃ v, ks.map Nd.kind = [e, v] ∧ isVar v)) (hOs : Oks k t 0 ks ne) (r : List Tok) :
    ∃ (e : Nd) (l : List Nd), ks = e :: l ∧ isTerm e.kind ∧ EvT (toY (tks k t 0 ks) ++ ([59] :: r)) (l, [59] :: r) ∧ (toY (tks k t 0 ks) ++ ([59] :: r)).headD [] ∈ [[116, 111], [59]] := by
  obtain ⟨x, hxt, hx | ⟨y, hx, hv⟩⟩ := hkids
  · obtain ⟨d, rfl, rfl⟩ := shape1 hx
    exact ⟨d, [], rfl, hxt, EvT.none, by show ([59] :: r : List Tok).headD [] ∈ _; rw [List.headD_cons]; decide⟩
  · obtain ⟨d, e, rfl, rfl, rfl⟩ := shape2 hx
    refine ⟨d, [e], rfl, hxt, ?_, by show ([116, 111] : Tok) ∈ _; decide⟩
    have h0 : must k t 1 = 0 := must0 t 1 (by omega)
    exact EvT.to (x := (e, [59] :: r)) (varE (ih e (by simp)) hv h0 hOs.2.1 (by have := follow_0 (c := [59]) (r := r) (by decide); omega))
theorem rd_gs {k : Int} {t : ByteArray} {n : Int} {ks : List Nd} (ih : ∀ d ∈ ks, Rd d) (hk : isStmt k) (ne : Int) (hO : Ok (.mk k t n ks) ne) (r : List Tok) (hr : ¬ r.headD [] = [101, 108, 115, 101]) : EvS (tkd (.mk k t n ks) ++ r) (.mk k t n ks, r) := by
  obtain ⟨_, h1, h36, htx, hnum, hkids, hOs⟩ := hO
  have hk' : k = 13 ∨ k = 14 ∨ k = 15 ∨ k = 16 ∨ k = 17 ∨ k = 18 ∨ k = 19 ∨ k = 20 ∨ k = 21 ∨ k = 22 ∨ k = 23 ∨ k = 24 ∨ k = 25 := by unfold isStmt at hk; omega
  rcases hk' with rfl | rfl | rfl | rfl | rfl | rfl | rfl | rfl | rfl | rfl | rfl | rfl | rfl <;>
    simp (decide := true) only [textOk, ↓reduceIte, or_true, true_or, or_self] at htx <;>
    simp (decide := true) only [kidsOk, ↓reduceIte, or_true, true_or, or_self] at hkids <;>
    simp (decide := true) only [numOk, ↓reduceIte] at hnum
  · obtain ⟨x, hx, hxt⟩ := hkids
    obtain ⟨d, e, rfl, hd, rfl⟩ := shape2 hx
    obtain rfl := hnum
    obtain ⟨k5, t5, n5, ks5⟩ := d
    obtain rfl : k5 = 5 := hd
    obtain ⟨_, _, _, ht5, hn5, hk5, _⟩ := hOs.1
    simp (decide := true) only [kidsOk, numOk, ↓reduceIte, or_true, true_or, or_self] at hk5 hn5
    obtain rfl : ks5 = [] := by simpa using hk5
    obtain rfl := hn5
    have h0 := must0 (k := 13) t 0 (by omega)
    rw [show tkd (.mk 13 t 0 [.mk 5 t5 0 [], e]) ++ r = [118, 97, 114] :: t.data.toList :: (parY (par 13 t 0 (Nd.mk 5 t5 0 []).kind (Nd.mk 5 t5 0 []).text) (tkd (Nd.mk 5 t5 0 [])) ++ ([61] :: (parY (par 13 t 1 e.kind e.text) (tkd e) ++ ([59] :: r)))) from by simp (decide := true) only [tkd, asmY, tks, ↓reduceIte, List.getD_cons_zero, List.getD_cons_succ, List.flatten_cons, List.flatten_nil, List.append_nil, List.append_assoc, List.cons_append, List.nil_append, Nat.zero_add], nopar h0]
    exact EvS.var (x := (e, [59] :: r)) (exprE (ih e (by simp)) hxt hOs.2.1 (follow_0 (by decide)))
  · obtain ⟨x, y, hx, hv, hyt⟩ := hkids
    obtain ⟨d, e, rfl, rfl, rfl⟩ := shape2 hx
    obtain rfl := hnum
    obtain rfl := text_e0 htx
    rw [show tkd (.mk 14 e0 0 [d, e]) ++ r = parY (par 14 e0 0 d.kind d.text) (tkd d) ++ ([61] :: (parY (par 14 e0 1 e.kind e.text) (tkd e) ++ ([59] :: r))) from by simp (decide := true) only [tkd, asmY, tks, ↓reduceIte, List.getD_cons_zero, List.getD_cons_succ, List.flatten_cons, List.flatten_nil, List.append_nil, List.append_assoc, List.cons_append, List.nil_append, Nat.zero_add]]
    obtain ⟨w, rest, h3, h4⟩ := kidH (k := 14) (t := e0) (i := 0) (ih d List.mem_cons_self) (var_term hv).1 hOs.1
    refine EvS.set (x := (d, [61] :: (parY (par 14 e0 1 e.kind e.text) (tkd e) ++ ([59] :: r)))) (y := (e, [59] :: r)) ?_ ?_ ?_
    · rw [h3]
      exact fun x hx => h4 x (List.mem_append_left _ hx)
    · exact varE (ih d List.mem_cons_self) hv (must0 e0 0 (by omega)) hOs.1 (by
        have e : ∀ R : List Tok, follow ([61] :: R) = 1 := fun R => rfl
        rw [e]; decide)
    · exact exprE (ih e (by simp)) hyt hOs.2.1 (follow_0 (by decide))
  · obtain ⟨x, hx, hxt⟩ := hkids
    obtain ⟨d, rfl, rfl⟩ := shape1 hx
    obtain rfl := hnum
    obtain rfl := text_e0 htx
    rw [show tkd (.mk 15 e0 0 [d]) ++ r = [99, 97, 108, 108] :: (parY (par 15 e0 0 d.kind d.text) (tkd d) ++ ([59] :: r)) from by simp (decide := true) only [tkd, asmY, tks, ↓reduceIte, List.getD_cons_zero, List.getD_cons_succ, List.flatten_cons, List.flatten_nil, List.append_nil, List.append_assoc, List.cons_append, List.nil_append, Nat.zero_add]]
    exact EvS.call (x := (d, [59] :: r)) (exprE (ih d List.mem_cons_self) hxt hOs.1 (follow_0 (by decide)))
  · obtain ⟨x, hx, hxt⟩ := hkids
    obtain ⟨d, rfl, rfl⟩ := shape1 hx
    obtain rfl := hnum
    obtain rfl := text_e0 htx
    rw [show tkd (.mk 16 e0 0 [d]) ++ r = [99, 97, 110, 99, 101, 108] :: (parY (par 16 e0 0 d.kind d.text) (tkd d) ++ ([59] :: r)) from by simp (decide := true) only [tkd, asmY, tks, ↓reduceIte, List.getD_cons_zero, List.getD_cons_succ, List.flatten_cons, List.flatten_nil, List.append_nil, List.append_assoc, List.cons_append, List.nil_append, Nat.zero_add]]
    exact EvS.cancel (x := (d, [59] :: r)) (exprE (ih d List.mem_cons_self) hxt hOs.1 (follow_0 (by decide)))
  · obtain ⟨x, hx, hxt⟩ := hkids
    obtain ⟨d, rfl, rfl⟩ := shape1 hx
    obtain rfl := hnum
    obtain rfl := text_e0 htx
    rw [show tkd (.mk 17 e0 0 [d]) ++ r = [106, 111, 105, 110] :: (parY (par 17 e0 0 d.kind d.text) (tkd d) ++ ([59] :: r)) from by simp (decide := true) only [tkd, asmY, tks, ↓reduceIte, List.getD_cons_zero, List.getD_cons_succ, List.flatten_cons, List.flatten_nil, List.append_nil, List.append_assoc, List.cons_append, List.nil_append, Nat.zero_add]]
    exact EvS.join (x := (d, [59] :: r)) (exprE (ih d List.mem_cons_self) hxt hOs.1 (follow_0 (by decide)))
  · obtain ⟨x, hx, hxt⟩ := hkids
    obtain ⟨d, rfl, rfl⟩ := shape1 hx
    obtain rfl := hnum
    obtain rfl := text_e0 htx
    rw [show tkd (.mk 18 e0 0 [d]) ++ r = [108, 111, 103] :: (parY (par 18 e0 0 d.kind d.text) (tkd d) ++ ([59] :: r)) from by simp (decide := true) only [tkd, asmY, tks, ↓reduceIte, List.getD_cons_zero, List.getD_cons_succ, List.flatten_cons, List.flatten_nil, List.append_nil, List.append_assoc, List.cons_append, List.nil_append, Nat.zero_add]]
    exact EvS.log (x := (d, [59] :: r)) (exprE (ih d List.mem_cons_self) hxt hOs.1 (follow_0 (by decide)))
  · obtain ⟨e, l, rfl, het, hT, hH⟩ := to_read ih (.inl rfl) hkids hOs r
    rw [show tkd (.mk 19 t n (e :: l)) ++ r = [112, 111, 115, 116] :: t.data.toList :: (parY (par 19 t 0 e.kind e.text) (tkd e) ++ (whenY n ++ (toY (tks 19 t 0 (e :: l)) ++ ([59] :: r)))) from by simp (decide := true) only [tkd, asmY, tks, ↓reduceIte, List.getD_cons_zero, List.getD_cons_succ, List.flatten_cons, List.flatten_nil, List.append_nil, List.append_assoc, List.cons_append, List.nil_append, Nat.zero_add]]
    generalize toY (tks 19 t 0 (e :: l)) ++ ([59] :: r) = R at hT hH ⊢
    have hR : ¬ R.headD [] = [102, 114, 111, 110, 116] ∧ ¬ R.headD [] = [97, 102, 116, 101, 114] ∧ follow R ≤ 0 := by
      unfold follow
      simp only [List.mem_cons, List.not_mem_nil, or_false] at hH
      rcases hH with hH | hH <;> (rw [hH]; decide)
    obtain ⟨w1, w2⟩ := when_read n hnum.1 R hR.1 hR.2.1
    have hE := exprE (k := 19) (t := t) (i := 0) (r := whenY n ++ R) (ih e List.mem_cons_self) het hOs.1 (by have := hR.2.2; omega)
    have := EvS.post (t := t.data.toList) (x := (e, whenY n ++ R)) (y := (l, [59] :: r)) hE (by rw [w1]; exact hT)
    rw [w1] at this
    exact this
  · obtain ⟨e, l, rfl, het, hT, hH⟩ := to_read ih (.inr rfl) hkids hOs r
    obtain rfl := hnum
    obtain rfl := text_e0 htx
    rw [show tkd (.mk 20 e0 0 (e :: l)) ++ r = [115, 112, 97, 119, 110] :: (parY (par 20 e0 0 e.kind e.text) (tkd e) ++ (toY (tks 20 e0 0 (e :: l)) ++ ([59] :: r))) from by simp (decide := true) only [tkd, asmY, tks, ↓reduceIte, List.getD_cons_zero, List.getD_cons_succ, List.flatten_cons, List.flatten_nil, List.append_nil, List.append_assoc, List.cons_append, List.nil_append, Nat.zero_add]]
    generalize toY (tks 20 e0 0 (e :: l)) ++ ([59] :: r) = R at hT hH ⊢
    have hR : follow R ≤ 0 := by
      unfold follow
      simp only [List.mem_cons, List.not_mem_nil, or_false] at hH
      rcases hH with hH | hH <;> (rw [hH]; decide)
    exact EvS.spawn (x := (e, R)) (y := (l, [59] :: r)) (exprE (ih e List.mem_cons_self) het hOs.1 hR) hT
  · obtain rfl : ks = [] := by simpa using hkids
    obtain rfl := hnum
    exact EvS.enable
  · obtain rfl : ks = [] := by simpa using hkids
    obtain rfl := hnum
    exact EvS.disable
  · obtain ⟨x, hx, hxt⟩ := hkids
    obtain ⟨d, e, f, rfl, rfl, he, hf⟩ := shape3 hx
    obtain rfl := hnum
    obtain rfl := text_e0 htx
    obtain ⟨e1, ts1, e2, e3⟩ := (ih e (by simp)).gb he _ hOs.2.1
    obtain ⟨f1, ts2, f2, f3⟩ := (ih f (by simp)).gb hf _ hOs.2.2.1
    by_cases hel : f.kids = []
    · rw [show tkd (.mk 23 e0 0 [d, e, f]) ++ r = [105, 102] :: (parY (par 23 e0 0 d.kind d.text) (tkd d) ++ (parY (par 23 e0 1 e.kind e.text) (tkd e) ++ r)) from by
        have h3 : third [d, e, f] = false := by simp [third, hel]
        simp (decide := true) only [tkd, asmY, tks, ↓reduceIte, List.getD_cons_zero, List.getD_cons_succ, List.append_assoc, List.cons_append, List.nil_append, Nat.zero_add, h3, elseY, if_false, List.append_nil]]
      rw [he, nopar12, e2, List.cons_append]
      have := EvS.ifno (x := (d, [123] :: (ts1 ++ r))) (y := (e.kids, r)) (exprE (k := 23) (t := e0) (i := 0) (ih d List.mem_cons_self) hxt hOs.1 (follow_0 (by decide))) (e3 r) hr
      rw [← e1] at this
      rw [hel] at f1
      rw [← f1] at this
      exact this
    · rw [show tkd (.mk 23 e0 0 [d, e, f]) ++ r = [105, 102] :: (parY (par 23 e0 0 d.kind d.text) (tkd d) ++ (parY (par 23 e0 1 e.kind e.text) (tkd e) ++ ([101, 108, 115, 101] :: (parY (par 23 e0 2 f.kind f.text) (tkd f) ++ r)))) from by
        have h3 : third [d, e, f] = true := by simp [third, hel]
        simp (decide := true) only [tkd, asmY, tks, ↓reduceIte, List.getD_cons_zero, List.getD_cons_succ, List.append_assoc, List.cons_append, List.nil_append, Nat.zero_add, h3, elseY, if_true, List.append_nil, Nat.reduceAdd]]
      rw [he, nopar12, hf, nopar12, e2, f2, List.cons_append, List.cons_append]
      have := EvS.ifel (x := (d, [123] :: (ts1 ++ ([101, 108, 115, 101] :: [123] :: (ts2 ++ r))))) (y := (e.kids, [101, 108, 115, 101] :: [123] :: (ts2 ++ r))) (z := (f.kids, r)) (exprE (k := 23) (t := e0) (i := 0) (ih d List.mem_cons_self) hxt hOs.1 (follow_0 (by decide))) (e3 _) rfl (f3 r)
      rw [← e1, ← f1] at this
      exact this
  · obtain ⟨x, hx, hxt⟩ := hkids
    obtain ⟨d, e, rfl, rfl, he⟩ := shape2 hx
    obtain rfl := hnum
    obtain rfl := text_e0 htx
    obtain ⟨e1, ts1, e2, e3⟩ := (ih e (by simp)).gb he _ hOs.2.1
    rw [show tkd (.mk 24 e0 0 [d, e]) ++ r = [119, 104, 105, 108, 101] :: (parY (par 24 e0 0 d.kind d.text) (tkd d) ++ (parY (par 24 e0 1 e.kind e.text) (tkd e) ++ r)) from by
        have h3 : third [d, e] = false := rfl
        simp (decide := true) only [tkd, asmY, tks, ↓reduceIte, List.getD_cons_zero, List.getD_cons_succ, List.append_assoc, List.cons_append, List.nil_append, Nat.zero_add, h3, elseY, if_false, List.append_nil]]
    rw [he, nopar12, e2, List.cons_append]
    have := EvS.while (x := (d, [123] :: (ts1 ++ r))) (y := (e.kids, r)) (exprE (k := 24) (t := e0) (i := 0) (ih d List.mem_cons_self) hxt hOs.1 (follow_0 (by decide))) (e3 r)
    rw [← e1] at this
    exact this
  · obtain rfl : ks = [] := by simpa using hkids
    obtain rfl := hnum
    obtain rfl := text_e0 htx
    exact EvS.ret
theorem stmt_hd {d : Nd} (hd : Rd d) (ih : ∀ e ∈ d.kids, Rd e) (hk : isStmt d.kind) (ne : Int) (hO : Ok d ne) : ∃ w rest, tkd d = w :: rest ∧ w ≠ [125] ∧ w ≠ [101, 108, 115, 101] := by
  obtain ⟨k, t, n, ks⟩ := d
  obtain ⟨_, h1, h36, htx, hnum, hkids, hOs⟩ := hO
  have hk' : k = 13 ∨ k = 14 ∨ k = 15 ∨ k = 16 ∨ k = 17 ∨ k = 18 ∨ k = 19 ∨ k = 20 ∨ k = 21 ∨ k = 22 ∨ k = 23 ∨ k = 24 ∨ k = 25 := by unfold isStmt at hk; exact (by have := hk; simp only [Nd.kind] at this; omega)
  rcases hk' with rfl | rfl | rfl | rfl | rfl | rfl | rfl | rfl | rfl | rfl | rfl | rfl | rfl
  · exact ⟨_, _, rfl, by decide, by decide⟩
  · simp (decide := true) only [kidsOk, ↓reduceIte, or_true, true_or, or_self] at hkids
    obtain ⟨x, y, hx, hv, hyt⟩ := hkids
    obtain ⟨d, e, rfl, rfl, rfl⟩ := shape2 hx
    obtain ⟨w, rest, h3, h4⟩ := kidH (k := 14) (t := t) (i := 0) (ih d (by simp [Nd.kids])) (var_term hv).1 hOs.1
    refine ⟨w, rest ++ ([61] :: (parY (par 14 t 1 e.kind e.text) (tkd e) ++ [[59]])), ?_, h4 _ (by decide), h4 _ (by decide)⟩
    simp (decide := true) only [tkd, asmY, tks, ↓reduceIte, List.getD_cons_zero, List.getD_cons_succ, List.append_assoc, List.cons_append, List.nil_append, Nat.zero_add, h3]
  · exact ⟨_, _, rfl, by decide, by decide⟩
  · exact ⟨_, _, rfl, by decide, by decide⟩
  · exact ⟨_, _, rfl, by decide, by decide⟩
  · exact ⟨_, _, rfl, by decide, by decide⟩
  · exact ⟨_, _, rfl, by decide, by decide⟩
  · exact ⟨_, _, rfl, by decide, by decide⟩
  · exact ⟨_, _, rfl, by decide, by decide⟩
  · exact ⟨_, _, rfl, by decide, by decide⟩
  · exact ⟨_, _, rfl, by decide, by decide⟩
  · exact ⟨_, _, rfl, by decide, by decide⟩
  · exact ⟨_, _, rfl, by decide, by decide⟩
theorem block_read (t : ByteArray) : ∀ (ks : List Nd) (i : Nat) (ne : Int), (∀ d ∈ ks, Rd d) → (∀ d ∈ ks, ∀ e ∈ d.kids, Rd e) → (∀ d ∈ ks, isStmt d.kind) → Oks 12 t i ks ne → ∀ r, EvB ((tks 12 t i ks).flatten ++ ([125] :: r)) (ks, r)
  | [], i, ne, _, _, _, _, r => by rw [tks]; exact EvB.done
  | d :: ds, i, ne, h, h2, h3, hO, r => by
    have ih := block_read t ds (i + 1) ne (fun e he => h e (List.mem_cons_of_mem _ he)) (fun e he => h2 e (List.mem_cons_of_mem _ he)) (fun e he => h3 e (List.mem_cons_of_mem _ he)) hO.2 r
    have hd := h d List.mem_cons_self
    have hds := h3 d List.mem_cons_self
    obtain ⟨w, rest, e1, e2, _⟩ := stmt_hd hd (h2 d List.mem_cons_self) hds _ hO.1
    rw [tks, List.flatten_cons, nopar (must0 t i (by omega)), List.append_assoc]
    refine EvB.more (x := (d, (tks 12 t (i + 1) ds).flatten ++ ([125] :: r))) (y := (ds, r)) ?_ (hd.gs hds _ hO.1 _ ?_) ih
    · rw [e1]; exact e2
    · match ds, h, h2, h3, hO with
      | [], _, _, _, _ => rw [tks]; show ¬ ([125] :: r : List Tok).headD [] = _; rw [List.headD_cons]; decide
      | b :: bs, h, h2, h3, hO =>
        obtain ⟨w', rest', f1, _, f3⟩ := stmt_hd (h b (by simp)) (h2 b (by simp)) (h3 b (by simp)) _ hO.2.1
        rw [tks, List.flatten_cons, nopar (must0 t (i + 1) (by omega)), f1]
        exact f3
theorem rd_all : ∀ d : Nd, Rd d ∧ ∀ e ∈ d.kids, Rd e := Nd.ind fun k t n ks ih => by
  have ih1 : ∀ d ∈ ks, Rd d := fun d hd => (ih d hd).1
  refine ⟨⟨fun hk ne hO p r res hp hf hl => rd_ge ih1 hk ne hO p r res hp hf hl, fun hk ne hO r hr => rd_gs ih1 hk ne hO r hr, fun hk ne hO => ?_, fun hk ne hO => rd_hd ih1 hk ne hO⟩, ih1⟩
  obtain rfl : k = 12 := hk
  obtain ⟨_, h1, h36, htx, hnum, hkids, hOs⟩ := hO
  simp (decide := true) only [textOk, ↓reduceIte, or_true, true_or, or_self] at htx
  simp (decide := true) only [kidsOk, ↓reduceIte, or_true, true_or, or_self] at hkids
  simp (decide := true) only [numOk, ↓reduceIte] at hnum
  obtain rfl := hnum
  obtain rfl := text_e0 htx
  refine ⟨rfl, (tks 12 e0 0 ks).flatten ++ [[125]], rfl, fun r => ?_⟩
  rw [List.append_assoc]
  exact block_read e0 ks 0 ne ih1 (fun d hd => (ih d hd).2) (fun d hd => hkids _ (List.mem_map_of_mem hd)) hOs r
end Go.Proofs.YtbpefmidgfmcaaaDoor
end
section
set_option linter.unusedVariables false
set_option linter.unusedSimpArgs false
namespace Go.Proofs.YtbpefmidgfmcaaaDoor
open Go.RowKit PTreeApart Go.Proofs.YtbpefmidgfmcaaaDoorW.PrintWords
theorem leaf5 {d : Nd} {ne : Int} (hk : d.kind = 5) (hO : Ok d ne) : d = .mk 5 (bs d.text.data.toList) 0 [] ∧ tkd d = [d.text.data.toList] := by
  obtain ⟨k, t, n, ks⟩ := d
  obtain rfl : k = 5 := hk
  obtain ⟨_, _, _, ht, hn, hks, _⟩ := hO
  simp (decide := true) only [kidsOk, numOk, ↓reduceIte, or_true, true_or, or_self] at hks hn
  obtain rfl : ks = [] := by simpa using hks
  obtain rfl := hn
  exact ⟨rfl, rfl⟩
theorem leaf29 {d : Nd} {ne : Int} (hk : d.kind = 29) (hO : Ok d ne) : d = .mk 29 (bs d.text.data.toList) 0 [] ∧ tkd d = [d.text.data.toList] := by
  obtain ⟨k, t, n, ks⟩ := d
  obtain rfl : k = 29 := hk
  obtain ⟨_, _, _, ht, hn, hks, _⟩ := hO
  simp (decide := true) only [kidsOk, numOk, ↓reduceIte, or_true, true_or, or_self] at hks hn
  obtain rfl : ks = [] := by simpa using hks
  obtain rfl := hn
  exact ⟨rfl, rfl⟩
theorem members_read (t : ByteArray) : ∀ (ks : List Nd) (i : Nat) (ne : Int), (∀ d ∈ ks, d.kind = 4) → Oks 3 t i ks ne → ∀ r, EvM ((tks 3 t i ks).flatten ++ ([125] :: r)) (ks, r)
  | [], i, ne, _, _, r => by rw [tks]; exact EvM.done
  | .mk k u n ls :: ds, i, ne, h, hO, r => by
    have ih := members_read t ds (i + 1) ne (fun e he => h e (List.mem_cons_of_mem _ he)) hO.2 r
    obtain rfl : k = 4 := h _ List.mem_cons_self
    obtain ⟨_, _, _, ht, hn, hks, hOs⟩ := hO.1
    simp (decide := true) only [kidsOk, numOk, textOk, ↓reduceIte, or_true, true_or, or_self] at hks hn ht
    obtain ⟨e, rfl, he⟩ := shape1 hks
    obtain rfl := hn
    obtain ⟨e1, e2⟩ := leaf5 he hOs.1
    rw [tks, List.flatten_cons, nopar (must0 t i (by omega)), List.append_assoc]
    rw [show tkd (.mk 4 u 0 [e]) = u.data.toList :: (parY (par 4 u 0 e.kind e.text) (tkd e) ++ [[59]]) from by simp (decide := true) only [tkd, asmY, tks, ↓reduceIte, List.getD_cons_zero, List.getD_cons_succ, List.flatten_cons, List.flatten_nil, List.append_nil, List.append_assoc, List.cons_append, List.nil_append, Nat.zero_add, List.drop_succ_cons, List.drop_zero], nopar (must0 u 0 (by omega)), e2]
    have := EvM.more (t := u.data.toList) (u := e.text.data.toList) (name_key ht _ (by decide)) ih
    rw [← e1] at this
    exact this
theorem lives_read (t : ByteArray) : ∀ (ks : List Nd) (i : Nat) (ne : Int), (∀ d ∈ ks, d.kind = 9) → Oks 8 t i ks ne → ∀ r, EvV ((tks 8 t i ks).flatten ++ ([125] :: r)) (ks, r)
  | [], i, ne, _, _, r => by rw [tks]; exact EvV.done
  | .mk k u n ls :: ds, i, ne, h, hO, r => by
    have ih := lives_read t ds (i + 1) ne (fun e he => h e (List.mem_cons_of_mem _ he)) hO.2 r
    obtain rfl : k = 9 := h _ List.mem_cons_self
    obtain ⟨_, _, _, ht, hn, hks, hOs⟩ := hO.1
    simp (decide := true) only [kidsOk, numOk, textOk, ↓reduceIte, or_true, true_or, or_self] at hks hn ht
    obtain ⟨e, rfl, he⟩ := shape1 hks
    obtain rfl := text_e0 ht
    obtain ⟨e1, ts, e2, e3⟩ := (rd_all e).1.gb he _ hOs.1
    rw [tks, List.flatten_cons, nopar (must0 t i (by omega)), List.append_assoc]
    rw [show tkd (.mk 9 e0 n [e]) = lifeT n :: parY (par 9 e0 0 e.kind e.text) (tkd e) from by simp (decide := true) only [tkd, asmY, tks, ↓reduceIte, List.getD_cons_zero, List.getD_cons_succ, List.flatten_cons, List.flatten_nil, List.append_nil, List.append_assoc, List.cons_append, List.nil_append, Nat.zero_add, List.drop_succ_cons, List.drop_zero], nopar (must0 e0 0 (by omega)), e2]
    have hl : ¬ lifeT n = [125] ∧ numL (lifeT n) = n := by
      have : n = 0 ∨ n = 1 ∨ n = 2 ∨ n = 3 := by omega
      rcases this with rfl | rfl | rfl | rfl <;> exact ⟨by decide, by decide⟩
    have := EvV.more (t := lifeT n) (x := (e.kids, (tks 8 t (i + 1) ds).flatten ++ ([125] :: r))) hl.1 (e3 _) ih
    rw [← e1, hl.2] at this
    simpa using this
theorem decl_read {d : Nd} (hk : isDecl d.kind) (ne : Int) (hO : Ok d ne) (r : List Tok) : EvD (tkd d ++ r) (d, r) ∧ tkd d ≠ [] := by
  obtain ⟨k, t, n, ks⟩ := d
  obtain ⟨_, h1, h36, htx, hnum, hkids, hOs⟩ := hO
  rcases hk with hk | hk | hk | hk | hk | hk | hk <;> simp only [Nd.kind] at hk <;> subst hk <;>
    simp (decide := true) only [textOk, ↓reduceIte, or_true, true_or, or_self] at htx <;>
    simp (decide := true) only [kidsOk, ↓reduceIte, or_true, true_or, or_self] at hkids <;>
    simp (decide := true) only [numOk, ↓reduceIte] at hnum
  · obtain rfl : ks = [] := by simpa using hkids
    obtain rfl := hnum
    exact ⟨EvD.looper, by simp (decide := true) [tkd, asmY]⟩
  · obtain rfl := hnum
    refine ⟨?_, by simp (decide := true) [tkd, asmY]⟩
    rw [show tkd (.mk 3 t 0 ks) ++ r = [99, 108, 97, 115, 115] :: t.data.toList :: [123] :: ((tks 3 t 0 ks).flatten ++ ([125] :: r)) from by simp (decide := true) only [tkd, asmY, tks, ↓reduceIte, List.getD_cons_zero, List.getD_cons_succ, List.flatten_cons, List.flatten_nil, List.append_nil, List.append_assoc, List.cons_append, List.nil_append, Nat.zero_add, List.drop_succ_cons, List.drop_zero]]
    exact EvD.class (x := (ks, r)) (members_read t ks 0 ne (fun d hd => hkids _ (List.mem_map_of_mem hd)) hOs r)
  · obtain ⟨e, rfl, he⟩ := shape1 hkids
    obtain rfl := hnum
    obtain ⟨e1, e2⟩ := leaf5 he hOs.1
    refine ⟨?_, by simp (decide := true) [tkd, asmY]⟩
    rw [show tkd (.mk 6 t 0 [e]) ++ r = [118, 97, 114] :: t.data.toList :: (parY (par 6 t 0 e.kind e.text) (tkd e) ++ ([59] :: r)) from by simp (decide := true) only [tkd, asmY, tks, ↓reduceIte, List.getD_cons_zero, List.getD_cons_succ, List.flatten_cons, List.flatten_nil, List.append_nil, List.append_assoc, List.cons_append, List.nil_append, Nat.zero_add, List.drop_succ_cons, List.drop_zero], nopar (must0 t 0 (by omega)), e2]
    have := EvD.var (t := t.data.toList) (u := e.text.data.toList) (r := r)
    rw [← e1] at this
    exact this
  · obtain ⟨e, rfl, he⟩ := shape1 hkids
    obtain rfl := hnum
    obtain ⟨e1, ts, e2, e3⟩ := (rd_all e).1.gb he _ hOs.1
    refine ⟨?_, by simp (decide := true) [tkd, asmY]⟩
    rw [show tkd (.mk 7 t 0 [e]) ++ r = [102, 110] :: t.data.toList :: (parY (par 7 t 0 e.kind e.text) (tkd e) ++ r) from by simp (decide := true) only [tkd, asmY, tks, ↓reduceIte, List.getD_cons_zero, List.getD_cons_succ, List.flatten_cons, List.flatten_nil, List.append_nil, List.append_assoc, List.cons_append, List.nil_append, Nat.zero_add, List.drop_succ_cons, List.drop_zero], nopar (must0 t 0 (by omega)), e2]
    have := EvD.fn (t := t.data.toList) (x := (e.kids, r)) (e3 r)
    rw [← e1] at this
    exact this
  · obtain ⟨l, hl, hl9⟩ := hkids
    obtain rfl := hnum
    match ks, hl, hOs with
    | e :: ls, hl, hOs =>
      simp only [List.map_cons, List.cons.injEq] at hl
      obtain ⟨e1, e2⟩ := leaf29 hl.1 hOs.1
      have hls : ∀ d ∈ ls, d.kind = 9 := fun d hd => hl9 _ (by rw [← hl.2]; exact List.mem_map_of_mem hd)
      refine ⟨?_, by simp (decide := true) [tkd, asmY]⟩
      rw [show tkd (.mk 8 t 0 (e :: ls)) ++ r = [99, 111, 109, 112] :: t.data.toList :: [111, 110] :: (parY (par 8 t 0 e.kind e.text) (tkd e) ++ ([123] :: ((tks 8 t 1 ls).flatten ++ ([125] :: r)))) from by simp (decide := true) only [tkd, asmY, tks, ↓reduceIte, List.getD_cons_zero, List.getD_cons_succ, List.flatten_cons, List.flatten_nil, List.append_nil, List.append_assoc, List.cons_append, List.nil_append, Nat.zero_add, List.drop_succ_cons, List.drop_zero], nopar (must0 t 0 (by omega)), e2]
      have := EvD.comp (t := t.data.toList) (u := e.text.data.toList) (x := (ls, r)) (lives_read t ls 1 ne hls hOs.2 r)
      rw [← e1] at this
      exact this
  · obtain ⟨e, b, rfl, he, hb⟩ := shape2 hkids
    obtain ⟨e1, e2⟩ := leaf29 he hOs.1
    obtain ⟨b1, ts, b2, b3⟩ := (rd_all b).1.gb hb _ hOs.2.1
    refine ⟨?_, by simp (decide := true) [tkd, asmY]⟩
    rw [show tkd (.mk 10 t n [e, b]) ++ r = [101, 118, 101, 110, 116] :: t.data.toList :: [111, 110] :: (parY (par 10 t 0 e.kind e.text) (tkd e) ++ (onW n :: (parY (par 10 t 1 b.kind b.text) (tkd b) ++ r))) from by simp (decide := true) only [tkd, asmY, tks, ↓reduceIte, List.getD_cons_zero, List.getD_cons_succ, List.flatten_cons, List.flatten_nil, List.append_nil, List.append_assoc, List.cons_append, List.nil_append, Nat.zero_add, List.drop_succ_cons, List.drop_zero], nopar (must0 t 0 (by omega)), nopar (must0 t 1 (by omega)), e2, b2]
    rcases hnum with rfl | rfl
    · have := EvD.off (t := t.data.toList) (u := e.text.data.toList) (x := (b.kids, r)) (b3 r)
      rw [← e1, ← b1] at this
      exact this
    · have := EvD.on (t := t.data.toList) (u := e.text.data.toList) (x := (b.kids, r)) (b3 r)
      rw [← e1, ← b1] at this
      exact this
  · obtain ⟨e, rfl, he⟩ := shape1 hkids
    obtain rfl := hnum
    obtain rfl := text_e0 htx
    obtain ⟨e1, ts, e2, e3⟩ := (rd_all e).1.gb he _ hOs.1
    refine ⟨?_, by simp (decide := true) [tkd, asmY]⟩
    rw [show tkd (.mk 11 e0 0 [e]) ++ r = [109, 97, 105, 110] :: (parY (par 11 e0 0 e.kind e.text) (tkd e) ++ r) from by simp (decide := true) only [tkd, asmY, tks, ↓reduceIte, List.getD_cons_zero, List.getD_cons_succ, List.flatten_cons, List.flatten_nil, List.append_nil, List.append_assoc, List.cons_append, List.nil_append, Nat.zero_add, List.drop_succ_cons, List.drop_zero], nopar (must0 e0 0 (by omega)), e2]
    have := EvD.main (x := (e.kids, r)) (e3 r)
    rw [← e1] at this
    exact this
theorem prog_read (t : ByteArray) : ∀ (ks : List Nd) (i : Nat) (ne : Int), (∀ d ∈ ks, isDecl d.kind) → Oks 1 t i ks ne → EvP (tks 1 t i ks).flatten ks
  | [], i, ne, _, _ => by rw [tks]; exact EvP.done
  | d :: ds, i, ne, h, hO => by
    have ih := prog_read t ds (i + 1) ne (fun e he => h e (List.mem_cons_of_mem _ he)) hO.2
    have hd := decl_read (h d List.mem_cons_self) _ hO.1 (tks 1 t (i + 1) ds).flatten
    rw [tks, List.flatten_cons, nopar (must0 t i (by omega))]
    exact EvP.more (x := (d, (tks 1 t (i + 1) ds).flatten)) (by intro e; exact hd.2 (List.append_eq_nil_iff.1 e).1) hd.1 ih
theorem prog_shape {d : Nd} {ne : Int} (hk : d.kind = 1) (hO : Ok d ne) : d = .mk 1 e0 0 d.kids ∧ EvP (tkd d) d.kids := by
  obtain ⟨k, t, n, ks⟩ := d
  obtain rfl : k = 1 := hk
  obtain ⟨_, _, _, ht, hn, hks, hOs⟩ := hO
  simp (decide := true) only [kidsOk, numOk, textOk, ↓reduceIte, or_true, true_or, or_self] at hks hn ht
  obtain rfl := hn
  obtain rfl := text_e0 ht
  refine ⟨rfl, ?_⟩
  rw [show tkd (.mk 1 e0 0 ks) = (tks 1 e0 0 ks).flatten from by simp (decide := true) only [tkd, asmY, tks, ↓reduceIte, List.getD_cons_zero, List.getD_cons_succ, List.flatten_cons, List.flatten_nil, List.append_nil, List.append_assoc, List.cons_append, List.nil_append, Nat.zero_add, List.drop_succ_cons, List.drop_zero]]
  exact prog_read e0 ks 0 ne (fun d hd => hks _ (List.mem_map_of_mem hd)) hOs
/-- Trees that may be, and are printed alike, are the same. -/
theorem pr_inj {d d' : Nd} (hk : d.kind = 1) (hk' : d'.kind = 1) (hO : Ok d 0) (hO' : Ok d' 0) (h : pr [] d = pr [] d') : d = d' := by
  have ht := pr_tk d 0 [] hO (fun c hc => by cases hc) [] rfl
  have ht' := pr_tk d' 0 [] hO' (fun c hc => by cases hc) [] rfl
  rw [h, ht'] at ht
  have he : tkd d = tkd d' := by simpa [Tk, tokR] using ht.symm
  obtain ⟨s1, N, hN⟩ := prog_shape hk hO
  obtain ⟨s2, M, hM⟩ := prog_shape hk' hO'
  have a := hN (max N M) (Nat.le_max_left _ _)
  have b := hM (max N M) (Nat.le_max_right _ _)
  rw [he, b] at a
  have hkids : d.kids = d'.kids := (Option.some.inj a).symm
  rw [s1, s2, hkids]
end Go.Proofs.YtbpefmidgfmcaaaDoor
end
