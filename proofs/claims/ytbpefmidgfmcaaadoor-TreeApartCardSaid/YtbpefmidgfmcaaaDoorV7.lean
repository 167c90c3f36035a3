import Derived.Test.YtbpefmidgfmcaaaDoorV5
import Derived.Test.YtbpefmidgfmcaaaDoorV6
section
set_option linter.unusedVariables false
set_option linter.unusedSimpArgs false
namespace Go.Proofs.YtbpefmidgfmcaaaDoor
open Go.RowKit PTreeApart Go.Proofs.YtbpefmidgfmcaaaDoorW.PrintWords
def Few (l : List S33) : Prop := l.length ≤ 300 ∧ ∀ c : Int, 0 ≤ c → c < l.length → (rT l c).f1.size ≤ 100
theorem much_l0 (l : List S33) : ∀ (m : Nat) (i : Int), 0 ≤ i → i ≤ 300 → (300 - i).toNat = m → (∀ c : Int, 0 ≤ c → c < i → c < l.length → (rT l c).f1.size ≤ 100) →
    Evx (fun k => rmh.l0 k 300 i l) (fun b => b = false → Few l) := by
  intro m
  induction m with
  | zero =>
    intro i h0 h1 hm hs
    have hi : i = 300 := by omega
    subst hi
    have hj : ∀ k, rmh.j1 (k + 1) 300 300 false l = some (decide ((l.length : Int) > 300)) := fun k => by simp only [rmh.j1]; simp
    refine Evx.step (f := fun k => rmh.j1 k 300 300 false l) (fun k => ?_) (Evx.step hj (Evx.now _ fun hb => ?_))
    · simp only [rmh.l0]
      split
      · rfl
      · rfl
    · have : ¬ (l.length : Int) > 300 := of_decide_eq_false hb
      exact ⟨by omega, fun c c0 c1 => hs c c0 (by omega) c1⟩
  | succ m ih =>
    intro i h0 h1 hm hs
    by_cases hi : i < (l.length : Int)
    · have hd : decide (i < (300 : Int)) = true := decide_eq_true (by omega)
      refine Evx.step (f := fun k => rmh.j1 k 300 i true l) (fun k => ?_) ?_
      · simp only [rmh.l0]
        rw [if_pos hi, hd]
      by_cases hb : ((rT l i).f1.size : Int) > 100
      · refine Evx.step (f := fun _ => some true) (fun k => ?_) (Evx.now _ (fun h => by cases h))
        simp only [rmh.j1, if_true]
        rw [if_pos h0, if_pos hi, if_pos hb]
      · refine Evx.step (f := fun k => rmh.l0 k 300 (i + 1) l) (fun k => ?_) (ih (i + 1) (by omega) (by omega) (by omega) fun c c0 c1 c2 => ?_)
        · simp only [rmh.j1, if_true]
          rw [if_pos h0, if_pos hi, if_neg hb, w64 _ (by omega) (by omega)]
        · by_cases e : c = i
          · subst e; omega
          · exact hs c c0 (by omega) c2
    · have hj : ∀ k, rmh.j1 (k + 1) 300 i false l = some (decide ((l.length : Int) > 300)) := fun k => by simp only [rmh.j1]; simp
      refine Evx.step (f := fun k => rmh.j1 k 300 i false l) (fun k => ?_) (Evx.step hj (Evx.now _ fun hb => ?_))
      · simp only [rmh.l0]
        rw [if_neg hi]
      · exact ⟨by omega, fun c c0 c1 => hs c c0 (by omega) c1⟩
theorem much_evx (l : List S33) : Evx (fun k => rmh.f k l 300) (fun b => b = false → Few l) :=
  much_l0 l 300 0 (by omega) (by omega) rfl (fun c c0 c1 => by omega)
/-- Two rows are alike at a place. -/
def EqAt (l l' : List S33) (i : Int) : Prop := (rT l i).f0 = (rT l' i).f0 ∧ (rT l i).f1 = (rT l' i).f1 ∧ (rT l i).f2 = (rT l' i).f2 ∧ (rT l i).f5 = (rT l' i).f5
theorem bytes_eq {s t : ByteArray} : s.toList = t.toList ↔ s = t := by
  rw [Lib.toList_data, Lib.toList_data]
  constructor
  · intro h
    cases s with
    | mk a => cases t with
      | mk b => congr 1; simpa using h
  · rintro rfl; rfl
theorem rd_getD (xs : List Int) (i : Nat) : rd xs (i : Int) = xs.getD i 0 := by simp [rd]
theorem same_l1 (l l' : List S33) (i : Int) (a0 : Int) (a1 : ByteArray) (a2 a3 a4 : Int) (a5 : List Int) (b0 : Int) (b1 : ByteArray) (b2 b3 b4 : Int) (b5 : List Int) (hi0 : 0 ≤ i) (hi : i ≤ 1000) (hlen : a5.length = b5.length) (hl : a5.length ≤ 1000) (Q : Prop)
    (ih : Evx (fun k => rsa.l0 k (i + 1) l l') (fun b => b = true ↔ Q)) :
    ∀ (m j : Nat), a5.length - j = m → j ≤ a5.length → Evx (fun k => rsa.l1 k i (j : Int) l l' a0 a1 a2 a3 a4 a5 b0 b1 b2 b3 b4 b5) (fun b => b = true ↔ (a5.drop j = b5.drop j ∧ Q)) := by
  intro m
  induction m with
  | zero =>
    intro j hm hj
    refine Evx.step (f := fun k => rsa.l0 k (i + 1) l l') (fun k => ?_) (ih.mono fun b hb => ?_)
    · simp only [rsa.l1]
      rw [if_neg (by omega), w64 _ (by omega) (by omega)]
    · rw [List.drop_eq_nil_of_le (by omega), List.drop_eq_nil_of_le (by omega), hb]; simp
  | succ m ihm =>
    intro j hm hj
    have hja : j < a5.length := by omega
    have hjb : j < b5.length := by omega
    have ea : rd a5 (j : Int) = a5[j] := by rw [rd_getD, List.getD_eq_getElem?_getD, List.getElem?_eq_getElem hja]; rfl
    have eb : rd b5 (j : Int) = b5[j] := by rw [rd_getD, List.getD_eq_getElem?_getD, List.getElem?_eq_getElem hjb]; rfl
    rw [List.drop_eq_getElem_cons hja, List.drop_eq_getElem_cons hjb]
    by_cases e : a5[j] = b5[j]
    · refine Evx.step (f := fun k => rsa.l1 k i ((j + 1 : Nat) : Int) l l' a0 a1 a2 a3 a4 a5 b0 b1 b2 b3 b4 b5) (fun k => ?_) ((ihm (j + 1) (by omega) (by omega)).mono fun b hb => ?_)
      · simp only [rsa.l1]
        rw [if_pos (by omega), if_pos (by omega), if_pos (by omega), ea, eb, if_pos e, w64 _ (by omega) (by omega)]; rfl
      · rw [hb, e, List.cons.injEq]; simp only [true_and]
    · refine Evx.step (f := fun _ => some false) (fun k => ?_) (Evx.now _ ?_)
      · simp only [rsa.l1]
        rw [if_pos (by omega), if_pos (by omega), if_pos (by omega), ea, eb, if_neg e]
      · constructor
        · intro h; cases h
        · rintro ⟨h, _⟩
          simp only [List.cons.injEq] at h
          exact absurd h.1 e
theorem same_l0 (l l' : List S33) (hl : l.length = l'.length) (h300 : l.length ≤ 300) (hk : ∀ c : Int, 0 ≤ c → c < l.length → (rT l c).f5.length ≤ 1000) : ∀ (m : Nat) (i : Int), 0 ≤ i → i ≤ l.length → (l.length - i).toNat = m →
    Evx (fun k => rsa.l0 k i l l') (fun b => b = true ↔ ∀ c : Int, i ≤ c → c < l.length → EqAt l l' c) := by
  intro m
  induction m with
  | zero =>
    intro i h0 h1 hm
    refine Evx.step (f := fun _ => some true) (fun k => ?_) (Evx.now _ ⟨fun _ c c0 c1 => by omega, fun _ => rfl⟩)
    simp only [rsa.l0]
    rw [if_neg (by omega)]
  | succ m ihm =>
    intro i h0 h1 hm
    have hi : i < (l.length : Int) := by omega
    have hi' : i < (l'.length : Int) := by omega
    have hkl := hk i h0 hi
    have hF : ∀ (a0 : Int) (a1 : ByteArray) (a2 a3 a4 : Int) (a5 : List Int) (b0 : Int) (b1 : ByteArray) (b2 b3 b4 : Int) (b5 : List Int), ¬ EqAt l l' i →
        Evx (fun k => rsa.j1 k i true l l' a0 a1 a2 a3 a4 a5 b0 b1 b2 b3 b4 b5) (fun b => b = true ↔ ∀ c : Int, i ≤ c → c < l.length → EqAt l l' c) := fun a0 a1 a2 a3 a4 a5 b0 b1 b2 b3 b4 b5 hne => by
      refine Evx.step (f := fun _ => some false) (fun k => ?_) (Evx.now _ ⟨fun h => (by cases h), fun h => absurd (h i (Int.le_refl _) hi) hne⟩)
      simp only [rsa.j1, if_true]
    have hEi : EqAt l l' i ↔ (rT l i).f0 = (rT l' i).f0 ∧ (rT l i).f1 = (rT l' i).f1 ∧ (rT l i).f2 = (rT l' i).f2 ∧ (rT l i).f5 = (rT l' i).f5 := Iff.rfl
    have hstep : ∀ k, rsa.l0 (k + 1) i l l' = (if (rT l i).f0 = (rT l' i).f0 then (if ((rT l i).f1).toList = ((rT l' i).f1).toList then (if (rT l i).f2 = (rT l' i).f2 then (rsa.j1 k i ((((rT l i).f5).length : Int) != (((rT l' i).f5).length : Int)) l l' (rT l i).f0 (rT l i).f1 (rT l i).f2 (rT l i).f3 (rT l i).f4 (rT l i).f5 (rT l' i).f0 (rT l' i).f1 (rT l' i).f2 (rT l' i).f3 (rT l' i).f4 (rT l' i).f5) else (rsa.j1 k i true l l' (rT l i).f0 (rT l i).f1 (rT l i).f2 (rT l i).f3 (rT l i).f4 (rT l i).f5 (rT l' i).f0 (rT l' i).f1 (rT l' i).f2 (rT l' i).f3 (rT l' i).f4 (rT l' i).f5)) else (rsa.j1 k i true l l' (rT l i).f0 (rT l i).f1 (rT l i).f2 (rT l i).f3 (rT l i).f4 (rT l i).f5 (rT l' i).f0 (rT l' i).f1 (rT l' i).f2 (rT l' i).f3 (rT l' i).f4 (rT l' i).f5)) else (rsa.j1 k i true l l' (rT l i).f0 (rT l i).f1 (rT l i).f2 (rT l i).f3 (rT l i).f4 (rT l i).f5 (rT l' i).f0 (rT l' i).f1 (rT l' i).f2 (rT l' i).f3 (rT l' i).f4 (rT l' i).f5)) := fun k => by
      simp only [rsa.l0]
      rw [if_pos hi, if_pos h0, if_pos hi']
    refine Evx.step hstep ?_
    refine Evx.ite (fun e0' => ?_) fun e0' => hF _ _ _ _ _ _ _ _ _ _ _ _ (fun h => e0' h.1)
    refine Evx.ite (fun e1' => ?_) fun e1' => hF _ _ _ _ _ _ _ _ _ _ _ _ (fun h => e1' (bytes_eq.2 h.2.1))
    refine Evx.ite (fun e2' => ?_) fun e2' => hF _ _ _ _ _ _ _ _ _ _ _ _ (fun h => e2' h.2.2.1)
    by_cases hlen : (rT l i).f5.length = (rT l' i).f5.length
    · have hne : ((((rT l i).f5).length : Int) != (((rT l' i).f5).length : Int)) = false := by rw [hlen]; simp
      rw [hne]
      have h1' := same_l1 l l' i (rT l i).f0 (rT l i).f1 (rT l i).f2 (rT l i).f3 (rT l i).f4 (rT l i).f5 (rT l' i).f0 (rT l' i).f1 (rT l' i).f2 (rT l' i).f3 (rT l' i).f4 (rT l' i).f5 h0 (by omega) hlen hkl _ (ihm (i + 1) (by omega) (by omega) (by omega)) _ 0 rfl (Nat.zero_le _)
      refine Evx.step (f := fun k => rsa.l1 k i ((0 : Nat) : Int) l l' (rT l i).f0 (rT l i).f1 (rT l i).f2 (rT l i).f3 (rT l i).f4 (rT l i).f5 (rT l' i).f0 (rT l' i).f1 (rT l' i).f2 (rT l' i).f3 (rT l' i).f4 (rT l' i).f5) (fun k => ?_) (h1'.mono fun b hb => ?_)
      · simp only [rsa.j1, Bool.false_eq_true, if_false]; rfl
      · rw [hb, List.drop_zero, List.drop_zero]
        constructor
        · rintro ⟨h5, hr⟩ c c0 c1
          by_cases e : c = i
          · subst e; exact ⟨e0', bytes_eq.1 e1', e2', h5⟩
          · exact hr c (by omega) c1
        · intro h
          exact ⟨(h i (Int.le_refl _) hi).2.2.2, fun c c0 c1 => h c (by omega) c1⟩
    · have hne : ((((rT l i).f5).length : Int) != (((rT l' i).f5).length : Int)) = true := by simp; omega
      rw [hne]
      exact hF _ _ _ _ _ _ _ _ _ _ _ _ (fun h => hlen (by rw [h.2.2.2]))
theorem same_evx (l l' : List S33) (h300 : l.length ≤ 300) (hk : ∀ c : Int, 0 ≤ c → c < l.length → (rT l c).f5.length ≤ 1000) :
    Evx (fun k => rsa.f k l l') (fun b => b = true ↔ (l.length = l'.length ∧ ∀ c : Int, 0 ≤ c → c < l.length → EqAt l l' c)) := by
  by_cases hl : l.length = l'.length
  · have h := same_l0 l l' hl h300 hk l.length 0 (by omega) (by omega) (by omega)
    obtain ⟨r, hr, hq⟩ := h
    refine ⟨r, Ev.congr (fun k => ?_) hr, ?_⟩
    · unfold rsa.f
      rw [if_pos (by omega)]
    · show r = true ↔ _
      rw [hq]
      exact ⟨fun h => ⟨hl, h⟩, fun h => h.2⟩
  · refine ⟨false, Ev.congr (f := fun _ => some false) (fun k => ?_) (Ev.now _), ⟨fun h => (by cases h), fun h => absurd h.1 hl⟩⟩
    unfold rsa.f
    rw [if_neg (by omega)]
mutual
/-- Two rows that are alike have the same trees. -/
theorem Tr.same {l l' : List S33} (he : ∀ c : Int, 0 ≤ c → c < l.length → EqAt l l' c) : ∀ (d d' : Nd) {a nx nx' : Int}, Tr l d a nx → Tr l' d' a nx' → d = d' ∧ nx = nx'
  | .mk k t n ks, .mk k' t' n' ks', a, nx, nx', h, h' => by
    obtain ⟨h0, h1, e0, e1, e2, h2⟩ := h
    obtain ⟨_, _, e0', e1', e2', h2'⟩ := h'
    obtain ⟨f0, f1, f2, f5⟩ := he a h0 h1
    rw [← f5] at h2'
    obtain ⟨g1, g2⟩ := Trs.same he ks ks' h2 h2'
    exact ⟨by rw [← e0, ← e1, ← e2, ← e0', ← e1', ← e2', f0, f1, f2, g1], g2⟩
theorem Trs.same {l l' : List S33} (he : ∀ c : Int, 0 ≤ c → c < l.length → EqAt l l' c) {kl : List Int} : ∀ (ks ks' : List Nd) {i : Nat} {c nx nx' : Int}, Trs l kl i ks c nx → Trs l' kl i ks' c nx' → ks = ks' ∧ nx = nx'
  | [], [], i, c, nx, nx', h, h' => ⟨rfl, h.2 ▸ h'.2⟩
  | d :: ds, [], i, c, nx, nx', h, h' => by have := h.1; have := h'.1; omega
  | [], d :: ds, i, c, nx, nx', h, h' => by have := h.1; have := h'.1; omega
  | d :: ds, d' :: ds', i, c, nx, nx', h, h' => by
    obtain ⟨_, _, m, h3, h4⟩ := h
    obtain ⟨_, _, m', h3', h4'⟩ := h'
    obtain ⟨e1, e2⟩ := Tr.same he d d' h3 h3'
    subst e2
    obtain ⟨e3, e4⟩ := Trs.same he ds ds' h4 h4'
    exact ⟨by rw [e1, e3], e4⟩
end
mutual
/-- Rows of the same tree are alike. -/
theorem Tr.alike {l l' : List S33} : ∀ (d : Nd) {a nx nx' : Int}, Tr l d a nx → Tr l' d a nx' → nx = nx' ∧ ∀ c : Int, a ≤ c → c < nx → EqAt l l' c
  | .mk k t n ks, a, nx, nx', h, h' => by
    obtain ⟨h0, h1, e0, e1, e2, h2⟩ := h
    obtain ⟨_, _, e0', e1', e2', h2'⟩ := h'
    obtain ⟨g1, g2, g3⟩ := Trs.alike ks h2 h2'
    have hk := h2.len
    have hk' := h2'.len
    refine ⟨g1, fun c c0 c1 => ?_⟩
    by_cases e : c = a
    · subst e
      refine ⟨by rw [e0, e0'], by rw [e1, e1'], by rw [e2, e2'], List.ext_getElem (by omega) fun j j1 j2 => ?_⟩
      have := g3 j (by omega)
      rw [Nat.add_zero, List.getD_eq_getElem?_getD, List.getD_eq_getElem?_getD, List.getElem?_eq_getElem j1, List.getElem?_eq_getElem j2] at this
      exact this
    · exact g2 c (by omega) c1
theorem Trs.alike {l l' : List S33} {kl kl' : List Int} : ∀ (ks : List Nd) {i : Nat} {c nx nx' : Int}, Trs l kl i ks c nx → Trs l' kl' i ks c nx' →
    nx = nx' ∧ (∀ x : Int, c ≤ x → x < nx → EqAt l l' x) ∧ ∀ j, j < ks.length → kl.getD (j + i) 0 = kl'.getD (j + i) 0
  | [], i, c, nx, nx', h, h' => ⟨by have := h.2; have := h'.2; omega, fun x x0 x1 => by have := h.2; omega, fun j hj => by simp at hj⟩
  | d :: ds, i, c, nx, nx', h, h' => by
    obtain ⟨_, hg, m, h3, h4⟩ := h
    obtain ⟨_, hg', m', h3', h4'⟩ := h'
    obtain ⟨e1, e2⟩ := Tr.alike d h3 h3'
    subst e1
    obtain ⟨e3, e4, e5⟩ := Trs.alike ds h4 h4'
    refine ⟨e3, fun x x0 x1 => ?_, fun j hj => ?_⟩
    · by_cases hx : x < m
      · exact e2 x x0 hx
      · exact e4 x (by omega) x1
    · cases j with
      | zero => rw [Nat.zero_add, hg, hg']
      | succ j =>
        have := e5 j (by simpa using hj)
        rwa [show j + (i + 1) = j + 1 + i from by omega] at this
end
/-- How many kids a twig of a tree has. -/
theorem Tr.kidsLen {l : List S33} (hl : l.length ≤ 300) {d : Nd} (h : Tr l d 0 l.length) : ∀ c : Int, 0 ≤ c → c < l.length → (rT l c).f5.length ≤ 1000 := by
  have key : ∀ (d : Nd), ∀ {a nx : Int}, Tr l d a nx → ∀ c : Int, a ≤ c → c < nx → (rT l c).f5.length ≤ 1000 := by
    refine Nd.ind fun k t n ks ih => ?_
    intro a nx h c c0 c1
    obtain ⟨h0, h1, _, _, _, h2⟩ := h
    by_cases e : c = a
    · subst e
      have e1 := h2.len
      have e2 := length_cnts ks
      have e3 := (Trs.next ks h2).1
      have e4 := (Trs.next ks h2).2 (by omega)
      omega
    · have go : ∀ (ds : List Nd), (∀ d ∈ ds, ∀ {a nx : Int}, Tr l d a nx → ∀ c : Int, a ≤ c → c < nx → (rT l c).f5.length ≤ 1000) → ∀ {kl : List Int} {i : Nat} {c' nx' : Int}, Trs l kl i ds c' nx' → ∀ x : Int, c' ≤ x → x < nx' → (rT l x).f5.length ≤ 1000 := by
        intro ds
        induction ds with
        | nil => intro _ kl i c' nx' h x x0 x1; have := h.2; omega
        | cons d ds ihd =>
          intro hd kl i c' nx' h x x0 x1
          obtain ⟨_, _, m, h3, h4⟩ := h
          by_cases hx : x < m
          · exact hd d List.mem_cons_self h3 x x0 hx
          · exact ihd (fun e he => hd e (List.mem_cons_of_mem _ he)) h4 x (by omega) x1
      exact go ks ih h2 c (by omega) c1
  exact fun c c0 c1 => key d h c c0 c1
/-- Rows are the same just where their trees are. -/
theorem same_iff {l l' : List S33} {d d' : Nd} (h : Tr l d 0 l.length) (h' : Tr l' d' 0 l'.length) : (l.length = l'.length ∧ ∀ c : Int, 0 ≤ c → c < l.length → EqAt l l' c) ↔ d = d' := by
  constructor
  · rintro ⟨_, he⟩
    exact (Tr.same he d d' h h').1
  · rintro rfl
    obtain ⟨e1, e2⟩ := Tr.alike d h h'
    exact ⟨by omega, fun c c0 c1 => e2 c c0 c1⟩
end Go.Proofs.YtbpefmidgfmcaaaDoor
end
