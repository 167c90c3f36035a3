import Derived.Test.YtbpefmidgfmcaaaDoorV10
import Derived.Test.YtbpefmidgfmcaaaDoorV20
import Derived.Test.YtbpefmidgfmcaaaDoorV6
import Derived.BigFrame
import Derived.BigQuiet
import Derived.Laws.Strings
section
set_option linter.unusedVariables false
namespace Go.Proofs.YtbpefmidgfmcaaaDoor
open Go.RowKit
abbrev encS : ByteArray → Value := fun s => .string s
abbrev encI : Int → Value := fun n => .int .i64 n
/-- The words, as they lie in the map. -/
def wordsB : List ByteArray := words.map fun l => ⟨l.toArray⟩
def wordsE : List (ByteArray × Value) := wordsB.map fun s => (s, .agg #[.bool true])
/-- The look-up with the key's own equality. -/
abbrev lk {κ : Type} [DecidableEq κ] (es : List (κ × Value)) (k : κ) : Option Value := es.lookup k
theorem lookup_none {κ : Type} [DecidableEq κ] (es : List (κ × Value)) (k : κ) (h : k ∉ es.map (·.1)) : lk es k = none := by
  unfold lk
  induction es with
  | nil => rfl
  | cons p es ih =>
    simp only [List.map_cons, List.mem_cons, not_or] at h
    have : (k == p.1) = false := by simpa using h.1
    simp only [List.lookup, this]
    exact ih h.2
theorem wordsB_length : wordsB.length = 36 := rfl
theorem wordsB_nodup : wordsB.Nodup := by decide
def allWords : ByteArray := ⟨#[97, 102, 116, 101, 114, 32, 97, 114, 114, 32, 99, 97, 108, 108, 32, 99, 97, 110, 99, 101, 108, 32, 99, 108, 97, 115, 115, 32, 99, 111, 109, 112, 32, 99, 114, 101, 97, 116, 101, 32, 100, 101, 115, 116, 114, 111, 121, 32, 100, 105, 115, 97, 98, 108, 101, 32, 101, 108, 115, 101, 32, 101, 110, 97, 98, 108, 101, 32, 101, 118, 101, 110, 116, 32, 102, 110, 32, 102, 114, 111, 110, 116, 32, 104, 97, 110, 100, 32, 105, 102, 32, 105, 110, 116, 32, 105, 116, 32, 106, 111, 105, 110, 32, 108, 101, 110, 32, 108, 111, 103, 32, 108, 111, 111, 112, 101, 114, 32, 109, 97, 105, 110, 32, 110, 101, 119, 32, 110, 117, 108, 108, 32, 111, 102, 102, 32, 111, 110, 32, 112, 111, 115, 116, 32, 114, 101, 116, 117, 114, 110, 32, 115, 112, 97, 119, 110, 32, 115, 116, 97, 114, 116, 32, 115, 116, 111, 112, 32, 116, 111, 32, 116, 111, 107, 32, 118, 97, 114, 32, 119, 104, 105, 108, 101]⟩
theorem fields_words : Lib.fields allWords.data.toList = words := by decide +kernel
theorem fields_then (w : World) (htab : Lib.TabIs Tryd.prog w "strings.asciiSpace" .u8 Lib.asciiSpaceTab) :
    Calls Tryd.prog 83 #[.string ⟨#[97, 102, 116, 101, 114, 32, 97, 114, 114, 32, 99, 97, 108, 108, 32, 99, 97, 110, 99, 101, 108, 32, 99, 108, 97, 115, 115, 32, 99, 111, 109, 112, 32, 99, 114, 101, 97, 116, 101, 32, 100, 101, 115, 116, 114, 111, 121, 32, 100, 105, 115, 97, 98, 108, 101, 32, 101, 108, 115, 101, 32, 101, 110, 97, 98, 108, 101, 32, 101, 118, 101, 110, 116, 32, 102, 110, 32, 102, 114, 111, 110, 116, 32, 104, 97, 110, 100, 32, 105, 102, 32, 105, 110, 116, 32, 105, 116, 32, 106, 111, 105, 110, 32, 108, 101, 110, 32, 108, 111, 103, 32, 108, 111, 111, 112, 101, 114, 32, 109, 97, 105, 110, 32, 110, 101, 119, 32, 110, 117, 108, 108, 32, 111, 102, 102, 32, 111, 110, 32, 112, 111, 115, 116, 32, 114, 101, 116, 117, 114, 110, 32, 115, 112, 97, 119, 110, 32, 115, 116, 97, 114, 116, 32, 115, 116, 111, 112, 32, 116, 111, 32, 116, 111, 107, 32, 118, 97, 114, 32, 119, 104, 105, 108, 101]⟩] w fun e w' => e = .returned (.slice (some ⟨w.heap.size, 0, none⟩) 36 36) ∧ w' = w.alloc (.cells (wordsB.map Value.string).toArray 9) := by
  have hasc : ∀ x ∈ allWords.data.toList, x.toNat < 128 := by decide +kernel
  refine (Tryd.strings_Fields_laid allWords w (by decide +kernel) (fun j b hb => hasc b (List.mem_of_getElem? hb)) htab).mono ?_
  rintro e w' ⟨rfl, rfl⟩
  rw [fields_words]
  refine ⟨rfl, ?_⟩
  rw [wordsB, List.map_map]
  rfl
theorem words_lookup (k : Nat) (h : k < wordsB.length) : lk (wordsE.take k) wordsB[k] = none := by
  refine lookup_none (κ := ByteArray) _ _ ?_
  have e : (wordsE.take k).map (·.1) = wordsB.take k := by
    simp only [wordsE, ← List.map_take, List.map_map]
    exact (List.map_congr_left (g := id) (fun a _ => rfl)).trans (List.map_id _)
  rw [e]
  intro hm
  obtain ⟨j, hj, hj2⟩ := List.getElem_of_mem hm
  rw [List.getElem_take] at hj2
  have hj' : j < k := by simp at hj; omega
  exact List.pairwise_iff_getElem.1 wordsB_nodup j k (by omega) h hj' hj2
theorem words_take (k : Nat) (h : k < wordsB.length) : wordsE.take (k + 1) = wordsE.take k ++ [(wordsB[k], .agg #[.bool true])] := by
  have h' : k < wordsE.length := by simpa [wordsE] using h
  rw [List.take_succ_eq_append_getElem h']
  simp [wordsE]
/-- The loop's relation. -/
structure WRel (w : World) (m g : Nat) (k : Nat) (wr : World) : Prop where
  row : Row g wordsB wr
  map : IMap encS m (wordsE.take k) wr
  below : Below w.heap.size w wr
set_option maxHeartbeats 2000000 in
set_option maxRecDepth 100000 in
theorem words_any (w : World) (htab : Lib.TabIs Tryd.prog w "strings.asciiSpace" .u8 Lib.asciiSpaceTab) :
    Calls Tryd.prog 77 #[] w fun e w' => ∃ m, e = .returned (.map (some m)) ∧ w.heap.size ≤ m ∧ IMap encS m wordsE w' ∧ Below w.heap.size w w' := by
  have HTab := Lib.hid htab
  clear htab
  have hmm := @run_makeMap Tryd.prog
  go_enter Tryd.func77, Tryd.ntmps77
  go_wp2_with fail
  refine (fields_then _ (tab_below HTab.out ((Below.refl _ _).alloc (Nat.le_refl _) _))).mono ?_
  rintro e w1 ⟨rfl, rfl⟩
  have hR : WRel w w.heap.size (w.alloc (.map #[] 0)).heap.size 0 ((w.alloc (.map #[] 0)).alloc (.cells (wordsB.map Value.string).toArray 9)) := by
    refine ⟨⟨(Blk.new (w.alloc (.map #[] 0)) _ 9).heap⟩, ?_, ((Below.refl _ _).alloc (Nat.le_refl _) _).alloc (by show w.heap.size ≤ (w.heap.push _).size; simp) _⟩
    refine ⟨#[], 0, ?_, rfl⟩
    rw [Below.heap_alloc (w.alloc (.map #[] 0)) _ _ (by show w.heap.size < (w.heap.push _).size; simp)]
    show (w.heap.push _)[w.heap.size]? = _
    simp
  have hgm : w.heap.size ≠ (w.alloc (.map #[] 0)).heap.size := by show w.heap.size ≠ (w.heap.push _).size; simp
  have hgm2 : w.heap.size ≤ (w.alloc (.map #[] 0)).heap.size := by show w.heap.size ≤ (w.heap.push _).size; simp
  generalize (w.alloc (.map #[] 0)).alloc (.cells (wordsB.map Value.string).toArray 9) = w2 at *
  generalize (w.alloc (.map #[] 0)).heap.size = g at *
  have HR := Lib.hid hR
  clear hR
  go_wp2
  go_loopw [7] (fun i wr => ∃ k : Nat, k ≤ 36 ∧ i = .int .i64 k ∧ Hid (WRel w w.heap.size g k wr)) (fun i _ => 36 - (intOf i).toNat)
  case atStart => exact ⟨0, Nat.zero_le _, rfl, HR⟩
  case round =>
    obtain ⟨k, hk, rfl, hr⟩ := hrel
    by_cases hlt : k < 36
    · have hk' : k < wordsB.length := by rw [wordsB_length]; exact hlt
      have hcell := hr.out.row.cell k hk'
      have hl := words_lookup k hk'
      have ht := words_take k hk'
      generalize wordsB[k] = s at hcell hl ht
      obtain ⟨w3, hrun, hm3, hx⟩ := hr.out.map.run_insert (P := Tryd.prog) (t := 98) (kt := 9) (et := 97) (d := .string) (by kernel_rfl) (by kernel_rfl) .str s (.agg #[.bool true]) hl
      have hrun' : (Instr.mapUpdate 98 (.map (some w.heap.size)) (.string s) (.agg #[.bool true])).run Tryd.prog wr = .ok () w3 := hrun
      go_wp2
      go_roundw
      case rel =>
        refine ⟨k + 1, by omega, by go_num, ?_⟩
        refine ⟨⟨(hx.block g (fun e => hgm e.symm)).trans hr.out.row.heap⟩, ?_, hx.below hr.out.below (Nat.le_refl _)⟩
        rw [ht]
        exact hm3
      case measure => simp [intOf]; omega
    · have e : k = 36 := by omega
      subst e
      go_wp2
      go_ret
      exact ⟨_, rfl, Nat.le_refl _, hr.out.map, hr.out.below⟩
end Go.Proofs.YtbpefmidgfmcaaaDoor
end
section
set_option linter.unusedVariables false
namespace Go.Proofs.YtbpefmidgfmcaaaDoor
open Go.RowKit PTreeApart Go.Proofs.YtbpefmidgfmcaaaDoorW.PrintWords
theorem letter_of (c : UInt8) : token_letter.f (c.toNat : Int) = some (letterB c) := by
  have h : ∀ n : Nat, n < 256 → token_letter.f (n : Int) = some (letterB (UInt8.ofNat n)) := by decide +kernel
  have := h c.toNat c.toNat_lt
  rwa [UInt8.ofNat_toNat] at this
theorem digit_of (c : UInt8) : token_digit.f (c.toNat : Int) = some (digitB c) := by
  have h : ∀ n : Nat, n < 256 → token_digit.f (n : Int) = some (digitB (UInt8.ofNat n)) := by decide +kernel
  have := h c.toNat c.toNat_lt
  rwa [UInt8.ofNat_toNat] at this
theorem zero97 (w : World) : (zeroValue 97).run Tryd.prog w = .ok (.agg #[.bool false]) w := by kernel_rfl
theorem IMap.run_lookup_none {P : Program} {t kt et : TypeId} {d : TypeDesc} {κ : Type} [DecidableEq κ] {enc : κ → Value} {m : Nat} {es : List (κ × Value)} {w : World} (hu : P.underlying t = some (.map kt et)) (hk : P.underlying kt = some d) (hK : KeyKind d enc) (h : IMap enc m es w) (k : κ) (z : Value) (hz : (zeroValue et).run P w = .ok z w) (hl : lk es k = none) :
    (Instr.lookup t (.map (some m)) (enc k) false).run P w = .ok z w := by
  obtain ⟨arr, clk, hh, hes⟩ := h
  obtain ⟨r, hr, hr2⟩ := findNow_spec hK k arr.toList es 0 hes
  rw [show List.lookup k es = none from hl] at hr2
  obtain rfl := Option.map_eq_none_iff.1 hr2
  have hc := hK.check hk k arr.isEmpty w
  have hf : (Instr.findKey kt (enc k) arr.toList).run P w = .ok none w := MapKept.run_findKey hk hr
  simp [Instr.lookup, run_underlying hu, MapKept.run_getObj_map hh, hc, hf, hz, Result.andThen]
theorem field97 (b : Bool) (w : World) : (Instr.field 97 (.agg #[.bool b]) 0).run Tryd.prog w = .ok (.bool b) w := by kernel_rfl
set_option maxHeartbeats 2000000 in
set_option maxRecDepth 100000 in
theorem word_not (s : ByteArray) (w : World) (htab : Lib.TabIs Tryd.prog w "strings.asciiSpace" .u8 Lib.asciiSpaceTab) (h : words.contains s.data.toList = false) :
    Calls Tryd.prog 69 #[.string s] w fun e w' => e = .returned (.bool false) ∧ Below w.heap.size w w' := by
  have hl : lk wordsE s = none := by
    refine lookup_none (κ := ByteArray) _ _ ?_
    intro hm
    have e : wordsE.map (·.1) = wordsB := by
      simp only [wordsE, List.map_map]
      exact (List.map_congr_left (g := id) (fun a _ => rfl)).trans (List.map_id _)
    rw [e, wordsB] at hm
    obtain ⟨l, hl1, rfl⟩ := List.mem_map.1 hm
    simp at h
    exact h hl1
  have HTab := Lib.hid htab
  have HL := Lib.hid hl
  clear htab hl h
  go_enter Tryd.func69, Tryd.ntmps69
  go_wp2_with fail
  refine (words_any w HTab.out).mono ?_
  rintro e w1 ⟨m, rfl, hm, hM, hB⟩
  have hlk : (Instr.lookup 98 (.map (some m)) (.string s) false).run Tryd.prog w1 = .ok (.agg #[.bool false]) w1 :=
    hM.run_lookup_none (t := 98) (kt := 9) (et := 97) (d := .string) (by kernel_rfl) (by kernel_rfl) .str s _ (zero97 w1) HL.out
  have hf := field97 false w1
  have HB := Lib.hid hB
  clear hB hM
  go_wp2
  go_ret
  exact ⟨rfl, HB.out⟩
theorem bt_nat (s : ByteArray) (i : Nat) (h : i < s.data.toList.length) : bt s (i : Int) = ((s.data.toList[i]).toNat : Int) := by
  have h' : i < s.size := by rw [Array.length_toList] at h; exact h
  unfold bt
  simp only [Int.toNat_natCast]
  rw [dif_pos h']
  simp only [Array.getElem_toList]
  rfl
set_option maxHeartbeats 2000000 in
set_option maxRecDepth 100000 in
theorem isname_true (s : ByteArray) (w : World) (htab : Lib.TabIs Tryd.prog w "strings.asciiSpace" .u8 Lib.asciiSpaceTab) (h : nameB s.data.toList = true) :
    Calls Tryd.prog 61 #[.string s] w fun e w' => e = .returned (.bool true) ∧ Below w.heap.size w w' := by
  simp only [nameB, Bool.and_eq_true, decide_eq_true_eq, Bool.not_eq_true'] at h
  obtain ⟨⟨⟨⟨h1, h2⟩, h3⟩, h4⟩, h5⟩ := h
  have hsz : s.size = s.data.toList.length := by rw [Array.length_toList]; rfl
  have hpos : 0 < s.data.toList.length := by
    cases hh : s.data.toList with
    | nil => rw [hh] at h1; simp at h1
    | cons a r => simp
  have HTab := Lib.hid htab
  have H4 := Lib.hid h4
  have H5 := Lib.hid h5
  have H3 := Lib.hid h3
  clear htab h4 h5 h3 h1
  have he : s.toList.isEmpty = false := by
    rw [ByteArray.toList_eq]
    cases hh : s.data.toList with
    | nil => rw [hh] at hpos; simp at hpos
    | cons a r => rfl
  have hd0 : token_digit.f (bt s 0) = some false := by
    have e := bt_nat s 0 hpos
    rw [show ((0 : Nat) : Int) = 0 from rfl] at e
    rw [e, digit_of]
    have := H3.out
    rw [show s.data.toList.headD 0 = s.data.toList[0] from by rw [List.headD_eq_head?_getD, List.head?_eq_getElem?, List.getElem?_eq_getElem hpos]; rfl] at this
    rw [this]
  have HD := Lib.hid hd0
  clear hd0
  have hlen : decide ((32 : Int) < s.size) = false := by simp; omega
  have p0 : (0 : Int) < (s.size : Int) := by omega
  have h0s : 0 < s.size := by omega
  have HX := Lib.hid (show ((s[0]'h0s).toNat : Int) = bt s 0 from bt_at s 0 h0s)
  have HSZ := Lib.hid hsz
  have HP := Lib.hid hpos
  have H2 := Lib.hid h2
  clear hsz hpos h2
  go_enter Tryd.func61, Tryd.ntmps61
  go_wp2_with fail
  rw [HX.out]
  refine (token_digit.calls (bt s 0) false w HD.out).mono ?_
  rintro e w1 ⟨rfl, ⟨n1, rfl⟩⟩
  clear he HX HD hlen p0 h0s
  go_wp2_with fail
  refine (word_not s (w.drewN n1) HTab.out H4.out).mono ?_
  rintro e w2 ⟨rfl, hB2⟩
  have HB := Lib.hid (show Below w.heap.size w w2 from ⟨hB2.os, hB2.tape, hB2.output, hB2.size, hB2.block⟩)
  clear hB2 H4 HTab
  go_wp2
  go_loopw [22] (fun i wr => ∃ k : Nat, k ≤ s.size ∧ i = .int .i64 k ∧ Hid (Below w.heap.size w wr)) (fun i _ => s.size - (intOf i).toNat)
  case atStart => exact ⟨0, Nat.zero_le _, rfl, HB⟩
  case round =>
    obtain ⟨k, hk, rfl, hr⟩ := hrel
    by_cases hlt : k < s.size
    · have hks : k < s.data.toList.length := by have := HSZ.out; omega
      have h64 : k < 100 := by have := HSZ.out; have := H2.out; omega
      have hc := List.all_eq_true.1 H5.out s.data.toList[k] (List.getElem_mem hks)
      have HXk := Lib.hid (show ((s[k]'hlt).toNat : Int) = bt s k from bt_at s k hlt)
      have hL := letter_of s.data.toList[k]
      have hD := digit_of s.data.toList[k]
      rw [← bt_nat s k hks] at hL hD
      cases hl : letterB s.data.toList[k] with
      | true =>
        rw [hl] at hL
        have HL := Lib.hid hL
        clear hL hD hc hks hl
        go_wp2_with fail
        rw [HXk.out]
        refine (token_letter.calls (bt s k) true _ HL.out).mono ?_
        rintro e w3 ⟨rfl, ⟨n3, rfl⟩⟩
        go_wp2
        go_roundw
        case rel => exact ⟨k + 1, by omega, by go_num, ⟨hr.out.os, hr.out.tape, hr.out.output, hr.out.size, hr.out.block⟩⟩
        case measure => simp [intOf]; omega
      | false =>
        rw [hl] at hL
        rw [hl, Bool.false_or] at hc
        rw [hc] at hD
        have HL := Lib.hid hL
        have HDg := Lib.hid hD
        clear hL hD hc hks hl
        go_wp2_with fail
        rw [HXk.out]
        refine (token_letter.calls (bt s k) false _ HL.out).mono ?_
        rintro e w3 ⟨rfl, ⟨n3, rfl⟩⟩
        go_wp2_with fail
        rw [HXk.out]
        refine (token_digit.calls (bt s k) true _ HDg.out).mono ?_
        rintro e w4 ⟨rfl, ⟨n4, rfl⟩⟩
        go_wp2
        go_roundw
        case rel => exact ⟨k + 1, by omega, by go_num, ⟨hr.out.os, hr.out.tape, hr.out.output, hr.out.size, hr.out.block⟩⟩
        case measure => simp [intOf]; omega
    · have e : k = s.size := by omega
      subst e
      go_wp2
      go_ret
      exact ⟨rfl, hr.out⟩
end Go.Proofs.YtbpefmidgfmcaaaDoor
end
section
set_option linter.unusedVariables false
namespace Go.Proofs.YtbpefmidgfmcaaaDoor
open Go.RowKit PTreeApart Go.Proofs.YtbpefmidgfmcaaaDoorW.PrintWords
/-- A row of whole numbers, from an address on. -/
def IAt (A : Option Addr) (l : List Int) (w : World) : Prop :=
  ∀ j (h : j < l.length), ∃ g o, A = some ⟨g, o, none⟩ ∧ w.cell? ⟨g, o + j, none⟩ = some (.int .i64 l[j]) ∧ g < w.heap.size
theorem IAt.below {A : Option Addr} {l : List Int} {w w' : World} (h : IAt A l w) (hb : Below w.heap.size w w') : IAt A l w' := fun j hj => by
  obtain ⟨g, o, e, hc, hl⟩ := h j hj
  exact ⟨g, o, e, (hb.cell (p := ⟨g, o + j, none⟩) hl).trans hc, Nat.lt_of_lt_of_le hl hb.size⟩
/-- A function value that answers of a kind. -/
def Pred (W0 : World) (v : Value) (p : Int → Bool) : Prop :=
  ∃ f cap, v = .func (.func f) #[] cap ∧ (∀ args w, (callFunc f args).run Tryd.prog w = .ok (.enter f args) w) ∧
    ∀ x w, Below W0.heap.size W0 w → Calls Tryd.prog f (#[.int .i64 x] ++ cap) w fun e w' => e = .returned (.bool (p x)) ∧ Below w.heap.size w w'
/-- Below, from a later world. -/
theorem below_after {a w w' : World} (h : Below a.heap.size a w) (k : Below w.heap.size w w') : Below a.heap.size a w' := h.trans (k.mono h.size)
set_option maxHeartbeats 2000000 in
set_option maxRecDepth 100000 in
theorem index_any (l : List Int) (hl : l.length ≤ 1000) (A : Option Addr) (c : Nat) (x : Int) (w : World) (hA : IAt A l w) :
    Calls Tryd.prog 67 #[.slice A l.length c, .int .i64 x] w fun e w' => (∃ r : Int, e = .returned (.int .i64 r) ∧ (0 ≤ r ↔ l.contains x = true)) ∧ w' = w := by
  have HA := Lib.hid hA
  clear hA
  go_enter Tryd.func67, Tryd.ntmps67
  go_wp2
  go_loopw [8] (fun i wr => ∃ k : Nat, k ≤ l.length ∧ i = .int .i64 k ∧ wr = w ∧ Hid ((l.take k).contains x = false)) (fun i _ => l.length - (intOf i).toNat)
  case atStart => exact ⟨0, Nat.zero_le _, rfl, rfl, Lib.hid (by simp)⟩
  case round =>
    obtain ⟨k, hk, rfl, rfl, hr⟩ := hrel
    by_cases hlt : k < l.length
    · obtain ⟨g, o, rfl, hc, hg⟩ := HA.out k hlt
      have HT := Lib.hid (List.take_succ_eq_append_getElem hlt)
      have HM := Lib.hid (List.getElem_mem hlt)
      generalize l[k] = y at hc HT HM
      by_cases e : x = y
      · subst e
        go_wp2
        go_ret
        exact ⟨⟨_, rfl, by simp [HM.out]⟩, rfl⟩
      · have e1 : decide (x = y) = false := decide_eq_false e
        have e2 : (x == y) = false := by simpa using e
        go_wp2
        go_roundw
        case rel =>
          refine ⟨k + 1, by omega, by go_num, by trivial, Lib.hid ?_⟩
          rw [HT.out]
          have := hr.out
          simp only [List.contains_eq_mem, List.mem_append, decide_eq_false_iff_not, not_or] at this ⊢
          exact ⟨this, by simpa using e⟩
        case measure => simp [intOf]; omega
    · have e : k = l.length := by omega
      subst e
      go_wp2
      go_ret
      have := hr.out
      rw [List.take_length] at this
      exact ⟨⟨_, rfl, by rw [this]; simp⟩, rfl⟩
set_option maxHeartbeats 2000000 in
set_option maxRecDepth 100000 in
theorem contains_any (l : List Int) (hl : l.length ≤ 1000) (A : Option Addr) (c : Nat) (x : Int) (w : World) (hA : IAt A l w) :
    Calls Tryd.prog 60 #[.slice A l.length c, .int .i64 x] w fun e w' => e = .returned (.bool (l.contains x)) ∧ w' = w := by
  have HA := Lib.hid hA
  clear hA
  go_enter Tryd.func60, Tryd.ntmps60
  go_wp2_with fail
  refine (index_any l hl A c x w HA.out).mono ?_
  rintro e w' ⟨⟨r, rfl, hr⟩, rfl⟩
  have e : decide (0 ≤ r) = l.contains x := by
    rw [Bool.eq_iff_iff, ← hr]; simp
  have HE := Lib.hid e
  clear e hr
  go_wp2
  go_ret
  exact ⟨by rw [← HE.out]; simp, rfl⟩
set_option maxHeartbeats 2000000 in
set_option maxRecDepth 100000 in
theorem indexf_any (l : List Int) (hl : l.length ≤ 1000) (A : Option Addr) (c : Nat) (v : Value) (p : Int → Bool) (w : World) (hA : IAt A l w) (hP : Pred w v p) :
    Calls Tryd.prog 66 #[.slice A l.length c, v] w fun e w' => (∃ r : Int, e = .returned (.int .i64 r) ∧ (0 ≤ r ↔ l.any p = true)) ∧ Below w.heap.size w w' := by
  obtain ⟨f, cap, rfl, eg, hC⟩ := hP
  have HA := Lib.hid hA
  have HC := Lib.hid hC
  clear hA hC
  go_enter Tryd.func66, Tryd.ntmps66
  go_wp2
  go_loopw [8] (fun i wr => ∃ k : Nat, k ≤ l.length ∧ i = .int .i64 k ∧ Hid (Below w.heap.size w wr) ∧ Hid ((l.take k).any p = false)) (fun i _ => l.length - (intOf i).toNat)
  case atStart => exact ⟨0, Nat.zero_le _, rfl, Lib.hid (Below.refl _ _), Lib.hid (by simp)⟩
  case round =>
    obtain ⟨k, hk, rfl, hb, hr⟩ := hrel
    by_cases hlt : k < l.length
    · obtain ⟨g, o, rfl, hc, hg⟩ := (HA.out.below hb.out) k hlt
      have HT := Lib.hid (List.take_succ_eq_append_getElem hlt)
      have HM := Lib.hid (List.getElem_mem hlt)
      generalize l[k] = y at hc HT HM
      go_wp2_with fail
      refine (HC.out y wr hb.out).mono ?_
      rintro e w2 ⟨rfl, hb2⟩
      have HB2 := Lib.hid (below_after hb.out hb2)
      clear hb2
      cases e : p y with
      | true =>
        go_wp2
        go_ret
        exact ⟨⟨_, rfl, by simp only [List.any_eq_true]; exact ⟨fun _ => ⟨y, HM.out, e⟩, fun _ => by omega⟩⟩, HB2.out⟩
      | false =>
        go_wp2
        go_roundw
        case rel =>
          refine ⟨k + 1, by omega, by go_num, HB2, Lib.hid ?_⟩
          rw [HT.out, List.any_append, hr.out]
          simp [e]
        case measure => simp [intOf]; omega
    · have e : k = l.length := by omega
      subst e
      go_wp2
      go_ret
      have := hr.out
      rw [List.take_length] at this
      exact ⟨⟨_, rfl, by rw [this]; simp⟩, hb.out⟩
set_option maxHeartbeats 2000000 in
set_option maxRecDepth 100000 in
theorem containsf_any (l : List Int) (hl : l.length ≤ 1000) (A : Option Addr) (c : Nat) (v : Value) (p : Int → Bool) (w : World) (hA : IAt A l w) (hP : Pred w v p) :
    Calls Tryd.prog 57 #[.slice A l.length c, v] w fun e w' => e = .returned (.bool (l.any p)) ∧ Below w.heap.size w w' := by
  have HA := Lib.hid hA
  have HP := Lib.hid hP
  clear hA hP
  go_enter Tryd.func57, Tryd.ntmps57
  go_wp2_with fail
  refine (indexf_any l hl A c v p w HA.out HP.out).mono ?_
  rintro e w' ⟨⟨r, rfl, hr⟩, hb⟩
  have e : decide (0 ≤ r) = l.any p := by
    rw [Bool.eq_iff_iff, ← hr]; simp
  have HE := Lib.hid e
  have HB := Lib.hid hb
  clear e hr hb
  go_wp2
  go_ret
  exact ⟨by rw [← HE.out]; simp, HB.out⟩
theorem enters59 : ∀ args w, (callFunc 59 args).run Tryd.prog w = .ok (.enter 59 args) w := enters_of Tryd.func59 (by kernel_rfl) rfl
set_option maxHeartbeats 2000000 in
set_option maxRecDepth 100000 in
theorem one1_any (l : List Int) (hl : l.length ≤ 1000) (A : Option Addr) (c : Nat) (x : Int) (b : Nat) (w : World) (hA : IAt A l w) (hb : w.cell? ⟨b, 0, none⟩ = some (.slice A l.length c)) :
    Calls Tryd.prog 59 #[.int .i64 x, .pointer (some ⟨b, 0, none⟩)] w fun e w' => e = .returned (.bool (l.contains x)) ∧ w' = w := by
  have HA := Lib.hid hA
  clear hA
  go_enter Tryd.func59, Tryd.ntmps59
  go_wp2_with fail
  refine (contains_any l hl A c x w HA.out).mono ?_
  rintro e w' ⟨rfl, rfl⟩
  obtain ⟨r, hr⟩ : ∃ r, r = l.contains x := ⟨_, rfl⟩
  rw [← hr]
  have HR := Lib.hid hr
  clear hr
  go_wp2
  go_ret
  exact ⟨by rw [← HR.out]; rfl, rfl⟩
set_option maxHeartbeats 2000000 in
set_option maxRecDepth 100000 in
/-- 'one': a function of the kinds of a row. -/
theorem one_any (l : List Int) (hl : l.length ≤ 1000) (A : Option Addr) (c : Nat) (w : World) (hA : IAt A l w) :
    Calls Tryd.prog 35 #[.slice A l.length c] w fun e w' => (∃ v, e = .returned v ∧ Pred w' v (fun x => l.contains x)) ∧ Below w.heap.size w w' := by
  have HA := Lib.hid hA
  clear hA
  have hmf : ∀ (fn : Fn) (first cap : Array Value) (w : World), (Instr.makeFunc fn first cap).run Tryd.prog w = .ok (.func fn first cap) w := fun _ _ _ _ => rfl
  go_enter Tryd.func35, Tryd.ntmps35
  go_wp2
  go_ret
  have hb : Below w.heap.size w (w.alloc (.cells #[.slice A l.length c] 46)) := (Below.refl _ _).alloc (Nat.le_refl _) _
  refine ⟨⟨_, rfl, 59, _, rfl, enters59, fun x w' hw => ?_⟩, hb⟩
  have hs : w.heap.size < (w.alloc (.cells #[.slice A l.length c] 46)).heap.size := by show w.heap.size < (w.heap.push _).size; simp
  refine (one1_any l hl A c x w.heap.size w' ((HA.out.below hb).below hw) ?_).mono ?_
  · rw [hw.cell (p := ⟨w.heap.size, 0, none⟩) hs]
    exact (Blk.new w _ 46).cell 0 _ rfl
  · rintro e w2 ⟨rfl, rfl⟩
    exact ⟨rfl, Below.refl _ _⟩
end Go.Proofs.YtbpefmidgfmcaaaDoor
end
section
set_option linter.unusedVariables false
namespace Go.Proofs.YtbpefmidgfmcaaaDoor
open Go.RowKit PTreeApart Go.Proofs.YtbpefmidgfmcaaaDoorW.PrintWords
def ints (l : List Int) : Array Value := (l.map (Value.int .i64)).toArray
theorem iat_new (l : List Int) (w : World) (T : Nat) : IAt (some ⟨w.heap.size, 0, none⟩) l (w.alloc (.cells (ints l) T)) := fun j hj => by
  refine ⟨w.heap.size, 0, rfl, ?_, by show w.heap.size < (w.heap.push _).size; simp⟩
  rw [Nat.zero_add]
  exact (Blk.new w (ints l) T).cell j _ (by simp [ints, hj])
def declL : List Int := [2, 3, 6, 7, 8, 10, 11]
def varL : List Int := [29, 30, 31]
set_option maxHeartbeats 2000000 in
set_option maxRecDepth 100000 in
theorem decl_any (x : Int) (w : World) : Calls Tryd.prog 37 #[.int .i64 x] w fun e w' => e = .returned (.bool (declL.contains x)) ∧ Below w.heap.size w w' := by
  go_enter Tryd.func37, Tryd.ntmps37
  go_wp2_with fail
  refine (one_any declL (by decide) (some ⟨w.heap.size, 0, none⟩) 7 _ (iat_new declL w 30)).mono ?_
  rintro e w1 ⟨⟨v, rfl, f, cap, rfl, eg, hC⟩, hb⟩
  have HC := Lib.hid hC
  have HB := Lib.hid (show Below w.heap.size w w1 from below_after ((Below.refl _ _).alloc (Nat.le_refl _) _) hb)
  clear hC hb
  go_wp2_with fail
  refine (HC.out x w1 (Below.refl _ _)).mono ?_
  rintro e w2 ⟨rfl, hb2⟩
  have HB2 := Lib.hid (below_after HB.out hb2)
  clear hb2
  obtain ⟨r, hr⟩ : ∃ r, r = declL.contains x := ⟨_, rfl⟩
  rw [← hr]
  have HR := Lib.hid hr
  clear hr
  go_wp2
  go_ret
  exact ⟨by rw [← HR.out]; rfl, HB2.out⟩
set_option maxHeartbeats 2000000 in
set_option maxRecDepth 100000 in
theorem var_any (x : Int) (w : World) : Calls Tryd.prog 40 #[.int .i64 x] w fun e w' => e = .returned (.bool (varL.contains x)) ∧ Below w.heap.size w w' := by
  go_enter Tryd.func40, Tryd.ntmps40
  go_wp2_with fail
  refine (one_any varL (by decide) (some ⟨w.heap.size, 0, none⟩) 3 _ (iat_new varL w 30)).mono ?_
  rintro e w1 ⟨⟨v, rfl, f, cap, rfl, eg, hC⟩, hb⟩
  have HC := Lib.hid hC
  have HB := Lib.hid (show Below w.heap.size w w1 from below_after ((Below.refl _ _).alloc (Nat.le_refl _) _) hb)
  clear hC hb
  go_wp2_with fail
  refine (HC.out x w1 (Below.refl _ _)).mono ?_
  rintro e w2 ⟨rfl, hb2⟩
  have HB2 := Lib.hid (below_after HB.out hb2)
  clear hb2
  obtain ⟨r, hr⟩ : ∃ r, r = varL.contains x := ⟨_, rfl⟩
  rw [← hr]
  have HR := Lib.hid hr
  clear hr
  go_wp2
  go_ret
  exact ⟨by rw [← HR.out]; rfl, HB2.out⟩
/-- A function value that answers true of a text. -/
def TPred (W0 : World) (v : Value) (t : ByteArray) : Prop :=
  ∃ f cap, v = .func (.func f) #[] cap ∧ (∀ args w, (callFunc f args).run Tryd.prog w = .ok (.enter f args) w) ∧
    ∀ w, Below W0.heap.size W0 w → Calls Tryd.prog f (#[.string t] ++ cap) w fun e w' => e = .returned (.bool true) ∧ Below w.heap.size w w'
theorem pred_decl (W0 : World) : Pred W0 (.func (.func 37) #[] #[]) (fun x => declL.contains x) := ⟨37, #[], rfl, enters_of Tryd.func37 (by kernel_rfl) rfl, fun x w _ => decl_any x w⟩
theorem pred_var (W0 : World) : Pred W0 (.func (.func 40) #[] #[]) (fun x => varL.contains x) := ⟨40, #[], rfl, enters_of Tryd.func40 (by kernel_rfl) rfl, fun x w _ => var_any x w⟩
theorem pred_term (W0 : World) : Pred W0 (.func (.func 23) #[] #[]) (fun x => decide (26 ≤ x ∧ x ≤ 36)) := by
  refine ⟨23, #[], rfl, enters_of Tryd.func23 (by kernel_rfl) rfl, fun x w _ => (tree_Term.calls x (decide (26 ≤ x ∧ x ≤ 36)) w ?_).mono ?_⟩
  · unfold tree_Term.f
    split
    · congr 1; rw [Bool.eq_iff_iff]; simp; omega
    · congr 1; symm; exact decide_eq_false (by omega)
  · rintro e w' ⟨rfl, h⟩
    exact ⟨rfl, h.below⟩
theorem pred_stmt (W0 : World) : Pred W0 (.func (.func 21) #[] #[]) (fun x => decide (13 ≤ x ∧ x ≤ 25)) := by
  refine ⟨21, #[], rfl, enters_of Tryd.func21 (by kernel_rfl) rfl, fun x w _ => (tree_statement.calls x (decide (13 ≤ x ∧ x ≤ 25)) w ?_).mono ?_⟩
  · unfold tree_statement.f
    split
    · congr 1; rw [Bool.eq_iff_iff]; simp; omega
    · congr 1; symm; exact decide_eq_false (by omega)
  · rintro e w' ⟨rfl, h⟩
    exact ⟨rfl, h.below⟩
set_option maxHeartbeats 2000000 in
set_option maxRecDepth 100000 in
theorem name_true (s : ByteArray) (w : World) (htab : Lib.TabIs Tryd.prog w "strings.asciiSpace" .u8 Lib.asciiSpaceTab) (h : nameB s.data.toList = true) :
    Calls Tryd.prog 38 #[.string s] w fun e w' => e = .returned (.bool true) ∧ Below w.heap.size w w' := by
  have HTab := Lib.hid htab
  have HN := Lib.hid h
  clear htab h
  go_enter Tryd.func38, Tryd.ntmps38
  go_wp2_with fail
  refine (isname_true s w HTab.out HN.out).mono ?_
  rintro e w1 ⟨rfl, hb⟩
  have HB := Lib.hid hb
  clear hb
  go_wp2
  go_ret
  exact ⟨rfl, HB.out⟩
theorem tpred_name {W0 : World} {s : ByteArray} (htab : Lib.TabIs Tryd.prog W0 "strings.asciiSpace" .u8 Lib.asciiSpaceTab) (h : nameB s.data.toList = true) : TPred W0 (.func (.func 38) #[] #[]) s :=
  ⟨38, #[], rfl, enters_of Tryd.func38 (by kernel_rfl) rfl, fun w hw => name_true s w (tab_below htab hw) h⟩
theorem op_true (s : ByteArray) (h : opB s.data.toList = true) : ∃ k, tree_op.f k s = some true := by
  have e : ∀ (l : List UInt8), s.data.toList = l → s = ⟨l.toArray⟩ := fun l hl => by
    cases s with
    | mk d => congr 1; rw [← hl]
  simp only [opB, Bool.or_eq_true, beq_iff_eq] at h
  rcases h with (((h | h) | h) | h) | h
  all_goals (rw [e _ h]; exact ⟨20, by decide +kernel⟩)
theorem tpred_op {W0 : World} {s : ByteArray} (h : opB s.data.toList = true) : TPred W0 (.func (.func 41) #[] #[]) s := by
  obtain ⟨k, hk⟩ := op_true s h
  exact ⟨41, #[], rfl, enters_of Tryd.func41 (by kernel_rfl) rfl, fun w hw => tree_op.calls k s true w hk⟩
end Go.Proofs.YtbpefmidgfmcaaaDoor
end
section
set_option linter.unusedVariables false
namespace Go.Proofs.YtbpefmidgfmcaaaDoor
open Go.RowKit PTreeApart Go.Proofs.YtbpefmidgfmcaaaDoorW.PrintWords
theorem kd_new (ss : List ByteArray) (hs : ss.length ≤ 1000) (w : World) (T : Nat) : Kd.string.C (w.alloc (.cells (ss.map Value.string).toArray T)) (some ⟨w.heap.size, 0, none⟩) ss.length ss := by
  refine ⟨rfl, by omega, fun _ => ⟨⟨w.heap.size, 0, none⟩, rfl, fun j p hj => ⟨[.string p], rfl, rfl, fun i u hu => ?_⟩⟩⟩
  cases i with
  | zero =>
    obtain rfl : Value.string p = u := by simpa using hu
    have e : (⟨w.heap.size, 0, none⟩ : Addr).add (j * Kd.string.sz + 0) = ⟨w.heap.size, j, none⟩ := by
      rw [show Kd.string.sz = 1 from rfl]
      simp [Addr.add]
      try (intro h; exact h.symm)
    rw [e]
    exact (Blk.new w _ T).cell j _ (by simp [hj])
  | succ i => simp at hu
def fiveB : List ByteArray := [⟨#[105, 110, 116]⟩, ⟨#[102, 110]⟩, ⟨#[116, 111, 107]⟩, ⟨#[104, 97, 110, 100]⟩, ⟨#[97, 114, 114]⟩]
theorem five_lookup : ∀ s ∈ fiveB, lk wordsE s = some (.agg #[.bool true]) := by
  intro s hs
  simp only [fiveB, List.mem_cons, List.not_mem_nil, or_false] at hs
  rcases hs with rfl | rfl | rfl | rfl | rfl <;> (unfold lk; rfl)
theorem five_facts : ∀ s ∈ fiveB, s.data.toList ≠ [] ∧ s.data.toList.length ≤ 32 ∧ digitB (s.data.toList.headD 0) = false := by
  intro s hs
  simp only [fiveB, List.mem_cons, List.not_mem_nil, or_false] at hs
  rcases hs with rfl | rfl | rfl | rfl | rfl <;> decide
theorem five_in : ∀ s ∈ fiveB, slices_Contains_string_string.f 20 fiveB s = some true := by
  intro s hs
  simp only [fiveB, List.mem_cons, List.not_mem_nil, or_false] at hs
  rcases hs with rfl | rfl | rfl | rfl | rfl <;> decide +kernel
set_option maxHeartbeats 2000000 in
set_option maxRecDepth 100000 in
theorem word_yes (s : ByteArray) (w : World) (htab : Lib.TabIs Tryd.prog w "strings.asciiSpace" .u8 Lib.asciiSpaceTab) (h : s ∈ fiveB) :
    Calls Tryd.prog 69 #[.string s] w fun e w' => e = .returned (.bool true) ∧ Below w.heap.size w w' := by
  have HTab := Lib.hid htab
  have HL := Lib.hid (five_lookup s h)
  clear htab h
  go_enter Tryd.func69, Tryd.ntmps69
  go_wp2_with fail
  refine (words_any w HTab.out).mono ?_
  rintro e w1 ⟨m, rfl, hm, hM, hB⟩
  have hlk : (Instr.lookup 98 (.map (some m)) (.string s) false).run Tryd.prog w1 = .ok (.agg #[.bool true]) w1 :=
    hM.run_lookup (P := Tryd.prog) (t := 98) (kt := 9) (et := 97) (d := .string) (by kernel_rfl) (by kernel_rfl) .str s _ HL.out false
  have hf := field97 true w1
  have HB := Lib.hid hB
  clear hB hM
  go_wp2
  go_ret
  exact ⟨rfl, HB.out⟩
set_option maxHeartbeats 2000000 in
set_option maxRecDepth 100000 in
theorem isname_word (s : ByteArray) (w : World) (htab : Lib.TabIs Tryd.prog w "strings.asciiSpace" .u8 Lib.asciiSpaceTab) (h : s ∈ fiveB) :
    Calls Tryd.prog 61 #[.string s] w fun e w' => e = .returned (.bool false) ∧ Below w.heap.size w w' := by
  obtain ⟨h1, h2, h3⟩ := five_facts s h
  have hsz : s.size = s.data.toList.length := by rw [Array.length_toList]; rfl
  have hpos : 0 < s.data.toList.length := by
    cases hh : s.data.toList with
    | nil => exact absurd hh h1
    | cons a r => simp
  have HTab := Lib.hid htab
  have H4 := Lib.hid h
  have H3 := Lib.hid h3
  clear htab h h3 h1
  have he : s.toList.isEmpty = false := by
    rw [ByteArray.toList_eq]
    cases hh : s.data.toList with
    | nil => rw [hh] at hpos; simp at hpos
    | cons a r => rfl
  have hd0 : token_digit.f (bt s 0) = some false := by
    have e := bt_nat s 0 hpos
    rw [show ((0 : Nat) : Int) = 0 from rfl] at e
    rw [e, digit_of]
    have := H3.out
    rw [show s.data.toList.headD 0 = s.data.toList[0] from by rw [List.headD_eq_head?_getD, List.head?_eq_getElem?, List.getElem?_eq_getElem hpos]; rfl] at this
    rw [this]
  have HD := Lib.hid hd0
  clear hd0
  have hlen : decide ((32 : Int) < s.size) = false := by simp; omega
  have p0 : (0 : Int) < (s.size : Int) := by omega
  have h0s : 0 < s.size := by omega
  have HX := Lib.hid (show ((s[0]'h0s).toNat : Int) = bt s 0 from bt_at s 0 h0s)
  clear hsz hpos h2
  go_enter Tryd.func61, Tryd.ntmps61
  go_wp2_with fail
  rw [HX.out]
  refine (token_digit.calls (bt s 0) false w HD.out).mono ?_
  rintro e w1 ⟨rfl, ⟨n1, rfl⟩⟩
  clear he HX HD hlen p0 h0s
  go_wp2_with fail
  refine (word_yes s (w.drewN n1) HTab.out H4.out).mono ?_
  rintro e w2 ⟨rfl, hB2⟩
  have HB := Lib.hid (show Below w.heap.size w w2 from ⟨hB2.os, hB2.tape, hB2.output, hB2.size, hB2.block⟩)
  clear hB2 H4 HTab
  go_wp2
  go_ret
  exact ⟨rfl, HB.out⟩
set_option maxHeartbeats 2000000 in
set_option maxRecDepth 100000 in
theorem typ_true (s : ByteArray) (w : World) (htab : Lib.TabIs Tryd.prog w "strings.asciiSpace" .u8 Lib.asciiSpaceTab) (h : typeB s.data.toList = true) :
    Calls Tryd.prog 39 #[.string s] w fun e w' => e = .returned (.bool true) ∧ Below w.heap.size w w' := by
  have h2 : nameB s.data.toList = true ∨ s ∈ fiveB := by
    have e : ∀ (l : List UInt8), s.data.toList = l → s = ⟨l.toArray⟩ := fun l hl => by
      cases s with
      | mk d => congr 1; rw [← hl]
    simp only [typeB, Bool.or_eq_true, beq_iff_eq] at h
    rcases h with ((((h | h) | h) | h) | h) | h
    · exact .inl h
    all_goals (right; rw [e _ h]; simp [fiveB])
  have HTab := Lib.hid htab
  clear htab h
  rcases h2 with h | h
  · have HN := Lib.hid h
    clear h
    go_enter Tryd.func39, Tryd.ntmps39
    go_wp2_with fail
    refine (isname_true s w HTab.out HN.out).mono ?_
    rintro e w1 ⟨rfl, hb⟩
    have HB := Lib.hid hb
    clear hb
    go_wp2
    go_ret
    exact ⟨rfl, HB.out⟩
  · have HN := Lib.hid h
    clear h
    go_enter Tryd.func39, Tryd.ntmps39
    go_wp2_with fail
    refine (isname_word s w HTab.out HN.out).mono ?_
    rintro e w1 ⟨rfl, hb⟩
    have HB := Lib.hid hb
    clear hb
    go_wp2_with fail
    refine (slices_Contains_string_string.calls 20 (some ⟨w1.heap.size, 0, none⟩) 5 fiveB s true _ (kd_new fiveB (by decide) w1 9) (by decide) (five_in s HN.out)).mono ?_
    rintro e w2 ⟨rfl, hd⟩
    have HB2 := Lib.hid (below_after (below_after HB.out ((Below.refl _ _).alloc (Nat.le_refl _) _)) hd.below)
    clear hd
    go_wp2
    go_ret
    exact ⟨rfl, HB2.out⟩
theorem tpred_typ {W0 : World} {s : ByteArray} (htab : Lib.TabIs Tryd.prog W0 "strings.asciiSpace" .u8 Lib.asciiSpaceTab) (h : typeB s.data.toList = true) : TPred W0 (.func (.func 39) #[] #[]) s :=
  ⟨39, #[], rfl, enters_of Tryd.func39 (by kernel_rfl) rfl, fun w hw => typ_true s w (tab_below htab hw) h⟩
end Go.Proofs.YtbpefmidgfmcaaaDoor
end
