import Derived.Test.YtbpefmidgfmcaaaDoorProg
import Derived.Test.YtbpefmidgfmcaaaDoorV6
import Derived.WalkKit
import Derived.KernelRfl
import Derived.Below
import Derived.Lib.Hide
import Derived.OwnWalk
import Derived.MapKept
import Derived.Outline
import Derived.Shelf.LaysM
import Derived.Shelf.Strconv.Itoa4
import Derived.Shelf.Strings.SplitShaped
import Derived.Lib.Strings
import Derived.Lib.Slices
import Derived.Lib.Walk
import Derived.Lib.Builder
import Derived.Lib.AppendStr
import Derived.Lib.UnsafeStr
import Derived.Laws.Externs
import Derived.Laws.IdiomCopy
import Derived.Laws.BitsLemmas
import Derived.RegionTactic
import Derived.ChangeAlike
import Derived.LoopTactic
import Derived.Lib.ItoaLen
section
set_option linter.unusedVariables false
namespace Go.Proofs.YtbpefmidgfmcaaaDoor
open Go.RowKit
/-- A kind of keys: whole numbers, texts. -/
inductive KeyKind : (d : TypeDesc) → {κ : Type} → [DecidableEq κ] → (κ → Value) → Prop where
  | int : KeyKind (.int .i64) (fun n : Int => Value.int .i64 n)
  | str : KeyKind .string (fun s : ByteArray => Value.string s)
theorem KeyKind.isKey {d : TypeDesc} {κ : Type} [DecidableEq κ] {enc : κ → Value} (h : KeyKind d enc) (a : κ) : MapKept.IsKey d (enc a) := by
  cases h with
  | int => simp [MapKept.IsKey]
  | str => simp [MapKept.IsKey]
theorem KeyKind.inj {d : TypeDesc} {κ : Type} [DecidableEq κ] {enc : κ → Value} (h : KeyKind d enc) {a b : κ} (e : enc a = enc b) : a = b := by
  cases h with
  | int => simpa using e
  | str => simpa using e
theorem KeyKind.same {d : TypeDesc} {κ : Type} [DecidableEq κ] {enc : κ → Value} (h : KeyKind d enc) (a b : κ) : Instr.sameNow d (enc a) (enc b) = some (decide (a = b)) := by
  obtain ⟨r, hr, hi⟩ := MapKept.sameNow_of_keys (h.isKey a) (h.isKey b)
  rw [hr]
  congr 1
  by_cases e : a = b
  · rw [hi.2 (by rw [e])]; simp [e]
  · cases r with
    | true => exact absurd (h.inj (hi.1 rfl)) e
    | false => simp [e]
theorem KeyKind.check {P : Program} {kt : TypeId} {d : TypeDesc} {κ : Type} [DecidableEq κ] {enc : κ → Value} (h : KeyKind d enc) (hk : P.underlying kt = some d) (a : κ) (e : Bool) (w : World) :
    (Instr.checkKey e 10000 kt (enc a)).run P w = .ok () w := MapKept.run_checkKey hk (h.isKey a) e 9999
/-- Block m is a map that holds these entries. -/
def IMap {κ : Type} (enc : κ → Value) (m : Nat) (es : List (κ × Value)) (w : World) : Prop :=
  ∃ arr clk, w.heap[m]? = some (.map arr clk) ∧ arr.toList.map (fun e => (e.key, e.val)) = es.map (fun p => (enc p.1, p.2))
/-- Block m alone has been written. -/
structure Ext (m : Nat) (w w' : World) : Prop where
  os : w'.os = w.os
  tape : w'.tape = w.tape
  output : w'.output = w.output
  size : w'.heap.size = w.heap.size
  block : ∀ k, k ≠ m → w'.heap[k]? = w.heap[k]?
theorem findNow_spec {d : TypeDesc} {κ : Type} [DecidableEq κ] {enc : κ → Value} (hs : KeyKind d enc) (k : κ) :
    ∀ (l : List MapEntry) (es : List (κ × Value)) (i : Nat), l.map (fun e => (e.key, e.val)) = es.map (fun p => (enc p.1, p.2)) →
      ∃ r, Instr.findNow d (enc k) l i = some r ∧ r.map (·.2) = es.lookup k
  | [], [], i, _ => ⟨none, rfl, rfl⟩
  | e :: l, [], i, h => by simp at h
  | [], p :: es, i, h => by simp at h
  | e :: l, p :: es, i, h => by
    simp only [List.map_cons, List.cons.injEq, Prod.mk.injEq] at h
    obtain ⟨⟨h1, h2⟩, h3⟩ := h
    unfold Instr.findNow
    rw [h1, hs.same k p.1]
    by_cases e1 : k = p.1
    · refine ⟨some (i, e.val), by simp [e1], ?_⟩
      simp [List.lookup, e1, h2]
    · obtain ⟨r, hr, hr2⟩ := findNow_spec hs k l es (i + 1) h3
      refine ⟨r, by simp [e1, hr], ?_⟩
      have : (k == p.1) = false := by simpa using e1
      simp only [List.lookup, this]
      exact hr2
section
variable {P : Program} {t kt et : TypeId} {d : TypeDesc} {κ : Type} [DecidableEq κ] {enc : κ → Value} {m : Nat} {es : List (κ × Value)} {w : World}
theorem IMap.run_lookup (hu : P.underlying t = some (.map kt et)) (hk : P.underlying kt = some d) (hK : KeyKind d enc) (h : IMap enc m es w) (k : κ) (v : Value) (hl : es.lookup k = some v) (ok : Bool) :
    (Instr.lookup t (.map (some m)) (enc k) ok).run P w = .ok (if ok then .tuple #[v, .bool true] else v) w := by
  obtain ⟨arr, clk, hh, hes⟩ := h
  obtain ⟨r, hr, hr2⟩ := findNow_spec hK k arr.toList es 0 hes
  rw [hl] at hr2
  obtain ⟨⟨i, v'⟩, rfl, rfl⟩ := Option.map_eq_some_iff.1 hr2
  have hc := hK.check hk k arr.isEmpty w
  have hf : (Instr.findKey kt (enc k) arr.toList).run P w = .ok (some (i, v')) w := MapKept.run_findKey hk hr
  cases ok <;> simp [Instr.lookup, run_underlying hu, MapKept.run_getObj_map hh, hc, hf, Result.andThen]
theorem IMap.run_insert (hu : P.underlying t = some (.map kt et)) (hk : P.underlying kt = some d) (hK : KeyKind d enc) (h : IMap enc m es w) (k : κ) (v : Value) (hl : es.lookup k = none) :
    ∃ w', (Instr.mapUpdate t (.map (some m)) (enc k) v).run P w = .ok () w' ∧ IMap enc m (es ++ [(k, v)]) w' ∧ Ext m w w' := by
  obtain ⟨arr, clk, hh, hes⟩ := h
  obtain ⟨r, hr, hr2⟩ := findNow_spec hK k arr.toList es 0 hes
  rw [hl] at hr2
  obtain rfl := Option.map_eq_none_iff.1 hr2
  have hc := hK.check hk k false w
  have hf : (Instr.findKey kt (enc k) arr.toList).run P w = .ok none w := MapKept.run_findKey hk hr
  have hlt : m < w.heap.size := (Array.getElem?_eq_some_iff.1 hh).1
  obtain ⟨g1, g2⟩ := MapKept.heap_set (o' := .map (arr.push { key := enc k, val := v, born := clk }) (clk + 1)) hh
  refine ⟨{ w with heap := w.heap.setIfInBounds m (.map (arr.push { key := enc k, val := v, born := clk }) (clk + 1)) }, ?_, ⟨_, _, g1, ?_⟩, ⟨rfl, rfl, rfl, by simp, fun r hr => g2 r hr⟩⟩
  · simp [Instr.mapUpdate, run_underlying hu, MapKept.run_getObj_map hh, hc, hf, MapKept.run_setObj_map _ hh, Result.andThen]
  · simp [hes]
end
section
variable {P : Program} {ops : Array Oper} {rest : List Oper} {o : Oper} {a : Act} {Q : Exit → Act → World → Prop} {w : World} {t kt et : TypeId} {d : TypeDesc} {κ : Type} [DecidableEq κ] {enc : κ → Value} {m : Nat} {es : List (κ × Value)}
/-- An insertion of a literal's entry, in the walk. -/
theorem wp_insert (hg : o.guard = none) (mO kO vO : Operand) (hop : o.op = Op.insert t mO kO vO) (hu : P.underlying t = some (.map kt et)) (hk : P.underlying kt = some d) (hK : KeyKind d enc)
    (hm : a.eval mO = .map (some m)) (k : κ) (v : Value) (hkv : a.eval kO = enc k) (hv : a.eval vO = v) (h : IMap enc m es w) (hl : es.lookup k = none)
    (next : ∀ w', IMap enc m (es ++ [(k, v)]) w' → Ext m w w' → wpList P ops Q rest (a.put o.dst undef) w') : wpList P ops Q (o :: rest) a w := by
  refine wpList_plain hg fun K' hK' => ?_
  obtain ⟨w', hrun, r1, r2⟩ := h.run_insert hu hk hK k v hl
  unfold Oper.wp
  simp [execOp, hop, hm, hkv, hv, hrun, Result.andThen]
  exact hK' _ _ (next w' r1 r2)
/-- A look-up, in the walk. -/
theorem wp_lookup (hg : o.guard = none) (mO kO : Operand) (ok : Bool) (hop : o.op = Op.lookup t mO kO ok) (hu : P.underlying t = some (.map kt et)) (hk : P.underlying kt = some d) (hK : KeyKind d enc)
    (hm : a.eval mO = .map (some m)) (k : κ) (v : Value) (hkv : a.eval kO = enc k) (h : IMap enc m es w) (hl : es.lookup k = some v)
    (next : wpList P ops Q rest (a.put o.dst (if ok then .tuple #[v, .bool true] else v)) w) : wpList P ops Q (o :: rest) a w := by
  refine wpList_plain hg fun K' hK' => ?_
  have hrun := h.run_lookup hu hk hK k v hl ok
  unfold Oper.wp
  simp [execOp, hop, hm, hkv, hrun, Result.andThen]
  exact hK' _ _ next
theorem wp_lookup1 (hg : o.guard = none) (mO kO : Operand) (hop : o.op = Op.lookup t mO kO false) (hu : P.underlying t = some (.map kt et)) (hk : P.underlying kt = some d) (hK : KeyKind d enc)
    (hm : a.eval mO = .map (some m)) (k : κ) (v : Value) (hkv : a.eval kO = enc k) (h : IMap enc m es w) (hl : es.lookup k = some v)
    (next : wpList P ops Q rest (a.put o.dst v) w) : wpList P ops Q (o :: rest) a w := wp_lookup hg mO kO false hop hu hk hK hm k v hkv h hl next
end
theorem IMap.new {κ : Type} (enc : κ → Value) (w : World) : IMap enc w.heap.size [] (w.alloc (.map #[] 0)) :=
  ⟨#[], 0, by show (w.heap.push _)[w.heap.size]? = _; simp, rfl⟩
theorem Ext.below {m B : Nat} {w w' a : World} (h : Ext m w w') (hb : Below B a w) (hB : B ≤ m) : Below B a w' :=
  hb.trans ⟨h.os, h.tape, h.output, Nat.le_of_eq h.size.symm, fun k hk => h.block k (by omega)⟩
end Go.Proofs.YtbpefmidgfmcaaaDoor
end
section
namespace Go.Proofs
open Go.Shelf
def Tryd.laysM173_ren : Go.Shelf.Ren := ⟨fun | 173 => 44 | 246 => 64 | 283 => 73 | 284 => 74 | 285 => 75 | 286 => 76 | 129 => 79 | 317 => 78 | 318 => 80 | 319 => 81 | 320 => 82 | 337 => 84 | 338 => 85 | n => n, fun | 2 => 2 | 3 => 3 | 9 => 9 | 4 => 4 | 171 => 91 | 0 => 0 | 53 => 92 | 37 => 37 | 5 => 5 | 173 => 95 | 212 => 102 | 51 => 103 | 20 => 20 | 213 => 104 | 46 => 106 | 232 => 113 | 233 => 114 | n => n, fun | 17 => 0 | 18 => 2 | 19 => 3 | n => n⟩
theorem Tryd.laysM173 : Go.Proofs.LaysM.n173 Tryd.prog Tryd.laysM173_ren := {
  mixed := by kernel_rfl
  f129 := Tryd.func79.trans (congrArg some (by kernel_rfl))
  f173 := Tryd.func44.trans (congrArg some (by kernel_rfl))
  f246 := Tryd.func64.trans (congrArg some (by kernel_rfl))
  f283 := Tryd.func73.trans (congrArg some (by kernel_rfl))
  f284 := Tryd.func74.trans (congrArg some (by kernel_rfl))
  f285 := Tryd.func75.trans (congrArg some (by kernel_rfl))
  f286 := Tryd.func76.trans (congrArg some (by kernel_rfl))
  f317 := Tryd.func78.trans (congrArg some (by kernel_rfl))
  f318 := Tryd.func80.trans (congrArg some (by kernel_rfl))
  f319 := Tryd.func81.trans (congrArg some (by kernel_rfl))
  f320 := Tryd.func82.trans (congrArg some (by kernel_rfl))
  f337 := Tryd.func84.trans (congrArg some (by kernel_rfl))
  f338 := Tryd.func85.trans (congrArg some (by kernel_rfl))
  t0 := Tryd.underlying0
  a0 := Tryd.isAgg0
  z0 := Tryd.sizeOf0
  v0 := Tryd.zeroValue0
  t2 := Tryd.underlying2
  a2 := Tryd.isAgg2
  z2 := Tryd.sizeOf2
  v2 := Tryd.zeroValue2
  t3 := Tryd.underlying3
  a3 := Tryd.isAgg3
  z3 := Tryd.sizeOf3
  v3 := Tryd.zeroValue3
  t4 := Tryd.underlying4
  a4 := Tryd.isAgg4
  z4 := Tryd.sizeOf4
  v4 := Tryd.zeroValue4
  t5 := Tryd.underlying5
  a5 := Tryd.isAgg5
  z5 := Tryd.sizeOf5
  v5 := Tryd.zeroValue5
  t9 := Tryd.underlying9
  a9 := Tryd.isAgg9
  z9 := Tryd.sizeOf9
  v9 := Tryd.zeroValue9
  t20 := Tryd.underlying20
  a20 := Tryd.isAgg20
  z20 := Tryd.sizeOf20
  v20 := Tryd.zeroValue20
  t37 := Tryd.underlying37
  a37 := Tryd.isAgg37
  z37 := Tryd.sizeOf37
  v37 := Tryd.zeroValue37
  t46 := Tryd.underlying106
  a46 := Tryd.isAgg106
  z46 := Tryd.sizeOf106
  v46 := Tryd.zeroValue106
  t51 := Tryd.underlying103
  a51 := Tryd.isAgg103
  z51 := Tryd.sizeOf103
  v51 := Tryd.zeroValue103
  t53 := Tryd.underlying92
  a53 := Tryd.isAgg92
  z53 := Tryd.sizeOf92
  v53 := Tryd.zeroValue92
  t171 := Tryd.underlying91
  a171 := Tryd.isAgg91
  z171 := Tryd.sizeOf91
  v171 := Tryd.zeroValue91
  t173 := Tryd.underlying95
  a173 := Tryd.isAgg95
  z173 := Tryd.sizeOf95
  v173 := Tryd.zeroValue95
  t212 := Tryd.underlying102
  a212 := Tryd.isAgg102
  z212 := Tryd.sizeOf102
  v212 := Tryd.zeroValue102
  t213 := Tryd.underlying104
  a213 := Tryd.isAgg104
  z213 := Tryd.sizeOf104
  t232 := Tryd.underlying113
  a232 := Tryd.isAgg113
  z232 := Tryd.sizeOf113
  v232 := Tryd.zeroValue113
  t233 := Tryd.underlying114
  a233 := Tryd.isAgg114
  z233 := Tryd.sizeOf114
  v233 := Tryd.zeroValue114
  g17 := by kernel_rfl
  g18 := by kernel_rfl
  g19 := by kernel_rfl
  i0 := by kernel_rfl
  i2 := by kernel_rfl
  i3 := by kernel_rfl
  i4 := by kernel_rfl
  i5 := by kernel_rfl
  i9 := by kernel_rfl
  i20 := by kernel_rfl
  i37 := by kernel_rfl
  i46 := by kernel_rfl
  i51 := by kernel_rfl
  i53 := by kernel_rfl
  i171 := by kernel_rfl
  i173 := by kernel_rfl
  i212 := by kernel_rfl
  i232 := by kernel_rfl
  i233 := by kernel_rfl
  m17 := by kernel_rfl
  m18 := by kernel_rfl
  m19 := by kernel_rfl }
open Go.RowKit Go.Sort Go.Lib in
/-- strconv.FormatInt: "FormatInt returns the string representation of i in the given base": AT BASE 10: i's decimal numeral, for every int64. (LAID: no walk: one application.) -/
theorem Tryd.strconv_FormatInt_10 (n : Int) (h0 : -9223372036854775808 ≤ n) (h1 : n ≤ 9223372036854775807) (w : World) (htab : Lib.TabIs Tryd.prog w "internal/strconv.uint64pow10" .u64 Lib.pow10Tab) :
    Calls Tryd.prog 44 #[.int .i64 n, .int .i64 10] w fun e w' => e = .returned (.string ⟨(Lib.itoa n).toArray⟩) ∧ ∃ k os, w' = grow (w.drewN k) os := Any.strconv_FormatInt_10 Tryd.laysM173 n h0 h1 w htab
def Tryd.laysM157_ren : Go.Shelf.Ren := ⟨fun | 157 => 83 | 229 => 86 | 199 => 87 | 261 => 88 | 311 => 89 | 312 => 90 | n => n, fun | 9 => 9 | 31 => 69 | 3 => 3 | 5 => 5 | 4 => 4 | 119 => 110 | 0 => 0 | 40 => 112 | 152 => 115 | 21 => 21 | 154 => 117 | 51 => 103 | 141 => 119 | 196 => 123 | 193 => 120 | 198 => 126 | 49 => 124 | 194 => 121 | 201 => 129 | 226 => 131 | 46 => 106 | 227 => 132 | n => n, fun | 0 => 1 | 6 => 4 | n => n⟩
theorem Tryd.laysM157 : Go.Proofs.LaysM.n157 Tryd.prog Tryd.laysM157_ren := {
  mixed := by kernel_rfl
  f157 := Tryd.func83.trans (congrArg some (by kernel_rfl))
  f199 := Tryd.func87.trans (congrArg some (by kernel_rfl))
  f229 := Tryd.func86.trans (congrArg some (by kernel_rfl))
  f261 := Tryd.func88.trans (congrArg some (by kernel_rfl))
  f311 := Tryd.func89.trans (congrArg some (by kernel_rfl))
  f312 := Tryd.func90.trans (congrArg some (by kernel_rfl))
  t0 := Tryd.underlying0
  a0 := Tryd.isAgg0
  z0 := Tryd.sizeOf0
  v0 := Tryd.zeroValue0
  t3 := Tryd.underlying3
  a3 := Tryd.isAgg3
  z3 := Tryd.sizeOf3
  v3 := Tryd.zeroValue3
  t4 := Tryd.underlying4
  a4 := Tryd.isAgg4
  z4 := Tryd.sizeOf4
  v4 := Tryd.zeroValue4
  t5 := Tryd.underlying5
  a5 := Tryd.isAgg5
  z5 := Tryd.sizeOf5
  v5 := Tryd.zeroValue5
  t9 := Tryd.underlying9
  a9 := Tryd.isAgg9
  z9 := Tryd.sizeOf9
  v9 := Tryd.zeroValue9
  t21 := Tryd.underlying21
  a21 := Tryd.isAgg21
  z21 := Tryd.sizeOf21
  v21 := Tryd.zeroValue21
  t31 := Tryd.underlying69
  a31 := Tryd.isAgg69
  z31 := Tryd.sizeOf69
  v31 := Tryd.zeroValue69
  t40 := Tryd.underlying112
  a40 := Tryd.isAgg112
  z40 := Tryd.sizeOf112
  v40 := Tryd.zeroValue112
  t46 := Tryd.underlying106
  a46 := Tryd.isAgg106
  z46 := Tryd.sizeOf106
  v46 := Tryd.zeroValue106
  t49 := Tryd.underlying124
  a49 := Tryd.isAgg124
  z49 := Tryd.sizeOf124
  v49 := Tryd.zeroValue124
  t51 := Tryd.underlying103
  a51 := Tryd.isAgg103
  z51 := Tryd.sizeOf103
  v51 := Tryd.zeroValue103
  t119 := Tryd.underlying110
  a119 := Tryd.isAgg110
  z119 := Tryd.sizeOf110
  t141 := Tryd.underlying119
  a141 := Tryd.isAgg119
  z141 := Tryd.sizeOf119
  v141 := Tryd.zeroValue119
  t152 := Tryd.underlying115
  a152 := Tryd.isAgg115
  z152 := Tryd.sizeOf115
  v152 := Tryd.zeroValue115
  t154 := Tryd.underlying117
  a154 := Tryd.isAgg117
  z154 := Tryd.sizeOf117
  v154 := Tryd.zeroValue117
  t193 := Tryd.underlying120
  a193 := Tryd.isAgg120
  z193 := Tryd.sizeOf120
  v193 := Tryd.zeroValue120
  t194 := Tryd.underlying121
  a194 := Tryd.isAgg121
  z194 := Tryd.sizeOf121
  v194 := Tryd.zeroValue121
  t196 := Tryd.underlying123
  a196 := Tryd.isAgg123
  z196 := Tryd.sizeOf123
  v196 := Tryd.zeroValue123
  t198 := Tryd.underlying126
  a198 := Tryd.isAgg126
  z198 := Tryd.sizeOf126
  v198 := Tryd.zeroValue126
  t201 := Tryd.underlying129
  a201 := Tryd.isAgg129
  z201 := Tryd.sizeOf129
  v201 := Tryd.zeroValue129
  t226 := Tryd.underlying131
  a226 := Tryd.isAgg131
  z226 := Tryd.sizeOf131
  v226 := Tryd.zeroValue131
  t227 := Tryd.underlying132
  a227 := Tryd.isAgg132
  z227 := Tryd.sizeOf132
  v227 := Tryd.zeroValue132
  g0 := by kernel_rfl
  g6 := by kernel_rfl
  i0 := by kernel_rfl
  i3 := by kernel_rfl
  i4 := by kernel_rfl
  i5 := by kernel_rfl
  i9 := by kernel_rfl
  i21 := by kernel_rfl
  i31 := by kernel_rfl
  i40 := by kernel_rfl
  i46 := by kernel_rfl
  i49 := by kernel_rfl
  i51 := by kernel_rfl
  i141 := by kernel_rfl
  i152 := by kernel_rfl
  i154 := by kernel_rfl
  i193 := by kernel_rfl
  i194 := by kernel_rfl
  i196 := by kernel_rfl
  i198 := by kernel_rfl
  i201 := by kernel_rfl
  i226 := by kernel_rfl
  i227 := by kernel_rfl
  m0 := by kernel_rfl
  m6 := by kernel_rfl }
open Go.RowKit Go.Lib in
/-- strings.Fields on ASCII bytes. (The table: 'Lib.TabIs', as strings.TrimSpace's contract asks it.) (LAID: no walk: one application.) -/
theorem Tryd.strings_Fields_laid (s : ByteArray) (w : World) (hs : s.size < 4294967281) (hascii : ∀ (j : Nat) b, s.data.toList[j]? = some b → b.toNat < 128) (htab : Lib.TabIs Tryd.prog w "strings.asciiSpace" .u8 Lib.asciiSpaceTab) :
    Calls Tryd.prog 83 #[.string s] w fun e w' =>
      e = .returned (.slice (some ⟨w.heap.size, 0, none⟩) (Lib.fields s.data.toList).length (Lib.fields s.data.toList).length) ∧ w' = w.alloc (.cells ((Lib.fields s.data.toList).map fun l => Value.string ⟨l.toArray⟩).toArray 9) := Any.strings_Fields_laid Tryd.laysM157 s w hs hascii htab
end Go.Proofs
end
section
set_option linter.unusedVariables false
namespace Go.Proofs.YtbpefmidgfmcaaaDoor
open Go.RowKit
/-- The printer at block b, which began in the world W0: the tree's slice, the builder's own address (or nil), its buffer, the blanks ahead of a line. -/
structure St (W0 : World) (b : Nat) (tw p v : Value) (bs : List UInt8) (ind : ByteArray) (w : World) : Prop where
  below : Below W0.heap.size W0 w
  base : W0.heap.size ≤ b
  cells : w.heap[b]? = some (.cells #[tw, p, v, .string ind] 41 (0, 0))
  own : w.ownsRow W0.heap.size 5 1 v bs.length (Lib.byteCells bs)
  ne : v.ownBlock ≠ some b
  addr : p = .pointer none ∨ p = .pointer (some ⟨b, 1, none⟩)
  nil : bs = [] → v = .slice none 0 0
/-- What a call of the printer keeps: each block that was there but the printer's own, and the buffer's. -/
structure Mv (b : Nat) (v v' : Value) (w w' : World) : Prop where
  size : w.heap.size ≤ w'.heap.size
  keep : ∀ k, k < w.heap.size → k ≠ b → v.ownBlock ≠ some k → w'.heap[k]? = w.heap[k]?
  own : ∀ k, v'.ownBlock = some k → v.ownBlock = some k ∨ w.heap.size ≤ k
theorem Mv.refl (b : Nat) (v : Value) (w : World) : Mv b v v w w := ⟨Nat.le_refl _, fun _ _ _ _ => rfl, fun _ h => .inl h⟩
theorem Mv.trans {b : Nat} {v v' v'' : Value} {w w' w'' : World} (h : Mv b v v' w w') (g : Mv b v' v'' w' w'') : Mv b v v'' w w'' := by
  refine ⟨Nat.le_trans h.size g.size, fun k hk hb hv => ?_, fun k hk => ?_⟩
  · rw [g.keep k (Nat.lt_of_lt_of_le hk h.size) hb ?_, h.keep k hk hb hv]
    intro e
    rcases h.own k e with e' | e'
    · exact hv e'
    · omega
  · rcases g.own k hk with e | e
    · exact h.own k e
    · exact .inr (Nat.le_trans h.size e)
theorem St.lt {W0 : World} {b : Nat} {tw p v : Value} {bs : List UInt8} {ind : ByteArray} {w : World} (h : St W0 b tw p v bs ind w) : b < w.heap.size := by
  have := h.cells
  rcases Nat.lt_or_ge b w.heap.size with h' | h'
  · exact h'
  · simp [Array.getElem?_eq_none h'] at this
section
variable {W0 : World} {b : Nat} {tw p v : Value} {bs : List UInt8} {ind : ByteArray} {w : World}
theorem St.c0 (h : St W0 b tw p v bs ind w) : w.cell? ⟨b, 0, none⟩ = some tw := by rw [Lib.cell_of_heap h.cells]; rfl
theorem St.c1 (h : St W0 b tw p v bs ind w) : w.cell? ⟨b, 1, none⟩ = some p := by rw [Lib.cell_of_heap h.cells]; rfl
theorem St.c2 (h : St W0 b tw p v bs ind w) : w.cell? ⟨b, 2, none⟩ = some v := by rw [Lib.cell_of_heap h.cells]; rfl
theorem St.c3 (h : St W0 b tw p v bs ind w) : w.cell? ⟨b, 3, none⟩ = some (.string ind) := by rw [Lib.cell_of_heap h.cells]; rfl
theorem St.fz (h : St W0 b tw p v bs ind w) (j : Nat) : w.frozen? ⟨b, j, none⟩ = false := Lib.frozen_of_heap h.cells j
theorem St.shape (h : St W0 b tw p v bs ind w) : w.shape? b = some (41, 4) := by simp [World.shape?, h.cells]
end
theorem ownsRow_other {w w1 : World} {base : Nat} {e : TypeId} {size n : Nat} {v : Value} {xs : List Value} (h : w.ownsRow base e size v n xs) (hm : ∀ k, v.ownBlock = some k → w1.heap[k]? = w.heap[k]?) : w1.ownsRow base e size v n xs := by
  obtain ⟨h1, h2⟩ := h
  refine ⟨h1, ?_⟩
  rcases h2 with h2 | ⟨g, cap, cur, rfl, hg, hh, r⟩
  · exact .inl h2
  · exact .inr ⟨g, cap, cur, rfl, hg, (hm g (by simp [Value.ownBlock])).trans hh, r⟩
/-- Where the row lies behind an append of a string: where it lay, or in the block that is made. -/
theorem append_str_at {P : Program} (w : World) (base : Nat) (t u ty e : TypeId) (i : TypeInfo) (ht : P.underlying t = some (.slice e)) (hu : P.underlying u = some .string) (hi : P.info? e = some i) (hz : i.zero = some (.int .u8 0))
    (hsize : i.size = 1) (hby : i.bytes = 1) (v : Value) (n : Nat) (xs : List Value) (hown : w.ownsRow base e 1 v n xs) (s : ByteArray)
    (h63 : n + s.size ≤ maxLen) (hbytes : n + s.size ≤ 140737488355328) (hbase : base ≤ w.heap.size) {v' : Value} {w' : World}
    (hr : (Builtin.append_ #[t, u] ty #[v, .string s]).run P w = .ok v' w') (hn : v' = .slice none 0 0 ↔ v = .slice none 0 0 ∧ s.size = 0) :
    v'.ownBlock = v.ownBlock ∨ v'.ownBlock = some w.heap.size := by
  have hm : n + s.size ≤ 9223372036854775807 := by unfold maxLen at h63; exact h63
  rcases hown.2 with ⟨rfl, rfl⟩ | ⟨g, cap, cur, rfl, hbg, hg, hnc, hcm, hcs, htake⟩
  · by_cases h0 : s.size = 0
    · left
      rw [hn.2 ⟨rfl, h0⟩]
    · right
      have hr2 := run_append_nil_string (P := P) w t u ty e i (.int .u8 0) ht hu hi hz s (by omega) (by omega) (by rw [hby]; omega)
      rw [hr] at hr2
      injection hr2 with e1 e2
      rw [e1]
      rfl
  · by_cases hroom : n + s.size ≤ cap
    · left
      have hr2 := Lib.run_append_room_string (P := P) w t u ty e i ht hu hi hsize g n cap cur hg s hroom (by omega)
      rw [hr] at hr2
      injection hr2 with e1 e2
      rw [e1]
      rfl
    · right
      have hr2 := Lib.run_append_grow_string (P := P) w t u ty e i (.int .u8 0) ht hu hi hz ⟨g, 0, none⟩ n cap xs (by rw [hsize]; exact hown.1) (hown.cells (g := g) rfl) s (by omega) (by omega) (by rw [hby]; exact growslice_fits (by omega) (by omega))
      rw [hr] at hr2
      injection hr2 with e1 e2
      rw [e1]
      rfl
/-- The operation, for the walk. -/
theorem wp_append_str {P : Program} {ops : Array Oper} {rest : List Oper} {o : Oper} {a : Act} {Q : Exit → Act → World → Prop} {w : World} (hgd : o.guard = none) (sl x : Operand) (t u : TypeId)
    (ho : o.op = .call { callee := .builtin .append, args := #[sl, x], argTypes := #[t, u] })
    (base : Nat) (e : TypeId) (i : TypeInfo) (ht : P.underlying t = some (.slice e)) (hu : P.underlying u = some .string) (hi : P.info? e = some i) (hz : i.zero = some (.int .u8 0))
    (hsize : i.size = 1) (hby : i.bytes = 1) (v : Value) (n : Nat) (xs : List Value) (hs : a.eval sl = v) (hown : w.ownsRow base e 1 v n xs) (s : ByteArray) (hx : a.eval x = .string s)
    (h63 : n + s.size ≤ maxLen) (hbytes : n + s.size ≤ 140737488355328) (hbase : base ≤ w.heap.size)
    (h : ∀ v' w', w'.ownsRow base e 1 v' (n + s.size) (xs ++ Lib.strCells s) → w.grownBy w' v.ownBlock → (v' = .slice none 0 0 ↔ v = .slice none 0 0 ∧ s.size = 0) → (v'.ownBlock = v.ownBlock ∨ v'.ownBlock = some w.heap.size) → wpList P ops Q rest (a.put o.dst v') w') : wpList P ops Q (o :: rest) a w := by
  refine wpList_plain hgd fun K hK => ?_
  obtain ⟨v', w', hr, h2, h3, h4⟩ := Lib.run_append_own_string (P := P) w base t u o.type e i ht hu hi hz hsize hby v n xs hown s h63 hbytes hbase
  have h5 := append_str_at w base t u o.type e i ht hu hi hz hsize hby v n xs hown s h63 hbytes hbase hr h4
  unfold Oper.wp execOp
  simp only [ho, resolve, invoke, builtin, Sem.run_bind, Sem.run_pure, Result.andThen_ok, List.map_toArray, List.map_cons, List.map_nil, hs, hx, hr]
  exact hK _ _ (h v' w' h2 h3 h4 h5)
theorem info39 : (Tryd.prog.info? 39).map (·.size) = some 2 := by kernel_rfl
theorem lies39 : liesAt Tryd.prog Tryd.prog.depth 41 (4 / Tryd.prog.cellsOf 41) 1 39 1 = true := by kernel_rfl
theorem info5 : (Tryd.prog.info? 5).map (fun i => (i.zero, i.size, i.bytes)) = some (some (.int .u8 0), 1, 1) := by kernel_rfl
set_option maxHeartbeats 1000000 in
set_option maxRecDepth 100000 in
/-- copyCheck at a builder that has been used. -/
theorem check_used (b : Nat) (w : World) (h0 : w.cell? ⟨b, 1, none⟩ = some (.pointer (some ⟨b, 1, none⟩))) :
    Calls Tryd.prog 63 #[.pointer (some ⟨b, 1, none⟩)] w fun e w' => e = .returned (.tuple #[]) ∧ w' = w := by
  obtain ⟨j, hj, _⟩ := Option.map_eq_some_iff.1 info39
  go_enter Tryd.func63, Tryd.ntmps63
  go_wp2
  rw [Lib.run_neq_ptr_same w _ Tryd.underlying36 hj]
  go_wp2
  go_end0
  exact ⟨rfl, rfl⟩
set_option maxHeartbeats 1000000 in
set_option maxRecDepth 100000 in
/-- copyCheck at a builder that is fresh. -/
theorem check_fresh (b : Nat) (w : World) (h0 : w.cell? ⟨b, 1, none⟩ = some (.pointer none)) (hsh : w.shape? b = some (41, 4)) (hfz : w.frozen? ⟨b, 1, none⟩ = false) :
    Calls Tryd.prog 63 #[.pointer (some ⟨b, 1, none⟩)] w fun e w' => e = .returned (.tuple #[]) ∧ w' = w.setCell ⟨b, 1, none⟩ (.pointer (some ⟨b, 1, none⟩)) := by
  obtain ⟨j, hj, hjs⟩ := Option.map_eq_some_iff.1 info39
  go_enter Tryd.func63, Tryd.ntmps63
  go_wp2
  rw [Lib.run_to_unsafe w ⟨b, 1, none⟩ Tryd.underlying36 Tryd.underlying88 hj (by rw [hjs]; decide) hsh (show 1 < 4 by decide)]
  simp only [Result.andThen]
  rw [Oper.upon_value]
  go_wp2
  rw [run_callFunc_extern Tryd.func72 (by kernel_rfl) (by kernel_rfl) (by kernel_rfl) (e := Extern.AbiNoEscape.same) (by kernel_rfl)]
  rw [Lib.run_noEscape]
  simp only [Result.andThen]
  rw [Oper.upon_value]
  go_wp2
  rw [Lib.run_from_unsafe w ⟨b, 1, none⟩ Tryd.underlying88 Tryd.underlying36 hj hsh lies39]
  simp only [Result.andThen]
  rw [Oper.upon_value]
  go_wp2
  go_end0
  exact ⟨rfl, rfl⟩
/-- copyCheck: the builder's address is its own. -/
theorem check_any {W0 : World} {b : Nat} {tw p v : Value} {bs : List UInt8} {ind : ByteArray} {w : World} (h : St W0 b tw p v bs ind w) :
    Calls Tryd.prog 63 #[.pointer (some ⟨b, 1, none⟩)] w fun e w' => e = .returned (.tuple #[]) ∧ St W0 b tw (.pointer (some ⟨b, 1, none⟩)) v bs ind w' ∧ Mv b v v w w' := by
  rcases h.addr with e | e
  · subst e
    refine (check_fresh b w h.c1 h.shape (h.fz 1)).mono ?_
    rintro e w' ⟨rfl, rfl⟩
    have hb : (w.setCell ⟨b, 1, none⟩ (.pointer (some ⟨b, 1, none⟩))).heap[b]? = some (.cells #[tw, .pointer (some ⟨b, 1, none⟩), v, .string ind] 41 (0, 0)) := by
      simp only [World.setCell, Array.getElem?_modify, if_true, h.cells]
      rfl
    refine ⟨rfl, ⟨h.below.setCell (p := ⟨b, 1, none⟩) h.base _, h.base, hb, ?_, h.ne, .inr rfl, h.nil⟩, ?_⟩
    · exact ownsRow_other h.own (fun k hk => Below.heap_setCell _ _ _ _ (fun e => h.ne (by rw [hk, e])))
    · exact ⟨by simp [World.setCell], fun k _ hb _ => Below.heap_setCell _ _ _ _ hb, fun _ h => .inl h⟩
  · subst e
    refine (check_used b w h.c1).mono ?_
    rintro e w' ⟨rfl, rfl⟩
    exact ⟨rfl, h, Mv.refl _ _ _⟩
set_option maxHeartbeats 2000000 in
set_option maxRecDepth 100000 in
/-- WriteString: the bytes stand behind what stood. -/
theorem write_any {W0 : World} {b : Nat} {tw p v : Value} {bs : List UInt8} {ind : ByteArray} {w : World} (s : ByteArray) (h : St W0 b tw p v bs ind w) (hlen : bs.length + s.size ≤ 140737488355328) :
    Calls Tryd.prog 42 #[.pointer (some ⟨b, 1, none⟩), .string s] w fun e w' => e = .returned (.tuple #[.int .i64 s.size, .nilIface]) ∧
      ∃ v', St W0 b tw (.pointer (some ⟨b, 1, none⟩)) v' (bs ++ s.data.toList) ind w' ∧ Mv b v v' w w' := by
  obtain ⟨i0, hi, hz0, hz1, hz2⟩ := info_parts info5
  go_enter Tryd.func42, Tryd.ntmps42
  go_wp2_with (go_at_call 63; refine (check_any h).mono ?_)
  rintro e w1 ⟨rfl, h1, hm1⟩
  have hb1 := h1.cells
  have c0 := h1.c1
  have c1 := h1.c2
  have hbase := Nat.le_trans h1.base (Nat.le_of_lt h1.lt)
  have HS := Lib.hid h
  have HS1 := Lib.hid h1
  have HM := Lib.hid hm1
  clear h h1 hm1 hb1
  go_wp2_with (at_builtin; refine wp_append_str rfl _ _ 37 9 rfl W0.heap.size 5 i0 Tryd.underlying37 Tryd.underlying9 hi hz0 hz1 hz2 _ _ _ rfl HS1.out.own s rfl ?c3 ?c4 ?c5 ?_)
  case c3 => unfold maxLen; omega
  case c4 => omega
  case c5 => omega
  intro v' w2 hown' hgrow hnil hat
  have hb2 : w2.heap[b]? = some (.cells #[tw, .pointer (some ⟨b, 1, none⟩), v, .string ind] 41 (0, 0)) := by
    rw [hgrow.block b HS1.out.lt (fun e => HS1.out.ne e.symm)]
    exact HS1.out.cells
  have d1 : w2.cell? ⟨b, 2, none⟩ = some v := by rw [Lib.cell_of_heap hb2]; rfl
  have f1 : w2.frozen? ⟨b, 2, none⟩ = false := Lib.frozen_of_heap hb2 2
  obtain ⟨ao, n', cap, hv'⟩ : ∃ ao n' cap, v' = .slice ao n' cap := by
    rcases hown'.2 with ⟨hv, _⟩ | ⟨g, cap, cur, hv, _⟩
    · exact ⟨_, _, _, hv⟩
    · exact ⟨_, _, _, hv⟩
  have HN := Lib.hid hnil
  have HA := Lib.hid hat
  have HB2 := Lib.hid hb2
  clear hnil hb2 hat
  subst hv'
  go_wp2
  go_ret2
  have hb3 : (w2.setCell ⟨b, 2, none⟩ (.slice ao n' cap)).heap[b]? = some (.cells #[tw, .pointer (some ⟨b, 1, none⟩), .slice ao n' cap, .string ind] 41 (0, 0)) := by
    simp only [World.setCell, Array.getElem?_modify, if_true, HB2.out]
    rfl
  have hne : (Value.slice ao n' cap).ownBlock ≠ some b := by
    intro e
    rcases HA.out with e' | e'
    · exact HS1.out.ne (by rw [← e', e])
    · rw [e] at e'
      have := HS1.out.lt
      simp only [Option.some.injEq] at e'
      omega
  refine ⟨rfl, .slice ao n' cap, ⟨?_, HS1.out.base, hb3, ?_, hne, .inr rfl, ?_⟩, HM.out.trans ⟨?_, ?_, ?_⟩⟩
  · exact (HS1.out.below.grown hgrow hbase (fun k hk => (HS1.out.own.lt k hk).1)).setCell (p := ⟨b, 2, none⟩) HS1.out.base _
  · refine ownsRow_other ?_ (fun k hk => Below.heap_setCell _ _ _ _ (fun e => hne (by rw [hk, e])))
    rw [Lib.byteCells_append, ← Lib.strCells_eq, List.length_append, show s.data.toList.length = s.size from by rw [Array.length_toList]; rfl]
    exact hown'
  · intro e
    have e := List.append_eq_nil_iff.1 e
    refine HN.out.2 ⟨HS1.out.nil e.1, ?_⟩
    have := congrArg List.length e.2
    simpa using this
  · have := hgrow.size
    simpa [World.setCell] using this
  · intro k hk hkb hv
    rw [Below.heap_setCell _ _ _ _ hkb]
    exact hgrow.block k hk (fun e => hv e.symm)
  · intro k hk
    rcases HA.out with e' | e'
    · exact .inl (by rw [← e']; exact hk)
    · rw [e'] at hk
      simp only [Option.some.injEq] at hk
      exact .inr (by omega)
end Go.Proofs.YtbpefmidgfmcaaaDoor
end
section
set_option linter.unusedVariables false
namespace Go.Proofs.YtbpefmidgfmcaaaDoor
open Go.RowKit
/-- The bytes of texts, one behind the other. -/
def cat (ss : List ByteArray) : List UInt8 := (ss.map fun s => s.data.toList).flatten
theorem cat_take_succ (ss : List ByteArray) (k : Nat) (h : k < ss.length) : cat (ss.take (k + 1)) = cat (ss.take k) ++ ss[k].data.toList := by
  unfold cat
  rw [List.take_succ_eq_append_getElem h, List.map_append, List.flatten_append]
  simp
theorem cat_length_le (ss : List ByteArray) (k : Nat) (h : k < ss.length) : (cat (ss.take k)).length + ss[k].size ≤ (cat ss).length := by
  have h1 : cat ss = cat (ss.take (k + 1)) ++ cat (ss.drop (k + 1)) := by
    unfold cat
    rw [← List.flatten_append, ← List.map_append, List.take_append_drop]
  rw [h1, cat_take_succ ss k h, List.length_append, List.length_append, Array.length_toList]
  show _ + ss[k].size ≤ _ + ss[k].size + _
  omega
/-- What a writing call of the printer does: the bytes 'out' stand behind what stood. -/
def After (W0 : World) (b : Nat) (tw v : Value) (bs out : List UInt8) (ind : ByteArray) (w w' : World) : Prop :=
  ∃ p' v', St W0 b tw p' v' (bs ++ out) ind w' ∧ Mv b v v' w w'
/-- A row of texts in a block. -/
structure Row (g : Nat) (ss : List ByteArray) (w : World) : Prop where
  heap : w.heap[g]? = some (.cells (ss.map Value.string).toArray 9 (0, 0))
theorem Row.lt {g : Nat} {ss : List ByteArray} {w : World} (h : Row g ss w) : g < w.heap.size := by
  rcases Nat.lt_or_ge g w.heap.size with h' | h'
  · exact h'
  · have := h.heap; simp [Array.getElem?_eq_none h'] at this
theorem Row.cell {g : Nat} {ss : List ByteArray} {w : World} (h : Row g ss w) (k : Nat) (hk : k < ss.length) : w.cell? ⟨g, k, none⟩ = some (.string ss[k]) := by
  rw [Lib.cell_of_heap h.heap]
  simp [hk]
/-- The loop's relation. -/
structure PutRel (W0 : World) (b g : Nat) (tw v : Value) (bs : List UInt8) (ind : ByteArray) (ss : List ByteArray) (w : World) (k : Nat) (wr : World) (p' v' : Value) : Prop where
  st : St W0 b tw p' v' (bs ++ cat (ss.take k)) ind wr
  mv : Mv b v v' w wr
  row : Row g ss wr
set_option maxHeartbeats 1000000 in
set_option maxRecDepth 100000 in
theorem put_any {W0 : World} {b g : Nat} {tw p v : Value} {bs : List UInt8} {ind : ByteArray} {w : World} (ss : List ByteArray) (h : St W0 b tw p v bs ind w)
    (hg : Row g ss w) (hgb : g ≠ b) (hgv : v.ownBlock ≠ some g) (hm : ss.length ≤ 1000) (hlen : bs.length + (cat ss).length ≤ 140737488355328) :
    Calls Tryd.prog 19 #[.pointer (some ⟨b, 0, none⟩), .slice (some ⟨g, 0, none⟩) ss.length ss.length] w fun e w' => e = .returned (.tuple #[]) ∧ After W0 b tw v bs (cat ss) ind w w' := by
  have HP := Lib.hid (show ∃ p' v', PutRel W0 b g tw v bs ind ss w 0 w p' v' from ⟨p, v, ⟨by simpa [cat] using h, Mv.refl _ _ _, hg⟩⟩)
  have HV := Lib.hid hgv
  have HL := Lib.hid hlen
  have HG := Lib.hid hg.lt
  clear h hg hgv hlen
  go_enter Tryd.func19, Tryd.ntmps19
  go_wp2
  go_loopw [8] (fun i wr => ∃ k : Nat, k ≤ ss.length ∧ i = .int .i64 k ∧ Hid (∃ p' v', PutRel W0 b g tw v bs ind ss w k wr p' v')) (fun i _ => ss.length - (intOf i).toNat)
  case atStart => exact ⟨0, Nat.zero_le _, rfl, HP⟩
  case round =>
    obtain ⟨k, hk, rfl, hr⟩ := hrel
    by_cases hlt : k < ss.length
    · obtain ⟨p1, v1, hR⟩ := hr.out
      have hcell := hR.row.cell k hlt
      have HR := Lib.hid hR
      have HC := Lib.hid (cat_length_le ss k hlt)
      have HT := Lib.hid (cat_take_succ ss k hlt)
      clear hR hr
      go_wp2_with (go_at_call 42; refine (write_any ss[k] HR.out.st (by have := HC.out; have := HL.out; rw [List.length_append]; omega)).mono ?_)
      rintro e w1 ⟨rfl, v2, hs2, hm2⟩
      have HS := Lib.hid hs2
      have HM := Lib.hid hm2
      clear hs2 hm2
      go_wp2
      go_roundw
      case rel =>
        refine ⟨k + 1, by omega, by go_num, ?_⟩
        refine ⟨.pointer (some ⟨b, 1, none⟩), v2, ?_, HR.out.mv.trans HM.out, ?_⟩
        · rw [HT.out, ← List.append_assoc]
          exact HS.out
        · refine ⟨(HM.out.keep g HR.out.row.lt hgb (fun e => ?_)).trans HR.out.row.heap⟩
          rcases HR.out.mv.own g e with e' | e'
          · exact HV.out e'
          · exact absurd e' (by have := HG.out; omega)
      case measure => simp [intOf]; omega
    · have e : k = ss.length := by omega
      subst e
      go_wp2
      go_end0
      refine ⟨rfl, ?_⟩
      obtain ⟨p1, v1, hR⟩ := hr.out
      exact ⟨p1, v1, by simpa using hR.st, hR.mv⟩
end Go.Proofs.YtbpefmidgfmcaaaDoor
end
section
set_option linter.unusedVariables false
namespace Go.Proofs.YtbpefmidgfmcaaaDoor
open Go.RowKit
theorem cells5 : Tryd.prog.cellsOf 5 = 1 := by kernel_rfl
set_option maxHeartbeats 2000000 in
set_option maxRecDepth 100000 in
theorem string_some {W0 : World} {b : Nat} {tw p v : Value} {bs : List UInt8} {ind : ByteArray} {w : World} (h : St W0 b tw p v bs ind w) (h0 : bs ≠ []) :
    Calls Tryd.prog 12 #[.pointer (some ⟨b, 1, none⟩)] w fun e w' => e = .returned (.string ⟨bs.toArray⟩) ∧ Below W0.heap.size W0 w' := by
  have hl0 : bs.length ≠ 0 := by simpa using h0
  have hown := h.own
  obtain ⟨g, cap, cur, rfl, hbg, hg, hnc, hcm, hcs, htake⟩ : ∃ g cap cur, v = .slice (some ⟨g, 0, none⟩) bs.length cap ∧ W0.heap.size ≤ g ∧ w.heap[g]? = some (.cells cur 5 (0, 0)) ∧ bs.length ≤ cap ∧ cap ≤ maxLen ∧ cur.size = cap * 1 ∧ cur.toList.take (bs.length * 1) = Lib.byteCells bs := by
    rcases hown.2 with ⟨_, hz⟩ | ⟨g, cap, cur, hv, r⟩
    · exact absurd hz hl0
    · exact ⟨g, cap, cur, hv, r⟩
  have c2 : w.drew.cell? ⟨b, 2, none⟩ = some (.slice (some ⟨g, 0, none⟩) bs.length cap) := h.c2
  have hSD : (Builtin.unsafeSliceData_ #[37] 55 #[.slice (some ⟨g, 0, none⟩) bs.length cap]).run Tryd.prog w.drew = .ok (.pointer (some ⟨g, 0, none⟩)) w.drew :=
    Lib.run_unsafeSliceData_row _ _ _ _ _ _ (by omega)
  have hUS : (Builtin.unsafeString_ #[55, 3] 9 #[.pointer (some ⟨g, 0, none⟩), .int .i64 bs.length]).run Tryd.prog w.drew = .ok (.string ⟨bs.toArray⟩) (w.drew.freeze ⟨g, 0, none⟩ bs.length) := by
    refine Lib.run_unsafeString_row w.drew 55 3 9 5 (by kernel_rfl) cells5 g cur.size (by have hg' : w.drew.heap[g]? = some (.cells cur 5 (0, 0)) := hg; simp [World.shape?, hg']) bs h0 (by omega) (by unfold maxLen at hcm; omega) ?_
    intro j x hx
    have := hown.cells (g := g) rfl j (.int .u8 x.toNat) (by simp [Lib.byteCells, hx])
    exact this
  have hb0 := h.below
  go_enter Tryd.func12, Tryd.ntmps12
  go_wp2
  go_region
  all_goals (go_wp2; go_ret; exact ⟨rfl, Lib.below_freeze (Below.drew hb0) (p := ⟨g, 0, none⟩) hbg _⟩)
set_option maxHeartbeats 2000000 in
set_option maxRecDepth 100000 in
theorem string_none {W0 : World} {b : Nat} {tw p v : Value} {ind : ByteArray} {w : World} (h : St W0 b tw p v [] ind w) :
    Calls Tryd.prog 12 #[.pointer (some ⟨b, 1, none⟩)] w fun e w' => e = .returned (.string ⟨#[]⟩) ∧ Below W0.heap.size W0 w' := by
  obtain rfl := h.nil rfl
  have hUS : ∀ (W : World) (q : Option Addr), (Builtin.unsafeString_ #[55, 3] 9 #[.pointer q, .int .i64 0]).run Tryd.prog W = .ok (.string .empty) W := fun W q => Lib.run_unsafeString_none W _ _ _ q
  have c2 : w.drew.cell? ⟨b, 2, none⟩ = some (.slice none 0 0) := h.c2
  have hSD : (Builtin.unsafeSliceData_ #[37] 55 #[.slice none 0 0]).run Tryd.prog w.drew = .ok (.pointer none) w.drew := rfl
  have hb0 := h.below
  go_enter Tryd.func12, Tryd.ntmps12
  go_wp2
  go_region
  all_goals (go_wp2; go_ret; exact ⟨rfl, Below.drew hb0⟩)
theorem string_any {W0 : World} {b : Nat} {tw p v : Value} {bs : List UInt8} {ind : ByteArray} {w : World} (h : St W0 b tw p v bs ind w) :
    Calls Tryd.prog 12 #[.pointer (some ⟨b, 1, none⟩)] w fun e w' => e = .returned (.string ⟨bs.toArray⟩) ∧ Below W0.heap.size W0 w' := by
  cases bs with
  | nil => exact string_none h
  | cons x r => exact string_some h (by simp)
end Go.Proofs.YtbpefmidgfmcaaaDoor
end
section
set_option linter.unusedVariables false
namespace Go.Proofs.YtbpefmidgfmcaaaDoor
open Go.RowKit PTreeApart Go.Proofs.YtbpefmidgfmcaaaDoorW.PrintWords
mutual
def Nd.sz : Nd → Nat
  | .mk _ _ _ ks => 1 + szs ks
def szs : List Nd → Nat
  | [] => 0
  | d :: ds => d.sz + szs ds
end
mutual
theorem Tr.sz {l : List S33} : ∀ (d : Nd) (a nx : Int), Tr l d a nx → nx = a + d.sz
  | .mk k t n ks, a, nx, h => by
    have := Trs.sz ks 0 (a + 1) nx h.2.2.2.2.2
    simp only [Nd.sz]; omega
theorem Trs.sz {l : List S33} {kl : List Int} : ∀ (ds : List Nd) (i : Nat) (c nx : Int), Trs l kl i ds c nx → nx = c + szs ds
  | [], i, c, nx, h => by have := h.2; simp only [szs]; omega
  | d :: ds, i, c, nx, h => by
    obtain ⟨_, _, m, h1, h2⟩ := h
    have e1 := Tr.sz d c m h1
    have e2 := Trs.sz ds (i + 1) m nx h2
    simp only [szs]; omega
end
/-- The lengths of the kids' texts, each with what may lie about it. -/
def tot (i : Nat) (ks : List (List UInt8)) : Nat := (ks.map fun s => s.length + i + 3).sum
theorem tot_cons (i : Nat) (s : List UInt8) (ks : List (List UInt8)) : tot i (s :: ks) = s.length + i + 3 + tot i ks := by simp [tot]
theorem lines_len (ind : List UInt8) : ∀ (ks : List (List UInt8)) (i : Nat), ind.length ≤ i + 2 → (lines ind ks).length ≤ tot i ks
  | [], i, h => by simp [lines, tot]
  | s :: ks, i, h => by
    have := lines_len ind ks i h
    rw [tot_cons]
    simp only [lines, List.map_cons, List.flatten_cons, List.length_append, List.length_cons, List.length_nil] at this ⊢
    omega
theorem flat_len : ∀ (ks : List (List UInt8)) (i : Nat), ((ks.map fun s => (32 : UInt8) :: s).flatten).length ≤ tot i ks
  | [], i => by simp [tot]
  | s :: ks, i => by
    have := flat_len ks i
    rw [tot_cons]
    simp only [List.map_cons, List.flatten_cons, List.length_append, List.length_cons] at this ⊢
    omega
theorem ite_len {c : Prop} [Decidable c] {a b : List UInt8} {B : Nat} (h1 : a.length ≤ B) (h2 : b.length ≤ B) : (if c then a else b).length ≤ B := by
  split <;> assumption
theorem row_len (word : List UInt8) (ks : List (List UInt8)) (i : Nat) : (rowT word ks).length ≤ word.length + tot i ks := by
  have := flat_len ks i
  simp only [rowT, List.length_append]; omega
theorem braces_len (ind : List UInt8) (ks : List (List UInt8)) : (bracesT ind ks).length ≤ 4 + ind.length + tot ind.length ks := by
  unfold bracesT
  have := lines_len (ind ++ [32, 32]) ks ind.length (by simp)
  refine ite_len (by simp; omega) ?_
  simp only [List.length_append, List.length_cons, List.length_nil]; omega
theorem three (ks : List (List UInt8)) (i : Nat) : (ks.getD 0 []).length + (ks.getD 1 []).length + (ks.getD 2 []).length ≤ tot i ks ∧ (ks.getD 0 []).length + tot i (ks.drop 1) ≤ tot i ks := by
  rcases ks with _ | ⟨a, _ | ⟨b, _ | ⟨c, r⟩⟩⟩
  · simp [tot]
  · simp [tot]; omega
  · simp [tot]; omega
  · simp [tot]; omega
theorem to_len (ks : List (List UInt8)) : (toT ks).length ≤ 4 + (ks.getD 1 []).length := by
  unfold toT
  refine ite_len (by simp only [List.length_append, List.length_cons, List.length_nil]; omega) (by simp)
theorem else_len (el : Bool) (ks : List (List UInt8)) : (elseT el ks).length ≤ 6 + (ks.getD 2 []).length := by
  unfold elseT
  refine ite_len (by simp only [List.length_append, List.length_cons, List.length_nil]; omega) (by simp)
theorem when_len (n : Int) (h : (Lib.itoa n).length ≤ 21) : (whenT n).length ≤ 30 := by
  unfold whenT
  refine ite_len (by simp) (ite_len (by simp; omega) (by simp))
theorem life_len (n : Int) : (lifeT n).length ≤ 7 := by
  unfold lifeT
  refine ite_len (by simp) (ite_len (by simp) (ite_len (by simp) (by simp)))
theorem on_len (n : Int) : (onT n).length ≤ 4 := by
  unfold onT
  refine ite_len (by simp) (by simp)
theorem asm_len (k : Int) (t : List UInt8) (n : Int) (el : Bool) (ind : List UInt8) (ks : List (List UInt8)) (ht : t.length ≤ 32) (hn : (Lib.itoa n).length ≤ 21) :
    (asm k t n el ind ks).length ≤ 90 + ind.length + tot ind.length ks := by
  have h3 := (three ks ind.length).1
  have hd := (three ks ind.length).2
  have ha := to_len ks
  have hb := else_len el ks
  have hc := when_len n hn
  have he := life_len n
  have hf := on_len n
  have hg := braces_len ind ks
  have hh := braces_len ind (ks.drop 1)
  have hl := lines_len [] ks ind.length (by simp)
  have hr : ∀ word : List UInt8, (rowT word ks).length ≤ word.length + tot ind.length ks := fun word => row_len word ks ind.length
  have hs := row_len (onT n) (ks.drop 1) ind.length
  unfold asm
  repeat' (with_reducible refine ite_len ?_ ?_)
  all_goals (try simp only [List.length_append, List.length_cons, List.length_nil])
  all_goals (first | omega | exact Nat.zero_le _ | (refine Nat.le_trans (hr _) ?_; (try simp only [List.length_append, List.length_cons, List.length_nil]); omega) | (refine Nat.le_trans (Nat.add_le_add_right (hr _) _) ?_; (try simp only [List.length_append, List.length_cons, List.length_nil]); omega))
mutual
def AllShort : Nd → Prop
  | .mk k t n ks => t.data.toList.length ≤ 32 ∧ -1 ≤ n ∧ n ≤ 2147483647 ∧ AllShorts ks
def AllShorts : List Nd → Prop
  | [] => True
  | d :: ds => AllShort d ∧ AllShorts ds
end
theorem par_len (p : Bool) (s : List UInt8) : (parT p s).length ≤ s.length + 2 := by
  unfold parT
  refine ite_len (by simp) (by simp)
theorem deep_len (ind : List UInt8) (k : Int) (i : Nat) : (deep ind k i).length ≤ ind.length + 2 := by
  unfold deep
  refine ite_len (by simp) (by simp)
mutual
theorem pr_len (M : Nat) : ∀ (d : Nd) (ind : List UInt8), AllShort d → ind.length + 2 * d.sz ≤ M → (pr ind d).length + ind.length + 5 ≤ d.sz * (2 * M + 95)
  | .mk k t n ks, ind, h, hM => by
    obtain ⟨h1, h2, h3, h4⟩ := h
    have hi := Lib.itoa_length_le n (by omega) (by omega)
    have hk := prs_len M ks ind k t 0 h4 (by simp only [Nd.sz] at hM; omega)
    have ha := asm_len k t.data.toList n (third ks) ind (prs ind k t 0 ks) h1 hi
    simp only [pr, Nd.sz]
    rw [Nat.add_mul]
    simp only [Nd.sz] at hM
    omega
theorem prs_len (M : Nat) : ∀ (ds : List Nd) (ind : List UInt8) (k : Int) (t : ByteArray) (i : Nat), AllShorts ds → ind.length + 2 * (szs ds + 1) ≤ M → tot ind.length (prs ind k t i ds) ≤ szs ds * (2 * M + 95)
  | [], ind, k, t, i, h, hM => by simp [prs, tot]
  | d :: ds, ind, k, t, i, h, hM => by
    have hq := deep_len ind k i
    simp only [szs] at hM
    have e1 := pr_len M d (deep ind k i) h.1 (by omega)
    have e2 := prs_len M ds ind k t (i + 1) h.2 (by omega)
    have e3 := par_len (par k t i d.kind d.text) (pr (deep ind k i) d)
    have e4 : ind.length ≤ (deep ind k i).length := by unfold deep; split <;> simp
    simp only [prs, tot_cons, szs]
    rw [Nat.add_mul]
    omega
end
theorem text_le {k : Int} {t : List UInt8} (h : textOk k t) : t.length ≤ 32 := by
  have hn : ∀ s, nameB s = true → s.length ≤ 32 := by
    intro s hs
    simp only [nameB, Bool.and_eq_true, decide_eq_true_eq] at hs
    exact hs.1.1.1.2
  unfold textOk at h
  split at h
  · simp only [typeB, Bool.or_eq_true, beq_iff_eq] at h
    rcases h with ((((h | h) | h) | h) | h) | h
    · exact hn _ h
    all_goals (rw [h]; decide)
  · split at h
    · simp only [opB, Bool.or_eq_true, beq_iff_eq] at h
      rcases h with (((h | h) | h) | h) | h
      all_goals (rw [h]; decide)
    · split at h
      · exact hn _ h
      · rw [h]; decide
theorem num_le {k n : Int} (h : numOk k n) : -1 ≤ n ∧ n ≤ 2147483647 := by
  unfold numOk at h
  split at h
  · omega
  · split at h
    · omega
    · split at h
      · omega
      · split at h <;> omega
mutual
theorem Ok.short : ∀ (d : Nd) (ne : Int), Ok d ne → AllShort d
  | .mk k t n ks, ne, h => ⟨text_le h.2.2.2.1, (num_le h.2.2.2.2.1).1, (num_le h.2.2.2.2.1).2, Oks.short ks k t 0 ne h.2.2.2.2.2.2⟩
theorem Oks.short : ∀ (ds : List Nd) (k : Int) (t : ByteArray) (i : Nat) (ne : Int), Oks k t i ds ne → AllShorts ds
  | [], _, _, _, _, _ => trivial
  | d :: ds, k, t, i, ne, h => ⟨Ok.short d _ h.1, Oks.short ds k t (i + 1) ne h.2⟩
end
theorem pr_short {l : List S33} {d : Nd} {ne : Int} (hl : l.length ≤ 300) (hT : Tr l d 0 l.length) (hO : Ok d ne) : (pr [] d).length ≤ 140737488355328 := by
  have h1 := Tr.sz d 0 l.length hT
  have h2 := pr_len 600 d [] (Ok.short d ne hO) (by simp; omega)
  have h3 : d.sz * (2 * 600 + 95) ≤ 300 * (2 * 600 + 95) := Nat.mul_le_mul_right _ (by omega)
  simp only [List.length_nil] at h2
  omega
end Go.Proofs.YtbpefmidgfmcaaaDoor
end
