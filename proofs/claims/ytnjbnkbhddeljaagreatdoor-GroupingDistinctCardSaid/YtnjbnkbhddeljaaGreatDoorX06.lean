/- A part of the proof: AeM1, AeM2, AeM3, AeM4, AeM5, AeM6, AeM7. -/
import Derived.Test.YtnjbnkbhddeljaaGreatDoorX03
import Derived.Test.YtnjbnkbhddeljaaGreatDoorX04
import Derived.Lib.Bytealg
set_option linter.unusedVariables false
set_option maxRecDepth 100000
namespace Go.AE
structure GVal where
 kind : Int
 int : Int
 text : ByteArray
structure GVec where
 type : Int
 ints : List Int
 texts : List ByteArray
 nulls : List Bool
structure GBatch where
 columns : List GVec
 len : Int
 all : Bool
 sel : List Int
abbrev GRow := List GVal
def iCell (n : Int) : List PV := [.sc (.int .i64 n)]
def tCell (s : ByteArray) : List PV := [.sc (.string s)]
def bCell (b : Bool) : List PV := [.sc (.bool b)]
def zB8 (l : List Int) : PV := .sl 1 (l.map iCell)
def textsPV (l : List ByteArray) : PV := .sl 1 (l.map tCell)
def boolsPV (l : List Bool) : PV := .sl 1 (l.map bCell)
def GVal.cells (v : GVal) : List PV := [.sc (.int .i64 v.kind), .sc (.int .i64 v.int), .sc (.string v.text)]
def zCS (r : GRow) : PV := .sl 3 (r.map GVal.cells)
def zCZ (r : GRow) : List PV := [zCS r]
def zBK (l : List GRow) : PV := .sl 1 (l.map zCZ)
def GVec.cells (v : GVec) : List PV := [.sc (.int .i64 v.type), zB8 v.ints, textsPV v.texts, boolsPV v.nulls]
def GBatch.cells (b : GBatch) : List PV := [.sl 4 (b.columns.map GVec.cells), .sc (.int .i64 b.len), .sc (.bool b.all), zB8 b.sel]
def zBO (l : List GBatch) : PV := .sl 4 (l.map GBatch.cells)
def zAX (n : Int) : PV := .sc (.int .i64 n)
def zCG (b : Bool) : PV := .sc (.bool b)
def zBI (t : Int) : Bool := decide (0 ≤ t) && decide (t ≤ 3)
def zv : GVal := ⟨0, 0, ByteArray.empty⟩
def atV (v : GVec) (i : Int) : GVal :=
 if i < 0 then zv else
 match v.nulls[i.toNat]? with
 | none => zv
 | some true => zv
 | some false => if v.type = 3 then ⟨3, 0, (v.texts[i.toNat]?).getD ByteArray.empty⟩ else ⟨v.type, (v.ints[i.toNat]?).getD 0, ByteArray.empty⟩
theorem atV_neg {v : GVec} {i : Int} (h : i < 0) : atV v i = zv := if_pos h
theorem atV_out {v : GVec} {i : Int} (h : (v.nulls.length : Int) ≤ i) : atV v i = zv := by
 unfold atV
 by_cases hi : i < 0
 ·rw [if_pos hi]
 ·rw [if_neg hi, List.getElem?_eq_none (by omega)]
theorem atV_null {v : GVec} {i : Int} {h : i.toNat < v.nulls.length} (h0 : ¬ i < 0) (hn : v.nulls[i.toNat] = true) : atV v i = zv := by
 unfold atV
 rw [if_neg h0, List.getElem?_eq_getElem h, hn]
theorem atV_text {v : GVec} {i : Int} {h : i.toNat < v.nulls.length} (h0 : ¬ i < 0) (hn : v.nulls[i.toNat] = false) (ht : v.type = 3) (hl : i.toNat < v.texts.length) : atV v i = ⟨3, 0, v.texts[i.toNat]⟩ := by
 unfold atV
 rw [if_neg h0, List.getElem?_eq_getElem h, hn]
 dsimp only
 rw [if_pos ht, List.getElem?_eq_getElem hl]; rfl
theorem atV_int {v : GVec} {i : Int} {h : i.toNat < v.nulls.length} (h0 : ¬ i < 0) (hn : v.nulls[i.toNat] = false) (ht : ¬ v.type = 3) (hl : i.toNat < v.ints.length) : atV v i = ⟨v.type, v.ints[i.toNat], ByteArray.empty⟩ := by
 unfold atV
 rw [if_neg h0, List.getElem?_eq_getElem h, hn]
 dsimp only
 rw [if_neg ht, List.getElem?_eq_getElem hl]; rfl
structure VecOk (v : GVec) : Prop where
 texts : v.type = 3 → v.texts.length = v.nulls.length
 ints : v.type ≠ 0 → v.type ≠ 3 → v.ints.length = v.nulls.length
 nulls : v.type = 0 → ∀ n ∈ v.nulls, n = true
def rowV (b : GBatch) (i : Int) : GRow := b.columns.map fun v => atV v i
def rowsV (b : GBatch) : List GRow := if b.all then (List.range b.len.toNat).map fun (i : Nat) => rowV b (i : Int) else b.sel.map (rowV b)
def zA7 (l : List GBatch) : List GRow := l.flatMap rowsV
theorem allRowsV_snoc (l : List GBatch) (b : GBatch) : zA7 (l ++ [b]) = zA7 l ++ rowsV b := by simp [zA7]
theorem allRowsV_bound (l : List GBatch) (i : Nat) (h : i < l.length) : (zA7 (l.take i)).length + (rowsV l[i]).length ≤ (zA7 l).length := by
 have e : l = l.take i ++ (l[i] :: l.drop (i + 1)) := by rw [← List.drop_eq_getElem_cons h, List.take_append_drop]
 have h2 : (zA7 l).length = (zA7 (l.take i ++ (l[i] :: l.drop (i + 1)))).length := by rw [← e]
 have h3 : zA7 (l.take i ++ (l[i] :: l.drop (i + 1))) = zA7 (l.take i) ++ (rowsV l[i] ++ zA7 (l.drop (i + 1))) := by
  unfold zA7; rw [List.flatMap_append, List.flatMap_cons]
 rw [h2, h3, List.length_append, List.length_append]; omega
structure BatchOk (b : GBatch) : Prop where
 vecs : ∀ v ∈ b.columns, VecOk v
 cols : b.columns.length ≤ 1000000
 len : b.len ≤ 1000000
 sel : b.sel.length ≤ 1000000
def zC2 (v : GVec) (i : Nat) : Bool :=
 let null := (v.nulls[i]?).getD false
 if v.type = 0 then null
 else if v.type = 3 then let x := (v.texts[i]?).getD ByteArray.empty; decide ((x.size : Int) ≤ 4096) && (!null || decide (x.size = 0))
 else if v.type = 1 then let x := (v.ints[i]?).getD 0; decide (x = 0) || (decide (x = 1) && !null)
 else let x := (v.ints[i]?).getD 0; decide (x = 0) || !null
structure EntryOk (v : GVec) (i : Nat) : Prop where
 nulls : i < v.nulls.length
 texts : v.type = 3 → i < v.texts.length
 ints : v.type ≠ 0 → v.type ≠ 3 → i < v.ints.length
def zCQ (v : GVec) : Nat := if v.type = 1 ∨ v.type = 2 then v.nulls.length else 0
def zCB (v : GVec) : Nat := if v.type = 3 then v.nulls.length else 0
def zBX (v : GVec) : Bool := zBI v.type && decide (v.ints.length = zCQ v) && decide (v.texts.length = zCB v) && (List.range v.nulls.length).all (zC2 v)
theorem zDE {v : GVec} (h1 : zBI v.type = true) (h2 : v.ints.length = zCQ v) (h3 : v.texts.length = zCB v) (h4 : ∀ k, k < v.nulls.length → zC2 v k = true) : zBX v = true := by
 unfold zBX
 rw [h1, decide_eq_true h2, decide_eq_true h3]
 simpa using h4
theorem zCL {v : GVec} (h : ¬ (v.ints.length = zCQ v ∧ v.texts.length = zCB v)) : zBX v = false := by
 rw [← Bool.not_eq_true]
 intro hh
 simp only [zBX, Bool.and_eq_true, decide_eq_true_eq] at hh
 exact h ⟨hh.1.1.2, hh.1.2⟩
theorem zD0 {v : GVec} {i : Nat} (hi : i < v.nulls.length) (h : zC2 v i = false) : zBX v = false := by
 rw [← Bool.not_eq_true]
 intro hh
 simp only [zBX, Bool.and_eq_true, List.all_eq_true] at hh
 have := hh.2 i (List.mem_range.2 hi)
 rw [h] at this; cases this
def typesV (b : GBatch) : List Int := b.columns.map (·.type)
def selOkB (b : GBatch) (i : Nat) : Bool :=
 let x := (b.sel[i]?).getD 0
 decide (0 ≤ x) && decide (x < b.len) && (decide (i = 0) || decide ((b.sel[i - 1]?).getD 0 < x))
def zBG (b : GBatch) : Bool :=
 decide (0 ≤ b.len) && (!b.all || decide (b.sel.length = 0)) && (b.columns.all fun v => zBX v && decide ((v.nulls.length : Int) = b.len)) && (List.range b.sel.length).all (selOkB b)
theorem selOk_iff {b : GBatch} {i : Nat} (h : i < b.sel.length) : selOkB b i = true ↔ (0 ≤ b.sel[i] ∧ b.sel[i] < b.len ∧ (i = 0 ∨ b.sel[i - 1] < b.sel[i])) := by
 unfold selOkB
 rw [List.getElem?_eq_getElem h, List.getElem?_eq_getElem (show i - 1 < b.sel.length by omega)]
 simp [and_assoc]
theorem validBatch_no1 {b : GBatch} (h : b.len < 0) : zBG b = false := by
 simp [zBG]; omega
theorem validBatch_no2 {b : GBatch} (h : b.all = true) (h2 : 0 < b.sel.length) : zBG b = false := by
 rw [← Bool.not_eq_true]
 intro hh
 simp only [zBG, h, Bool.and_eq_true, Bool.not_true, Bool.false_or, decide_eq_true_eq] at hh
 omega
theorem validBatch_no3 {b : GBatch} {i : Nat} (hi : i < b.columns.length) (h : ¬ (zBX b.columns[i] = true ∧ (b.columns[i].nulls.length : Int) = b.len)) : zBG b = false := by
 rw [← Bool.not_eq_true]
 intro hh
 simp only [zBG, Bool.and_eq_true, List.all_eq_true, decide_eq_true_eq] at hh
 exact h (hh.1.2 _ (List.getElem_mem hi))
theorem zC8 {b : GBatch} {i : Nat} (hi : i < b.sel.length) (h : ¬ (0 ≤ b.sel[i] ∧ b.sel[i] < b.len ∧ (i = 0 ∨ b.sel[i - 1] < b.sel[i]))) : zBG b = false := by
 rw [← Bool.not_eq_true]
 intro hh
 simp only [zBG, Bool.and_eq_true, List.all_eq_true] at hh
 exact h ((selOk_iff hi).1 (hh.2 i (List.mem_range.2 hi)))
theorem validBatch_yes {b : GBatch} (h1 : 0 ≤ b.len) (h2 : b.all = true → b.sel.length = 0) (h3 : ∀ k (h : k < b.columns.length), zBX b.columns[k] = true ∧ (b.columns[k].nulls.length : Int) = b.len) (h4 : ∀ k, k < b.sel.length → selOkB b k = true) : zBG b = true := by
 simp only [zBG, Bool.and_eq_true, List.all_eq_true, decide_eq_true_eq]
 refine ⟨⟨⟨h1, ?_⟩, fun v hv => ?_⟩, fun k hk => h4 k (List.mem_range.1 hk)⟩
 ·cases hb : b.all with
  | false => rfl
  | true => simp [h2 hb]
 ·obtain ⟨k, hk, rfl⟩ := List.mem_iff_getElem.1 hv
  exact h3 k hk
def zDW (l : List GBatch) (ts : List Int) : Bool := ts.all zBI && l.all fun b => zBG b && decide (typesV b = ts)
theorem inputs_no1 {l : List GBatch} {ts : List Int} {i : Nat} (hi : i < ts.length) (h : zBI ts[i] = false) : zDW l ts = false := by
 rw [← Bool.not_eq_true]
 intro hh
 simp only [zDW, Bool.and_eq_true, List.all_eq_true] at hh
 have := hh.1 _ (List.getElem_mem hi)
 rw [h] at this; cases this
theorem inputs_no2 {l : List GBatch} {ts : List Int} {i : Nat} (hi : i < l.length) (h : ¬ (zBG l[i] = true ∧ typesV l[i] = ts)) : zDW l ts = false := by
 rw [← Bool.not_eq_true]
 intro hh
 simp only [zDW, Bool.and_eq_true, List.all_eq_true, decide_eq_true_eq] at hh
 exact h (hh.2 _ (List.getElem_mem hi))
theorem inputs_yes {l : List GBatch} {ts : List Int} (h1 : ∀ k (h : k < ts.length), zBI ts[k] = true) (h2 : ∀ k (h : k < l.length), zBG l[k] = true ∧ typesV l[k] = ts) : zDW l ts = true := by
 simp only [zDW, Bool.and_eq_true, List.all_eq_true, decide_eq_true_eq]
 refine ⟨fun x hx => ?_, fun x hx => ?_⟩
 ·obtain ⟨k, hk, rfl⟩ := List.mem_iff_getElem.1 hx; exact h1 k hk
 ·obtain ⟨k, hk, rfl⟩ := List.mem_iff_getElem.1 hx; exact h2 k hk
structure BatchSz (b : GBatch) : Prop where
 cols : b.columns.length ≤ 1000000
 sel : b.sel.length ≤ 140737488355328
 nulls : ∀ v ∈ b.columns, v.nulls.length ≤ 140737488355328
end Go.AE
namespace Go.AE
def zCY (l g : Bool) : Int := if l then -1 else if g then 1 else 0
def zBL (a b : GVal) : Int :=
 if a.kind ≠ b.kind then zCY (decide (a.kind < b.kind)) true
 else if a.kind = 3 then zCY (Op.bytesLess a.text.toList b.text.toList) (!(Op.bytesLess a.text.toList b.text.toList || a.text.toList == b.text.toList))
 else zCY (decide (a.int < b.int)) (decide (b.int < a.int))
def zBE : GRow → GRow → Int
 | [], [] => 0
 | [], _ :: _ => -1
 | _ :: _, [] => 1
 | x :: xs, y :: ys => if zBL x y ≠ 0 then zBL x y else zBE xs ys
theorem cmpRows_step {a b : GRow} {i : Nat} (ha : i < a.length) (hb : i < b.length) : zBE (a.drop i) (b.drop i) = if zBL a[i] b[i] ≠ 0 then zBL a[i] b[i] else zBE (a.drop (i + 1)) (b.drop (i + 1)) := by
 rw [List.drop_eq_getElem_cons ha, List.drop_eq_getElem_cons hb, zBE]
theorem zB5 {a b : GRow} {i : Nat} (h : a.length ≤ i ∨ b.length ≤ i) (ha : i ≤ a.length) (hb : i ≤ b.length) : zBE (a.drop i) (b.drop i) = zCY (decide ((a.length : Int) < b.length)) (decide ((b.length : Int) < a.length)) := by
 rcases h with h | h
 ·rw [List.drop_of_length_le h]
  rcases Nat.lt_or_ge i b.length with h2 | h2
  ·rw [List.drop_eq_getElem_cons h2]
   simp only [zBE, zCY]
   rw [if_pos (by simp; omega)]
  ·rw [List.drop_of_length_le h2]
   simp only [zBE, zCY]
   rw [if_neg (by simp; omega), if_neg (by simp; omega)]
 ·rw [List.drop_of_length_le h]
  rcases Nat.lt_or_ge i a.length with h2 | h2
  ·rw [List.drop_eq_getElem_cons h2]
   simp only [zBE, zCY]
   rw [if_neg (by simp; omega), if_pos (by simp; omega)]
  ·rw [List.drop_of_length_le h2]
   simp only [zBE, zCY]
   rw [if_neg (by simp; omega), if_neg (by simp; omega)]
def leRows (a b : GRow) : Bool := decide (zBE a b ≤ 0)
def mergeV (a b : List GRow) : List GRow := List.merge a b leRows
theorem mergeV_left {a b : List GRow} {i k : Nat} (hi : i < a.length) (h : b.length ≤ k ∨ ∃ h : k < b.length, zBE a[i] b[k] ≤ 0) : mergeV (a.drop i) (b.drop k) = a[i] :: mergeV (a.drop (i + 1)) (b.drop k) := by
 unfold mergeV
 rw [List.drop_eq_getElem_cons hi]
 rcases h with h | ⟨h, hc⟩
 ·rw [List.drop_of_length_le h]; simp
 ·rw [List.drop_eq_getElem_cons h, List.cons_merge_cons, if_pos (by unfold leRows; simpa using hc)]
theorem mergeV_right {a b : List GRow} {i k : Nat} (hk : k < b.length) (h : a.length ≤ i ∨ ∃ h : i < a.length, ¬ zBE a[i] b[k] ≤ 0) : mergeV (a.drop i) (b.drop k) = b[k] :: mergeV (a.drop i) (b.drop (k + 1)) := by
 unfold mergeV
 rw [List.drop_eq_getElem_cons hk]
 rcases h with h | ⟨h, hc⟩
 ·rw [List.drop_of_length_le h]; simp
 ·rw [List.drop_eq_getElem_cons h, List.cons_merge_cons, if_neg (by unfold leRows; simpa using hc)]
def zDB (l : List GRow) : List GRow :=
 if l.length < 2 then l else mergeV (zDB (l.take (l.length / 2))) (zDB (l.drop (l.length / 2)))
termination_by l.length
decreasing_by all_goals (simp; omega)
theorem mergeV_perm (a b : List GRow) : (mergeV a b).Perm (a ++ b) := List.merge_perm_append _
theorem zDJ (n : Nat) : ∀ (l : List GRow), l.length = n → (zDB l).Perm l := by
 refine Nat.strongRecOn n fun n ih => ?_
 intro l hl
 rw [zDB]
 by_cases h : l.length < 2
 ·rw [if_pos h]
 ·rw [if_neg h]
  refine (mergeV_perm _ _).trans ?_
  have h1 := ih (l.length / 2) (by omega) (l.take (l.length / 2)) (by simp; omega)
  have h2 := ih (l.length - l.length / 2) (by omega) (l.drop (l.length / 2)) (by simp)
  have := h1.append h2
  rwa [List.take_append_drop] at this
theorem sortV_length (l : List GRow) : (zDB l).length = l.length := (zDJ _ l rfl).length_eq
def keepAt (l : List GRow) (i : Nat) : Bool := decide (i = 0) || decide (zBE ((l[i]?).getD []) ((l[i - 1]?).getD []) ≠ 0)
def uniqV (l : List GRow) (n : Nat) : List GRow := (List.range n).flatMap fun i => if keepAt l i then [(l[i]?).getD []] else []
def zC7 (l : List GRow) : List GRow := uniqV (zDB l) (zDB l).length
theorem uniqV_yes {l : List GRow} {i : Nat} (hi : i < l.length) (h : keepAt l i = true) : uniqV l (i + 1) = uniqV l i ++ [l[i]] := by
 unfold uniqV
 rw [List.range_succ, List.flatMap_append]
 congr 1
 simp [h, hi]
theorem uniqV_no {l : List GRow} {i : Nat} (h : keepAt l i = false) : uniqV l (i + 1) = uniqV l i := by
 unfold uniqV
 rw [List.range_succ, List.flatMap_append]
 simp [h]
theorem uniqV_le (l : List GRow) : ∀ n, (uniqV l n).length ≤ n
 | 0 => by simp [uniqV]
 | n + 1 => by
  have := uniqV_le l n
  have e : uniqV l (n + 1) = uniqV l n ++ (if keepAt l n then [(l[n]?).getD []] else []) := by
   unfold uniqV; rw [List.range_succ, List.flatMap_append]; simp
  rw [e, List.length_append]
  split <;> simp <;> omega
def equalV (a b : List GRow) : Bool := decide (a.length = b.length) && (List.range a.length).all fun i => decide (zBE ((a[i]?).getD []) ((b[i]?).getD []) = 0)
theorem equalV_no1 {a b : List GRow} (h : ¬ a.length = b.length) : equalV a b = false := by simp [equalV, h]
theorem equalV_no2 {a b : List GRow} {i : Nat} (h1 : i < a.length) (h2 : i < b.length) (h : ¬ zBE a[i] b[i] = 0) : equalV a b = false := by
 rw [← Bool.not_eq_true]
 intro hh
 simp only [equalV, Bool.and_eq_true, List.all_eq_true, decide_eq_true_eq] at hh
 have := hh.2 i (List.mem_range.2 h1)
 rw [List.getElem?_eq_getElem h1, List.getElem?_eq_getElem h2] at this
 exact h this
theorem equalV_yes {a b : List GRow} (h0 : a.length = b.length) (h : ∀ i (h1 : i < a.length) (h2 : i < b.length), zBE a[i] b[i] = 0) : equalV a b = true := by
 simp only [equalV, Bool.and_eq_true, List.all_eq_true, decide_eq_true_eq]
 refine ⟨h0, fun i hi => ?_⟩
 have h1 := List.mem_range.1 hi
 rw [List.getElem?_eq_getElem h1, List.getElem?_eq_getElem (show i < b.length by omega)]
 exact h i h1 (by omega)
theorem compareBytes_sign : ∀ (l m : List UInt8), Lib.compareBytes l m = zCY (Op.bytesLess l m) (!(Op.bytesLess l m || l == m))
 | [], [] => rfl
 | [], _ :: _ => rfl
 | _ :: _, [] => rfl
 | a :: as, b :: bs => by
  have ih := compareBytes_sign as bs
  simp only [Lib.compareBytes, Op.bytesLess]
  by_cases h1 : a < b
  ·simp [h1, zCY]
  ·by_cases h2 : b < a
   ·have hne : a ≠ b := fun e => by subst e; exact h1 h2
    have : (a == b) = false := by simp [hne]
    simp [h1, h2, zCY, this, hne]
   ·have e : a = b := by
      apply UInt8.le_antisymm
      ·exact UInt8.not_lt.1 h2
      ·exact UInt8.not_lt.1 h1
    subst e
    rw [if_neg h1, if_neg h2, ih]
    simp [h1, zCY]
def ValZ (v : GVal) : Prop := v.kind ≠ 1 → v.kind ≠ 2 → v.kind ≠ 3 → v.int = 0
theorem cmpVal_z {a b : GVal} (ha : ValZ a) (hb : ValZ b) (h : ¬ a.kind ≠ b.kind) (h1 : ¬ a.kind = 1) (h2 : ¬ a.kind = 2) (h3 : ¬ a.kind = 3) : zBL a b = 0 := by
 have e : a.kind = b.kind := by omega
 have e1 := ha h1 h2 h3
 have e2 := hb (by omega) (by omega) (by omega)
 unfold zBL
 rw [if_neg h, if_neg h3, e1, e2]; simp [zCY]
def hashV (h : Int) (v : GVal) : Int :=
 if v.kind = 0 then mixF (xorU h 1)
 else if v.kind = 1 then mixF (xorU (mixF (xorU h 2)) (u64 v.int))
 else if v.kind = 2 then mixF (xorU (mixF (xorU h 3)) (u64 v.int))
 else if v.kind = 3 then hashBytesF (mixF (xorU h 4)) v.text.data.toList
 else h
theorem hashV_0 {h : Int} {v : GVal} (h0 : v.kind = 0) : hashV h v = mixF (xorU h 1) := by unfold hashV; rw [if_pos h0]
theorem hashV_1 {h : Int} {v : GVal} (h0 : ¬ v.kind = 0) (h1 : v.kind = 1) : hashV h v = mixF (xorU (mixF (xorU h 2)) (IntKind.wrap .u64 v.int)) := by unfold hashV; rw [if_neg h0, if_pos h1]; unfold u64; rfl
theorem hashV_2 {h : Int} {v : GVal} (h0 : ¬ v.kind = 0) (h1 : ¬ v.kind = 1) (h2 : v.kind = 2) : hashV h v = mixF (xorU (mixF (xorU h 3)) (IntKind.wrap .u64 v.int)) := by unfold hashV; rw [if_neg h0, if_neg h1, if_pos h2]; unfold u64; rfl
theorem hashV_3 {h : Int} {v : GVal} (h0 : ¬ v.kind = 0) (h1 : ¬ v.kind = 1) (h2 : ¬ v.kind = 2) (h3 : v.kind = 3) : hashV h v = hashBytesF (mixF (xorU h 4)) v.text.data.toList := by unfold hashV; rw [if_neg h0, if_neg h1, if_neg h2, if_pos h3]
theorem hashV_4 {h : Int} {v : GVal} (h0 : ¬ v.kind = 0) (h1 : ¬ v.kind = 1) (h2 : ¬ v.kind = 2) (h3 : ¬ v.kind = 3) : hashV h v = h := by unfold hashV; rw [if_neg h0, if_neg h1, if_neg h2, if_neg h3]
def hashN (seed : Int) (r : GRow) : Nat → Int
 | 0 => mixF seed
 | i + 1 => match r[i]? with | some v => hashV (hashN seed r i) v | none => hashN seed r i
theorem hashN_step {seed : Int} {r : GRow} {i : Nat} (h : i < r.length) : hashN seed r (i + 1) = hashV (hashN seed r i) r[i] := by
 simp only [hashN, List.getElem?_eq_getElem h]
def zC0 (seed : Int) (r : GRow) : Int := hashN seed r r.length
theorem hashV_range {h : Int} (hh : 0 ≤ h ∧ h ≤ 18446744073709551615) (v : GVal) : 0 ≤ hashV h v ∧ hashV h v ≤ 18446744073709551615 := by
 unfold hashV
 split
 ·exact mixF_range _
 ·split
  ·exact mixF_range _
  ·split
   ·exact mixF_range _
   ·split
    ·exact hashBytesF_range _ _
    ·exact hh
theorem hashN_range (seed : Int) (r : GRow) : ∀ n, 0 ≤ hashN seed r n ∧ hashN seed r n ≤ 18446744073709551615
 | 0 => mixF_range _
 | n + 1 => by
  simp only [hashN]
  split
  ·exact hashV_range (hashN_range seed r n) _
  ·exact hashN_range seed r n
theorem hashF_range (seed : Int) (r : GRow) : 0 ≤ zC0 seed r ∧ zC0 seed r ≤ 18446744073709551615 := hashN_range _ _ _
end Go.AE
namespace Go.AE
variable {P : Program} {ops : Array Oper} {t : VTm} {s s' : VSt} {o : Oper} {x y : Operand}
def FDis (a b : PV) : Prop := ∀ f, famOf a = some f → famOf b ≠ some f
theorem FDis.symm {a b : PV} (h : FDis a b) : FDis b a := fun f h1 h2 => h f h2 h1
theorem FDis.nil_l {b : PV} : FDis (.sc (.slice none 0 0)) b := fun f h => (by cases h)
theorem Gr.famlt {z : Nat} {p : PV} {xs : List (List PV)} (h : Gr s z p xs) {f : Nat} (hf : famOf p = some f) : f < s.next := by
 cases h with
 | nil => cases hf
 | gl h1 h2 h3 => simp only [famOf, Option.some.injEq] at hf; omega
theorem Gr.other {z z' : Nat} {p q p' : PV} {xs ys : List (List PV)} (h : Gr s z q ys) (g : Grew s z' p xs p' s') (d : FDis q p) : Gr s' z q ys := by
 cases h with
 | nil => exact .nil
 | gl h1 h2 h3 => exact .gl (by rw [g.grow _ h2 (d _ rfl)]; exact h1) (Nat.lt_of_lt_of_le h2 g.next) h3
theorem FDis.grew {z z' : Nat} {p q p' : PV} {xs ys : List (List PV)} (h : Gr s z q ys) (g : Grew s z' p xs p' s') (d : FDis q p) : FDis q p' := fun f hf hp => by
 rcases g.fam with e | e
 ·exact d f hf (by rw [← e]; exact hp)
 ·have := e f hp; have := h.famlt hf; omega
def ixs (keys : List GRow) (h : Int) : List Nat := (List.range keys.length).filter fun i => decide (zC0 11 ((keys[i]?).getD []) = h)
theorem ixs_snoc (keys : List GRow) (k : GRow) (h : Int) : ixs (keys ++ [k]) h = ixs keys h ++ (if zC0 11 k = h then [keys.length] else []) := by
 unfold ixs
 rw [List.length_append, List.length_singleton, List.range_succ, List.filter_append]
 congr 1
 ·apply List.filter_congr
  intro i hi
  have := List.mem_range.1 hi
  rw [List.getElem?_append_left this]
 ·simp only [List.filter_cons, List.filter_nil]
  rw [List.getElem?_append_right (Nat.le_refl _), Nat.sub_self]
  by_cases e : zC0 11 k = h <;> simp [e]
theorem ixs_lt {keys : List GRow} {h : Int} {i : Nat} (hi : i ∈ ixs keys h) : i < keys.length := List.mem_range.1 (List.mem_filter.1 hi).1
theorem zC9 (h : Int) (p : PV) (es : List (Int × PV)) : mget h (mput h p es) = p := by
 have key : ∀ (es : List (Int × PV)) (i : Nat), match zDV h es i with
     | none => zDV h (es ++ [(h, p)]) i = some (i + es.length, p)
     | some (j, _) => i ≤ j ∧ zDV h (es.set (j - i) (h, p)) i = some (j, p) := by
  intro es
  induction es with
  | nil => intro i; simp [zDV]
  | cons e es ih =>
   intro i
   simp only [zDV]
   by_cases hc : h = e.1
   ·rw [if_pos hc]; simp [zDV]
   ·rw [if_neg hc]
    have := ih (i + 1)
    generalize hm : zDV h es (i + 1) = r at this
    cases r with
    | none =>
     dsimp only at this ⊢
     simp only [List.cons_append, zDV, if_neg hc, this, List.length_cons]
     congr 2; omega
    | some jp =>
     obtain ⟨j, q⟩ := jp
     dsimp only at this ⊢
     obtain ⟨a, b⟩ := this
     refine ⟨by omega, ?_⟩
     rw [show j - i = (j - (i + 1)) + 1 by omega, List.set_cons_succ]
     simp only [zDV, if_neg hc, b]
 have := key es 0
 unfold mget mput
 cases hm : zDV h es 0 with
 | none => rw [hm] at this; dsimp only at this ⊢; rw [this]
 | some jp => obtain ⟨j, q⟩ := jp; rw [hm] at this; dsimp only at this ⊢; rw [Nat.sub_zero] at this; rw [this.2]
theorem zDG {h h' : Int} (hne : h' ≠ h) (p : PV) (es : List (Int × PV)) : mget h' (mput h p es) = mget h' es := by
 have k1 : ∀ (es : List (Int × PV)) (i : Nat), zDV h' (es ++ [(h, p)]) i = zDV h' es i := by
  intro es
  induction es with
  | nil => intro i; simp [zDV, hne]
  | cons e es ih => intro i; simp only [List.cons_append, zDV, ih]
 have k2 : ∀ (es : List (Int × PV)) (i j : Nat) (q : PV), zDV h es i = some (j, q) → zDV h' (es.set (j - i) (h, p)) i = zDV h' es i := by
  intro es
  induction es with
  | nil => intro i j q h; cases h
  | cons e es ih =>
   intro i j q hm
   simp only [zDV] at hm
   by_cases hc : h = e.1
   ·rw [if_pos hc] at hm
    simp only [Option.some.injEq, Prod.mk.injEq] at hm
    obtain ⟨rfl, _⟩ := hm
    rw [Nat.sub_self, List.set_cons_zero]
    simp only [zDV]
    rw [if_neg hne, if_neg (by rw [← hc]; exact hne)]
   ·rw [if_neg hc] at hm
    have hj : i + 1 ≤ j := by
     have : ∀ (es : List (Int × PV)) (i j : Nat) (q : PV), zDV h es i = some (j, q) → i ≤ j := by
      intro es
      induction es with
      | nil => intro i j q h; cases h
      | cons e es ih =>
       intro i j q h
       simp only [zDV] at h
       split at h
       ·simp only [Option.some.injEq, Prod.mk.injEq] at h; omega
       ·have := ih _ _ _ h; omega
     exact this _ _ _ _ hm
    rw [show j - i = (j - (i + 1)) + 1 by omega, List.set_cons_succ]
    simp only [zDV, ih _ _ _ hm]
 unfold mget mput
 cases hm : zDV h es 0 with
 | none => dsimp only; rw [k1]
 | some jp => obtain ⟨j, q⟩ := jp; dsimp only; have := k2 es 0 j q hm; rw [Nat.sub_zero] at this; rw [this]
theorem ixs_len (keys : List GRow) (h : Int) : (ixs keys h).length ≤ keys.length := by
 unfold ixs; have := List.length_filter_le (fun i => decide (zC0 11 ((keys[i]?).getD []) = h)) (List.range keys.length); simp at this; exact this
structure Tab (n0 : Nat) (s : VSt) (b m : Nat) (keys : List GRow) (pk pi : PV) (es : List (Int × PV)) : Prop where
 mem : s.mem b = some [.mp m, pk, pi]
 maps : s.maps m = some (mEnts .u64 es)
 gk : Gr s 1 pk (keys.map zCZ)
 gi : Gr s 1 pi ((List.replicate keys.length true).map bCell)
 ge : ∀ h, Gr s 1 (mget h es) ((ixs keys h).map fun (i : Nat) => iCell (i : Int))
 fk : FamGe n0 pk
 fi : FamGe n0 pi
 fe : ∀ h, FamGe n0 (mget h es)
 dki : FDis pk pi
 dke : ∀ h, FDis pk (mget h es)
 die : ∀ h, FDis pi (mget h es)
 dee : ∀ h h', h ≠ h' → FDis (mget h es) (mget h' es)
 hb : n0 ≤ b ∧ b < s.next
 hm : n0 ≤ m ∧ m < s.next
theorem Tab.to {n0 n b m : Nat} {keys : List GRow} {pk pi : PV} {es : List (Int × PV)} (h : Tab n0 s b m keys pk pi es) (hn : s.next ≤ n) : Tab n0 (s.to n) b m keys pk pi es :=
 ⟨h.mem, h.maps, h.gk.lift rfl hn, h.gi.lift rfl hn, fun x => (h.ge x).lift rfl hn, h.fk, h.fi, h.fe, h.dki, h.dke, h.die, h.dee, ⟨h.hb.1, Nat.lt_of_lt_of_le h.hb.2 hn⟩, ⟨h.hm.1, Nat.lt_of_lt_of_le h.hm.2 hn⟩⟩
theorem Tab.new {n0 b m : Nat} (hb : s.mem b = some [.mp m, .sc (.slice none 0 0), .sc (.slice none 0 0)]) (hm : s.maps m = some []) (h1 : n0 ≤ b ∧ b < s.next) (h2 : n0 ≤ m ∧ m < s.next) : Tab n0 s b m [] (.sc (.slice none 0 0)) (.sc (.slice none 0 0)) [] :=
 ⟨hb, hm, .nil, .nil, fun _ => .nil, .nil, .nil, fun _ => .nil, .nil_l, fun _ => .nil_l, fun _ => .nil_l, fun _ _ _ => .nil_l, h1, h2⟩
theorem Tab.snoc {n0 b m : Nat} {keys : List GRow} {pk pi pk' pi' pe : PV} {es : List (Int × PV)} {key : GRow} {s1 s2 s3 s4 s5 s6 : VSt} {n1 n2 n3 n4 : Nat} (h : Tab n0 s b m keys pk pi es) (hn1 : s.next ≤ n1)
    (g1 : Grew (s.to n1) 1 (mget (zC0 11 key) es) ((ixs keys (zC0 11 key)).map (fun (i : Nat) => iCell (i : Int)) ++ [iCell (keys.length : Int)]) pe s1) (e2 : s2 = ((s1.to n2).setMap m (mEnts .u64 (mput (zC0 11 key) pe es))).to n3) (hn2 : s1.next ≤ n2) (hn3 : n2 ≤ n3) (hn4 : n3 ≤ n4)
    (g3 : Grew (s2.to n4) 1 pk (keys.map zCZ ++ [zCZ key]) pk' s3) (e4 : s4.mem = (s3.setMem b [.mp m, pk', pi]).mem ∧ s4.maps = s3.maps ∧ s4.grow = s3.grow ∧ s3.next ≤ s4.next)
    (g5 : Grew s4 1 pi ((List.replicate keys.length true).map bCell ++ [bCell true]) pi' s5) (e6 : s6.mem = (s5.setMem b [.mp m, pk', pi']).mem ∧ s6.maps = s5.maps ∧ s6.grow = s5.grow ∧ s5.next ≤ s6.next) :
    Tab n0 s6 b m (keys ++ [key]) pk' pi' (mput (zC0 11 key) pe es) := by
 obtain ⟨a1, a2, a3, a4⟩ := e4
 obtain ⟨c1, c2, c3, c4⟩ := e6
 have next2 : s2.next = n3 := by rw [e2]; rfl
 have grow2 : s2.grow = s1.grow := by rw [e2]; rfl
 have n1s : n1 ≤ s1.next := g1.next
 have n3s : n4 ≤ s3.next := g3.next
 have n5s : s4.next ≤ s5.next := g5.next
 have hall : s.next ≤ s6.next := by omega
 have fpe : FamGe n0 pe := (h.fe _).grew g1 (by have := h.hb; show n0 ≤ n1; omega)
 have fpk : FamGe n0 pk' := h.fk.grew g3 (by have := h.hb; show n0 ≤ n4; omega)
 have fpi : FamGe n0 pi' := h.fi.grew g5 (by have := h.hb; omega)
 have up1 : ∀ {z : Nat} {q : PV} {ys : List (List PV)}, Gr s z q ys → Gr (s.to n1) z q ys := fun g => g.lift rfl hn1
 have d1 : ∀ {z : Nat} {q : PV} {ys : List (List PV)}, Gr s z q ys → FDis q (mget (zC0 11 key) es) → Gr s1 z q ys ∧ FDis q pe := fun g d => ⟨(up1 g).other g1 d, .grew (up1 g) g1 d⟩
 have k1 := d1 h.gk (h.dke _)
 have i1 := d1 h.gi (h.die _)
 have up2 : ∀ {z : Nat} {q : PV} {ys : List (List PV)}, Gr s1 z q ys → Gr (s2.to n4) z q ys := fun g => g.lift (by show s2.grow = _; exact grow2) (by show _ ≤ n4; omega)
 have pe1 : Gr s1 1 pe _ := g1.gr
 have d3 : ∀ {z : Nat} {q : PV} {ys : List (List PV)}, Gr s1 z q ys → FDis q pk → Gr s3 z q ys ∧ FDis q pk' := fun g d => ⟨(up2 g).other g3 d, .grew (up2 g) g3 d⟩
 have pe3 := d3 pe1 k1.2.symm
 have i3 := d3 i1.1 h.dki.symm
 have up4 : ∀ {z : Nat} {q : PV} {ys : List (List PV)}, Gr s3 z q ys → Gr s4 z q ys := fun g => g.lift a3 a4
 have d5 : ∀ {z : Nat} {q : PV} {ys : List (List PV)}, Gr s3 z q ys → FDis q pi → Gr s5 z q ys ∧ FDis q pi' := fun g d => ⟨(up4 g).other g5 d, .grew (up4 g) g5 d⟩
 have k3 : Gr s3 1 pk' _ := g3.gr
 have k5 := d5 k3 i3.2.symm
 have pe5 := d5 pe3.1 i1.2.symm
 have up6 : ∀ {z : Nat} {q : PV} {ys : List (List PV)}, Gr s5 z q ys → Gr s6 z q ys := fun g => g.lift c3 c4
 have oth : ∀ h', h' ≠ zC0 11 key → Gr s6 1 (mget h' es) ((ixs keys h').map fun (i : Nat) => iCell (i : Int)) ∧ FDis (mget h' es) pe ∧ FDis (mget h' es) pk' ∧ FDis (mget h' es) pi' := fun h' hne => by
  have q1 := d1 (h.ge h') (h.dee _ _ hne)
  have q3 := d3 q1.1 (h.dke h').symm
  have q5 := d5 q3.1 (h.die h').symm
  exact ⟨up6 q5.1, q1.2, q3.2, q5.2⟩
 have hbm : s6.mem b = some [.mp m, pk', pi'] := by rw [c1]; exact mem_set0
 refine ⟨hbm, ?_, ?_, ?_, fun h' => ?_, fpk, fpi, fun h' => ?_, k5.2, fun h' => ?_, fun h' => ?_, fun h' h'' hne => ?_, ⟨h.hb.1, by have := h.hb.2; omega⟩, ⟨h.hm.1, by have := h.hm.2; omega⟩⟩
 ·rw [c2, g5.maps, a2, g3.maps, e2]; exact maps_set0
 ·rw [List.map_append]; exact up6 k5.1
 ·rw [List.length_append, List.length_singleton, List.replicate_succ', List.map_append]; exact g5.gr.lift c3 c4
 ·by_cases e : h' = zC0 11 key
  ·subst e
   rw [zC9, ixs_snoc, if_pos rfl, List.map_append]; exact up6 pe5.1
  ·rw [zDG e, ixs_snoc, if_neg (fun k => e k.symm), List.append_nil]; exact (oth h' e).1
 ·by_cases e : h' = zC0 11 key
  ·subst e; rw [zC9]; exact fpe
  ·rw [zDG e]; exact h.fe h'
 ·by_cases e : h' = zC0 11 key
  ·subst e; rw [zC9]; exact pe3.2.symm
  ·rw [zDG e]; exact (oth h' e).2.2.1.symm
 ·by_cases e : h' = zC0 11 key
  ·subst e; rw [zC9]; exact pe5.2.symm
  ·rw [zDG e]; exact (oth h' e).2.2.2.symm
 ·by_cases e : h' = zC0 11 key
  ·subst e
   rw [zC9, zDG (fun k => hne k.symm)]
   exact (oth h'' fun k => hne k.symm).2.1.symm
  ·rw [zDG e]
   by_cases e2 : h'' = zC0 11 key
   ·subst e2; rw [zC9]; exact (oth h' e).2.1
   ·rw [zDG e2]; exact h.dee _ _ hne
def hitOf (keys : List GRow) (key : GRow) : Option Nat := (ixs keys (zC0 11 key)).find? fun i => decide (zBE ((keys[i]?).getD []) key = 0)
theorem hit_yes {keys : List GRow} {key : GRow} {j : Nat} (hj : j < (ixs keys (zC0 11 key)).length) (hn : ∀ k (hk : k < (ixs keys (zC0 11 key)).length), k < j → ¬ zBE ((keys[(ixs keys (zC0 11 key))[k]]?).getD []) key = 0)
    (h : zBE ((keys[(ixs keys (zC0 11 key))[j]]?).getD []) key = 0) : hitOf keys key = some (ixs keys (zC0 11 key))[j] := by
 unfold hitOf
 rw [List.find?_eq_some_iff_getElem]
 exact ⟨by simpa using h, j, hj, rfl, fun k hk => by simpa using hn k (by omega) hk⟩
theorem hit_no {keys : List GRow} {key : GRow} (hn : ∀ k (hk : k < (ixs keys (zC0 11 key)).length), ¬ zBE ((keys[(ixs keys (zC0 11 key))[k]]?).getD []) key = 0) : hitOf keys key = none := by
 unfold hitOf
 rw [List.find?_eq_none]
 intro i hi
 obtain ⟨k, hk, rfl⟩ := List.mem_iff_getElem.1 hi
 simpa using hn k hk
def FindPost (n0 : Nat) (s : VSt) (b m : Nat) (keys : List GRow) (key : GRow) (limit : Int) (p : PV) (s' : VSt) : Prop :=
 match hitOf keys key with
 | some i => p = zAX (i : Int) ∧ ∃ n, s.next ≤ n ∧ s' = s.to n
 | none => if (keys.length : Int) = limit then p = zAX (-1) ∧ ∃ n, s.next ≤ n ∧ s' = s.to n
  else p = zAX (keys.length : Int) ∧ ∃ pk pi es, Tab n0 s' b m (keys ++ [key]) pk pi es ∧ Ext0 (s.to n0) s'
theorem findPost_hit {n0 b m n : Nat} {keys : List GRow} {key : GRow} {limit : Int} {i : Nat} (h : hitOf keys key = some i) (hn : s.next ≤ n) : FindPost n0 s b m keys key limit (zAX (i : Int)) (s.to n) := by
 unfold FindPost; rw [h]; exact ⟨rfl, n, hn, rfl⟩
theorem findPost_full {n0 b m n : Nat} {keys : List GRow} {key : GRow} {limit : Int} (h : hitOf keys key = none) (hl : (keys.length : Int) = limit) (hn : s.next ≤ n) : FindPost n0 s b m keys key limit (zAX (-1)) (s.to n) := by
 unfold FindPost; rw [h]; dsimp only; rw [if_pos hl]; exact ⟨rfl, n, hn, rfl⟩
theorem findPost_new {n0 b m : Nat} {keys : List GRow} {key : GRow} {limit : Int} {pk pi : PV} {es : List (Int × PV)} {p : PV} (h : hitOf keys key = none) (hl : ¬ (keys.length : Int) = limit) (hp : p = zAX (keys.length : Int)) (hT : Tab n0 s' b m (keys ++ [key]) pk pi es) (hE : Ext0 (s.to n0) s') : FindPost n0 s b m keys key limit p s' := by
 unfold FindPost; rw [h]; dsimp only; rw [if_neg hl]; exact ⟨hp, pk, pi, es, hT, hE⟩
theorem pend_nil {k : Nat} : ∀ q ∈ ([] : List Pd), (befAt ops k).testBit q.j = true ∨ Stab P ops q.o q.t s' q.p := fun q hq => by cases hq
theorem zBJ {k : Nat} {a : Pd} {l : List Pd} (h : (befAt ops k).testBit a.j = true ∨ Stab P ops a.o a.t s' a.p) (g : ∀ q ∈ l, (befAt ops k).testBit q.j = true ∨ Stab P ops q.o q.t s' q.p) : ∀ q ∈ a :: l, (befAt ops k).testBit q.j = true ∨ Stab P ops q.o q.t s' q.p := fun q hq => by
 rcases List.mem_cons.1 hq with rfl | hq
 ·exact h
 ·exact g q hq
theorem vdM {l : List Oper} {Q : VTm → VSt → Prop} {s0 : VSt} {d : Nat} (hg : zCO ops t o = some true) (hop : OpV P s t o (.mp s.next) s.newMap) (hd : o.dst = some d) (hn : Nat.blt d t.n = true) (hE : Ext0 s0 s.newMap)
    (h : ∀ m, m = s.next → Ext0 s0 s.newMap → VSeq P ops l (t.set d (.mp m)) s.newMap Q) : VSeq P ops (o :: l) t s Q := vd hg hop hd hn (h _ rfl hE)
theorem Gr.one {z : Nat} {p : PV} {xs : List (List PV)} (h : Gr s z p xs) : p.cells = [p] ∧ p.flat = true := by
 cases h with
 | nil => exact ⟨rfl, rfl⟩
 | gl => exact ⟨rfl, rfl⟩
theorem o_st1 {ty b k : Nat} {cs cs' : List PV} {p : PV} (ho : o.op = .store ty x y) (hx : t.ev x = some (.pt b k)) (hy : t.ev y = some p) (hk : szOk P ty 1 = true) (hp : p.cells = [p] ∧ p.flat = true) (hm : s.mem b = some cs) (hl : k + 1 ≤ cs.length) (hc : splice cs k [p] = cs') :
    OpV P s t o (.sc undef) (s.setMem b cs') := by
 refine o_st ho hx hy (by rw [hp.1]; exact hk) hm (by rw [hp.1]; exact hl) (by rw [hp.1]; simp [hp.2]) (by rw [hp.1]; exact hc)
theorem Gr.lo {s0 s1 s2 : VSt} {z z' : Nat} {p q p' : PV} {xs ys : List (List PV)} (h : Gr s0 z q ys) (g : Grew s1 z' p xs p' s2) (hg : s1.grow = s0.grow) (hn : s0.next ≤ s1.next) (d : FDis q p) : Gr s2 z q ys :=
 (h.lift (s' := s1) hg hn).other g d
end Go.AE
namespace Go.AE
variable {P : Program} {ops : Array Oper} {t : VTm} {s s' : VSt} {o : Oper} {x y : Operand}
def zCR (limit : Int) (keys : List GRow) (key : GRow) : Option (List GRow) :=
 match hitOf keys key with
 | some _ => some keys
 | none => if (keys.length : Int) = limit then none else some (keys ++ [key])
def tabF (limit : Int) (rows : List GRow) : Option (List GRow) := rows.foldlM (zCR limit) []
theorem addKey_len {limit : Int} {keys keys' : List GRow} {key : GRow} (h : zCR limit keys key = some keys') : keys'.length ≤ keys.length + 1 ∧ ∀ r ∈ keys', r ∈ keys ∨ r = key := by
 unfold zCR at h
 split at h
 ·obtain rfl : keys = keys' := by simpa using h
  exact ⟨by omega, fun r hr => .inl hr⟩
 ·split at h
  ·cases h
  ·obtain rfl : keys ++ [key] = keys' := by simpa using h
   exact ⟨by simp, fun r hr => by simpa using hr⟩
theorem find_res {n0 : Nat} {b m : Nat} {keys : List GRow} {pk pi : PV} {es : List (Int × PV)} (hT : Tab n0 s b m keys pk pi es) (hn0 : n0 ≤ s.next) {key : GRow} {limit : Int} {p : PV} (h : FindPost n0 s b m keys key limit p s') :
    ∃ i : Int, p = .sc (.int .i64 i) ∧ (0 ≤ i → ∃ keys' pk' pi' es', zCR limit keys key = some keys' ∧ Tab n0 s' b m keys' pk' pi' es' ∧ Ext0 (s.to n0) s') ∧ (¬ 0 ≤ i → zCR limit keys key = none ∧ (keys.length : Int) = limit ∧ Tab n0 s' b m keys pk pi es ∧ Ext0 (s.to n0) s') := by
 unfold FindPost at h
 have ext : ∀ n, s.next ≤ n → Ext0 (s.to n0) (s.to n) := fun n hn => ⟨Nat.le_trans hn0 hn, fun _ _ => rfl, fun _ _ => rfl, fun _ _ => rfl, fun _ _ => rfl⟩
 split at h
 ·rename_i i hi
  obtain ⟨rfl, n, hn, rfl⟩ := h
  exact ⟨i, rfl, fun _ => ⟨keys, pk, pi, es, by unfold zCR; rw [hi], hT.to hn, ext n hn⟩, fun g => absurd (Int.natCast_nonneg i) g⟩
 ·rename_i hi
  split at h
  ·rename_i hl
   obtain ⟨rfl, n, hn, rfl⟩ := h
   exact ⟨-1, rfl, fun g => absurd g (by decide), fun _ => ⟨by unfold zCR; rw [hi]; dsimp only; rw [if_pos hl], hl, hT.to hn, ext n hn⟩⟩
  ·rename_i hl
   obtain ⟨rfl, pk', pi', es', h1, h2⟩ := h
   exact ⟨keys.length, rfl, fun _ => ⟨keys ++ [key], pk', pi', es', by unfold zCR; rw [hi]; dsimp only; rw [if_neg hl], h1, h2⟩, fun g => absurd (Int.natCast_nonneg _) g⟩
theorem foldlM_take_succ {limit : Int} {rows keys : List GRow} {j : Nat} (hj : j < rows.length) (h : (rows.take j).foldlM (zCR limit) [] = some keys) : (rows.take (j + 1)).foldlM (zCR limit) [] = zCR limit keys rows[j] := by
 rw [List.take_succ_eq_append_getElem hj, List.foldlM_append, h]
 simp [List.foldlM]
theorem tabF_none {limit : Int} {rows : List GRow} {j : Nat} (h : (rows.take j).foldlM (zCR limit) [] = none) : tabF limit rows = none := by
 unfold tabF
 conv => lhs; rw [← List.take_append_drop j rows]
 rw [List.foldlM_append, h]
 rfl
def catN (g : Nat → List GRow × Int) : Nat → List GRow × Int
 | 0 => ([], 0)
 | j + 1 => ((catN g j).1 ++ (g j).1, (catN g j).2 + (g j).2)
def bkt (depth : Int) (r : GRow) : Nat := (zC0 (IntKind.u64.wrap (20 + depth)) r).toNat % 8
def part (depth : Int) (rows : List GRow) (i : Nat) : List GRow := rows.filter fun r => bkt depth r == i
def zB9 (mem : Int) : Nat → List GRow → List GRow × Int
 | 0, rows => ((tabF (-1) rows).getD [], 0)
 | fu + 1, rows => match tabF mem rows with
  | some ks => (ks, 0)
  | none => ((catN (fun i => zB9 mem fu (part (4 - ((fu + 1 : Nat) : Int)) rows i)) 8).1, (rows.length : Int) + (catN (fun i => zB9 mem fu (part (4 - ((fu + 1 : Nat) : Int)) rows i)) 8).2)
def limF (mem : Int) (fu : Nat) : Int := if (4 - (fu : Int)) = 4 then -1 else mem
theorem limF_4 {mem : Int} {fu : Nat} (h : (4 - (fu : Int)) = 4) : limF mem fu = -1 := if_pos h
theorem limF_n {mem : Int} {fu : Nat} (h : ¬ (4 - (fu : Int)) = 4) : limF mem fu = mem := if_neg h
theorem distF_some {mem : Int} {fu : Nat} {rows ks : List GRow} (h : tabF (limF mem fu) rows = some ks) : zB9 mem fu rows = (ks, 0) := by
 cases fu with
 | zero => rw [limF_4 (by simp)] at h; unfold zB9; rw [h]; rfl
 | succ f => rw [limF_n (by omega)] at h; unfold zB9; rw [h]
theorem distF_none {mem : Int} {fu : Nat} {rows : List GRow} (h : tabF (limF mem (fu + 1)) rows = none) :
    zB9 mem (fu + 1) rows = ((catN (fun i => zB9 mem fu (part (4 - ((fu + 1 : Nat) : Int)) rows i)) 8).1, (rows.length : Int) + (catN (fun i => zB9 mem fu (part (4 - ((fu + 1 : Nat) : Int)) rows i)) 8).2) := by
 rw [limF_n (by omega)] at h; rw [zB9]; rw [h]
def bud : Nat → Int
 | 0 => 0
 | f + 1 => 1000000 + 8 * bud f
theorem bud_nn : ∀ f, 0 ≤ bud f
 | 0 => by decide
 | f + 1 => by have := bud_nn f; unfold bud; omega
theorem catN_bound {g : Nat → List GRow × Int} {B : Int} (hg : ∀ i, 0 ≤ (g i).2 ∧ (g i).2 ≤ B) : ∀ j : Nat, 0 ≤ (catN g j).2 ∧ (catN g j).2 ≤ (j : Int) * B
 | 0 => by simp [catN]
 | j + 1 => by
  have h1 := catN_bound hg j
  have h2 := hg j
  have e : ((j + 1 : Nat) : Int) * B = (j : Int) * B + B := by rw [Int.natCast_succ, Int.add_mul, Int.one_mul]
  rw [e]
  show 0 ≤ (catN g j).2 + (g j).2 ∧ (catN g j).2 + (g j).2 ≤ _
  omega
theorem part_len (d : Int) (rows : List GRow) (i : Nat) : (part d rows i).length ≤ rows.length := List.length_filter_le _ _
theorem dist_bound (mem : Int) : ∀ (fu : Nat) (rows : List GRow), rows.length ≤ 1000000 → 0 ≤ (zB9 mem fu rows).2 ∧ (zB9 mem fu rows).2 ≤ bud fu
 | 0, rows, h => by simp [zB9, bud]
 | fu + 1, rows, h => by
  have hb := bud_nn fu
  rw [zB9]
  split
  ·dsimp only; unfold bud; omega
  ·dsimp only
   have := catN_bound (g := fun i => zB9 mem fu (part (4 - ((fu + 1 : Nat) : Int)) rows i)) (fun i => dist_bound mem fu _ (Nat.le_trans (part_len _ _ i) h)) 8
   unfold bud
   omega
theorem Ext0.trTo {s s1 s2 : VSt} (h : Ext0 s s1) (k : Ext0 (s1.to s.next) s2) : Ext0 s s2 :=
 ⟨k.next, fun b hb => (k.mem b hb).trans (h.mem b hb), fun b hb => (k.maps b hb).trans (h.maps b hb), fun b hb => (k.grow b hb).trans (h.grow b hb), fun b hb => (k.fo b hb).trans (h.fo b hb)⟩
theorem Ext0.setBoth {s s1 : VSt} (b : Nat) (cs : List PV) (h : Ext0 s s1) : Ext0 (s.setMem b cs) (s1.setMem b cs) :=
 ⟨h.next, fun x hx => by unfold VSt.setMem; dsimp only; split; rfl; exact h.mem x hx, h.maps, h.grow, h.fo⟩
theorem Ext0.setOver {s s1 s2 : VSt} {b : Nat} {c1 c2 : List PV} (h : Ext0 (s.setMem b c1) s1) (hb : b < s.next) (k : Ext0 (s1.setMem b c2) s2) : Ext0 (s.setMem b c2) s2 := by
 refine ⟨Nat.le_trans h.next k.next, fun x hx => ?_, fun x hx => (k.maps x (Nat.lt_of_lt_of_le hx h.next)).trans (h.maps x hx), fun x hx => (k.grow x (Nat.lt_of_lt_of_le hx h.next)).trans (h.grow x hx), fun x hx => (k.fo x (Nat.lt_of_lt_of_le hx h.next)).trans (h.fo x hx)⟩
 rw [k.mem x (Nat.lt_of_lt_of_le hx h.next)]
 have := h.mem x hx
 unfold VSt.setMem at this ⊢
 dsimp only at this ⊢
 split
 ·rfl
 ·rename_i hne; rw [if_neg hne] at this; exact this
theorem setMem_same {b : Nat} {cs : List PV} (hm : s.mem b = some cs) : s.setMem b cs = s := by
 unfold VSt.setMem
 cases s with
 | mk n m a g fo =>
  dsimp only at hm ⊢
  congr 1
  funext x
  by_cases hx : x = b
  ·rw [if_pos hx, hx, hm]
  ·rw [if_neg hx]
theorem Gr.ext {z : Nat} {p : PV} {xs : List (List PV)} (h : Gr s z p xs) (g : ∀ f, f < s.next → s'.grow f = s.grow f) (hn : s.next ≤ s'.next) : Gr s' z p xs := by
 cases h with
 | nil => exact .nil
 | gl h1 h2 h3 => exact .gl (by rw [g _ h2]; exact h1) (Nat.lt_of_lt_of_le h2 hn) h3
theorem Gr.ext0 {b z : Nat} {cs : List PV} {p : PV} {xs : List (List PV)} (h : Gr s z p xs) (g : Ext0 (s.setMem b cs) s') : Gr s' z p xs := h.ext g.grow g.next
structure Parts (n0 : Nat) (s : VSt) (b : Nat) (f : Nat → PV) (F : Nat → List GRow) : Prop where
 mem : s.mem b = some ((List.range 8).map f)
 hb : n0 ≤ b ∧ b < s.next
 gr : ∀ i, Gr s 1 (f i) ((F i).map zCZ)
 fam : ∀ i, FamGe n0 (f i)
 dis : ∀ i j, i ≠ j → FDis (f i) (f j)
def nilPV : PV := .sc (.slice none 0 0)
theorem Parts.new {n0 b : Nat} (hm : s.mem b = some [nilPV, nilPV, nilPV, nilPV, nilPV, nilPV, nilPV, nilPV]) (hb : n0 ≤ b ∧ b < s.next) {F : Nat → List GRow} (hF : ∀ i, F i = []) : Parts n0 s b (fun _ => nilPV) F :=
 ⟨hm, hb, fun i => by rw [hF i]; exact .nil, fun _ => .nil, fun _ _ _ => .nil_l⟩
def updP (f : Nat → PV) (i : Nat) (p : PV) : Nat → PV := fun k => if k = i then p else f k
theorem part_get {f : Nat → PV} {i : Nat} (hi : i < 8) : ((List.range 8).map f)[0 + i * 1]? = some (f i) := by
 simp [hi]
theorem set_upd {f : Nat → PV} {i : Nat} {p : PV} (hi : i < 8) : ((List.range 8).map f).set (0 + i * 1) p = (List.range 8).map (updP f i p) := by
 apply List.ext_getElem
 ·simp
 ·intro k h1 h2
  simp only [List.getElem_set, List.getElem_map, List.getElem_range, updP]
  by_cases e : k = i
  ·subst e; simp
  ·rw [if_neg (by omega), if_neg e]
theorem Parts.to {n0 n b : Nat} {f : Nat → PV} {F : Nat → List GRow} (h : Parts n0 s b f F) (hn : s.next ≤ n) : Parts n0 (s.to n) b f F :=
 ⟨h.mem, ⟨h.hb.1, Nat.lt_of_lt_of_le h.hb.2 hn⟩, fun i => (h.gr i).lift rfl hn, h.fam, h.dis⟩
theorem Parts.snoc {n0 n1 b i : Nat} {f : Nat → PV} {F F' : Nat → List GRow} {r : GRow} {p : PV} {s1 : VSt} (h : Parts n0 s b f F) (hn1 : s.next ≤ n1) (hi : i < 8) (g : Grew (s.to n1) 1 (f i) ((F i).map zCZ ++ [zCZ r]) p s1)
    (hF : ∀ k, F' k = if k = i then F i ++ [r] else F k) : Parts n0 (s1.setMem b (((List.range 8).map f).set (0 + i * 1) p)) b (updP f i p) F' := by
 have h1 := h.to hn1
 have hn := g.next
 refine ⟨?_, ⟨h.hb.1, Nat.lt_of_lt_of_le h1.hb.2 hn⟩, fun k => ?_, fun k => ?_, fun k j hkj => ?_⟩
 ·rw [set_upd hi]; unfold VSt.setMem; dsimp only; rw [if_pos rfl]
 ·rw [hF k]
  by_cases e : k = i
  ·rw [if_pos e]; simp only [updP, if_pos e, List.map_append, List.map_cons, List.map_nil]
   exact g.gr.lift rfl (Nat.le_refl _)
  ·rw [if_neg e]; simp only [updP, if_neg e]
   exact ((h1.gr k).other g (h1.dis k i e)).lift rfl (Nat.le_refl _)
 ·by_cases e : k = i
  ·simp only [updP, if_pos e]; exact (h1.fam i).grew g (Nat.le_trans h.hb.1 (Nat.le_of_lt h1.hb.2))
  ·simp only [updP, if_neg e]; exact h1.fam k
 ·by_cases e : k = i
  ·have ej : ¬ j = i := fun h => hkj (e.trans h.symm)
   simp only [updP, if_pos e, if_neg ej]
   exact (FDis.grew (h1.gr j) g (h1.dis j i ej)).symm
  ·by_cases ej : j = i
   ·simp only [updP, if_neg e, if_pos ej]; exact FDis.grew (h1.gr k) g (h1.dis k i e)
   ·simp only [updP, if_neg e, if_neg ej]; exact h1.dis k j hkj
theorem part_succ {d : Int} {rows : List GRow} {j : Nat} (hj : j < rows.length) (k : Nat) : part d (rows.take (j + 1)) k = if k = bkt d rows[j] then part d (rows.take j) (bkt d rows[j]) ++ [rows[j]] else part d (rows.take j) k := by
 unfold part
 rw [List.take_succ_eq_append_getElem hj, List.filter_append]
 by_cases e : k = bkt d rows[j]
 ·subst e; simp
 ·rw [if_neg e]
  have : ¬ bkt d rows[j] = k := fun h => e h.symm
  simp [this]
def DistPost (s : VSt) (b k : Nat) (cs : List PV) (n : Int) (R : List GRow × Int) (p : PV) (s' : VSt) : Prop :=
 Gr s' 1 p (R.1.map zCZ) ∧ Ext0 (s.setMem b (cs.set k (.sc (.int .i64 (n + R.2))))) s'
abbrev distG (mem : Int) (f : Nat) (d : Int) (rows : List GRow) : Nat → List GRow × Int := fun i => zB9 mem f (part d rows i)
theorem part_get' {f : Nat → PV} {i : Nat} (hi : i < 8) : ((List.range 8).map f)[i]? = some (f i) := by simp [hi]
def lb : Nat → Nat
 | 0 => 1000000
 | f + 1 => 8 * lb f + 1000000
theorem lb3 {f : Nat} (h : f ≤ 3) : lb f ≤ 4000000000 := by
 rcases f with _ | _ | _ | _ | f
 ·decide
 ·decide
 ·decide
 ·decide
 ·omega
theorem fold_len {limit : Int} : ∀ (rows : List GRow) (k0 ks : List GRow), rows.foldlM (zCR limit) k0 = some ks → ks.length ≤ k0.length + rows.length
 | [], k0, ks, h => by obtain rfl : k0 = ks := by simpa [List.foldlM] using h
                       simp
 | r :: rs, k0, ks, h => by
  rw [List.foldlM_cons] at h
  cases e : zCR limit k0 r with
  | none => rw [e] at h; cases h
  | some k1 =>
   rw [e] at h
   have := fold_len rs k1 ks h
   have := (addKey_len e).1
   simp; omega
theorem catN_len {g : Nat → List GRow × Int} {B : Nat} (hg : ∀ i, (g i).1.length ≤ B) : ∀ j : Nat, (catN g j).1.length ≤ j * B
 | 0 => by simp [catN]
 | j + 1 => by
  have h1 := catN_len hg j
  have h2 := hg j
  show ((catN g j).1 ++ (g j).1).length ≤ _
  rw [List.length_append, Nat.succ_mul]; omega
theorem dist_len (mem : Int) : ∀ (fu : Nat) (rows : List GRow), rows.length ≤ 1000000 → (zB9 mem fu rows).1.length ≤ lb fu
 | 0, rows, h => by
  unfold zB9
  cases e : tabF (-1) rows with
  | none => simp [lb]
  | some ks => have := fold_len rows [] ks e; simp [lb] at this ⊢; omega
 | fu + 1, rows, h => by
  rw [zB9]
  split
  ·rename_i ks e; have := fold_len rows [] ks e; simp [lb] at this ⊢; omega
  ·dsimp only
   have := catN_len (g := fun i => zB9 mem fu (part (4 - ((fu + 1 : Nat) : Int)) rows i)) (fun i => dist_len mem fu _ (Nat.le_trans (part_len _ _ i) h)) 8
   simp only [lb]; omega
def RowsOk (rows : List GRow) : Prop := ∀ r ∈ rows, r.length ≤ 1000000 ∧ (∀ v ∈ r, v.text.size ≤ 1000000) ∧ (∀ v ∈ r, ValZ v)
theorem RowsOk.part {rows : List GRow} (h : RowsOk rows) (d : Int) (i : Nat) : RowsOk (part d rows i) := fun r hr => h r (List.mem_filter.1 hr).1
def DistOK (P : Program) (mem : Int) (fu : Nat) : Prop := ∀ (s : VSt) (b k : Nat) (cs : List PV) (n : Int) (rows : List GRow), b < s.next → s.mem b = some cs → k < cs.length → cs[k]? = some (zAX n) → 0 ≤ n → n + bud fu ≤ 4611686018427387904 → rows.length ≤ 1000000 → RowsOk rows →
 VCall P 23 [zBK rows, zAX mem, zAX (4 - (fu : Int)), .pt b k] s (DistPost s b k cs n (zB9 mem fu rows))
theorem set_same {b k : Nat} {cs : List PV} {p : PV} (hm : s.mem b = some cs) (hc : cs[k]? = some p) : s.setMem b (cs.set k p) = s := by
 have : cs.set k p = cs := by
  obtain ⟨h1, h2⟩ := List.getElem?_eq_some_iff.1 hc
  subst h2
  exact List.set_getElem_self h1
 rw [this]; exact setMem_same hm
theorem szr {a : Nat} (h : a ≤ 1000000) : (a + 1) * 24 ≤ 140737488355328 ∧ a + 1 ≤ 140737488355328 := by omega
end Go.AE
namespace Go.AE
variable {P : Program} {ops : Array Oper} {t : VTm} {s s' : VSt} {o : Oper} {x y : Operand}
structure Slots (n0 : Nat) (s : VSt) (f : Nat → PV) (F : Nat → List (List PV)) : Prop where
 gr : ∀ i, Gr s 1 (f i) (F i)
 fam : ∀ i, FamGe n0 (f i)
 dis : ∀ i j, i ≠ j → FDis (f i) (f j)
 hn : n0 ≤ s.next
theorem Slots.nil {n0 : Nat} {F : Nat → List (List PV)} (hF : ∀ i, F i = []) (hn : n0 ≤ s.next) : Slots n0 s (fun _ => nilPV) F :=
 ⟨fun i => by rw [hF i]; exact .nil, fun _ => .nil, fun _ _ _ => .nil_l, hn⟩
theorem Slots.lift {n0 : Nat} {f : Nat → PV} {F : Nat → List (List PV)} (h : Slots n0 s f F) (hg : s'.grow = s.grow) (hn : s.next ≤ s'.next) : Slots n0 s' f F :=
 ⟨fun i => (h.gr i).lift hg hn, h.fam, h.dis, Nat.le_trans h.hn hn⟩
theorem Slots.snoc {n0 i : Nat} {f : Nat → PV} {F : Nat → List (List PV)} {xs : List (List PV)} {p : PV} {s1 s2 : VSt} (h : Slots n0 s f F) (hg : s1.grow = s.grow) (hn : s.next ≤ s1.next) (g : Grew s1 1 (f i) xs p s2) :
    Slots n0 s2 (updP f i p) (fun k => if k = i then xs else F k) := by
 have h1 := h.lift (s' := s1) hg hn
 refine ⟨fun k => ?_, fun k => ?_, fun k j hkj => ?_, Nat.le_trans h1.hn g.next⟩
 ·by_cases e : k = i
  ·simp only [updP, if_pos e]; exact g.gr
  ·simp only [updP, if_neg e]; exact (h1.gr k).other g (h1.dis k i e)
 ·by_cases e : k = i
  ·simp only [updP, if_pos e]; exact (h1.fam i).grew g h1.hn
  ·simp only [updP, if_neg e]; exact h1.fam k
 ·by_cases e : k = i
  ·have ej : ¬ j = i := fun h => hkj (e.trans h.symm)
   simp only [updP, if_pos e, if_neg ej]
   exact (FDis.grew (h1.gr j) g (h1.dis j i ej)).symm
  ·by_cases ej : j = i
   ·simp only [updP, if_neg e, if_pos ej]; exact FDis.grew (h1.gr k) g (h1.dis k i e)
   ·simp only [updP, if_neg e, if_neg ej]; exact h1.dis k j hkj
theorem Slots.congr {n0 : Nat} {f f' : Nat → PV} {F F' : Nat → List (List PV)} (h : Slots n0 s f F) (e : ∀ k, f' k = f k) (e' : ∀ k, F' k = F k) : Slots n0 s f' F' := by
 have : f' = f := funext e
 have : F' = F := funext e'
 subst_vars; exact h
def pushF (F : Nat → List (List PV)) (c : Nat) (ty : Int) (x : GVal) : Nat → List (List PV) := fun k =>
 if k = 3 * c + 2 then F k ++ [bCell (decide (x.kind = 0))]
 else if k = 3 * c ∧ (ty = 1 ∨ ty = 2) then F k ++ [iCell x.int]
 else if k = 3 * c + 1 ∧ ty = 3 then F k ++ [tCell x.text]
 else F k
def PushPost (n0 : Nat) (s : VSt) (f : Nat → PV) (F : Nat → List (List PV)) (c : Nat) (ty : Int) (x : GVal) (p : PV) (s' : VSt) : Prop :=
 ∃ f', p = .ag [zAX ty, f' (3 * c), f' (3 * c + 1), f' (3 * c + 2)] ∧ Slots n0 s' f' (pushF F c ty x) ∧ (∀ k, k / 3 ≠ c → f' k = f k) ∧ Ext0 (s.to n0) s'
theorem updP_same {f : Nat → PV} {i : Nat} {p : PV} : updP f i p i = p := by simp [updP]
theorem zDP {f : Nat → PV} {i k : Nat} {p : PV} (h : k ≠ i) : updP f i p k = f k := by simp [updP, h]
theorem Slots.snoc' {n0 i : Nat} {f : Nat → PV} {F : Nat → List (List PV)} {xs : List (List PV)} {p q : PV} {s1 s2 : VSt} (h : Slots n0 s f F) (g : Grew s1 1 q xs p s2) (e : f i = q) (hg : s1.grow = s.grow) (hn : s.next ≤ s1.next) :
    Slots n0 s2 (updP f i p) (fun k => if k = i then xs else F k) := by subst e; exact h.snoc hg hn g
theorem push_ret {n0 c : Nat} {ty : Int} {x : GVal} {f : Nat → PV} {F : Nat → List (List PV)} {p3 : PV} {s0 : VSt} (h : Slots n0 s (updP f (3 * c + 2) p3) (fun k => if k = 3 * c + 2 then F (3 * c + 2) ++ [bCell (decide (x.kind = 0))] else F k)) (h1 : ¬ ty = 1) (h2 : ¬ ty = 2) (h3 : ¬ ty = 3) (hg : s'.grow = s.grow) (hn : s.next ≤ s'.next) (hE : Ext0 (s0.to n0) s') :
    PushPost n0 s0 f F c ty x (.ag [zAX ty, f (3 * c), f (3 * c + 1), p3]) s' := by
 refine ⟨updP f (3 * c + 2) p3, ?_, (h.congr (fun _ => rfl) fun k => ?_).lift hg hn, fun k hk => zDP fun e => hk (by omega), hE⟩
 ·rw [updP_same, zDP (by omega), zDP (by omega)]
 ·unfold pushF
  by_cases e : k = 3 * c + 2
  ·rw [if_pos e, if_pos e, e]
  ·rw [if_neg e, if_neg e, if_neg (by omega), if_neg (by omega)]
theorem push_reti {n0 c : Nat} {ty : Int} {x : GVal} {f : Nat → PV} {F : Nat → List (List PV)} {p3 p1 : PV} {s0 : VSt} (h : Slots n0 s (updP (updP f (3 * c + 2) p3) (3 * c) p1) (fun k => if k = 3 * c then F (3 * c) ++ [iCell x.int] else if k = 3 * c + 2 then F (3 * c + 2) ++ [bCell (decide (x.kind = 0))] else F k)) (h1 : ty = 1 ∨ ty = 2) (hg : s'.grow = s.grow) (hn : s.next ≤ s'.next) (hE : Ext0 (s0.to n0) s') :
    PushPost n0 s0 f F c ty x (.ag [zAX ty, p1, f (3 * c + 1), p3]) s' := by
 refine ⟨updP (updP f (3 * c + 2) p3) (3 * c) p1, ?_, (h.congr (fun _ => rfl) fun k => ?_).lift hg hn, fun k hk => ?_, hE⟩
 ·rw [updP_same, zDP (by omega), zDP (by omega), zDP (by omega), updP_same]
 ·unfold pushF
  by_cases e : k = 3 * c + 2
  ·rw [if_pos e, if_neg (by omega), if_pos e, e]
  ·rw [if_neg e]
   by_cases e2 : k = 3 * c
   ·rw [if_pos ⟨e2, h1⟩, if_pos e2, e2]
   ·rw [if_neg (fun q => e2 q.1), if_neg (by rintro ⟨_, q⟩; omega), if_neg e2, if_neg e]
 ·rw [zDP (fun e => hk (by omega)), zDP (fun e => hk (by omega))]
theorem push_rett {n0 c : Nat} {ty : Int} {x : GVal} {f : Nat → PV} {F : Nat → List (List PV)} {p3 p2 : PV} {s0 : VSt} (h : Slots n0 s (updP (updP f (3 * c + 2) p3) (3 * c + 1) p2) (fun k => if k = 3 * c + 1 then F (3 * c + 1) ++ [tCell x.text] else if k = 3 * c + 2 then F (3 * c + 2) ++ [bCell (decide (x.kind = 0))] else F k)) (h3 : ty = 3) (hg : s'.grow = s.grow) (hn : s.next ≤ s'.next) (hE : Ext0 (s0.to n0) s') :
    PushPost n0 s0 f F c ty x (.ag [zAX ty, f (3 * c), p2, p3]) s' := by
 refine ⟨updP (updP f (3 * c + 2) p3) (3 * c + 1) p2, ?_, (h.congr (fun _ => rfl) fun k => ?_).lift hg hn, fun k hk => ?_, hE⟩
 ·rw [updP_same, zDP (by omega), zDP (by omega), zDP (by omega), updP_same]
 ·unfold pushF
  by_cases e : k = 3 * c + 2
  ·rw [if_pos e, if_neg (by omega), if_pos e, e]
  ·rw [if_neg e, if_neg (by rintro ⟨_, q⟩; omega)]
   by_cases e2 : k = 3 * c + 1
   ·rw [if_pos ⟨e2, h3⟩, if_pos e2, e2]
   ·rw [if_neg (fun q => e2 q.1), if_neg e2, if_neg e]
 ·rw [zDP (fun e => hk (by omega)), zDP (fun e => hk (by omega))]
end Go.AE
namespace Go.AE
variable {P : Program} {ops : Array Oper} {t : VTm} {s s' : VSt} {o : Oper} {x y : Operand}
def colRow (ty : Int) (f : Nat → PV) (c : Nat) : List PV := [zAX ty, f (3 * c), f (3 * c + 1), f (3 * c + 2)]
def zBY (types : List Int) (f : Nat → PV) : List (List PV) := (List.range types.length).map fun c => colRow ((types[c]?).getD 0) f c
theorem colRows_len {types : List Int} {f : Nat → PV} : (zBY types f).length = types.length := by simp [zBY]
theorem colRows_size {types : List Int} {f : Nat → PV} : ∀ r ∈ zBY types f, r.length = 4 := fun r hr => by
 obtain ⟨c, _, rfl⟩ := List.mem_map.1 hr; rfl
theorem colRows_get {types : List Int} {f : Nat → PV} {c : Nat} (hc : c < types.length) : (zBY types f)[c]? = some (colRow types[c] f c) := by
 simp [zBY, hc]
theorem colRows_start (types : List Int) : types.map (fun t => [zAX t, nilPV, nilPV, nilPV]) = zBY types (fun _ => nilPV) := by
 apply List.ext_getElem
 ·simp [zBY]
 ·intro i h1 h2
  have hi : i < types.length := by simpa using h1
  simp [zBY, colRow, hi]
theorem colRows_splice {types : List Int} {f f' : Nat → PV} {c : Nat} (hc : c < types.length) (h : ∀ k, k / 3 ≠ c → f' k = f k) : splice (zBY types f).flatten (c * 4) (colRow types[c] f' c) = (zBY types f').flatten := by
 have hL : c < (zBY types f).length := by rw [colRows_len]; exact hc
 have e0 : ∀ g : Nat → PV, zBY types g = (zBY types g).take c ++ (colRow types[c] g c :: (zBY types g).drop (c + 1)) := fun g => by
  have hL' : c < (zBY types g).length := by rw [colRows_len]; exact hc
  have e : (zBY types g)[c] = colRow types[c] g c := by
   have := colRows_get (f := g) hc
   rw [List.getElem?_eq_getElem hL'] at this
   exact Option.some.inj this
  rw [← e, ← List.drop_eq_getElem_cons hL', List.take_append_drop]
 have rowEq : ∀ c', c' ≠ c → ∀ ty, colRow ty f' c' = colRow ty f c' := fun c' hne ty => by
  unfold colRow
  rw [h (3 * c') (by omega), h (3 * c' + 1) (by omega), h (3 * c' + 2) (by omega)]
 have e1 : (zBY types f').take c = (zBY types f).take c := by
  apply List.ext_getElem
  ·simp [zBY]
  ·intro i h1 h2
   have hi : i < c := by simp at h1; omega
   simp only [List.getElem_take, zBY, List.getElem_map, List.getElem_range]
   exact rowEq i (by omega) _
 have e2 : (zBY types f').drop (c + 1) = (zBY types f).drop (c + 1) := by
  apply List.ext_getElem
  ·simp [zBY]
  ·intro i h1 h2
   simp only [List.getElem_drop, zBY, List.getElem_map, List.getElem_range]
   exact rowEq _ (by omega) _
 rw [e0 f, e0 f', e1, e2]
 simp only [List.flatten_append, List.flatten_cons]
 have hpl : ((zBY types f).take c).flatten.length = c * 4 := by
  rw [zDX (z := 4) _ fun r hr => colRows_size r (List.mem_of_mem_take hr), List.length_take, Nat.min_eq_left (by omega)]
 rw [← hpl]
 exact splice_mid _ _ _ _ rfl
def colCell (ty : Int) (r : Nat) (vs : List GVal) : List (List PV) :=
 if r = 2 then vs.map fun x => bCell (decide (x.kind = 0))
 else if r = 0 ∧ (ty = 1 ∨ ty = 2) then vs.map fun x => iCell x.int
 else if r = 1 ∧ ty = 3 then vs.map fun x => tCell x.text
 else []
def cellsF (types : List Int) (cv : Nat → List GVal) : Nat → List (List PV) := fun k => colCell ((types[k / 3]?).getD 0) (k % 3) (cv (k / 3))
theorem cellsF_push {types : List Int} {cv : Nat → List GVal} {c : Nat} (hc : c < types.length) (x : GVal) (k : Nat) : cellsF types (fun c' => if c' = c then cv c ++ [x] else cv c') k = pushF (cellsF types cv) c types[c] x k := by
 unfold pushF cellsF
 dsimp only
 by_cases h : k / 3 = c
 ·have e : (types[k / 3]?).getD 0 = types[c] := by rw [h, List.getElem?_eq_getElem hc]; rfl
  rw [e, if_pos h, h]
  have q2 : (k = 3 * c + 2) = (k % 3 = 2) := propext ⟨fun _ => by omega, fun _ => by omega⟩
  have q1 : (k = 3 * c + 1) = (k % 3 = 1) := propext ⟨fun _ => by omega, fun _ => by omega⟩
  have q0 : (k = 3 * c) = (k % 3 = 0) := propext ⟨fun _ => by omega, fun _ => by omega⟩
  simp only [q0, q1, q2]
  unfold colCell
  by_cases h2 : k % 3 = 2
  ·simp only [if_pos h2, List.map_append, List.map_cons, List.map_nil]
  ·simp only [if_neg h2]
   by_cases h0 : k % 3 = 0 ∧ (types[c] = 1 ∨ types[c] = 2)
   ·simp only [if_pos h0, List.map_append, List.map_cons, List.map_nil]
   ·simp only [if_neg h0]
    by_cases h1 : k % 3 = 1 ∧ types[c] = 3
    ·simp only [if_pos h1, List.map_append, List.map_cons, List.map_nil]
    ·simp only [if_neg h1]
 ·rw [if_neg h, if_neg (by omega), if_neg (fun q => by omega), if_neg (fun q => by omega)]
def cvP (n : Nat) (rows : List GRow) (j i c : Nat) : List GVal :=
 if c < n then (rows.take j).map (fun r => (r[c]?).getD zv) ++ (if c < i then [((((rows[j]?).getD [])[c]?).getD zv)] else []) else []
theorem cvP_zero {n : Nat} {rows : List GRow} (c : Nat) : cvP n rows 0 0 c = [] := by simp [cvP]
theorem cvP_succ {n : Nat} {rows : List GRow} {j i : Nat} (hi : i < n) (hj : j < rows.length) (hr : rows[j].length = n) (c : Nat) : cvP n rows j (i + 1) c = if c = i then cvP n rows j i i ++ [rows[j][i]'(by omega)] else cvP n rows j i c := by
 unfold cvP
 by_cases e : c = i
 ·subst e
  rw [if_pos hi, if_pos rfl, if_pos hi, if_pos (Nat.lt_succ_self _), if_neg (Nat.lt_irrefl _), List.append_nil, List.getElem?_eq_getElem hj]
  congr 2
  simp [hr, hi]
 ·rw [if_neg e]
  by_cases hc : c < n
  ·rw [if_pos hc, if_pos hc]
   congr 1
   by_cases h : c < i
   ·rw [if_pos h, if_pos (by omega)]
   ·rw [if_neg h, if_neg (by omega)]
  ·rw [if_neg hc, if_neg hc]
theorem cvP_row {n : Nat} {rows : List GRow} {j : Nat} (hj : j < rows.length) (c : Nat) : cvP n rows (j + 1) 0 c = cvP n rows j n c := by
 unfold cvP
 by_cases hc : c < n
 ·rw [if_pos hc, if_pos hc, if_pos hc, if_neg (Nat.not_lt_zero _), List.append_nil, List.take_succ_eq_append_getElem hj, List.map_append, List.getElem?_eq_getElem hj]
  rfl
 ·rw [if_neg hc, if_neg hc]
def colV (ty : Int) (vs : List GVal) : GVec := ⟨ty, if ty = 1 ∨ ty = 2 then vs.map GVal.int else [], if ty = 3 then vs.map GVal.text else [], vs.map fun x => decide (x.kind = 0)⟩
def zDS (types : List Int) (rows : List GRow) : GBatch := ⟨(List.range types.length).map fun c => colV ((types[c]?).getD 0) (rows.map fun r => (r[c]?).getD zv), rows.length, true, []⟩
theorem vgiveA {l : List Oper} {Q : VTm → VSt → Prop} {k b z n c : Nat} {rows : List (List PV)} {rest : List PV} {q : PV} (hk : t.m k = .ag (.ms b 0 n c :: rest)) (hm : s.mem b = some rows.flatten) (hr : ∀ r ∈ rows, r.length = z) (hn : n = rows.length) (hc : CapOk z n c) (hq : PWk (.sl z rows) q)
    (h : VSeq P ops l (t.set k (.ag (q :: rest))) (s.drop b) Q) : VSeq P ops l t s Q := fun k0 hk0 H T hs ht => by
 have hs2 : SatV (s.drop b) H := satV_sub hs (vsub_drop s b)
 have ht2 : TmV H (Own' (s.drop b)) (t.set k (.ag (q :: rest))) T := ⟨ht.1, fun j => by
  rw [VTm.set_m]
  by_cases e : j = k
  ·subst e
   rw [if_pos rfl]
   have := ht.2 j
   rw [hk] at this
   generalize hv : (T.m.get j).getD undef = v at this ⊢
   cases this with
   | ag g1 g2 =>
    refine .ag (by simpa using g1) fun i x u hx hu => ?_
    cases i with
    | zero =>
     simp only [List.getElem?_cons_zero, Option.some.injEq] at hx
     subst hx
     exact hq (dv_give hs hm hr hn hc (g2 0 _ u rfl hu))
    | succ i => exact (g2 (i + 1) x u (by simpa using hx) hu).less hs.wf fun f q => zCN q
  ·rw [if_neg e]; exact (ht.2 j).less hs.wf fun f q => zCN q⟩
 have := h k0 hk0 hs2 ht2
 intro R a w μ ha hta hd hR
 exact this ha hta hd fun T' H' a' w' μ' ⟨t', s', q, hs', ht', hf'⟩ => hR T' H' a' w' μ' ⟨t', s', q, hs', ht',
  ⟨hf'.keep.weaken hs.wf fun f _ q => zCN q, hf'.next, fun f hlt ho => zCN (hf'.own f hlt ho)⟩⟩
theorem pwk_slm {z : Nat} {xs ys : List (List PV)} (hl : xs.length = ys.length) (hz : ∀ r ∈ ys, r.length = z) (h : ∀ (i j : Nat) (r q : List PV) (x y : PV), xs[i]? = some r → ys[i]? = some q → r[j]? = some x → q[j]? = some y → PWk x y) : PWk (.sl z xs) (.sl z ys) := fun H X v hv => by
 have back : ∀ {cell : Nat → Option Value} {off : Nat} {u : Nat → Nat → Value}, Cells z xs cell off u → ∀ (i j : Nat) (q : List PV) (y : PV), ys[i]? = some q → q[j]? = some y → ∃ r x, xs[i]? = some r ∧ r[j]? = some x := fun hc i j q y h1 h2 => by
  have hi : i < xs.length := by rw [hl]; exact (List.getElem?_eq_some_iff.1 h1).1
  have hj : j < q.length := (List.getElem?_eq_some_iff.1 h2).1
  have hq := hz q (List.mem_of_getElem? h1)
  have hr := hc.size xs[i] (List.getElem_mem _)
  exact ⟨xs[i], xs[i][j]'(by omega), List.getElem?_eq_getElem hi, List.getElem?_eq_getElem _⟩
 cases hv with
 | sn =>
  have : ys = [] := List.length_eq_zero_iff.1 (by rw [← hl]; rfl)
  subst this; exact .sn
 | se =>
  have : ys = [] := List.length_eq_zero_iff.1 (by rw [← hl]; rfl)
  subst this; exact .se
 | @sl _ _ b off n c u h1 h2 h3 h4 =>
  refine .sl (u := u) (by rw [← hl]; exact h1) h2 ⟨hz, fun i j q y q1 q2 => ?_⟩ fun i j q y q1 q2 => ?_
  ·obtain ⟨r, x, r1, r2⟩ := back h3 i j q y q1 q2
   exact h3.get i j r x r1 r2
  ·obtain ⟨r, x, r1, r2⟩ := back h3 i j q y q1 q2
   exact h i j r q x y r1 q1 r2 q2 (h4 i j r x r1 r2)
theorem cvP_full {n : Nat} {rows : List GRow} {c : Nat} (hc : c < n) : cvP n rows rows.length 0 c = rows.map fun r => (r[c]?).getD zv := by
 unfold cvP; rw [if_pos hc, if_neg (Nat.not_lt_zero _), List.append_nil, List.take_length]
theorem from_wk {n0 : Nat} {f : Nat → PV} {types : List Int} {rows : List GRow} (h : Slots n0 s f (cellsF types (cvP types.length rows rows.length 0))) :
    PWk (.sl 4 (zBY types f)) (.sl 4 ((zDS types rows).columns.map GVec.cells)) := by
 refine pwk_slm (by simp [zBY, zDS]) (fun r hr => ?_) fun i j r q x y h1 h2 h3 h4 => ?_
 ·obtain ⟨v, _, rfl⟩ := List.mem_map.1 hr; rfl
 ·have hi : i < types.length := by have := (List.getElem?_eq_some_iff.1 h1).1; rw [colRows_len] at this; exact this
  rw [colRows_get hi] at h1
  cases h1
  have e2 : ((zDS types rows).columns.map GVec.cells)[i]? = some (GVec.cells (colV types[i] (rows.map fun r => (r[i]?).getD zv))) := by
   simp [zDS, hi]
  rw [e2] at h2
  cases h2
  have key : ∀ r, r < 3 → PWk (f (3 * i + r)) (.sl 1 (colCell types[i] r (rows.map fun r => (r[i]?).getD zv))) := fun r hr => by
   have := (h.gr (3 * i + r)).wk
   unfold cellsF at this
   have d1 : (3 * i + r) / 3 = i := by omega
   have d2 : (3 * i + r) % 3 = r := by omega
   rw [d1, d2, cvP_full hi, List.getElem?_eq_getElem hi] at this
   exact this
  rcases j with _ | _ | _ | _ | j
  ·cases h3; cases h4; exact .refl _
  ·cases h3; cases h4
   refine (key 0 (by decide)).trans (.ofEq ?_)
   unfold colCell colV zB8
   by_cases ht : types[i] = 1 ∨ types[i] = 2
   ·simp [ht, Function.comp_def]
   ·simp [ht]
  ·cases h3; cases h4
   refine (key 1 (by decide)).trans (.ofEq ?_)
   unfold colCell colV textsPV
   by_cases ht : types[i] = 3
   ·simp [ht, Function.comp_def]
   ·simp [ht]
  ·cases h3; cases h4
   refine (key 2 (by decide)).trans (.ofEq ?_)
   unfold colCell colV boolsPV
   simp [Function.comp_def]
  ·cases h3
theorem OSl.to {n z : Nat} {p : PV} {xs : List (List PV)} (h : OSl s z p xs) (hn : s.next ≤ n) : OSl (s.to n) z p xs := by
 cases h with
 | nil => exact .nil
 | ms h1 h2 h3 h4 h5 => exact .ms h1 h2 h3 h4 (Nat.lt_of_lt_of_le h5 hn)
theorem OSl.setMem {b z : Nat} {cs : List PV} {p : PV} {xs : List (List PV)} (h : OSl s z p xs) (hb : ∀ x n c, p = .ms x 0 n c → b < x) : OSl (s.setMem b cs) z p xs := by
 cases h with
 | nil => exact .nil
 | @ms x n rows h1 h2 h3 h4 h5 =>
  refine .ms ?_ h2 h3 h4 h5
  have := hb x _ _ rfl
  show (if x = b then _ else _) = _
  rw [if_neg (by omega)]; exact h1
theorem OGrew.one {z : Nat} {p p' : PV} {xs : List (List PV)} {s' : VSt} (g : OGrew s z p xs p' s') : p'.cells = [p'] ∧ p'.flat = true := by
 rw [g.val]; exact ⟨rfl, rfl⟩
theorem OSl.ms_of {z n : Nat} {p : PV} {rows : List (List PV)} (h : OSl s z p rows) (hn : rows.length = n) (hne : n ≠ 0) : ∃ b, p = .ms b 0 n (unk + z) ∧ s.mem b = some rows.flatten ∧ b < s.next := by
 cases h with
 | nil => exact absurd hn.symm hne
 | @ms b m _ h1 h2 h3 h4 h5 => exact ⟨b, by rw [h4, hn], h1, h5⟩
theorem colRows_take {types : List Int} {f : Nat → PV} {c : Nat} (hc : c < types.length) : ((zBY types f).flatten.drop (0 + c * 4)).take 4 = colRow types[c] f c := by
 have hL : c < (zBY types f).length := by rw [colRows_len]; exact hc
 have e : (zBY types f)[c] = colRow types[c] f c := by
  have := colRows_get (f := f) hc
  rw [List.getElem?_eq_getElem hL] at this
  exact Option.some.inj this
 have e0 : zBY types f = (zBY types f).take c ++ (colRow types[c] f c :: (zBY types f).drop (c + 1)) := by
  rw [← e, ← List.drop_eq_getElem_cons hL, List.take_append_drop]
 have hpl : ((zBY types f).take c).flatten.length = c * 4 := by
  rw [zDX (z := 4) _ fun r hr => colRows_size r (List.mem_of_mem_take hr), List.length_take, Nat.min_eq_left (by omega)]
 rw [e0, List.flatten_append, List.flatten_cons, Nat.zero_add, ← hpl, List.drop_left]
 exact List.take_left' rfl
theorem colRows_flen {types : List Int} {f : Nat → PV} : (zBY types f).flatten.length = types.length * 4 := by
 rw [zDX (z := 4) _ colRows_size, colRows_len]
theorem cellsF_len {types : List Int} {cv : Nat → List GVal} {B : Nat} (h : ∀ c, (cv c).length ≤ B) (k : Nat) : (cellsF types cv k).length ≤ B := by
 have := h (k / 3)
 unfold cellsF colCell
 split
 ·simpa using this
 ·split
  ·simpa using this
  ·split
   ·simpa using this
   ·simp
theorem cvP_len {n : Nat} {rows : List GRow} {j i c : Nat} (hj : j < rows.length) : (cvP n rows j i c).length ≤ rows.length := by
 unfold cvP
 split
 ·rw [List.length_append, List.length_map, List.length_take]; split <;> simp <;> omega
 ·simp
theorem Ext0.trLow {n0 : Nat} {s s1 s2 : VSt} (h : Ext0 s s1) (k : Ext0 (s1.to n0) s2) (hn : s.next ≤ n0) : Ext0 s s2 :=
 ⟨Nat.le_trans hn k.next, fun b hb => (k.mem b (Nat.lt_of_lt_of_le hb hn)).trans (h.mem b hb), fun b hb => (k.maps b (Nat.lt_of_lt_of_le hb hn)).trans (h.maps b hb), fun b hb => (k.grow b (Nat.lt_of_lt_of_le hb hn)).trans (h.grow b hb), fun b hb => (k.fo b (Nat.lt_of_lt_of_le hb hn)).trans (h.fo b hb)⟩
theorem from_row {types : List Int} {rows : List GRow} {i j : Nat} (hj : j < rows.length) (e : i = types.length) (k : Nat) : cellsF types (cvP types.length rows (j + 1) 0) k = cellsF types (cvP types.length rows j i) k := by
 subst e
 unfold cellsF
 rw [cvP_row hj]
theorem push_step {types : List Int} {rows : List GRow} {i j : Nat} (hj : j < rows.length) (hi : i < types.length) (hr : rows[j].length = types.length) (hir : i < rows[j].length) (k : Nat) :
    cellsF types (cvP types.length rows j (i + 1)) k = pushF (cellsF types (cvP types.length rows j i)) i types[i] rows[j][i] k := by
 rw [← cellsF_push hi]
 congr 1
 funext c
 exact cvP_succ hi hj hr c
def zD8 (rows : List GRow) (q : Nat) : List GRow := (rows.drop (1024 * q)).take 1024
def splitV (types : List Int) (rows : List GRow) : List GBatch := (List.range ((rows.length + 1023) / 1024)).map fun q => zDS types (zD8 rows q)
theorem chunk_mem {rows : List GRow} {q : Nat} {r : GRow} (h : r ∈ zD8 rows q) : r ∈ rows := List.mem_of_mem_drop (List.mem_of_mem_take h)
theorem chunk_len (rows : List GRow) (q : Nat) : (zD8 rows q).length ≤ rows.length := by unfold zD8; rw [List.length_take, List.length_drop]; omega
theorem chunk_eq {rows : List GRow} {k : Nat} (h : 1024 * k < rows.length) : (.sl 1 (((rows.map zCZ).drop (1024 * k)).take (min (1024 * k + 1024) rows.length - 1024 * k)) : PV) = zBK (zD8 rows k) := by
 unfold zBK zD8
 rw [List.map_take, List.map_drop]
 congr 1
 rw [List.take_eq_take_iff, List.length_drop, List.length_map]
 omega
def zDH (types : List Int) (b : GBatch) : Bool := b.all && decide (1 ≤ b.len) && decide (b.len ≤ 1024) && zBG b && decide (typesV b = types)
def formedB (l : List GBatch) (types : List Int) : Bool := l.all (zDH types)
theorem formed_no {l : List GBatch} {types : List Int} {i : Nat} (hi : i < l.length) (h : zDH types l[i] = false) : formedB l types = false := by
 rw [← Bool.not_eq_true]
 intro hh
 have := List.all_eq_true.1 hh _ (List.getElem_mem hi)
 rw [h] at this; cases this
theorem formed_yes {l : List GBatch} {types : List Int} (h : ∀ k (hk : k < l.length), zDH types l[k] = true) : formedB l types = true :=
 List.all_eq_true.2 fun b hb => by obtain ⟨k, hk, rfl⟩ := List.mem_iff_getElem.1 hb; exact h k hk
def sumLen (l : List GBatch) : Int := (l.map GBatch.len).sum
theorem sumLen_snoc {l : List GBatch} {i : Nat} (h : i < l.length) : sumLen (l.take (i + 1)) = sumLen (l.take i) + l[i].len := by
 unfold sumLen
 rw [List.take_succ_eq_append_getElem h, List.map_append, List.sum_append]; simp
def smallOne (b : GBatch) : Bool := decide (0 ≤ b.len) && decide (b.len ≤ 200) && decide (b.columns.length ≤ 20)
def zD1 (l : List GBatch) (types : List Int) : Bool := l.all smallOne && decide (sumLen l ≤ 400) && decide (l.length ≤ 50) && decide (types.length ≤ 20)
theorem small_no {l : List GBatch} {types : List Int} {i : Nat} (hi : i < l.length) (h : smallOne l[i] = false) : zD1 l types = false := by
 rw [← Bool.not_eq_true]
 intro hh
 simp only [zD1, Bool.and_eq_true] at hh
 have := List.all_eq_true.1 hh.1.1.1 _ (List.getElem_mem hi)
 rw [h] at this; cases this
theorem small_all {l : List GBatch} (h : ∀ k (hk : k < l.length), smallOne l[k] = true) : l.all smallOne = true :=
 List.all_eq_true.2 fun b hb => by obtain ⟨k, hk, rfl⟩ := List.mem_iff_getElem.1 hb; exact h k hk
theorem opV_binA {op : BinOp} {ty yt : TypeId} {xs ys : List Value} {v : Value} (ho : o.op = .binOp op ty x y yt) (hx : t.ev x = some (.ag (xs.map .sc))) (hy : t.ev y = some (.ag (ys.map .sc))) (h : binVal P op ty x y (.agg xs.toArray) (.agg ys.toArray) = some v) (hv : scal v = true) :
    OpV P s t o (.sc v) s := zBW fun H T hs ht => by
 have key : ∀ {l : List Value} {u : Value}, DV H (Own' s) (.ag (l.map .sc)) u → u = .agg l.toArray := fun {l u} hu => by
  cases hu with
  | ag h1 h2 =>
   rename_i c
   congr 1
   apply Array.toList_inj.1
   apply List.ext_getElem
   ·simpa using h1.symm
   ·intro i q1 q2
    have hd := h2 i (.sc (l[i]'(by simpa using q2))) _ (by simp at q2; simp [q2]) (List.getElem?_eq_getElem q1)
    obtain ⟨e, _⟩ := hd.sc_inv
    rw [e]
    try simp
 obtain ⟨u1, e1, h1⟩ := zA4 ht hx
 obtain rfl := key h1
 obtain ⟨u2, e2, h2⟩ := zA4 ht hy
 obtain rfl := key h2
 exact ⟨v, by simp only [St.op, ho, e1, e2, h, keep], .sc hv⟩
end Go.AE
namespace Go.AE
def dRows (l : List GBatch) (mem : Int) : List GRow := (zB9 mem 4 (zA7 l)).1
def dOut (l : List GBatch) (types : List Int) (mem : Int) : List GBatch := if mem < 1 then [] else splitV types (dRows l mem)
def dN (l : List GBatch) (mem : Int) : Int := if mem < 1 then 0 else (zB9 mem 4 (zA7 l)).2
def dC (mem : Int) : Int := if mem < 1 then 1 else 0
structure DistIn (l : List GBatch) (types : List Int) (mem : Int) : Prop where
 hT : types.length ≤ 64
 hl : ∀ b ∈ l, BatchOk b
 h0 : ∀ b ∈ l, 0 ≤ b.len
 hn : (zA7 l).length ≤ 1000000
 hm : l.length ≤ 1000000
 hok : RowsOk (zA7 l)
 hty : ∀ t ∈ types, zBI t = true
 hrl : ∀ r ∈ dRows l mem, r.length = types.length
 hfit : ∀ r ∈ dRows l mem, ∀ (i : Nat) (h : i < r.length) (h2 : i < types.length), r[i].kind = 0 ∨ r[i].kind = types[i]
 hdl : (dRows l mem).length ≤ 1000000
 hz : types = [] → ∀ r ∈ zA7 l, r = []
structure DistOut (l : List GBatch) (types : List Int) (mem : Int) : Prop where
 ok : ∀ b ∈ dOut l types mem, BatchOk b
 sz : ∀ b ∈ dOut l types mem, BatchSz b
 len : (dOut l types mem).length ≤ 1000000
 rlen : (zA7 (dOut l types mem)).length ≤ 1000000
 rw : ∀ r ∈ zA7 (dOut l types mem), r.length ≤ 1000000
 dw : ∀ r ∈ zC7 (zA7 l), r.length ≤ 1000000
 dl : (zC7 (zA7 l)).length ≤ 1000000
 bag : equalV (zDB (zA7 (dOut l types mem))) (zDB (zC7 (zA7 l))) = true
 formed : formedB (dOut l types mem) types = true
 spill : ((decide (dN l mem = 0) == decide (((zC7 (zA7 l)).length : Int) ≤ mem)) && decide (0 ≤ dN l mem)) = true
theorem small_len {l : List GBatch} {types : List Int} (h : zD1 l types = true) : l.length ≤ 1000000 := by
 simp only [zD1, Bool.and_eq_true, decide_eq_true_eq] at h
 omega
theorem small_types {l : List GBatch} {types : List Int} (h : zD1 l types = true) : types.length ≤ 20 := by
 simp only [zD1, Bool.and_eq_true, decide_eq_true_eq] at h
 omega
theorem small_one {l : List GBatch} {types : List Int} (h : zD1 l types = true) : ∀ b ∈ l, 0 ≤ b.len ∧ b.len ≤ 200 ∧ b.columns.length ≤ 20 := fun b hb => by
 simp only [zD1, Bool.and_eq_true] at h
 have := List.all_eq_true.1 h.1.1.1 b hb
 simp only [smallOne, Bool.and_eq_true, decide_eq_true_eq] at this
 exact ⟨this.1.1, this.1.2, this.2⟩
end Go.AE
