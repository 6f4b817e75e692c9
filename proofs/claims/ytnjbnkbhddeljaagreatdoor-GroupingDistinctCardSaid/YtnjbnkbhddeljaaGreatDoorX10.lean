/- A part of the proof: AeP1, AeP2, AeP3, AeP4, AeP5. -/
import Derived.Test.YtnjbnkbhddeljaaGreatDoorX06
set_option linter.unusedVariables false
set_option maxRecDepth 100000
namespace Go.AE
structure GoodVal (t : Int) (v : GVal) : Prop where
 fit : v.kind = 0 ∨ v.kind = t
 zero : v.kind = 0 → v = zv
 text : v.kind ≠ 3 → v.text = ByteArray.empty
 int3 : v.kind = 3 → v.int = 0
 size : v.text.size ≤ 4096
 kind : 0 ≤ v.kind ∧ v.kind ≤ 3
theorem good_zv (t : Int) : GoodVal t zv := ⟨.inl rfl, fun _ => rfl, fun _ => rfl, fun h => (by cases h), (by decide), (by decide)⟩
theorem atV_good {v : GVec} (h : zBX v = true) (i : Int) : GoodVal v.type (atV v i) := by
 simp only [zBX, Bool.and_eq_true, decide_eq_true_eq, List.all_eq_true, List.mem_range] at h
 obtain ⟨⟨⟨h1, h2⟩, h3⟩, h4⟩ := h
 simp only [zBI, Bool.and_eq_true, decide_eq_true_eq] at h1
 unfold atV
 by_cases hi : i < 0
 ·rw [if_pos hi]; exact good_zv _
 ·rw [if_neg hi]
  cases hn : v.nulls[i.toNat]? with
  | none => exact good_zv _
  | some b =>
   cases b with
   | true => exact good_zv _
   | false =>
    dsimp only
    have hlt : i.toNat < v.nulls.length := (List.getElem?_eq_some_iff.1 hn).1
    have he := h4 _ hlt
    unfold zC2 at he
    rw [hn] at he
    simp only [Option.getD_some] at he
    by_cases h0 : v.type = 0
    ·rw [if_pos h0] at he; cases he
    ·rw [if_neg h0] at he
     by_cases ht : v.type = 3
     ·rw [if_pos ht] at he ⊢
      simp only [Bool.and_eq_true, decide_eq_true_eq] at he
      exact ⟨.inr ht.symm, fun h => (by cases h), fun h => absurd rfl h, fun _ => rfl, (by have := he.1; show ((v.texts[i.toNat]?).getD ByteArray.empty).size ≤ 4096; omega), (show (0:Int) ≤ 3 ∧ (3:Int) ≤ 3 from by decide)⟩
     ·rw [if_neg ht]
      exact ⟨.inr rfl, fun h => absurd h h0, fun _ => rfl, fun h => absurd h ht, Nat.zero_le _, h1⟩
theorem vec_ok {v : GVec} (h : zBX v = true) : VecOk v := by
 simp only [zBX, Bool.and_eq_true, decide_eq_true_eq, List.all_eq_true, List.mem_range] at h
 obtain ⟨⟨⟨h1, h2⟩, h3⟩, h4⟩ := h
 simp only [zBI, Bool.and_eq_true, decide_eq_true_eq] at h1
 refine ⟨fun ht => ?_, fun h0 ht => ?_, fun h0 n hn => ?_⟩
 ·rw [h3, zCB, if_pos ht]
 ·rw [h2, zCQ, if_pos (by omega)]
 ·obtain ⟨k, hk, rfl⟩ := List.mem_iff_getElem.1 hn
  have := h4 k hk
  unfold zC2 at this
  rw [if_pos h0, List.getElem?_eq_getElem hk] at this
  exact this
theorem sel_len {b : GBatch} (h : ∀ k, k < b.sel.length → selOkB b k = true) : ∀ k (hk : k < b.sel.length), (k : Int) ≤ b.sel[k]
 | 0, hk => by have := (selOk_iff hk).1 (h 0 hk); exact this.1
 | k + 1, hk => by
  have h1 := sel_len h k (by omega)
  have h2 := (selOk_iff hk).1 (h _ hk)
  rcases h2.2.2 with e | e
  ·omega
  ·simp only [Nat.add_sub_cancel] at e; omega
theorem batch_ok {b : GBatch} (h : zBG b = true) (hl : b.len ≤ 200) (hc : b.columns.length ≤ 20) : BatchOk b ∧ b.sel.length ≤ 200 := by
 simp only [zBG, Bool.and_eq_true, decide_eq_true_eq, List.all_eq_true, List.mem_range] at h
 obtain ⟨⟨⟨h1, h2⟩, h3⟩, h4⟩ := h
 have hs : b.sel.length ≤ 200 := by
  rcases Nat.eq_zero_or_pos b.sel.length with e | e
  ·omega
  ·have := sel_len h4 (b.sel.length - 1) (by omega)
   have := (selOk_iff (show b.sel.length - 1 < b.sel.length by omega)).1 (h4 _ (by omega))
   omega
 exact ⟨⟨fun v hv => vec_ok (h3 v hv).1, by omega, by omega, by omega⟩, hs⟩
def GoodRow (types : List Int) (r : GRow) : Prop := r.length = types.length ∧ ∀ (i : Nat) (h : i < r.length) (h2 : i < types.length), GoodVal types[i] r[i]
theorem row_good {b : GBatch} (h : zBG b = true) (i : Int) : GoodRow (typesV b) (rowV b i) := by
 simp only [zBG, Bool.and_eq_true, decide_eq_true_eq, List.all_eq_true, List.mem_range] at h
 refine ⟨by simp [rowV, typesV], fun k h1 h2 => ?_⟩
 have hk : k < b.columns.length := by simpa [rowV] using h1
 have := atV_good (h.1.2 _ (List.getElem_mem hk)).1 i
 simpa [rowV, typesV] using this
theorem rows_good {b : GBatch} (h : zBG b = true) : ∀ r ∈ rowsV b, GoodRow (typesV b) r := fun r hr => by
 unfold rowsV at hr
 split at hr
 ·obtain ⟨i, _, rfl⟩ := List.mem_map.1 hr; exact row_good h _
 ·obtain ⟨i, _, rfl⟩ := List.mem_map.1 hr; exact row_good h _
theorem inputs_iff {l : List GBatch} {types : List Int} (h : zDW l types = true) : (∀ t ∈ types, zBI t = true) ∧ ∀ b ∈ l, zBG b = true ∧ typesV b = types := by
 simp only [zDW, Bool.and_eq_true, List.all_eq_true, decide_eq_true_eq] at h
 exact h
theorem allRows_good {l : List GBatch} {types : List Int} (h : zDW l types = true) : ∀ r ∈ zA7 l, GoodRow types r := fun r hr => by
 obtain ⟨b, hb, hr⟩ := List.mem_flatMap.1 hr
 obtain ⟨h1, h2⟩ := (inputs_iff h).2 b hb
 rw [← h2]; exact rows_good h1 r hr
theorem rows_len {b : GBatch} (h : zBG b = true) (hl : b.len ≤ 200) (hc : b.columns.length ≤ 20) : (rowsV b).length ≤ 200 := by
 have := (batch_ok h hl hc).2
 unfold rowsV
 split <;> simp <;> omega
theorem flat_len {l : List GBatch} (h : ∀ b ∈ l, (rowsV b).length ≤ 200) : (zA7 l).length ≤ 200 * l.length := by
 induction l with
 | nil => simp [zA7]
 | cons b l ih =>
  have h1 := h b List.mem_cons_self
  have h2 := ih fun q hq => h q (List.mem_cons_of_mem _ hq)
  unfold zA7 at h2 ⊢
  rw [List.flatMap_cons, List.length_append, List.length_cons]; omega
theorem good_rowsOk {types : List Int} {rows : List GRow} (ht : types.length ≤ 64) (h : ∀ r ∈ rows, GoodRow types r) : RowsOk rows := fun r hr => by
 obtain ⟨h1, h2⟩ := h r hr
 have hv : ∀ v ∈ r, ∃ t, GoodVal t v := fun v hv => by
  obtain ⟨k, hk, rfl⟩ := List.mem_iff_getElem.1 hv
  exact ⟨_, h2 k hk (by omega)⟩
 refine ⟨by omega, fun v q => ?_, fun v q => ?_⟩
 ·obtain ⟨t, g⟩ := hv v q; have := g.size; omega
 ·obtain ⟨t, g⟩ := hv v q
  intro a1 a2 a3
  have := g.kind
  have e : v.kind = 0 := by omega
  rw [g.zero e]; rfl
end Go.AE
namespace Go.AE
theorem fold_sub {limit : Int} : ∀ (rows k0 ks : List GRow), rows.foldlM (zCR limit) k0 = some ks → ∀ r ∈ ks, r ∈ k0 ∨ r ∈ rows
 | [], k0, ks, h, r, hr => by
  obtain rfl : k0 = ks := by simpa [List.foldlM] using h
  exact .inl hr
 | x :: rs, k0, ks, h, r, hr => by
  rw [List.foldlM_cons] at h
  cases e : zCR limit k0 x with
  | none => rw [e] at h; cases h
  | some k1 =>
   rw [e] at h
   rcases fold_sub rs k1 ks h r hr with q | q
   ·rcases (addKey_len e).2 r q with q | q
    ·exact .inl q
    ·exact .inr (q ▸ List.mem_cons_self)
   ·exact .inr (List.mem_cons_of_mem _ q)
theorem catN_mem {g : Nat → List GRow × Int} {r : GRow} : ∀ {j : Nat}, r ∈ (catN g j).1 → ∃ i, i < j ∧ r ∈ (g i).1
 | 0, h => by simp [catN] at h
 | j + 1, h => by
  have h : r ∈ (catN g j).1 ++ (g j).1 := h
  rcases List.mem_append.1 h with h | h
  ·obtain ⟨i, a, b⟩ := catN_mem h; exact ⟨i, by omega, b⟩
  ·exact ⟨j, Nat.lt_succ_self _, h⟩
theorem dist_sub (mem : Int) : ∀ (fu : Nat) (rows : List GRow), ∀ r ∈ (zB9 mem fu rows).1, r ∈ rows
 | 0, rows, r, h => by
  unfold zB9 at h
  cases e : tabF (-1) rows with
  | none => rw [e] at h; simp at h
  | some ks =>
   rw [e] at h
   rcases fold_sub rows [] ks e r h with q | q
   ·cases q
   ·exact q
 | fu + 1, rows, r, h => by
  rw [zB9] at h
  split at h
  ·rename_i ks e
   rcases fold_sub rows [] ks e r h with q | q
   ·cases q
   ·exact q
  ·obtain ⟨i, _, q⟩ := catN_mem h
   exact (List.mem_filter.1 (dist_sub mem fu _ r q)).1
theorem count_lt (d : Int) (j : Nat) : ∀ rows : List GRow, (rows.filter fun r => decide (bkt d r < j + 1)).length = (rows.filter fun r => decide (bkt d r < j)).length + (part d rows j).length
 | [] => rfl
 | r :: rs => by
  have ih := count_lt d j rs
  unfold part at ih ⊢
  simp only [List.filter_cons]
  by_cases h1 : bkt d r < j
  ·have h2 : bkt d r < j + 1 := by omega
   have h3 : (bkt d r == j) = false := by simp; omega
   simp [h1, h2, h3] at ih ⊢; omega
  ·by_cases h2 : bkt d r = j
   ·simp [h2] at ih ⊢; omega
   ·have h3 : ¬ bkt d r < j + 1 := by omega
    have h4 : (bkt d r == j) = false := by simp [h2]
    simp [h1, h3, h4] at ih ⊢; omega
theorem catN_part {g : Nat → List GRow × Int} (d : Int) (rows : List GRow) (h : ∀ i, (g i).1.length ≤ (part d rows i).length) : ∀ j, (catN g j).1.length ≤ (rows.filter fun r => decide (bkt d r < j)).length
 | 0 => by simp [catN]
 | j + 1 => by
  have h1 := catN_part d rows h j
  have h2 := h j
  rw [count_lt]
  show ((catN g j).1 ++ (g j).1).length ≤ _
  rw [List.length_append]; omega
theorem dist_le (mem : Int) : ∀ (fu : Nat) (rows : List GRow), (zB9 mem fu rows).1.length ≤ rows.length
 | 0, rows => by
  unfold zB9
  cases e : tabF (-1) rows with
  | none => simp
  | some ks => have := fold_len rows [] ks e; simpa using this
 | fu + 1, rows => by
  rw [zB9]
  split
  ·rename_i ks e; have := fold_len rows [] ks e; simpa using this
  ·exact Nat.le_trans (catN_part _ rows (fun i => dist_le mem fu _) 8) (List.length_filter_le _ _)
theorem distIn {l : List GBatch} {types : List Int} {mem : Int} (hs : zD1 l types = true) (hi : zDW l types = true) : DistIn l types mem := by
 have h1 := small_one hs
 have h2 := inputs_iff hi
 have ht := small_types hs
 have hg := allRows_good hi
 have hlen := flat_len (l := l) fun b hb => rows_len (h2.2 b hb).1 (h1 b hb).2.1 (h1 b hb).2.2
 have hl50 : l.length ≤ 50 := by simp only [zD1, Bool.and_eq_true, decide_eq_true_eq] at hs; omega
 refine ⟨by omega, fun b hb => (batch_ok (h2.2 b hb).1 (h1 b hb).2.1 (h1 b hb).2.2).1, fun b hb => (h1 b hb).1, by omega, by omega, good_rowsOk (by omega) hg, h2.1, fun r hr => (hg r (dist_sub _ _ _ r hr)).1, fun r hr i a b => ?_, Nat.le_trans (dist_le _ _ _) (by omega), fun e r hr => List.length_eq_zero_iff.1 (by rw [(hg r hr).1, e]; rfl)⟩
 exact ((hg r (dist_sub _ _ _ r hr)).2 i a b).fit
end Go.AE
namespace Go.AE
theorem bytesLess_irrefl (a : List UInt8) : Op.bytesLess a a = false := by
 induction a with
 | nil => rfl
 | cons x xs ih => simp [Op.bytesLess, ih]
theorem cmpVal_self (a : GVal) : zBL a a = 0 := by
 unfold zBL
 simp [zCY, bytesLess_irrefl]
theorem cmpRows_self : ∀ a : GRow, zBE a a = 0
 | [] => rfl
 | x :: xs => by rw [zBE, cmpVal_self]; simp [cmpRows_self xs]
def tri (a b : List UInt8) : Int := zCY (Op.bytesLess a b) (!(Op.bytesLess a b || a == b))
theorem bl_iff : ∀ (a b : List UInt8), Op.bytesLess a b = true ↔ a < b
 | _, [] => by cases ‹List UInt8› <;> simp [Op.bytesLess]
 | [], _ :: _ => by simp [Op.bytesLess]
 | x :: xs, y :: ys => by
  rw [List.cons_lt_cons_iff, ← bl_iff xs ys]
  simp only [Op.bytesLess]
  by_cases h1 : x < y
  ·simp [h1]
  ·by_cases h2 : y < x
   ·have : x ≠ y := fun e => by subst e; exact h1 h2
    simp [h1, h2, this]
   ·have e : x = y := by
      apply UInt8.le_antisymm
      ·exact UInt8.not_lt.1 h2
      ·exact UInt8.not_lt.1 h1
    subst e
    simp [h1]
theorem tri_zero {a b : List UInt8} : tri a b = 0 ↔ a = b := by
 unfold tri zCY
 by_cases h : a < b
 ·rw [(bl_iff a b).2 h]
  simp
  intro e; subst e; exact List.lt_irrefl _ h
 ·have : Op.bytesLess a b = false := by rw [← Bool.not_eq_true, bl_iff]; exact h
  rw [this]
  by_cases e : a = b
  ·simp [e]
  ·simp [e]
theorem bytes_ext {a b : ByteArray} (h : a.toList = b.toList) : a = b := by
 rw [ByteArray.toList_eq, ByteArray.toList_eq] at h
 cases a; cases b
 congr 1
 exact Array.toList_inj.1 h
theorem cmp_eq {t t' : Int} {a b : GVal} (ha : GoodVal t a) (hb : GoodVal t' b) (h : zBL a b = 0) : a = b := by
 unfold zBL at h
 by_cases hk : a.kind ≠ b.kind
 ·rw [if_pos hk] at h
  unfold zCY at h
  split at h <;> simp at h
 ·rw [if_neg hk] at h
  have hk : a.kind = b.kind := by omega
  by_cases h3 : a.kind = 3
  ·rw [if_pos h3] at h
   have e := bytes_ext (tri_zero.1 h)
   have i1 := ha.int3 h3
   have i2 := hb.int3 (by omega)
   cases a; cases b
   simp_all
  ·rw [if_neg h3] at h
   have e1 := ha.text h3
   have e2 := hb.text (by omega)
   have e : a.int = b.int := by
    unfold zCY at h
    by_cases q1 : a.int < b.int
    ·simp [q1] at h
    ·by_cases q2 : b.int < a.int
     ·simp [q1, q2] at h
     ·omega
   cases a; cases b
   simp_all
theorem cmpRows_eq {types : List Int} : ∀ {a b : GRow}, (∀ v ∈ a, ∃ t, GoodVal t v) → (∀ v ∈ b, ∃ t, GoodVal t v) → zBE a b = 0 → a = b
 | [], [], _, _, _ => rfl
 | [], _ :: _, _, _, h => by simp [zBE] at h
 | _ :: _, [], _, _, h => by simp [zBE] at h
 | x :: xs, y :: ys, ha, hb, h => by
  rw [zBE] at h
  by_cases hc : zBL x y = 0
  ·simp [hc] at h
   obtain ⟨t, g⟩ := ha x List.mem_cons_self
   obtain ⟨t', g'⟩ := hb y List.mem_cons_self
   rw [cmp_eq g g' hc, cmpRows_eq (types := types) (fun v q => ha v (List.mem_cons_of_mem _ q)) (fun v q => hb v (List.mem_cons_of_mem _ q)) h]
  ·rw [if_pos hc] at h; exact absurd h hc
end Go.AE
namespace Go.AE
def zCU (rows : List GRow) : Prop := ∀ r ∈ rows, ∀ v ∈ r, ∃ t, GoodVal t v
theorem hit_iff {keys : List GRow} {key : GRow} (hk : zCU keys) (h1 : ∀ v ∈ key, ∃ t, GoodVal t v) : (∃ i, hitOf keys key = some i) ↔ key ∈ keys := by
 constructor
 ·rintro ⟨i, h⟩
  unfold hitOf at h
  have h2 := List.find?_some h
  have hi := ixs_lt (List.mem_of_find?_eq_some h)
  simp only [decide_eq_true_eq, List.getElem?_eq_getElem hi, Option.getD_some] at h2
  have := cmpRows_eq (types := []) (hk _ (List.getElem_mem hi)) h1 h2
  rw [← this]; exact List.getElem_mem hi
 ·intro h
  obtain ⟨i, hi, rfl⟩ := List.mem_iff_getElem.1 h
  have hm : i ∈ ixs keys (zC0 11 keys[i]) := by
   unfold ixs
   simp [hi]
  cases e : hitOf keys keys[i] with
  | some j => exact ⟨j, rfl⟩
  | none =>
   unfold hitOf at e
   have := List.find?_eq_none.1 e i hm
   simp [hi, cmpRows_self] at this
theorem addKey_in {limit : Int} {keys : List GRow} {key : GRow} (hk : zCU keys) (h1 : ∀ v ∈ key, ∃ t, GoodVal t v) (h : key ∈ keys) : zCR limit keys key = some keys := by
 obtain ⟨i, e⟩ := (hit_iff hk h1).2 h
 unfold zCR; rw [e]
theorem addKey_out {limit : Int} {keys : List GRow} {key : GRow} (hk : zCU keys) (h1 : ∀ v ∈ key, ∃ t, GoodVal t v) (h : key ∉ keys) : zCR limit keys key = if (keys.length : Int) = limit then none else some (keys ++ [key]) := by
 have e : hitOf keys key = none := by
  cases q : hitOf keys key with
  | none => rfl
  | some i => exact absurd ((hit_iff hk h1).1 ⟨i, q⟩) h
 unfold zCR; rw [e]
theorem fold_full {limit : Int} : ∀ (rows k0 ks : List GRow), zCU rows → zCU k0 → k0.Nodup → rows.foldlM (zCR limit) k0 = some ks → ks.Nodup ∧ (∀ r ∈ k0, r ∈ ks) ∧ (∀ r ∈ rows, r ∈ ks)
 | [], k0, ks, _, _, hn, h => by
  obtain rfl : k0 = ks := by simpa [List.foldlM] using h
  exact ⟨hn, fun r q => q, fun r q => by cases q⟩
 | x :: rs, k0, ks, hr, hk, hn, h => by
  rw [List.foldlM_cons] at h
  have hx := hr x List.mem_cons_self
  have hrs : zCU rs := fun r q => hr r (List.mem_cons_of_mem _ q)
  by_cases hm : x ∈ k0
  ·rw [addKey_in hk hx hm] at h
   obtain ⟨a, b, c⟩ := fold_full rs k0 ks hrs hk hn h
   exact ⟨a, b, fun r q => by rcases List.mem_cons.1 q with rfl | q; exact b _ hm; exact c r q⟩
  ·rw [addKey_out hk hx hm] at h
   by_cases hl : (k0.length : Int) = limit
   ·rw [if_pos hl] at h; cases h
   ·rw [if_neg hl] at h
    have hk' : zCU (k0 ++ [x]) := fun r q => by
     rcases List.mem_append.1 q with q | q
     ·exact hk r q
     ·obtain rfl := List.mem_singleton.1 q; exact hx
    have hn' : (k0 ++ [x]).Nodup := by
     rw [List.nodup_append]
     exact ⟨hn, by simp, fun a ha b hb e => by obtain rfl := List.mem_singleton.1 hb; subst e; exact hm ha⟩
    obtain ⟨a, b, c⟩ := fold_full rs (k0 ++ [x]) ks hrs hk' hn' h
    exact ⟨a, fun r q => b r (List.mem_append_left _ q), fun r q => by rcases List.mem_cons.1 q with rfl | q; exact b _ (by simp); exact c r q⟩
theorem fold_neg : ∀ (rows k0 : List GRow), ∃ ks, rows.foldlM (zCR (-1)) k0 = some ks
 | [], k0 => ⟨k0, rfl⟩
 | x :: rs, k0 => by
  rw [List.foldlM_cons]
  cases e : zCR (-1) k0 x with
  | none =>
   unfold zCR at e
   split at e
   ·cases e
   ·split at e
    ·rename_i h; omega
    ·cases e
  | some k1 => exact fold_neg rs k1
theorem catN_has {g : Nat → List GRow × Int} {r : GRow} {i : Nat} (h : r ∈ (g i).1) : ∀ {j : Nat}, i < j → r ∈ (catN g j).1
 | 0, q => by omega
 | j + 1, q => by
  show r ∈ (catN g j).1 ++ (g j).1
  by_cases e : i = j
  ·subst e; exact List.mem_append_right _ h
  ·exact List.mem_append_left _ (catN_has h (by omega))
theorem catN_nodup {g : Nat → List GRow × Int} {d : Int} (hn : ∀ i, (g i).1.Nodup) (hb : ∀ i, ∀ r ∈ (g i).1, bkt d r = i) : ∀ j : Nat, (catN g j).1.Nodup
 | 0 => by simp [catN]
 | j + 1 => by
  show ((catN g j).1 ++ (g j).1).Nodup
  rw [List.nodup_append]
  refine ⟨catN_nodup hn hb j, hn j, fun a ha b hb' e => ?_⟩
  subst e
  obtain ⟨i, hi, q⟩ := catN_mem ha
  have := hb i a q
  have := hb j a hb'
  omega
theorem dist_full (mem : Int) : ∀ (fu : Nat) (rows : List GRow), zCU rows → (zB9 mem fu rows).1.Nodup ∧ ∀ r ∈ rows, r ∈ (zB9 mem fu rows).1
 | 0, rows, hg => by
  obtain ⟨ks, e⟩ := fold_neg rows []
  have := fold_full rows [] ks hg (fun r q => by cases q) List.nodup_nil e
  unfold zB9 tabF
  rw [e]
  exact ⟨this.1, this.2.2⟩
 | fu + 1, rows, hg => by
  rw [zB9]
  split
  ·rename_i ks e
   have := fold_full rows [] ks hg (fun r q => by cases q) List.nodup_nil e
   exact ⟨this.1, this.2.2⟩
  ·have hp : ∀ i, zCU (part (4 - ((fu + 1 : Nat) : Int)) rows i) := fun i r q => hg r (List.mem_filter.1 q).1
   refine ⟨catN_nodup (d := 4 - ((fu + 1 : Nat) : Int)) (fun i => (dist_full mem fu _ (hp i)).1) (fun i r q => ?_) 8, fun r q => ?_⟩
   ·have := (List.mem_filter.1 (dist_sub mem fu _ r q)).2
    simpa using this
   ·refine catN_has (i := bkt (4 - ((fu + 1 : Nat) : Int)) r) ((dist_full mem fu _ (hp _)).2 r ?_) (Nat.mod_lt _ (by decide))
    exact List.mem_filter.2 ⟨q, by simp⟩
end Go.AE
namespace Go.AE
theorem fold_le {limit : Int} : ∀ (rows k0 ks : List GRow), (k0.length : Int) ≤ limit → rows.foldlM (zCR limit) k0 = some ks → (ks.length : Int) ≤ limit
 | [], k0, ks, h0, h => by
  obtain rfl : k0 = ks := by simpa [List.foldlM] using h
  exact h0
 | x :: rs, k0, ks, h0, h => by
  rw [List.foldlM_cons] at h
  cases e : zCR limit k0 x with
  | none => rw [e] at h; cases h
  | some k1 =>
   rw [e] at h
   refine fold_le rs k1 ks ?_ h
   unfold zCR at e
   split at e
   ·obtain rfl : k0 = k1 := by simpa using e
    exact h0
   ·split at e
    ·cases e
    ·obtain rfl : k0 ++ [x] = k1 := by simpa using e
     simp; omega
theorem fold_none {limit : Int} : ∀ (rows k0 : List GRow), zCU rows → zCU k0 → k0.Nodup → rows.foldlM (zCR limit) k0 = none → ∃ m : List GRow, m.Nodup ∧ (m.length : Int) = limit + 1 ∧ ∀ r ∈ m, r ∈ k0 ∨ r ∈ rows
 | [], k0, _, _, _, h => by simp [List.foldlM] at h
 | x :: rs, k0, hr, hk, hn, h => by
  rw [List.foldlM_cons] at h
  have hx := hr x List.mem_cons_self
  have hrs : zCU rs := fun r q => hr r (List.mem_cons_of_mem _ q)
  by_cases hm : x ∈ k0
  ·rw [addKey_in hk hx hm] at h
   obtain ⟨m, a, b, c⟩ := fold_none rs k0 hrs hk hn h
   exact ⟨m, a, b, fun r q => (c r q).imp id (List.mem_cons_of_mem _)⟩
  ·have hn' : (k0 ++ [x]).Nodup := by
     rw [List.nodup_append]
     exact ⟨hn, by simp, fun a ha b hb e => by obtain rfl := List.mem_singleton.1 hb; subst e; exact hm ha⟩
   rw [addKey_out hk hx hm] at h
   by_cases hl : (k0.length : Int) = limit
   ·exact ⟨k0 ++ [x], hn', by simp; omega, fun r q => by
      rcases List.mem_append.1 q with q | q
      ·exact .inl q
      ·obtain rfl := List.mem_singleton.1 q; exact .inr List.mem_cons_self⟩
   ·rw [if_neg hl] at h
    have hk' : zCU (k0 ++ [x]) := fun r q => by
     rcases List.mem_append.1 q with q | q
     ·exact hk r q
     ·obtain rfl := List.mem_singleton.1 q; exact hx
    obtain ⟨m, a, b, c⟩ := fold_none rs (k0 ++ [x]) hrs hk' hn' h
    refine ⟨m, a, b, fun r q => ?_⟩
    rcases c r q with q | q
    ·rcases List.mem_append.1 q with q | q
     ·exact .inl q
     ·obtain rfl := List.mem_singleton.1 q; exact .inr List.mem_cons_self
    ·exact .inr (List.mem_cons_of_mem _ q)
theorem dist_spill {mem : Int} (hm : 1 ≤ mem) {rows : List GRow} (hg : zCU rows) (hl : rows.length ≤ 1000000) : (zB9 mem 4 rows).2 = 0 ↔ ((zB9 mem 4 rows).1.length : Int) ≤ mem := by
 have hf := dist_full mem 4 rows hg
 have hlen := fun (m : List GRow) (hn : m.Nodup) (h : ∀ r ∈ m, r ∈ (zB9 mem 4 rows).1) => List.Nodup.length_le_of_subset hn h
 cases e : tabF mem rows with
 | some ks =>
  have h1 : zB9 mem 4 rows = (ks, 0) := by rw [zB9, e]
  rw [h1]
  exact ⟨fun _ => fold_le rows [] ks (by simp; omega) e, fun _ => rfl⟩
 | none =>
  obtain ⟨m, a, b, c⟩ := fold_none rows [] hg (fun r q => by cases q) List.nodup_nil e
  have h2 := hlen m a fun r q => hf.2 r ((c r q).resolve_left fun q => by cases q)
  have h3 : 0 < (zB9 mem 4 rows).2 := by
   rw [zB9, e]
   dsimp only
   have hb := catN_bound (g := fun i => zB9 mem 3 (part (4 - ((3 + 1 : Nat) : Int)) rows i)) (fun i => dist_bound mem 3 _ (Nat.le_trans (part_len _ _ i) hl)) 8
   have : rows ≠ [] := fun q => by subst q; simp [tabF] at e
   have := List.length_pos_iff.2 this
   omega
  exact ⟨fun q => by omega, fun q => by omega⟩
end Go.AE
