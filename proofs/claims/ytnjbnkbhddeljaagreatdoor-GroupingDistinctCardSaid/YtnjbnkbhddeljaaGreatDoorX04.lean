/- A part of the proof: AeWD, AeWE, AeWF, AeX1. -/
import Derived.Test.YtnjbnkbhddeljaaGreatDoorX03
set_option linter.unusedVariables false
set_option maxRecDepth 100000
namespace Go.AE
variable {P : Program} {ops : Array Oper} {t : VTm} {s : VSt} {o : Oper} {x y : Operand}
def u64 (n : Int) : Int := IntKind.wrap .u64 n
def xorU (a b : Int) : Int := u64 ((BitVec.ofInt 64 a ^^^ BitVec.ofInt 64 b).toNat)
def orU (a b : Int) : Int := u64 ((BitVec.ofInt 64 a ||| BitVec.ofInt 64 b).toNat)
def mulU (a b : Int) : Int := u64 (a * b)
def shrU (a b : Int) : Int := a.fdiv (2 ^ (min b.toNat 64))
def shlU (a b : Int) : Int := u64 (a * 2 ^ (min b.toNat 64))
theorem zD6 {ty yt : TypeId} {a b : Int} (ho : o.op = .binOp .xor ty x y yt) (hx : t.ev x = some (.sc (.int .u64 a))) (hy : t.ev y = some (.sc (.int .u64 b))) : OpV P s t o (.sc (.int .u64 (xorU a b))) s := zCP ho hx hy rfl rfl
theorem opV_orU {ty yt : TypeId} {a b : Int} (ho : o.op = .binOp .or ty x y yt) (hx : t.ev x = some (.sc (.int .u64 a))) (hy : t.ev y = some (.sc (.int .u64 b))) : OpV P s t o (.sc (.int .u64 (orU a b))) s := zCP ho hx hy rfl rfl
theorem opV_mulU {ty yt : TypeId} {a b : Int} (ho : o.op = .binOp .mul ty x y yt) (hx : t.ev x = some (.sc (.int .u64 a))) (hy : t.ev y = some (.sc (.int .u64 b))) : OpV P s t o (.sc (.int .u64 (mulU a b))) s := zCP ho hx hy rfl rfl
theorem opV_shrU {ty yt : TypeId} {a b : Int} {k : IntKind} (ho : o.op = .binOp .shr ty x y yt) (hx : t.ev x = some (.sc (.int .u64 a))) (hy : t.ev y = some (.sc (.int k b))) (hb : 0 ≤ b) : OpV P s t o (.sc (.int .u64 (shrU a b))) s := by
 refine zCP ho hx hy ?_ rfl
 have h : ¬ b < 0 := by omega
 have e : binOp .shr ty (.int .u64 a) (.int k b) = Pure.pure (.int .u64 (shrU a b)) := by
  simp only [binOp, Op.shift, if_neg h]; rfl
 simp only [binVal, scal, zCM, Bool.and_self, cond_true]
 rw [e]; rfl
theorem opV_shlU {ty yt : TypeId} {a b : Int} {k : IntKind} (ho : o.op = .binOp .shl ty x y yt) (hx : t.ev x = some (.sc (.int .u64 a))) (hy : t.ev y = some (.sc (.int k b))) (hb : 0 ≤ b) : OpV P s t o (.sc (.int .u64 (shlU a b))) s := by
 refine zCP ho hx hy ?_ rfl
 have h : ¬ b < 0 := by omega
 have e : binOp .shl ty (.int .u64 a) (.int k b) = Pure.pure (.int .u64 (shlU a b)) := by
  simp only [binOp, Op.shift, if_neg h]; rfl
 simp only [binVal, scal, zCM, Bool.and_self, cond_true]
 rw [e]; rfl
theorem opV_remU {ty yt : TypeId} {a : Int} {m : Nat} (ho : o.op = .binOp .rem ty x y yt) (hx : t.ev x = some (.sc (.int .u64 a))) (hy : t.ev y = some (.sc (.int .u64 (m : Int)))) (hm : m ≠ 0) (ha : 0 ≤ a) : OpV P s t o (.sc (.int .u64 ((a.toNat % m : Nat) : Int))) s := by
 refine zCP ho hx hy ?_ rfl
 have h : ¬ (m : Int) = 0 := by omega
 have e0 : a.tmod (m : Int) = ((a.toNat % m : Nat) : Int) := by
  obtain ⟨k, rfl⟩ := Int.eq_ofNat_of_zero_le ha
  rfl
 have e : binOp .rem ty (.int .u64 a) (.int .u64 (m : Int)) = Pure.pure (.int .u64 ((a.toNat % m : Nat) : Int)) := by
  simp only [binOp, Op.intDiv, if_neg h, ne_eq, not_true_eq_false, if_false, e0]
 simp only [binVal, scal, zCM, Bool.and_self, cond_true]
 rw [e]; rfl
def intOk (P : Program) (ty : Nat) (k : IntKind) : Bool := match P.underlying ty with | some (.int k') => decide (k' = k) | _ => false
theorem intOk_spec {ty : Nat} {k : IntKind} (h : intOk P ty k = true) : P.underlying ty = some (.int k) := by
 unfold intOk at h
 split at h
 ·rename_i k' hu; rw [hu, of_decide_eq_true h]
 ·cases h
theorem o_conv {src dst : Nat} {k k' : IntKind} {n : Int} (ho : o.op = .convert src dst x) (hs : intOk P src k = true) (hd : intOk P dst k' = true) (hx : t.ev x = some (.sc (.int k n))) : OpV P s t o (.sc (.int k' (k'.wrap n))) s := zBW fun H T hsat ht => by
 obtain ⟨v, e1, hv⟩ := zA4 ht hx
 obtain ⟨rfl, _⟩ := hv.sc_inv
 have h1 := intOk_spec hs
 have h2 := intOk_spec hd
 have e : prun P (convert src dst (.int k n)) = some (.int k' (k'.wrap n)) := by
  have u : ∀ {ty : Nat} {d : TypeDesc} {β : Type} (f : TypeDesc → Sem β), P.underlying ty = some d → prun P (underlying ty >>= f) = prun P (f d) := by
   intro ty d β f h
   unfold underlying
   simp only [bind, Sem.bind, program, prun]
   rw [h]; rfl
  unfold convert
  rw [u _ h1, u _ h2]
  rfl
 refine ⟨.int k' (k'.wrap n), ?_, .sc rfl⟩
 have hc : H.convOp P src dst (.int k n) = some (.int k' (k'.wrap n), H) := by
  simp only [St.convOp, h1, h2, e]; rfl
 simp only [St.op, ho, e1, hc, both]
def u8Cell (b : UInt8) : List PV := [.sc (.int .u8 (b.toNat : Int))]
def bytesPV (l : List UInt8) : PV := .sl 1 (l.map u8Cell)
def convSBOk (P : Program) (src dst : Nat) : Bool :=
 match P.underlying src, P.underlying dst with
 | some .string, some (.slice e) => (match P.underlying e, P.info? e with | some (.int .u8), some _ => true | _, _ => false)
 | _, _ => false
theorem o_convSB {src dst : Nat} {b : ByteArray} (ho : o.op = .convert src dst x) (hk : convSBOk P src dst = true) (hx : t.ev x = some (.sc (.string b))) : OpV P s t o (bytesPV b.data.toList) (s.to (s.next + 1)) := fun H T hs ht => by
 obtain ⟨v, e1, hv⟩ := zA4 ht hx
 obtain ⟨rfl, _⟩ := hv.sc_inv
 unfold convSBOk at hk
 split at hk
 case h_2 => cases hk
 rename_i e h1 h2
 split at hk
 case h_2 => cases hk
 rename_i i h3 h4
 obtain ⟨s1, s2⟩ := satV_fresh hs (b.data.toList.map fun c => Value.int .u8 (c.toNat : Int)) 1
 have hc : H.convOp P src dst (.string b) = some (.slice (some ⟨H.next, 0, none⟩) b.size (unk + 1), H.alloc (b.data.toList.map fun c => .int .u8 c.toNat) 1) := by
  simp only [St.convOp, h1, h2, h3, h4]
 refine ⟨.slice (some ⟨H.next, 0, none⟩) b.size (unk + 1), _, by simp only [St.op, ho, e1, hc, both], s1, ?_, s2⟩
 have hsz : b.size = (b.data.toList.map u8Cell).length := by simp
 refine .sl (u := fun i j => ((b.data.toList.map fun c => Value.int .u8 (c.toNat : Int))[i]?).getD undef) ⟨hsz, .inl rfl⟩ (alloc_frozen hs _ 1) ⟨fun row hr => ?_, fun i j row x q1 q2 => ?_⟩ fun i j row x q1 q2 => ?_
 ·obtain ⟨a, _, rfl⟩ := List.mem_map.1 hr; rfl
 ·rw [List.getElem?_map, Option.map_eq_some_iff] at q1
  obtain ⟨a, ha, rfl⟩ := q1
  have hj : j = 0 := by have := (List.getElem?_eq_some_iff.1 q2).1; simp [u8Cell] at this; exact this
  subst hj
  rw [show 0 + i * 1 + 0 = i by omega, alloc_cell, List.getElem?_map, ha]; rfl
 ·rw [List.getElem?_map, Option.map_eq_some_iff] at q1
  obtain ⟨a, ha, rfl⟩ := q1
  have hj : j = 0 := by have := (List.getElem?_eq_some_iff.1 q2).1; simp [u8Cell] at this; exact this
  subst hj
  simp [u8Cell] at q2; subst q2
  show DV _ _ _ (((b.data.toList.map fun c => Value.int .u8 (c.toNat : Int))[i]?).getD undef)
  rw [List.getElem?_map, ha]
  exact .sc rfl
theorem o_min {c : Call} {a b : Int} {tys : Array TypeId} (ho : o.op = .call c) (hb : c.callee = .builtin .min) (ha : c.args = #[x, y]) (hx : t.ev x = some (.sc (.int .i64 a))) (hy : t.ev y = some (.sc (.int .i64 b))) (hty : c.argTypes = tys) : OpV P s t o (.sc (.int .i64 (if b < a then b else a))) s := zBW fun H T hs ht => by
 obtain ⟨v1, e1, h1⟩ := zA4 ht hx
 obtain ⟨rfl, _⟩ := h1.sc_inv
 obtain ⟨v2, e2, h2⟩ := zA4 ht hy
 obtain ⟨rfl, _⟩ := h2.sc_inv
 refine ⟨.int .i64 (if b < a then b else a), ?_, .sc rfl⟩
 have hpr : ∀ cs, prun P (builtin .min c.argTypes o.type cs #[.int .i64 a, .int .i64 b]) = some (.value (.int .i64 (if b < a then b else a))) := fun cs => rfl
 simp only [St.op, ho, ha, Tm.evs, e1, e2, hb, St.builtinOp]
 simp only [List.all_cons, List.all_nil, zCM, Bool.and_self, cond_true, hpr, scal, both]
theorem o_arrSlice {ty n z b off : Nat} (ho : o.op = .slice ty x none none none) (hk : arrOk P ty n z = true) (hx : t.ev x = some (.pt b off)) (hn : 0 < n) (hn2 : n ≤ 281474976710656) : OpV P s t o (.ms b off n n) s := zBW fun H T hs ht => by
 obtain ⟨v, e1, hv⟩ := zA4 ht hx
 obtain ⟨e, inf, h1, h2, h3⟩ := arrOk_spec hk
 cases hv with
 | pt =>
  refine ⟨.slice (some ⟨b, off, none⟩) n n, ?_, .ms⟩
  have k1 : (Nat.ble 0 n && Nat.ble n n && Nat.ble n 281474976710656) = true := by rw [Nat.ble_eq_true_of_le (Nat.zero_le n), Nat.ble_eq_true_of_le (Nat.le_refl n), Nat.ble_eq_true_of_le hn2]; rfl
  have k2 : Nat.beq n 0 = false := by rw [beq_iff]; simp; omega
  have e2 : T.evOpt none = some none := rfl
  simp only [St.op, ho, e1, e2, sliceVal, h1, h2, bnd, k1, cond_true, place, k2, cond_false, Nat.zero_mul, Nat.add_zero, Nat.sub_zero, keep]
theorem flat_dvs {H : St} {X : Nat → Prop} {z : Nat} : ∀ {xs : List (List PV)} {l : List Value}, Flat H X z xs l → DVs H X xs.flatten l
 | [], l, h => by
  have := h.len
  simp at this
  subst this; exact .nil
 | r :: xs, l, h => by
  have hr := h.size r List.mem_cons_self
  have hl := h.len
  simp only [List.length_cons, Nat.add_mul, Nat.one_mul] at hl
  have hd : Flat H X z xs (l.drop z) := ⟨fun q hq => h.size q (List.mem_cons_of_mem _ hq), by rw [List.length_drop]; omega, fun i j row x h1 h2 => by
   obtain ⟨u, e, d⟩ := h.get (i + 1) j row x (by rw [List.getElem?_cons_succ]; exact h1) h2
   refine ⟨u, ?_, d⟩
   rw [List.getElem?_drop, ← e]; congr 1; rw [Nat.add_mul]; omega⟩
  have hh : DVs H X r (l.take z) := .mk (by rw [List.length_take]; omega) fun j x u hx hu => by
   obtain ⟨u', e, d⟩ := h.get 0 j r x rfl hx
   have hj : j < z := by have := (List.getElem?_eq_some_iff.1 hx).1; omega
   rw [List.getElem?_take_of_lt hj] at hu
   rw [show 0 * z + j = j by omega, hu] at e; cases e; exact d
  have app : ∀ {l m : List PV} {a b : List Value}, DVs H X l a → DVs H X m b → DVs H X (l ++ m) (a ++ b) := by
   intro l m a b h k
   induction h with
   | nil => exact k
   | cons h1 _ ih => exact .cons h1 ih
  have := app hh (flat_dvs hd)
  rwa [List.take_append_drop] at this
theorem o_copy {c : Call} {t0 t1 z b off dn dc n : Nat} {xs : List (List PV)} {cs cs' : List PV} (ho : o.op = .call c) (hb : c.callee = .builtin .copy) (ha : c.args = #[x, y]) (hty : c.argTypes = #[t0, t1]) (hk : slOk P t0 z = true)
    (hx : t.ev x = some (.ms b off dn dc)) (hy : t.ev y = some (.sl z xs)) (hm : s.mem b = some cs) (hn : (if xs.length ≤ dn then xs.length else dn) = n) (hpos : 0 < n) (hfl : ∀ row ∈ xs, ∀ x ∈ row, x.flat = true) (hl : off + n * z ≤ cs.length)
    (hc : splice cs off (xs.take n).flatten = cs') : OpV P s t o (.sc (.int .i64 (n : Nat))) (s.setMem b cs') := fun H T hs ht => by
 obtain ⟨v1, e1, h1⟩ := zA4 ht hx
 obtain ⟨v2, e2, h2⟩ := zA4 ht hy
 obtain ⟨e, inf, k1, k2, k3⟩ := zD4 hk
 subst hc
 have hnx : n ≤ xs.length := by rw [← hn]; split <;> omega
 have hlen : (xs.take n).length = n := by rw [List.length_take]; omega
 cases h1 with
 | ms =>
  cases h2 with
  | sn => simp at hnx; omega
  | se => simp at hnx; omega
  | sl hnn g1 g2 g3 =>
   rename_i b' off' n' c' u
   obtain ⟨hnn, _⟩ := hnn
   have hget : ∀ (i : Nat) (row : List PV), (xs.take n)[i]? = some row → xs[i]? = some row := fun i row h => by
    have hi := (List.getElem?_eq_some_iff.1 h).1
    rw [hlen] at hi
    rw [List.getElem?_take_of_lt hi] at h; exact h
   obtain ⟨l, r1, r2⟩ := flat_of_cells (xs := xs.take n) (u := u) ⟨fun row hr => g2.size row (List.mem_of_mem_take hr), fun i j row x q1 q2 => g2.get i j row x (hget i row q1) q2⟩ fun i j row x q1 q2 => g3 i j row x (hget i row q1) q2
   rw [hlen] at r1
   have hflen : (xs.take n).flatten.length = n * z := by
    have := (flat_dvs r2).length
    rw [this, r2.len, hlen]
   have hall : (xs.take n).flatten.all PV.flat = true := by
    rw [List.all_eq_true]
    intro q hq
    obtain ⟨row, hr, hx⟩ := List.mem_flatten.1 hq
    exact hfl row (List.mem_of_mem_take hr) q hx
   obtain ⟨H', s1, s2, s3⟩ := satV_storeL (k := off) hs hm (by rw [hflen]; exact hl) (flat_dvs r2) hall
   refine ⟨.int .i64 (n : Nat), H', ?_, s2, .sc rfl, s3⟩
   subst hnn
   have hn' : (cond (Nat.ble xs.length dn) xs.length dn) = n := by
    rw [← hn]
    by_cases h : xs.length ≤ dn
    ·rw [Nat.ble_eq_true_of_le h, if_pos h]; rfl
    ·have : Nat.ble xs.length dn = false := by rw [← Bool.not_eq_true]; intro h'; exact h (Nat.le_of_ble_eq_true h')
     rw [this, if_neg h]; rfl
   have hn0 : Nat.beq n 0 = false := by rw [beq_iff]; simp; omega
   have hcp : H.copyOp P t0 (.slice (some ⟨b, off, none⟩) dn dc) (.slice (some ⟨b', off', none⟩) xs.length c') = some (.int .i64 (n : Nat), H') := by
    simp only [St.copyOp, k1, sliceLen, k2, hn', St.firstN, hn0, cond_false, k3, r1, s1, Option.map_some]
   simp only [St.op, ho, ha, Tm.evs, e1, e2, hb, St.builtinOp, hty, hcp, both]
def mixF (n : Int) : Int :=
 let a := mulU (xorU n (shrU n 30)) 13787848793156543929
 let b := mulU (xorU a (shrU a 27)) 10723151780598845931
 xorU b (shrU b 31)
theorem u64_range (n : Int) : 0 ≤ u64 n ∧ u64 n ≤ 18446744073709551615 := wrap_u64_range n
theorem mixF_range (n : Int) : 0 ≤ mixF n ∧ mixF n ≤ 18446744073709551615 := u64_range _
def grpB (bs : List UInt8) (k i : Nat) : UInt8 := (bs[k + i]?).getD 0
def wordF (bs : List UInt8) (k : Nat) : Nat → Int
 | 0 => 0
 | i + 1 => orU (wordF bs k i) (shlU (u64 ((grpB bs k i).toNat : Int)) (u64 (8 * (i : Int))))
def bytesF (h0 : Int) (bs : List UInt8) : Nat → Int
 | 0 => h0
 | k + 1 => mixF (xorU (bytesF h0 bs k) (wordF bs (8 * k) 8))
theorem bytesF_step (h0 : Int) (bs : List UInt8) (k : Nat) : bytesF h0 bs (k + 1) = mixF (xorU (bytesF h0 bs k) (wordF bs (8 * k) 8)) := rfl
theorem wordF_step (bs : List UInt8) (k i : Nat) : wordF bs k (i + 1) = orU (wordF bs k i) (shlU (IntKind.wrap .u64 ((grpB bs k i).toNat : Int)) (IntKind.wrap .u64 (8 * (i : Int)))) := rfl
def hashBytesF (seed : Int) (bs : List UInt8) : Int := bytesF (mixF (xorU seed (u64 (bs.length : Int)))) bs ((bs.length + 7) / 8)
theorem hashBytesF_range (seed : Int) (bs : List UInt8) : 0 ≤ hashBytesF seed bs ∧ hashBytesF seed bs ≤ 18446744073709551615 := by
 unfold hashBytesF
 cases (bs.length + 7) / 8 with
 | zero => exact mixF_range _
 | succ k => exact mixF_range _
theorem o_ext {c : Call} {f : FuncId} {ps : List PV} {vs : List Value} {v : Value} (ho : o.op = .call c) (hc : c.callee = .value (.func f)) (ha : t.evs c.args.toList = some ps) (hs : ps = vs.map .sc) (h : callRes P f vs = some (.val v)) (hv : scal v = true) : OpV P s t o (.sc v) s := zBW fun H T hsat ht => by
 obtain ⟨us, e1, hus⟩ := vevs_sound ht ha
 have e : us = vs := by
  subst hs
  have key : ∀ {l us : List Value}, DVs H (Own' s) (l.map .sc) us → us = l := by
   intro l
   induction l with
   | nil => intro us h; cases h; rfl
   | cons a l ih => intro us h; cases h with | cons h1 h2 => rw [ih h2]; obtain ⟨e, _⟩ := h1.sc_inv; rw [e]
  exact key hus
 subst e
 refine ⟨v, ?_, .sc hv⟩
 simp only [St.op, ho, e1, hc, Tm.ev]
 simp [h]
theorem splice_zero (cs ps : List PV) (h : ps.length ≤ cs.length) : splice cs 0 ps = ps ++ cs.drop ps.length := by
 have := splice_mid [] ps (cs.take ps.length) (cs.drop ps.length) (by rw [List.length_take]; omega)
 simp only [List.nil_append, List.length_nil, List.take_append_drop] at this
 exact this
theorem flat_u8 (l : List UInt8) : (l.map u8Cell).flatten = l.map fun b => PV.sc (.int .u8 (b.toNat : Int)) := by
 induction l with
 | nil => rfl
 | cons b l ih => simp only [List.map_cons, List.flatten_cons, ih]; rfl
def grpMem (bs : List UInt8) (k : Nat) : List PV := ((List.range 8).map fun j => u8Cell (grpB bs k j)).flatten
theorem grpMem_eq (bs : List UInt8) (k : Nat) : grpMem bs k = (List.range 8).map fun j => PV.sc (.int .u8 ((grpB bs k j).toNat : Int)) := by
 unfold grpMem
 have := flat_u8 ((List.range 8).map fun j => grpB bs k j)
 rw [List.map_map, List.map_map] at this
 exact this
theorem grp_get {bs : List UInt8} {k i : Nat} (h : i < 8) : (grpMem bs k)[0 + i * 1]? = some (.sc (.int .u8 ((grpB bs k i).toNat : Int))) := by
 rw [grpMem_eq, show 0 + i * 1 = i by omega, List.getElem?_map, List.getElem?_range h]; rfl
theorem grp_splice {bs : List UInt8} {k m n : Nat} (hk : k < bs.length) (hm : m = min (k + 8) bs.length - k) (hn : n = min 8 (bs.length - k)) :
    splice [.sc (.int .u8 0), .sc (.int .u8 0), .sc (.int .u8 0), .sc (.int .u8 0), .sc (.int .u8 0), .sc (.int .u8 0), .sc (.int .u8 0), .sc (.int .u8 0)] 0 ((((bs.drop k).take m).map u8Cell).take n).flatten = grpMem bs k := by
 rw [← List.map_take, flat_u8, splice_zero _ _ (by simp; omega), grpMem_eq]
 apply List.ext_getElem?
 intro j
 rw [List.getElem?_map]
 by_cases hj : j < n
 ·rw [List.getElem?_append_left (by simp; omega), List.getElem?_map, List.getElem?_take_of_lt hj, List.getElem?_take_of_lt (by omega), List.getElem?_drop, List.getElem?_range (by omega)]
  have hg : grpB bs k j = bs[k + j] := by unfold grpB; rw [List.getElem?_eq_getElem (show k + j < bs.length by omega)]; rfl
  rw [List.getElem?_eq_getElem (show k + j < bs.length by omega)]
  simp only [Option.map_some, hg]
 ·have hl : (List.map (fun b : UInt8 => PV.sc (.int .u8 (b.toNat : Int))) (List.take n (List.take m (List.drop k bs)))).length = n := by simp; omega
  rw [List.getElem?_append_right (by omega), hl, List.getElem?_drop, show n + (j - n) = j by omega]
  by_cases hj8 : j < 8
  ·rw [List.getElem?_range hj8]
   have hg : grpB bs k j = 0 := by unfold grpB; rw [List.getElem?_eq_none (by omega)]; rfl
   simp only [Option.map_some, hg]
   rcases j with _ | _ | _ | _ | _ | _ | _ | _ | j <;> first | rfl | omega
  ·rw [List.getElem?_eq_none (by simp; omega), List.getElem?_eq_none (by simp; omega)]; rfl
end Go.AE
namespace Go.AE
variable {P : Program} {ops : Array Oper} {t : VTm} {s : VSt} {o : Oper} {x y : Operand}
def VSt.setMap (s : VSt) (m : Nat) (es : List (Value × PV)) : VSt := { s with maps := fun k => if k = m then some es else s.maps k }
def VSt.newMap (s : VSt) : VSt := { s with next := s.next + 1, maps := fun k => if k = s.next then some [] else s.maps k }
theorem setMap_next {m : Nat} {es : List (Value × PV)} : (s.setMap m es).next = s.next := rfl
theorem newMap_next : s.newMap.next = s.next + 1 := rfl
theorem maps_set0 {m : Nat} {es : List (Value × PV)} : (s.setMap m es).maps m = some es := by show (if m = m then _ else _) = _; rw [if_pos rfl]
theorem maps_new0 {m : Nat} (h : m = s.next) : s.newMap.maps m = some [] := by subst h; show (if s.next = s.next then _ else _) = _; rw [if_pos rfl]
theorem Ext0.setMap {s0 s1 : VSt} {m : Nat} {es : List (Value × PV)} (h : Ext0 s0 s1) (hm : s0.next ≤ m) : Ext0 s0 (s1.setMap m es) :=
 ⟨h.next, h.mem, fun b hb => by show (if b = m then _ else _) = _; rw [if_neg (by omega)]; exact h.maps b hb, h.grow, h.fo⟩
theorem Ext0.newMap {s0 s1 : VSt} (h : Ext0 s0 s1) : Ext0 s0 s1.newMap :=
 ⟨Nat.le_succ_of_le h.next, h.mem, fun b hb => by show (if b = s1.next then _ else _) = _; rw [if_neg (by have := h.next; omega)]; exact h.maps b hb, h.grow, h.fo⟩
theorem satV_newMap {H : St} (hs : SatV s H) : SatV s.newMap H.newMap ∧ Fr s H s.newMap H.newMap := by
 have keep : Keep (Own' s) H H.newMap := by
  refine ⟨fun b c h => ?_, fun b c f g fm h1 h2 h3 _ => ⟨?_, fm, h2, h3, rfl⟩⟩
  ·have := (hs.wf.obs b _ h).1
   show (H.obs.set H.next _).get b = _
   rw [Tr.get_set_ne _ _ (by omega)]; exact h
  ·have := (hs.wf.obs b _ h1).1
   show (H.obs.set H.next _).get b = _
   rw [Tr.get_set_ne _ _ (by omega)]; exact h1
 have up : ∀ {p : PV} {v : Value}, DV H (Own' s) p v → DV H.newMap (Own' s) p v := fun h => h.keep keep
 refine ⟨⟨by show s.next + 1 = H.next + 1; rw [hs.next], (abs_newMap H hs.wf).wf, fun b c hb => ?_, fun b es hb => ?_, fun f e he => ?_, hs.inj, hs.ext⟩, ⟨keep, Nat.le_succ _, fun f _ ho => ho⟩⟩
 ·obtain ⟨c', g, fm, q1, q2, q3, q4⟩ := hs.mem b c hb
  have hbn : b ≠ H.next := by have := (hs.wf.obs b _ q1).1; omega
  exact ⟨c', g, fm, by show (H.obs.set H.next _).get b = _; rw [Tr.get_set_ne _ _ hbn]; exact q1, q2, q3, fun i x hx => let ⟨u, a, b⟩ := q4 i x hx; ⟨u, a, up b⟩⟩
 ·have hb : (if b = s.next then some [] else s.maps b) = some es := hb
  by_cases e : b = s.next
  ·rw [if_pos e] at hb; simp only [Option.some.injEq] at hb; subst hb
   refine ⟨[], ?_, rfl, fun i e he => by simp at he⟩
   rw [e, hs.next]; exact Tr.get_set_same _ _ _
  ·rw [if_neg e] at hb
   obtain ⟨es', q1, q2, q3⟩ := hs.maps b es hb
   exact ⟨es', by show (H.obs.set H.next _).get b = _; rw [Tr.get_set_ne _ _ (by rw [← hs.next]; exact e)]; exact q1, q2, fun i e he => let ⟨e', a, b, c⟩ := q3 i e he; ⟨e', a, b, up c⟩⟩
 ·obtain ⟨q1, fm, q2, q3⟩ := hs.grow f e he
  exact ⟨q1, fm, q2, q3⟩
theorem opV_makeMap {ty : TypeId} (ho : o.op = .makeMap ty none) : OpV P s t o (.mp s.next) s.newMap := fun H T hs ht => by
 obtain ⟨h1, h2⟩ := satV_newMap hs
 exact ⟨.map (some H.next), H.newMap, by simp only [St.op, ho], h1, by rw [hs.next]; exact .mp, h2⟩
def zDV (h : Int) : List (Int × PV) → Nat → Option (Nat × PV)
 | [], _ => none
 | e :: es, i => if h = e.1 then some (i, e.2) else zDV h es (i + 1)
def mEnts (k : IntKind) (es : List (Int × PV)) : List (Value × PV) := es.map fun e => (.int k e.1, e.2)
theorem findNow_int {H : St} {X : Nat → Prop} {k : IntKind} {h : Int} : ∀ {es : List (Int × PV)} {es' : List (Value × Value)} {i : Nat}, es'.length = es.length →
    (∀ (j : Nat) (e : Value × PV), (mEnts k es)[j]? = some e → ∃ e', es'[j]? = some e' ∧ e'.1 = e.1 ∧ DV H X e.2 e'.2) →
    match zDV h es i with
    | none => Instr.findNow (.int k) (.int k h) (entries es') i = some none
    | some (j, p) => ∃ v, Instr.findNow (.int k) (.int k h) (entries es') i = some (some (j, v)) ∧ DV H X p v ∧ i ≤ j ∧ j - i < es.length
 | [], es', i, hl, _ => by
  have : es' = [] := List.length_eq_zero_iff.1 hl
  subst this; rfl
 | e :: es, [], i, hl, _ => by simp at hl
 | e :: es, e' :: es', i, hl, hd => by
  obtain ⟨q, h1, h2, h3⟩ := hd 0 (.int k e.1, e.2) rfl
  simp only [List.getElem?_cons_zero, Option.some.injEq] at h1
  subst h1
  have ih := findNow_int (h := h) (es := es) (es' := es') (i := i + 1) (by simpa using hl) fun j x hx => by
   obtain ⟨y, a1, a2⟩ := hd (j + 1) x (by simpa [mEnts] using hx)
   exact ⟨y, by simpa using a1, a2⟩
  simp only [zDV, entries, List.map_cons, Instr.findNow, h2, Instr.sameNow]
  by_cases hc : h = e.1
  ·rw [if_pos hc]
   refine ⟨e'.2, ?_, h3, Nat.le_refl _, by simp⟩
   simp [hc]
  ·rw [if_neg hc]
   have hb : (h == e.1) = false := by simp [hc]
   simp only [hb]
   generalize zDV h es (i + 1) = r at ih
   cases r with
   | none => exact ih
   | some jp => obtain ⟨v, a1, a2, a3, a4⟩ := ih; exact ⟨v, a1, a2, by omega, by simp only [List.length_cons]; omega⟩
def mapOk (P : Program) (ty : Nat) (k : IntKind) (z : Value) : Bool :=
 match P.underlying ty with
 | some (.map key elem) => (match P.underlying key, P.info? elem with | some (.int k'), some i => decide (k' = k) && (match i.zero, z with | some (.slice none 0 0), .slice none 0 0 => true | _, _ => false) | _, _ => false)
 | _ => false
theorem mapOk_spec {ty : Nat} {k : IntKind} {z : Value} (h : mapOk P ty k z = true) : ∃ key elem i, P.underlying ty = some (.map key elem) ∧ P.underlying key = some (.int k) ∧ P.info? elem = some i ∧ i.zero = some z ∧ z = .slice none 0 0 := by
 unfold mapOk at h
 split at h
 case h_2 => cases h
 rename_i key elem hu
 split at h
 case h_2 => cases h
 rename_i k' i h1 h2
 rw [Bool.and_eq_true] at h
 obtain ⟨a, b⟩ := h
 have := of_decide_eq_true a
 subst this
 split at b
 ·rename_i hz; exact ⟨key, elem, i, hu, h1, h2, hz, rfl⟩
 ·cases b
def mget (h : Int) (es : List (Int × PV)) : PV := match zDV h es 0 with | some (_, p) => p | none => .sc (.slice none 0 0)
theorem opV_lookup {ty m : Nat} {k : IntKind} {h : Int} {z : Value} {ix : Operand} {es : List (Int × PV)} (ho : o.op = .lookup ty x ix false) (hk : mapOk P ty k z = true) (hx : t.ev x = some (.mp m)) (hix : t.ev ix = some (.sc (.int k h))) (hm : s.maps m = some (mEnts k es)) :
    OpV P s t o (mget h es) s := zBW fun H T hs ht => by
 obtain ⟨key, elem, i, u1, u2, u3, u4, rfl⟩ := mapOk_spec hk
 obtain ⟨v1, e1, h1⟩ := zA4 ht hx
 obtain ⟨v2, e2, h2⟩ := zA4 ht hix
 obtain ⟨rfl, _⟩ := h2.sc_inv
 obtain ⟨es', q1, q2, q3⟩ := hs.maps m _ hm
 cases h1 with
 | mp =>
  have hl : es'.length = es.length := by rw [q2]; simp [mEnts]
  have hmap : H.map? m = some es' := by unfold St.map?; rw [q1]
  have hf := findNow_int (H := H) (X := Own' s) (h := h) (es := es) (i := 0) hl q3
  have hc : (plainKey (.int k) && scal (.int k h) && scal (.slice none 0 0)) = true := rfl
  unfold mget
  cases hm0 : zDV h es 0 with
  | none =>
   rw [hm0] at hf
   dsimp only at hf ⊢
   refine ⟨.slice none 0 0, ?_, .sc rfl⟩
   simp only [St.op, ho, e1, e2, St.lookupOp, u1, u2, u3, u4, hc, cond_true, hmap, hf, cond_false, keep]
  | some jp =>
   obtain ⟨j, p⟩ := jp
   rw [hm0] at hf
   obtain ⟨v, a1, a2, _⟩ := hf
   dsimp only
   refine ⟨v, ?_, a2⟩
   simp only [St.op, ho, e1, e2, St.lookupOp, u1, u2, u3, u4, hc, cond_true, hmap, a1, cond_false, keep]
def mput (h : Int) (p : PV) (es : List (Int × PV)) : List (Int × PV) := match zDV h es 0 with | some (j, _) => es.set j (h, p) | none => es ++ [(h, p)]
theorem satV_setMap {H : St} (hs : SatV s H) {m : Nat} {es0 es : List (Value × PV)} {es' : List (Value × Value)} (hm : s.maps m = some es0) (hl : es'.length = es.length)
    (hd : ∀ (j : Nat) (e : Value × PV), es[j]? = some e → ∃ e', es'[j]? = some e' ∧ e'.1 = e.1 ∧ DV H (Own' s) e.2 e'.2) : SatV (s.setMap m es) (H.setMap m es') ∧ Fr s H (s.setMap m es) (H.setMap m es') := by
 obtain ⟨es0', q1, q2, q3⟩ := hs.maps m _ hm
 have hmap : H.map? m = some es0' := by unfold St.map?; rw [q1]
 have keep : Keep (Own' s) H (H.setMap m es') := by
  refine ⟨fun b c h => ?_, fun b c f g fm h1 h2 h3 _ => ⟨?_, fm, h2, h3, rfl⟩⟩
  ·have : b ≠ m := fun e => by rw [e, q1] at h; cases h
   show (H.obs.set m _).get b = _
   rw [Tr.get_set_ne _ _ this]; exact h
  ·have : b ≠ m := fun e => by rw [e, q1] at h1; cases h1
   show (H.obs.set m _).get b = _
   rw [Tr.get_set_ne _ _ this]; exact h1
 have up : ∀ {p : PV} {v : Value}, DV H (Own' s) p v → DV (H.setMap m es') (Own' s) p v := fun h => h.keep keep
 refine ⟨⟨hs.next, (abs_setMap hmap hs.wf).wf, fun b c hb => ?_, fun b es1 hb => ?_, fun f e he => ?_, hs.inj, hs.ext⟩, ⟨keep, Nat.le_refl _, fun f _ ho => ho⟩⟩
 ·obtain ⟨c', g, fm, r1, r2, r3, r4⟩ := hs.mem b c hb
  have : b ≠ m := fun e => by rw [e, q1] at r1; cases r1
  exact ⟨c', g, fm, by show (H.obs.set m _).get b = _; rw [Tr.get_set_ne _ _ this]; exact r1, r2, r3, fun i x hx => let ⟨u, a, b⟩ := r4 i x hx; ⟨u, a, up b⟩⟩
 ·have hb : (if b = m then some es else s.maps b) = some es1 := hb
  by_cases e : b = m
  ·rw [if_pos e] at hb; simp only [Option.some.injEq] at hb; subst hb
   refine ⟨es', by rw [e]; exact Tr.get_set_same _ _ _, hl, fun i e he => let ⟨e', a, b, c⟩ := hd i e he; ⟨e', a, b, up c⟩⟩
  ·rw [if_neg e] at hb
   obtain ⟨es2, r1, r2, r3⟩ := hs.maps b es1 hb
   exact ⟨es2, by show (H.obs.set m _).get b = _; rw [Tr.get_set_ne _ _ e]; exact r1, r2, fun i e he => let ⟨e', a, b, c⟩ := r3 i e he; ⟨e', a, b, up c⟩⟩
 ·obtain ⟨r1, fm, r2, r3⟩ := hs.grow f e he
  exact ⟨r1, fm, r2, r3⟩
theorem opV_mapUpdate {ty m : Nat} {k : IntKind} {h : Int} {z : Value} {kx vx : Operand} {p : PV} {es : List (Int × PV)} (ho : o.op = .mapUpdate ty x kx vx) (hk : mapOk P ty k z = true) (hx : t.ev x = some (.mp m)) (hkx : t.ev kx = some (.sc (.int k h))) (hvx : t.ev vx = some p) (hm : s.maps m = some (mEnts k es)) :
    OpV P s t o (.sc undef) (s.setMap m (mEnts k (mput h p es))) := fun H T hs ht => by
 obtain ⟨key, elem, i, u1, u2, u3, u4, rfl⟩ := mapOk_spec hk
 obtain ⟨v1, e1, h1⟩ := zA4 ht hx
 obtain ⟨v2, e2, h2⟩ := zA4 ht hkx
 obtain ⟨rfl, _⟩ := h2.sc_inv
 obtain ⟨v3, e3, h3⟩ := zA4 ht hvx
 obtain ⟨es', q1, q2, q3⟩ := hs.maps m _ hm
 cases h1 with
 | mp =>
  have hl : es'.length = es.length := by rw [q2]; simp [mEnts]
  have hmap : H.map? m = some es' := by unfold St.map?; rw [q1]
  have hf := findNow_int (H := H) (X := Own' s) (h := h) (es := es) (i := 0) hl q3
  have hc : (plainKey (.int k) && scal (.int k h)) = true := rfl
  unfold mput
  cases hm0 : zDV h es 0 with
  | none =>
   rw [hm0] at hf
   dsimp only at hf ⊢
   obtain ⟨r1, r2⟩ := satV_setMap hs (es := mEnts k (es ++ [(h, p)])) (es' := es' ++ [(.int k h, v3)]) hm (by simp [mEnts, hl]) fun j e he => by
    rcases Nat.lt_or_ge j es.length with hj | hj
    ·have he' : (mEnts k es)[j]? = some e := by
       simp only [mEnts, List.map_append] at he
       rw [List.getElem?_append_left (by simpa using hj)] at he; exact he
     obtain ⟨e', a, b⟩ := q3 j e he'
     exact ⟨e', by rw [List.getElem?_append_left (by omega)]; exact a, b⟩
    ·simp only [mEnts, List.map_append] at he
     rw [List.getElem?_append_right (by simpa using hj)] at he
     simp only [List.length_map] at he
     have : j - es.length = 0 := by have := (List.getElem?_eq_some_iff.1 he).1; simp at this; omega
     rw [this] at he
     simp at he; subst he
     refine ⟨(.int k h, v3), ?_, rfl, h3⟩
     rw [List.getElem?_append_right (by omega), show j - es'.length = 0 by omega]; rfl
   exact ⟨undef, _, by simp only [St.op, ho, e1, e2, e3, St.updateOp, u1, u2, hmap, hc, cond_true, hf, done], r1, .sc zB7, r2⟩
  | some jp =>
   obtain ⟨j0, p0⟩ := jp
   rw [hm0] at hf
   obtain ⟨v, a1, a2, _, a4⟩ := hf
   dsimp only
   obtain ⟨r1, r2⟩ := satV_setMap hs (es := mEnts k (es.set j0 (h, p))) (es' := es'.set j0 (.int k h, v3)) hm (by simp [mEnts, hl]) fun j e he => by
    simp only [mEnts, List.map_set] at he
    by_cases hj : j = j0
    ·subst hj
     rw [List.getElem?_set_self (by simpa using a4)] at he
     simp only [Option.some.injEq] at he; subst he
     exact ⟨(.int k h, v3), by rw [List.getElem?_set_self (by omega)], rfl, h3⟩
    ·rw [List.getElem?_set_ne (fun e => hj e.symm)] at he
     obtain ⟨e', a, b⟩ := q3 j e he
     exact ⟨e', by rw [List.getElem?_set_ne (fun e => hj e.symm)]; exact a, b⟩
   exact ⟨undef, _, by simp only [St.op, ho, e1, e2, e3, St.updateOp, u1, u2, hmap, hc, cond_true, a1, done], r1, .sc zB7, r2⟩
theorem o_ixA {ty n i : Nat} {ix : Operand} {k : IntKind} {cs : List PV} {p : PV} (ho : o.op = .index ty x ix) (hk : arrOk P ty n 1 = true) (hc : ∀ e, P.underlying ty = some (.array n e) → zDO P e = true) (hx : t.ev x = some (.ag cs)) (hix : t.ev ix = some (.sc (.int k (.ofNat i)))) (hi : i < n) (hp : cs[i]? = some p) : OpV P s t o p s := zBW fun H T hs ht => by
 obtain ⟨e, inf, h1, h2, h3⟩ := arrOk_spec hk
 obtain ⟨d, h4, h5⟩ := cellOk_spec (hc e h1)
 obtain ⟨v, e1, hv⟩ := zA4 ht hx
 obtain ⟨u, e2, hu⟩ := zA4 ht hix
 obtain ⟨rfl, _⟩ := hu.sc_inv
 cases hv with
 | ag g1 g2 =>
  rename_i c
  have hlt : i < c.toList.length := by rw [← g1]; exact (List.getElem?_eq_some_iff.1 hp).1
  have hg : c.toList[i]? = some c.toList[i] := List.getElem?_eq_getElem hlt
  refine ⟨c.toList[i], ?_, g2 i p _ hp hg⟩
  have hg2 : c[i]? = some c.toList[i] := by rw [← Array.getElem?_toList]; exact hg
  have hb : Nat.blt i n = true := Nat.ble_eq_true_of_le hi
  simp only [St.op, ho, e1, e2, indexVal, idxVal, h1, h2, hb, cond_true, partVal, h4, h5, cond_false, h3, Nat.mul_one, hg2, keep]
def ixOk (P : Program) (ty n : Nat) : Bool := arrOk P ty n 1 && match P.underlying ty with
 | some (.array _ e) => zDO P e
 | _ => false
theorem o_ix1 {ty n i : Nat} {ix : Operand} {k : IntKind} {cs : List PV} {p : PV} (ho : o.op = .index ty x ix) (hk : ixOk P ty n = true) (hx : t.ev x = some (.ag cs)) (hix : t.ev ix = some (.sc (.int k (.ofNat i)))) (hi : i < n) (hp : cs[i]? = some p) : OpV P s t o p s := by
 unfold ixOk at hk
 rw [Bool.and_eq_true] at hk
 refine o_ixA ho hk.1 (fun e he => ?_) hx hix hi hp
 have := hk.2
 rw [he] at this
 exact this
end Go.AE
namespace Go.AE
variable {P : Program} {ops : Array Oper} {t : VTm} {s : VSt} {o : Oper} {x y : Operand}
theorem flat_get {z : Nat} (hz : z ≠ 0) : ∀ (rows : List (List PV)), (∀ r ∈ rows, r.length = z) → ∀ (k : Nat) (x : PV), rows.flatten[k]? = some x → ∃ row, rows[k / z]? = some row ∧ row[k % z]? = some x
 | [], _, k, x, h => by simp at h
 | r :: rs, hr, k, x, h => by
  have hl := hr r List.mem_cons_self
  rw [List.flatten_cons] at h
  rcases Nat.lt_or_ge k r.length with hk | hk
  ·rw [List.getElem?_append_left hk] at h
   have : k / z = 0 := Nat.div_eq_of_lt (by omega)
   rw [this, Nat.mod_eq_of_lt (by omega)]
   exact ⟨r, by simp, h⟩
  ·rw [List.getElem?_append_right hk, hl] at h
   obtain ⟨row, h1, h2⟩ := flat_get hz rs (fun q hq => hr q (List.mem_cons_of_mem _ hq)) _ _ h
   have e1 : k / z = (k - z) / z + 1 := by rw [← Nat.add_div_right _ (by omega)]; congr 1; omega
   have e2 : k % z = (k - z) % z := by rw [← Nat.mod_eq_sub_mod (by omega)]
   exact ⟨row, by rw [e1, List.getElem?_cons_succ]; exact h1, by rw [e2]; exact h2⟩
theorem zDX {z : Nat} : ∀ (rows : List (List PV)), (∀ r ∈ rows, r.length = z) → rows.flatten.length = rows.length * z
 | [], _ => by simp
 | r :: rs, h => by rw [List.flatten_cons, List.length_append, h r List.mem_cons_self, zDX rs fun q hq => h q (List.mem_cons_of_mem _ hq), List.length_cons, Nat.add_mul]; omega
theorem idx_flat {z : Nat} : ∀ (rows : List (List PV)), (∀ r ∈ rows, r.length = z) → ∀ (i j : Nat) (row : List PV) (x : PV), rows[i]? = some row → row[j]? = some x → rows.flatten[i * z + j]? = some x := by
 intro rows
 induction rows with
 | nil => intro _ i j row x h; simp at h
 | cons r rs ih =>
  intro hr i j row x h1 h2
  cases i with
  | zero =>
   simp at h1; subst h1
   rw [List.flatten_cons, Nat.zero_mul, Nat.zero_add, List.getElem?_append_left (List.getElem?_eq_some_iff.1 h2).1]; exact h2
  | succ i =>
   rw [List.getElem?_cons_succ] at h1
   have := ih (fun q hq => hr q (List.mem_cons_of_mem _ hq)) i j row x h1 h2
   have hl := hr r List.mem_cons_self
   rw [List.flatten_cons, List.getElem?_append_right (by rw [hl, Nat.add_mul]; omega), hl]
   rw [show (i + 1) * z + j - z = i * z + j by rw [Nat.add_mul]; omega]; exact this
theorem own_cells {H : St} (hs : SatV s H) {b z : Nat} {rows : List (List PV)} (hm : s.mem b = some rows.flatten) (hr : ∀ r ∈ rows, r.length = z) :
    ∃ u, Cells z rows (H.cell? b) 0 u ∧ ∀ (i j : Nat) (row : List PV) (x : PV), rows[i]? = some row → row[j]? = some x → DV H (Own' s) x (u i j) := by
 refine ⟨fun i j => (H.cell? b (i * z + j)).getD undef, ⟨hr, fun i j row x q1 q2 => ?_⟩, fun i j row x q1 q2 => ?_⟩
 ·obtain ⟨u, e1, _⟩ := mem_cell hs hm (idx_flat rows hr i j row x q1 q2)
  rw [show 0 + i * z + j = i * z + j by omega, e1]; rfl
 ·obtain ⟨u, e1, e2⟩ := mem_cell hs hm (idx_flat rows hr i j row x q1 q2)
  show DV _ _ x ((H.cell? b (i * z + j)).getD undef)
  rw [e1]; exact e2
def VSt.vown (s : VSt) (b : Nat) (cs : List PV) : VSt := { s with next := s.next + 1, mem := fun x => if x = s.next then some cs else if x = b then none else s.mem x, fz := fun x => if x = s.next then s.fz b else s.fz x }
theorem vown_fo {b x : Nat} {cs : List PV} : (s.vown b cs).fo x = if x = s.next then s.fo b else s.fo x := by unfold VSt.fo VSt.vown; dsimp only; split <;> rfl
theorem vown_ez {b x : Nat} {cs : List PV} : (s.vown b cs).ez x = if x = s.next then s.ez b else s.ez x := by unfold VSt.ez VSt.vown; dsimp only; split <;> rfl
theorem satV_vown {H : St} (hs : SatV s H) {b z : Nat} {rows ys : List (List PV)} {new : List Value} (hz : z ≠ 0) (hm : s.mem b = some rows.flatten) (hr : ∀ r ∈ rows, r.length = z) (hez : s.ez b = z) (hy : Flat H (Own' s) z ys new) :
    ∃ H', H.version b 0 (rows.length * z) z new = some H' ∧ SatV (s.vown b (rows ++ ys).flatten) H' ∧ Fr s H (s.vown b (rows ++ ys).flatten) H' := by
 obtain ⟨c, g, fm, h1, h2, h3, h4⟩ := hs.mem b _ hm
 obtain ⟨fm', k1, k2, k3⟩ := hs.ext b _ hm
 rw [h2] at k1; cases k1
 obtain ⟨u, c1, c2⟩ := own_cells hs hm hr
 obtain ⟨l, hl, hfl⟩ := flat_of_cells c1 c2
 obtain ⟨TT, hver, hTT⟩ := version_ok (new := new) h1 h2 h3 (by rw [k2, zDX rows hr, Nat.zero_add]) ((k3 (by rw [hez]; exact hz)).trans hez) hz hl
 have hw' := (abs_version hver hs.wf).wf
 have hown : Own' s (s.fo b) := ⟨b, _, hm, rfl⟩
 have hbl := (hs.wf.obs b _ h1).1
 have hfl2 := hs.wf.fams _ _ h2
 have hnx := hs.next
 have ownsub : ∀ f, Own' (s.vown b (rows ++ ys).flatten) f → Own' s f := by
  rintro f ⟨x, cs, q1, q2⟩
  have q1 : (if x = s.next then some (rows ++ ys).flatten else if x = b then none else s.mem x) = some cs := q1
  rw [vown_fo] at q2
  by_cases e : x = s.next
  ·rw [if_pos e] at q2; exact ⟨b, _, hm, q2⟩
  ·rw [if_neg e] at q1 q2
   by_cases e2 : x = b
   ·rw [if_pos e2] at q1; cases q1
   ·rw [if_neg e2] at q1; exact ⟨x, cs, q1, q2⟩
 refine ⟨_, hver, ?_⟩
 generalize hH' : ({ next := H.next + 1, obs := H.obs.set H.next (.rw (TT.setList (0 + rows.length * z) new) (s.fo b) g), fams := H.fams.set (s.fo b) ⟨g, 0 + rows.length * z + new.length, z⟩, low := cond (Nat.ble H.low (s.fo b)) H.low (s.fo b) } : St) = H' at hver hw' ⊢
 have e_next : H'.next = H.next + 1 := by rw [← hH']
 have e_obs : H'.obs = H.obs.set H.next (.rw (TT.setList (0 + rows.length * z) new) (s.fo b) g) := by rw [← hH']
 have e_fams : H'.fams = H.fams.set (s.fo b) ⟨g, 0 + rows.length * z + new.length, z⟩ := by rw [← hH']
 have keep : Keep (Own' s) H H' := by
  refine ⟨fun b' c' h => ?_, fun b' c' f' g' fm2 q1 q2 q3 q4 => ?_⟩
  ·have := (hs.wf.obs b' _ h).1
   rw [e_obs, Tr.get_set_ne _ _ (by omega)]; exact h
  ·have := (hs.wf.obs b' _ q1).1
   have ef : f' ≠ s.fo b := fun e => q4 (by rw [e]; exact hown)
   exact ⟨by rw [e_obs, Tr.get_set_ne _ _ (by omega)]; exact q1, fm2, by rw [e_fams, Tr.get_set_ne _ _ ef]; exact q2, q3, rfl⟩
 have up : ∀ {p : PV} {v : Value}, DV H (Own' s) p v → DV H' (Own' (s.vown b (rows ++ ys).flatten)) p v := fun h => h.fr hs.wf keep fun f _ ho => ownsub f ho
 have old : ∀ x cs, (s.vown b (rows ++ ys).flatten).mem x = some cs → x ≠ s.next → s.mem x = some cs ∧ x ≠ b := fun x cs q1 e => by
  have q1 : (if x = s.next then some (rows ++ ys).flatten else if x = b then none else s.mem x) = some cs := q1
  rw [if_neg e] at q1
  by_cases e2 : x = b
  ·rw [if_pos e2] at q1; cases q1
  ·rw [if_neg e2] at q1; exact ⟨q1, e2⟩
 have hallr : ∀ r ∈ rows ++ ys, r.length = z := fun r hr' => (List.mem_append.1 hr').elim (hr r) (hy.size r)
 refine ⟨⟨by show s.next + 1 = _; rw [e_next, hs.next], hw', fun b' c' hb => ?_, fun b' es hb => ?_, fun f' e' he => ?_, fun x1 x2 d1 d2 q1 q2 q3 => ?_, fun x1 d1 q1 => ?_⟩, ⟨keep, Nat.le_succ _, fun f _ ho => ownsub f ho⟩⟩
 ·by_cases e : b' = s.next
  ·have hb : (if b' = s.next then some (rows ++ ys).flatten else if b' = b then none else s.mem b') = some c' := hb
   rw [if_pos e] at hb
   simp only [Option.some.injEq] at hb; subst hb
   rw [vown_fo, if_pos e, e, hs.next]
   refine ⟨_, g, _, by rw [e_obs]; exact Tr.get_set_same _ _ _, by rw [e_fams]; exact Tr.get_set_same _ _ _, rfl, fun k x hx => ?_⟩
   have hflat := hfl.append hy
   obtain ⟨row, r1, r2⟩ := flat_get hz _ hallr k x hx
   obtain ⟨u', e1, d⟩ := hflat.get _ _ _ _ r1 r2
   rw [show k / z * z + k % z = k from by rw [Nat.mul_comm]; exact Nat.div_add_mod k z] at e1
   refine ⟨u', ?_, up d⟩
   have hk : k < l.length + new.length := by have := (List.getElem?_eq_some_iff.1 e1).1; rw [List.length_append] at this; exact this
   rw [Tr.get_setList, Nat.zero_add]
   by_cases hlo : k < rows.length * z
   ·rw [if_neg (by omega)]
    have := hTT k hlo
    rw [Nat.zero_add] at this
    rw [this]
    rw [List.getElem?_append_left (by rw [hfl.len]; exact hlo)] at e1
    obtain ⟨s1, s2⟩ := St.read_spec hl
    have := s2 k u' e1
    rw [Nat.zero_add] at this; exact this
   ·rw [if_pos (by rw [hfl.len] at hk; omega)]
    rw [List.getElem?_append_right (by rw [hfl.len]; omega), hfl.len] at e1
    exact e1
  ·obtain ⟨q1, q2⟩ := old b' c' hb e
   obtain ⟨c2, g2, fm2, r1, r2, r3, r4⟩ := hs.mem b' c' q1
   have hbn := (hs.wf.obs b' _ r1).1
   have hf : s.fo b' ≠ s.fo b := fun h => q2 (hs.inj _ _ _ _ q1 hm h)
   rw [vown_fo, if_neg e]
   exact ⟨c2, g2, fm2, by rw [e_obs, Tr.get_set_ne _ _ (by omega)]; exact r1, by rw [e_fams, Tr.get_set_ne _ _ hf]; exact r2, r3, fun i x hx => let ⟨u, a, b⟩ := r4 i x hx; ⟨u, a, up b⟩⟩
 ·obtain ⟨es', r1, r2, r3⟩ := hs.maps b' es hb
  have := (hs.wf.obs b' _ r1).1
  exact ⟨es', by rw [e_obs, Tr.get_set_ne _ _ (by omega)]; exact r1, r2, fun i e he => let ⟨e', a, b, c⟩ := r3 i e he; ⟨e', a, b, up c⟩⟩
 ·obtain ⟨r1, fm2, r2, r3⟩ := hs.grow f' e' he
  have : f' ≠ s.fo b := fun e => r1 (by rw [e]; exact hown)
  exact ⟨fun h => r1 (ownsub _ h), fm2, by rw [e_fams, Tr.get_set_ne _ _ this]; exact r2, r3⟩
 ·rw [vown_fo, vown_fo] at q3
  by_cases a1 : x1 = s.next
  ·by_cases a2 : x2 = s.next
   ·omega
   ·rw [if_pos a1, if_neg a2] at q3
    obtain ⟨p1, p2⟩ := old _ _ q2 a2
    exact absurd (hs.inj _ _ _ _ hm p1 q3).symm p2
  ·obtain ⟨p1, p2⟩ := old _ _ q1 a1
   by_cases a2 : x2 = s.next
   ·rw [if_neg a1, if_pos a2] at q3
    exact absurd (hs.inj _ _ _ _ p1 hm q3) p2
   ·rw [if_neg a1, if_neg a2] at q3
    obtain ⟨p3, p4⟩ := old _ _ q2 a2
    exact hs.inj _ _ _ _ p1 p3 q3
 ·rw [vown_fo, vown_ez]
  by_cases a1 : x1 = s.next
  ·have q1 : (if x1 = s.next then some (rows ++ ys).flatten else if x1 = b then none else s.mem x1) = some d1 := q1
   rw [if_pos a1] at q1
   simp only [Option.some.injEq] at q1; subst q1
   rw [if_pos a1, if_pos a1]
   refine ⟨_, by rw [e_fams]; exact Tr.get_set_same _ _ _, ?_, fun _ => hez.symm⟩
   show 0 + rows.length * z + new.length = _
   rw [zDX _ hallr, List.length_append, hy.len, Nat.add_mul]; omega
  ·obtain ⟨p1, p2⟩ := old _ _ q1 a1
   rw [if_neg a1, if_neg a1]
   obtain ⟨fm2, r1, r2⟩ := hs.ext _ _ p1
   have hf : s.fo x1 ≠ s.fo b := fun h => p2 (hs.inj _ _ _ _ p1 hm h)
   exact ⟨fm2, by rw [e_fams, Tr.get_set_ne _ _ hf]; exact r1, r2⟩
inductive OSl (s : VSt) (z : Nat) : PV → List (List PV) → Prop
 | nil : OSl s z (.sc (.slice none 0 0)) []
 | ms {b n : Nat} {rows : List (List PV)} : s.mem b = some rows.flatten → (∀ r ∈ rows, r.length = z) → s.ez b = z → n = rows.length → b < s.next → OSl s z (.ms b 0 n (unk + z)) rows
structure OGrew (s : VSt) (z : Nat) (p : PV) (xs : List (List PV)) (p' : PV) (s' : VSt) : Prop where
 val : p' = .ms s.next 0 xs.length (unk + z)
 mem : s'.mem s.next = some xs.flatten
 ez : s'.ez s.next = z
 size : ∀ r ∈ xs, r.length = z
 memo : ∀ x, x < s.next → (∀ n c, p ≠ .ms x 0 n c) → s'.mem x = s.mem x
 maps : s'.maps = s.maps
 grow : s'.grow = s.grow
 fo : ∀ x, x < s.next → s'.fz x = s.fz x
 next : s'.next = s.next + 1
theorem OGrew.sl {z : Nat} {p p' : PV} {xs : List (List PV)} {s' : VSt} (g : OGrew s z p xs p' s') : OSl s' z p' xs := by
 have h := OSl.ms (s := s') (b := s.next) (n := xs.length) g.mem g.size g.ez rfl (by rw [g.next]; exact Nat.lt_succ_self _)
 rw [g.val]; exact h
theorem Ext0.ogrew {s0 s1 s2 : VSt} {z : Nat} {p p' : PV} {xs : List (List PV)} (h : Ext0 s0 s1) (g : OGrew s1 z p xs p' s2) (hp : ∀ b n c, p = .ms b 0 n c → s0.next ≤ b) : Ext0 s0 s2 := by
 have hn := h.next
 refine ⟨by rw [g.next]; omega, fun b hb => ?_, fun b hb => by rw [g.maps]; exact h.maps b hb, fun b hb => by rw [g.grow]; exact h.grow b hb, fun b hb => by rw [g.fo b (by omega)]; exact h.fo b hb⟩
 rw [g.memo b (by omega) fun n c e => by have := hp b n c e; omega]
 exact h.mem b hb
theorem vstep_appendO {o : Oper} {c : Call} {t0 t1 : TypeId} {x y : Operand} {z bytes : Nat} {p q : PV} {xs ys : List (List PV)} (hw : zCO ops t o = some true) (ho : o.op = .call c) (hb : c.callee = .builtin .append) (ha : c.args = #[x, y]) (hty : c.argTypes = #[t0, t1])
    (hok : appOk P t0 t1 z bytes = true) (hx : t.ev x = some p) (hy : t.ev y = some q) (hg : OSl s z p xs) (hq : q.els = some (z, ys)) (hyr : ∀ r ∈ ys, r.length = z) (hys : ys ≠ []) (hfl : ∀ row ∈ ys, ∀ x ∈ row, x.flat = true)
    (hsz : (xs.length + ys.length) * bytes ≤ 140737488355328 ∧ xs.length + ys.length ≤ 140737488355328) : VStep P ops o t s (OGrew s z p (xs ++ ys)) := by
 obtain ⟨e, d1, i, zv, k0, k1, k2, k3, rfl, rfl, k6, k7, k8⟩ := appOk_spec hok
 have hbz : Nat.beq i.size 0 = false := by cases h : i.size with | zero => exact absurd h k6 | succ n => rfl
 have hbc : Nat.beq zv.cells.size i.size = true := by rw [k8]; exact Nat.beq_refl _
 have nc : ∀ {H : St} {v : Value}, DV H (Own' s) q v → ∃ l, H.newCells i.size v = some (ys.length, l) ∧ Flat H (Own' s) i.size ys l ∧ l.all flat = true := fun {H v} hv => by
  obtain ⟨l, e1, e2⟩ := els_cells hq hv (.inr k6) i.size (.inr rfl)
  exact ⟨l, e1, e2, flat_all e2 hfl⟩
 have hn0 : Nat.beq ys.length 0 = false := by
  cases ys with
  | nil => exact absurd rfl hys
  | cons a l => rfl
 have hsize : Nat.ble ((xs.length + ys.length) * i.bytes) 140737488355328 && Nat.ble (xs.length + ys.length) 140737488355328 := by
  rw [Nat.ble_eq_true_of_le hsz.1, Nat.ble_eq_true_of_le hsz.2]; rfl
 cases hg with
 | nil =>
  have hop : OpV P s t o (.ms s.next 0 ys.length (unk + i.size)) (s.newz ys.flatten i.size) := fun H T hs ht => by
   obtain ⟨v, e1, hv⟩ := zA4 ht hx
   obtain ⟨u, e2, hu⟩ := zA4 ht hy
   obtain ⟨l, n1, n2, n3⟩ := nc hu
   obtain ⟨rfl, _⟩ := hv.sc_inv
   obtain ⟨r1, r2⟩ := satV_newz hs (flat_dvs n2) i.size i.size (fun _ => rfl)
   have hcond : (Nat.beq zv.cells.size i.size && !Nat.beq i.size 0 && l.all flat) = true := by rw [hbc, hbz, n3]; rfl
   simp only [List.length_nil, Nat.zero_add] at hsize
   have happ : H.app P t0 t1 (.slice none 0 0) u = some (.slice (some ⟨H.next, 0, none⟩) ys.length (unk + i.size), H.alloc l i.size) := by
    simp only [St.app, k0, k1, k2, cond_true, k3, k7, n1, hcond, hn0, hsize, cond_false]
    rfl
   exact ⟨.slice (some ⟨H.next, 0, none⟩) ys.length (unk + i.size), H.alloc l i.size, by simp only [St.op, ho, ha, Tm.evs, e1, e2, hb, St.builtinOp, hty, happ, both], r1, by rw [hs.next]; exact .ms, r2⟩
  refine (zCE hw hop).mono fun p' s' ⟨e1, e2⟩ => ?_
  subst e1; subst e2
  refine ⟨rfl, ?_, ?_, hyr, fun x hx _ => ?_, rfl, rfl, fun x hx => ?_, rfl⟩
  ·show (if s.next = s.next then _ else _) = _; rw [if_pos rfl]; rfl
  ·rw [newz_ez, if_pos rfl]
  ·show (if x = s.next then _ else _) = _; rw [if_neg (by omega)]
  ·show (if x = s.next then _ else _) = _; rw [if_neg (by omega)]
 | @ms b n _ hm hr hez hn hlt =>
  subst hn
  have hop : OpV P s t o (.ms s.next 0 (xs.length + ys.length) (unk + i.size)) (s.vown b (xs ++ ys).flatten) := fun H T hs ht => by
   obtain ⟨v, e1, hv⟩ := zA4 ht hx
   obtain ⟨u, e2, hu⟩ := zA4 ht hy
   obtain ⟨l, n1, n2, n3⟩ := nc hu
   cases hv with
   | ms =>
    obtain ⟨H', r1, r2, r3⟩ := satV_vown hs k6 hm hr hez n2
    have hcond : (Nat.beq zv.cells.size i.size && !Nat.beq i.size 0 && l.all flat) = true := by rw [hbc, hbz, n3]; rfl
    have e1' : Nat.beq (unk + i.size) emp = false := by
     rw [beq_iff]; simp; unfold unk emp; omega
    have e2' : Nat.ble unk (unk + i.size) = true := Nat.ble_eq_true_of_le (by omega)
    have happ : H.app P t0 t1 (.slice (some ⟨b, 0, none⟩) xs.length (unk + i.size)) u = some (.slice (some ⟨H.next, 0, none⟩) (xs.length + ys.length) (unk + i.size), H') := by
     simp only [St.app, k0, k1, k2, cond_true, k3, k7, n1, hcond, e1', e2', cond_false, Nat.beq_refl, hn0, hsize, r1, Option.map_some]
    exact ⟨.slice (some ⟨H.next, 0, none⟩) (xs.length + ys.length) (unk + i.size), H', by simp only [St.op, ho, ha, Tm.evs, e1, e2, hb, St.builtinOp, hty, happ, both], r2, by rw [hs.next]; exact .ms, r3⟩
  refine (zCE hw hop).mono fun p' s' ⟨e1, e2⟩ => ?_
  subst e1; subst e2
  refine ⟨by rw [List.length_append], ?_, ?_, fun r hr' => (List.mem_append.1 hr').elim (hr r) (hyr r), fun x hx hne => ?_, rfl, rfl, fun x hx => ?_, rfl⟩
  ·show (if s.next = s.next then _ else _) = _; rw [if_pos rfl]
  ·rw [vown_ez, if_pos rfl]; exact hez
  ·show (if x = s.next then _ else _) = _
   rw [if_neg (by omega), if_neg fun e => hne _ _ (by rw [e])]
  ·show (if x = s.next then _ else _) = _; rw [if_neg (by omega)]
end Go.AE
namespace Go.AE
variable {P : Program} {ops : Array Oper} {t : VTm} {s : VSt} {o : Oper} {x y : Operand}
def OpX (P : Program) (s : VSt) (t : VTm) (o : Oper) (Q : PV → VSt → Prop) : Prop :=
 ∀ ⦃H : St⦄ ⦃T : Tm⦄, SatV s H → TmV H (Own' s) t T → ∃ p s1 v H1, Q p s1 ∧ H.op P T o = some (.val v, H1) ∧ SatV s1 H1 ∧ DV H1 (Own' s1) p v ∧ Fr s H s1 H1
theorem vstep_x (hw : zCO ops t o = some true) {Q : PV → VSt → Prop} (hop : OpX P s t o Q) : VStep P ops o t s Q := fun H T μ w a hs ht ha hT => by
 have hwa := guard_sound ht hw
 refine ⟨fun _ => ?_, fun h => (by rw [hwa] at h; cases h)⟩
 obtain ⟨p, s1, v, H1, hq, e, hs1, hv, hf⟩ := hop hs ht
 obtain ⟨r', w', μ', hrun, hst, hn⟩ := op_sound ha.rel hT e ha.fresh.free
 have hw1 := (op_abs e ha.wf).wf
 unfold Yld
 rw [hrun]
 cases r' with
 | value v' => exact ⟨v, H1, μ', p, s1, hq, hst, hw1, hn, hs1, hv, hf⟩
 | skip =>
  have hn : v = undef := hn
  subst hn
  exact ⟨undef, H1, μ', p, s1, hq, hst, hw1, .scal zB7, hs1, hv, hf⟩
 | _ => exact hn.elim
theorem opX_nilEq {ty yt : TypeId} {z zz : Nat} {xs : List (List PV)} (ho : o.op = .binOp .eql ty x y yt) (hk : slOk P ty zz = true) (hnn : binVal P .eql ty x y (.slice none 0 0) (.slice none 0 0) = some (.bool true)) (hx : t.ev x = some (.sl z xs)) (hy : t.ev y = some (.sc (.slice none 0 0))) :
    OpX P s t o fun p s1 => s1 = s ∧ ((p = .sc (.bool true) ∧ xs = []) ∨ p = .sc (.bool false)) := fun H T hs ht => by
 obtain ⟨v1, e1, h1⟩ := zA4 ht hx
 obtain ⟨v2, e2, h2⟩ := zA4 ht hy
 obtain ⟨rfl, _⟩ := h2.sc_inv
 obtain ⟨e, inf, k1, _, _⟩ := zD4 hk
 cases h1 with
 | sn => exact ⟨.sc (.bool true), s, .bool true, H, ⟨rfl, .inl ⟨rfl, rfl⟩⟩, by simp only [St.op, ho, e1, e2, hnn, keep], hs, .sc rfl, .refl _ _⟩
 | se => exact ⟨.sc (.bool false), s, .bool false, H, ⟨rfl, .inr rfl⟩, by simp only [St.op, ho, e1, e2, binVal, scal, zCM, Bool.false_and, cond_false, nilEq, k1, Option.map_some, keep], hs, .sc rfl, .refl _ _⟩
 | sl => exact ⟨.sc (.bool false), s, .bool false, H, ⟨rfl, .inr rfl⟩, by simp only [St.op, ho, e1, e2, binVal, scal, zCM, Bool.false_and, cond_false, nilEq, k1, Option.map_some, keep], hs, .sc rfl, .refl _ _⟩
theorem opV_makeFunc1 {f : Fn} {p : PV} (ho : o.op = .makeFunc f #[] #[x]) (hx : t.ev x = some p) : OpV P s t o (.fn f [] [p]) s := zBW fun H T hs ht => by
 obtain ⟨v, e1, hv⟩ := zA4 ht hx
 refine ⟨.func f #[] #[v], by simp only [St.op, ho, Tm.evs, e1], .fn rfl (fun i x u h => by simp at h) rfl fun i q u h1 h2 => ?_⟩
 cases i with
 | zero => simp at h1 h2; subst h1; subst h2; exact hv
 | succ i => simp at h1
def lit0Ok (P : Program) (ty : Nat) : Bool :=
 match P.underlying ty with
 | some (.slice e) => (match P.info? e with | some i => i.zero.isSome | none => false)
 | _ => false
theorem o_lit0 {ty : TypeId} (ho : o.op = .buildSlice ty 0 #[]) (hk : lit0Ok P ty = true) : OpV P s t o (.ms s.next 0 0 0) (s.new []) := fun H T hs ht => by
 unfold lit0Ok at hk
 split at hk
 case h_2 => cases hk
 rename_i e hu
 split at hk
 case h_2 => cases hk
 rename_i i hi
 obtain ⟨z, hz⟩ := Option.isSome_iff_exists.1 hk
 obtain ⟨s1, s2⟩ := satV_new hs (cs := []) (vs := []) .nil 0
 refine ⟨.slice (some ⟨H.next, 0, none⟩) 0 0, H.alloc [] 0, ?_, s1, by rw [hs.next]; exact .ms, s2⟩
 have e1 : H.buildSliceOp P ty 0 [] = some (.slice (some ⟨H.next, 0, none⟩) 0 0, H.alloc [] 0) := by
  have hr : Array.range 0 = #[] := by simp
  simp only [St.buildSliceOp, hu, hi, hz, Nat.zero_mul, if_true, hr, Array.map_empty]
  rfl
 simp only [St.op, ho, Tm.evParts, e1, both]
theorem read_none (H : St) (b off : Nat) : H.read b off 0 = some [] := by
 obtain ⟨l, h⟩ := read_all (H := H) (b := b) 0 off fun k h => absurd h (Nat.not_lt_zero k)
 rw [h, List.length_eq_zero_iff.1 (St.read_spec h).1]
theorem vstep_append0 {c : Call} {t0 t1 : TypeId} {z bytes b : Nat} {q : PV} {ys : List (List PV)} (hw : zCO ops t o = some true) (ho : o.op = .call c) (hb : c.callee = .builtin .append) (ha : c.args = #[x, y]) (hty : c.argTypes = #[t0, t1])
    (hok : appOk P t0 t1 z bytes = true) (hx : t.ev x = some (.ms b 0 0 0)) (hy : t.ev y = some q) (hq : q.els = some (z, ys)) (hyr : ∀ r ∈ ys, r.length = z) (hys : ys ≠ []) (hfl : ∀ row ∈ ys, ∀ x ∈ row, x.flat = true)
    (hsz : ys.length * bytes ≤ 140737488355328 ∧ ys.length ≤ 140737488355328) : VStep P ops o t s (OGrew s z (.sc (.slice none 0 0)) ys) := by
 obtain ⟨e, d1, i, zv, k0, k1, k2, k3, rfl, rfl, k6, k7, k8⟩ := appOk_spec hok
 have hbz : Nat.beq i.size 0 = false := by cases h : i.size with | zero => exact absurd h k6 | succ n => rfl
 have hbc : Nat.beq zv.cells.size i.size = true := by rw [k8]; exact Nat.beq_refl _
 have hn0 : Nat.ble (0 + ys.length) 0 = false := by
  cases ys with
  | nil => exact absurd rfl hys
  | cons a l => rw [List.length_cons]; rfl
 have hsize : Nat.ble ((0 + ys.length) * i.bytes) 140737488355328 && Nat.ble (0 + ys.length) 140737488355328 := by
  rw [Nat.zero_add, Nat.ble_eq_true_of_le hsz.1, Nat.ble_eq_true_of_le hsz.2]; rfl
 have hop : OpV P s t o (.ms s.next 0 ys.length (unk + i.size)) (s.newz ys.flatten i.size) := fun H T hs ht => by
  obtain ⟨v, e1, hv⟩ := zA4 ht hx
  obtain ⟨u, e2, hu⟩ := zA4 ht hy
  obtain ⟨l, n1, n2⟩ := els_cells hq hu (.inr k6) i.size (.inr rfl)
  have n3 := flat_all n2 hfl
  cases hv with
  | ms =>
  obtain ⟨r1, r2⟩ := satV_newz hs (flat_dvs n2) i.size i.size (fun _ => rfl)
  have hcond : (Nat.beq zv.cells.size i.size && !Nat.beq i.size 0 && l.all flat) = true := by rw [hbc, hbz, n3]; rfl
  have e1' : Nat.beq 0 emp = false := rfl
  have e2' : Nat.ble unk 0 = false := rfl
  have hrd : H.read b 0 (0 * i.size) = some [] := by rw [Nat.zero_mul]; exact read_none _ _ _
  have happ : H.app P t0 t1 (.slice (some ⟨b, 0, none⟩) 0 0) u = some (.slice (some ⟨H.next, 0, none⟩) (0 + ys.length) (unk + i.size), H.alloc l i.size) := by
   simp only [St.app, k0, k1, k2, cond_true, k3, k7, n1, hcond, e1', e2', cond_false, hn0, hsize, hrd, Option.map_some]
   rfl
  rw [Nat.zero_add] at happ
  exact ⟨.slice (some ⟨H.next, 0, none⟩) ys.length (unk + i.size), H.alloc l i.size, by simp only [St.op, ho, ha, Tm.evs, e1, e2, hb, St.builtinOp, hty, happ, both], r1, by rw [hs.next]; exact .ms, r2⟩
 refine (zCE hw hop).mono fun p' s' ⟨e1, e2⟩ => ?_
 subst e1; subst e2
 refine ⟨rfl, ?_, ?_, hyr, fun x hx _ => ?_, rfl, rfl, fun x hx => ?_, rfl⟩
 ·show (if s.next = s.next then _ else _) = _; rw [if_pos rfl]
 ·rw [newz_ez, if_pos rfl]
 ·show (if x = s.next then _ else _) = _; rw [if_neg (by omega)]
 ·show (if x = s.next then _ else _) = _; rw [if_neg (by omega)]
theorem o_append00 {c : Call} {t0 t1 : TypeId} {z z' bytes b : Nat} {q : PV} (ho : o.op = .call c) (hb : c.callee = .builtin .append) (ha : c.args = #[x, y]) (hty : c.argTypes = #[t0, t1])
    (hok : appOk P t0 t1 z bytes = true) (hx : t.ev x = some (.ms b 0 0 0)) (hy : t.ev y = some q) (hq : q.els = some (z', [])) : OpV P s t o (.ms b 0 0 0) s := zBW fun H T hs ht => by
 obtain ⟨e, d1, i, zv, k0, k1, k2, k3, rfl, rfl, k6, k7, k8⟩ := appOk_spec hok
 have hbz : Nat.beq i.size 0 = false := by cases h : i.size with | zero => exact absurd h k6 | succ n => rfl
 have hbc : Nat.beq zv.cells.size i.size = true := by rw [k8]; exact Nat.beq_refl _
 obtain ⟨v, e1, hv⟩ := zA4 ht hx
 obtain ⟨u, e2, hu⟩ := zA4 ht hy
 obtain ⟨l, n1, n2⟩ := els_cells hq hu (.inl rfl) i.size (.inl rfl)
 have n3 : l = [] := by have := n2.len; simp at this; exact this
 subst n3
 cases hv with
 | ms =>
  have hcond : (Nat.beq zv.cells.size i.size && !Nat.beq i.size 0 && ([] : List Value).all flat) = true := by rw [hbc, hbz]; rfl
  have e1' : Nat.beq 0 emp = false := rfl
  have e2' : Nat.ble unk 0 = false := rfl
  have e3' : Nat.ble (0 + ([] : List (List PV)).length) 0 = true := rfl
  refine ⟨.slice (some ⟨b, 0, none⟩) 0 0, ?_, .ms⟩
  have happ : H.app P t0 t1 (.slice (some ⟨b, 0, none⟩) 0 0) u = some (.slice (some ⟨b, 0, none⟩) 0 0, H) := by
   simp only [St.app, k0, k1, k2, cond_true, k3, k7, n1, hcond, e1', e2', cond_false, e3', St.storeL, Option.map_some]
   rfl
  simp only [St.op, ho, ha, Tm.evs, e1, e2, hb, St.builtinOp, hty, happ, both, keep]
theorem o_iamI {ty b off n c zz : Nat} {ix : Operand} {k : IntKind} {m : Int} (ho : o.op = .indexAddr ty x ix) (hk : slOk P ty zz = true) (hx : t.ev x = some (.ms b off n c)) (hix : t.ev ix = some (.sc (.int k m))) (h0 : 0 ≤ m) (hi : m.toNat < n) : OpV P s t o (.pt b (off + m.toNat * zz)) s := by
 obtain ⟨e, inf, h1, h2, rfl⟩ := zD4 hk
 exact opV_indexAddrMs (k := k) (i := m.toNat) ho hx (by rw [hix]; congr 3; exact (Int.toNat_of_nonneg h0).symm) h1 h2 hi
theorem o_slicem {ty z b off n l m : Nat} {lo hi : Option Operand} (ho : o.op = .slice ty x lo hi none) (hk : slOk P ty z = true) (hx : t.ev x = some (.ms b off n (unk + z))) (hlo : bndV t 0 lo l) (hhi : bndV t n hi m) (hl : l < m) (hm : m ≤ n) :
    OpV P s t o (.ms b (off + l * z) (m - l) (unk + z)) s := zBW fun H T hs ht => by
 obtain ⟨e, inf, h1, h2, rfl⟩ := zD4 hk
 obtain ⟨v, e1, hv⟩ := zA4 ht hx
 obtain ⟨vlo, e2, q2⟩ := bndV_sound ht hlo
 obtain ⟨vhi, e3, q3⟩ := bndV_sound ht hhi
 have e4 : T.evOpt none = some none := rfl
 cases hv with
 | ms =>
  refine ⟨.slice (some ⟨b, off + l * inf.size, none⟩) (m - l) (unk + inf.size), ?_, .ms⟩
  have e5 : (Nat.ble l m && Nat.ble m n) = true := by rw [Nat.ble_eq_true_of_le (by omega), Nat.ble_eq_true_of_le (by omega)]; rfl
  have e6 : Nat.beq l n = false := by rw [beq_iff]; simp; omega
  simp only [St.op, ho, e1, e2, e3, e4, sliceVal, h1, h2, q2, q3, sliceSl, Nat.beq_refl, e5, e6, cond_true, cond_false, keep]
theorem mkz_spec {ty z bytes : Nat} {zc : List Value} (hk : mkOk P ty z bytes = true) (hz : mkZero P ty = some zc) : ∃ e i zv, P.underlying ty = some (.slice e) ∧ P.info? e = some i ∧ i.zero = some zv ∧ zc.all zCM = true ∧ i.size = zc.length ∧ i.size = z ∧ zc = zv.cells.toList := by
 unfold mkOk at hk
 unfold mkZero at hz
 split at hk
 case h_2 => cases hk
 rename_i e hu
 rw [hu] at hz
 dsimp only at hz
 split at hk
 case h_2 => cases hk
 rename_i i l0 hi hz0
 rw [hz0] at hz; cases hz
 simp only [Bool.and_eq_true] at hk
 have k1 := Nat.eq_of_beq_eq_true hk.1.1.1
 have k3 := Nat.eq_of_beq_eq_true hk.1.2
 unfold zDD at hz0
 rw [hi] at hz0
 dsimp only at hz0
 cases hzz : i.zero with
 | none => rw [hzz] at hz0; cases hz0
 | some zv =>
  rw [hzz] at hz0
  dsimp only at hz0
  cases ha : zv.cells.toList.all zCM with
  | false => rw [ha] at hz0; cases hz0
  | true =>
   rw [ha] at hz0; simp only [cond_true, Option.some.injEq] at hz0; subst hz0
   exact ⟨e, i, zv, hu, hi, hzz, ha, by rw [k1, k3], k1, rfl⟩
theorem o_clear {c : Call} {ty z bytes b off n cp : Nat} {cs cs' : List PV} {zc : List Value} (ho : o.op = .call c) (hb : c.callee = .builtin .clear) (ha : c.args = #[x]) (hty : c.argTypes = #[ty]) (hk : mkOk P ty z bytes = true) (hz : mkZero P ty = some zc)
    (hx : t.ev x = some (.ms b off n cp)) (hm : s.mem b = some cs) (hn : 0 < n) (hl : off + n * z ≤ cs.length) (hfl : (zc.map PV.sc).all PV.flat = true) (hc : splice cs off (List.replicate n (zc.map PV.sc)).flatten = cs') : OpV P s t o (.sc (.tuple #[])) (s.setMem b cs') := fun H T hs ht => by
 subst hc
 obtain ⟨e, i, zv, hu, hi, hzz, ha0, k1, rfl, k2⟩ := mkz_spec hk hz
 obtain ⟨v, e1, hv⟩ := zA4 ht hx
 have hcells : (Builtin.zeroCells zv.cells n).toList = (List.replicate n zc).flatten := by
  rw [k2]
  unfold Builtin.zeroCells
  by_cases h0 : zv.cells.size = 0
  ·have : zv.cells.toList = [] := List.length_eq_zero_iff.1 (by simpa using h0)
   rw [h0, this]; simp
  ·exact range_zero (by omega) n
 have hall : (Builtin.zeroCells zv.cells n).toList.all zCM = true := by
  rw [hcells, List.all_eq_true]
  intro v hv
  obtain ⟨l1, h1, h2⟩ := List.mem_flatten.1 hv
  obtain ⟨_, rfl⟩ := List.mem_replicate.1 h1
  exact List.all_eq_true.1 ha0 v h2
 have hd : DVs H (Own' s) (List.replicate n (zc.map PV.sc)).flatten (List.replicate n zc).flatten := by
  have := dvs_scal (H := H) (X := Own' s) (l := (List.replicate n zc).flatten) (by rw [← hcells]; exact hall)
  rwa [List.map_flatten, List.map_replicate] at this
 have hlen : (List.replicate n (zc.map PV.sc)).flatten.length = n * i.size := by simp [k1, k2]
 have hflat : (List.replicate n (zc.map PV.sc)).flatten.all PV.flat = true := by
  rw [List.all_eq_true]
  intro q hq
  obtain ⟨l1, h1, h2⟩ := List.mem_flatten.1 hq
  obtain ⟨_, rfl⟩ := List.mem_replicate.1 h1
  exact List.all_eq_true.1 hfl q h2
 obtain ⟨H', s1, s2, s3⟩ := satV_storeL (k := off) hs hm (by rw [hlen]; exact hl) hd hflat
 cases hv with
 | ms =>
  refine ⟨.tuple #[], H', ?_, s2, .sc rfl, s3⟩
  have hn0 : Nat.beq n 0 = false := by rw [beq_iff]; simp; omega
  have hcl : H.clearOp P ty (.slice (some ⟨b, off, none⟩) n cp) = some (.tuple #[], H') := by
   simp only [St.clearOp, hu, hi, hzz, hn0, hall, cond_true, cond_false]
   rw [hcells, s1]; rfl
  simp only [St.op, ho, ha, Tm.evs, e1, hb, St.builtinOp, hty, hcl, both]
theorem dv_giveP {H : St} (hs : SatV s H) {b z n c : Nat} {rows : List (List PV)} {rest : List PV} (hm : s.mem b = some (rows.flatten ++ rest)) (hr : ∀ r ∈ rows, r.length = z) (hn : n = rows.length) (hc : CapOk z n c) {v : Value} (hv : DV H (Own' s) (.ms b 0 n c) v) : DV H (Own' (s.drop b)) (.sl z rows) v := by
 cases hv with
 | ms =>
  obtain ⟨ct, g, fm, h1, h2, h3, h4⟩ := hs.mem b _ hm
  have hnot : ¬ Own' (s.drop b) (s.fo b) := by
   rintro ⟨b', cs, hcs, hf⟩
   have hcs : (if b' = b then none else s.mem b') = some cs := hcs
   by_cases e : b' = b
   ·rw [if_pos e] at hcs; cases hcs
   ·rw [if_neg e] at hcs; exact e (hs.inj _ _ _ _ hcs hm hf)
  have idx : ∀ (i j : Nat) (row : List PV) (x : PV), rows[i]? = some row → row[j]? = some x → (rows.flatten ++ rest)[i * z + j]? = some x := fun i j row x q1 q2 => by
   have := idx_flat rows hr i j row x q1 q2
   rw [List.getElem?_append_left (List.getElem?_eq_some_iff.1 this).1]; exact this
  have hcell : ∀ k, H.cell? b k = ct.get k := fun k => by
   unfold St.cell?
   rw [h1]; dsimp only; rw [h2]; dsimp only
   rw [h3, Nat.beq_refl]; rfl
  refine .sl (u := fun i j => (ct.get (i * z + j)).getD undef) ⟨hn, hc⟩ (.inr ⟨ct, s.fo b, g, fm, h1, h2, h3, hnot⟩) ⟨hr, fun i j row x q1 q2 => ?_⟩ fun i j row x q1 q2 => ?_
  ·obtain ⟨u, e1, _⟩ := h4 _ _ (idx i j row x q1 q2)
   rw [hcell, show 0 + i * z + j = i * z + j by omega, e1]; rfl
  ·obtain ⟨u, e1, e2⟩ := h4 _ _ (idx i j row x q1 q2)
   show DV _ _ x ((ct.get (i * z + j)).getD undef)
   rw [e1]; exact e2.less hs.wf fun f k => (vsub_drop s b).own k
theorem vgiveP {l : List Oper} {Q : VTm → VSt → Prop} {k b z n c : Nat} {rows : List (List PV)} {rest : List PV} (hk : t.m k = .ms b 0 n c) (hm : s.mem b = some (rows.flatten ++ rest)) (hr : ∀ r ∈ rows, r.length = z) (hn : n = rows.length) (hc : CapOk z n c)
    (h : VSeq P ops l (t.set k (.sl z rows)) (s.drop b) Q) : VSeq P ops l t s Q := fun k0 hk0 H T hs ht => by
 have hs2 : SatV (s.drop b) H := satV_sub hs (vsub_drop s b)
 have ht2 : TmV H (Own' (s.drop b)) (t.set k (.sl z rows)) T := ⟨ht.1, fun j => by
  rw [VTm.set_m]
  by_cases e : j = k
  ·subst e
   rw [if_pos rfl]
   have := ht.2 j
   rw [hk] at this
   exact dv_giveP hs hm hr hn hc this
  ·rw [if_neg e]; exact (ht.2 j).less hs.wf fun f q => zCN q⟩
 have := h k0 hk0 hs2 ht2
 intro R a w μ ha hta hd hR
 exact this ha hta hd fun T' H' a' w' μ' ⟨t', s', q, hs', ht', hf'⟩ => hR T' H' a' w' μ' ⟨t', s', q, hs', ht',
  ⟨hf'.keep.weaken hs.wf fun f _ q => zCN q, hf'.next, fun f hlt ho => zCN (hf'.own f hlt ho)⟩⟩
theorem rep_get {n i : Nat} {p : PV} (h : i < n) : (List.replicate n p)[0 + i * 1]? = some p := by
 rw [show 0 + i * 1 = i by omega, List.getElem?_replicate, if_pos h]
theorem rep_get2 {n i : Nat} {p : PV} (h : i + 1 < n) : (List.replicate n p)[0 + 1 * 1 + i * 1]? = some p := by
 rw [List.getElem?_replicate, if_pos (by omega)]
theorem ext_z (s s1 : VSt) : Ext0 (s.to 0) s1 := ⟨Nat.zero_le _, fun b h => absurd h (Nat.not_lt_zero _), fun b h => absurd h (Nat.not_lt_zero _), fun b h => absurd h (Nat.not_lt_zero _), fun b h => absurd h (Nat.not_lt_zero _)⟩
def SameTo (s : VSt) : PV → VSt → Prop := fun _ s' => ∃ n, s.next ≤ n ∧ s' = s.to n
theorem ext_to {n : Nat} (h : s.next ≤ n) : Ext0 s (s.to n) := ⟨h, fun _ _ => rfl, fun _ _ => rfl, fun _ _ => rfl, fun _ _ => rfl⟩
theorem half_eq {i : Int} (h0 : 0 ≤ i) (h1 : i ≤ 4000000000) : IntKind.wrap .i64 (shrU (IntKind.wrap .u64 i) 1) = i / 2 := by
 have e1 : IntKind.wrap .u64 i = i := by
  obtain ⟨n, rfl⟩ := Int.eq_ofNat_of_zero_le h0
  have hb : IntKind.bits .u64 = 64 := rfl
  have hs : IntKind.signed .u64 = false := rfl
  simp only [IntKind.wrap, hb, hs, Bool.false_eq_true, false_and, if_false, Bool.false_and]
  exact Int.emod_eq_of_lt (by omega) (by omega)
 rw [e1]
 have e2 : shrU i 1 = i / 2 := by
  unfold shrU
  rw [show (2 : Int) ^ (min (1 : Int).toNat 64) = 2 from rfl]
  exact Int.fdiv_eq_ediv_of_nonneg _ (by decide)
 rw [e2]
 exact zD3 (by omega)
end Go.AE
